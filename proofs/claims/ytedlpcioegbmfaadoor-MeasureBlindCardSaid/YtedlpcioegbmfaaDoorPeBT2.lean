/- Brought's second loop. -/
import Derived.Test.YtedlpcioegbmfaaDoorPD
import Derived.Test.YtedlpcioegbmfaaDoorPG
import Derived.Test.YtedlpcioegbmfaaDoorPF
import Derived.Test.YtedlpcioegbmfaaDoorPE
import Derived.Test.YtedlpcioegbmfaaDoorPeBL
import Derived.Test.YtedlpcioegbmfaaDoorPB
import Derived.Great.BuildSlice
namespace Go.Proofs.YtedlpcioegbmfaaDoor
open Go.RowKit
set_option maxRecDepth 100000
set_option linter.unusedVariables false
set_option linter.unusedSimpArgs false
noncomputable def bTail2 : Code := codeTail 3 (bodyOf Tryd.f7)
theorem Rd_nil0 (w : World) (B : Nat) : Rd w B none 0 0 [] := ⟨rfl, Nat.le_refl _, by omega, fun _ => rfl, fun h => absurd h (by omega), ⟨rfl, fun h => absurd h (by omega)⟩⟩
/-- The bodies that were made: a row of the call's own behind the block p; its parts lie in what the call was handed. -/
def RB (w wk : World) (p : Nat) (v : Value) (xss : List (List UInt8)) : Prop := ∃ L : List (Value × List UInt8), OwnC 22 1 wk (p + 1) wk.heap.size v L.length (L.map (·.1)) ∧ (∀ q ∈ L, RdV w w.heap.size q.1 q.2) ∧ L.map (·.2) = xss
theorem RB.grown {w wk wk' : World} {p g : Nat} {v : Value} {xss : List (List UInt8)} (h : RB w wk p v xss) (hg : wk.grownBy wk' (some g)) (hgp : g ≤ p) : RB w wk' p v xss := by
  obtain ⟨L, h1, h2, h3⟩ := h
  exact ⟨L, (h1.keep fun k h4 h5 => hg.block k h5 (fun e => by injection e with e; omega)).mono (Nat.le_refl _) hg.size, h2, h3⟩
theorem RB.rows {w wk : World} {p : Nat} {v : Value} {xss : List (List UInt8)} (h : RB w wk p v xss) (hb : Below w.heap.size w wk) : RdLV wk wk.heap.size v xss := by
  obtain ⟨L, h1, h2, h3⟩ := h
  obtain ⟨A, c, rfl, h4, h5, h6, h7⟩ := h1.shape
  exact ⟨A, _, c, L, rfl, ⟨rfl, h4, h5, h7, fun v xs hm => ((h2 _ hm).keep fun p hp => hb.cell hp).more hb.size⟩, h3⟩
theorem RB.nil1 (w wk : World) {p g : Nat} (hg : g = wk.heap.size) (hp : p < g) : RB w (wk.alloc (.cells #[.slice none 0 0] 22)) p (.slice (some ⟨g, 0, none⟩) 1 1) [[]] := by
  have h := XS.lit wk [(.slice none 0 0, [])] [.slice none 0 0] g 1 hg rfl rfl (by omega) (fun q hq => by obtain rfl := List.mem_singleton.1 hq; exact ⟨none, 0, 0, rfl, Rd_nil0 _ _, fun ad e => by cases e⟩)
  exact ⟨[(.slice none 0 0, [])], h.1.mono (by omega) (Nat.le_refl _), fun q hq => by obtain rfl := List.mem_singleton.1 hq; exact RdV.mk (Rd_nil0 _ _), rfl⟩
theorem XS.grown {wk wk' : World} {lo g : Nat} {v : Value} {l : List (Value × List UInt8)} {C : ShV} (h : XS wk lo v l) (hg : wk.grownBy wk' (some g)) (hgl : g < lo) (hB : Bs wk g C) : XS wk' lo v l := by
  refine ⟨(h.1.keep fun k h4 h5 => hg.block k h5 (fun e => by injection e with e; omega)).mono (Nat.le_refl _) hg.size, fun q hq => (h.2 q hq).keep hg.size fun k cs fr hk => hg.block k (Array.getElem?_eq_some_iff.1 hk).1 (fun e => ?_)⟩
  injection e with e
  subst e
  have hk := Eq.trans (Eq.symm hB) hk
  injection hk with hk
  injection hk with _ e2
  exact absurd e2 (by decide)
theorem XS.rdlv {wk : World} {lo : Nat} {v : Value} {l : List (Value × List UInt8)} (h : XS wk lo v l) : RdLV wk wk.heap.size v (l.map (·.2)) := by
  obtain ⟨A, c, e, hr⟩ := h.rdl
  exact ⟨A, _, c, l, e, hr, rfl⟩
noncomputable def bTail3 : Code := codeTail 5 (bodyOf Tryd.f7)
section
variable {V : ShV} {s : Pe.Shape} {w : World} {p : Nat} {Y : ShV}
set_option maxHeartbeats 4000000 in
theorem brought_tail3 {wb wf : World} {vb vs : Value} (hx : BX V s w p Y wb) (hR : Bs wf (w.heap.size + 1) ShV.zero) (hP : Bs wf p { Y with bodies := vb, sigs := vs }) (hbw : Below w.heap.size w wf)
    {lo : Nat} {L : List (Value × List UInt8)} (hb : RB w wf p vb (Pe.brought s).bodies) (hs : XS wf lo vs L) (hlo : p < lo) (hL : L.map (·.2) = (Pe.brought s).sigs) (u0 u4 u5 u6 u7 u8 u9 u10 u11 u12 u13 u14 u15 u16 u17 u18 u19 u20 u21 u22 u23 u24 u25 u26 u27 u28 u29 u30 u31 u32 u33 u34 u35 u36 u37 u38 u39 u40 u41 u42 u43 u44 u45 u46 u47 u48 u49 u50 u51 u52 u53 u54 u55 u56 u57 u58 u59 u60 u61 u62 u63 u64 u65 u66 u67 u68 u69 u70 u71 u72 u73 u74 u75 u76 u77 u78 u79 u80 u81 u82 u83 u84 u85 u86 u87 u88 u89 u90 u91 u92 u93 u94 u95 u96 u97 u98 u99 u100 u101 u102 u103 u104 u105 u106 : Value) :
    bTail3.wp Tryd.prog (bodyPost Tryd.prog Tryd.f7 (BrPost s w)) { tmps := (u0 :: Value.pointer (some ⟨w.heap.size, 0, none⟩) :: Value.pointer (some ⟨w.heap.size + 1, 0, none⟩) :: Value.pointer (some ⟨p, 0, none⟩) :: u4 :: u5 :: u6 :: u7 :: u8 :: u9 :: u10 :: u11 :: u12 :: u13 :: u14 :: u15 :: u16 :: u17 :: u18 :: u19 :: u20 :: u21 :: u22 :: u23 :: u24 :: u25 :: u26 :: u27 :: u28 :: u29 :: u30 :: u31 :: u32 :: u33 :: u34 :: u35 :: u36 :: u37 :: u38 :: u39 :: u40 :: u41 :: u42 :: u43 :: u44 :: u45 :: u46 :: u47 :: u48 :: u49 :: u50 :: u51 :: u52 :: u53 :: u54 :: u55 :: u56 :: u57 :: u58 :: u59 :: u60 :: u61 :: u62 :: u63 :: u64 :: u65 :: u66 :: u67 :: u68 :: u69 :: u70 :: u71 :: u72 :: u73 :: u74 :: u75 :: u76 :: u77 :: u78 :: u79 :: u80 :: u81 :: u82 :: u83 :: u84 :: u85 :: u86 :: u87 :: u88 :: u89 :: u90 :: u91 :: u92 :: u93 :: u94 :: u95 :: u96 :: u97 :: u98 :: u99 :: u100 :: u101 :: u102 :: u103 :: u104 :: u105 :: u106 :: []).toArray, defers := [] } wf := by
  have hsh : ∀ W, wf.grownBy W (some (w.heap.size + 1)) → ShRd W W.heap.size { Y with bodies := vb, sigs := vs } (Pe.brought s) := fun W hg => by
    have hbW : Below w.heap.size w W := hbw.grown hg hbw.size (fun k e => by injection e with e; omega)
    have up : ∀ {v : Value} {xs : List UInt8}, RdV w w.heap.size v xs → RdV W W.heap.size v xs := fun h => (h.keep fun p hp => hbW.cell hp).more hbW.size
    obtain ⟨A, n, c, e, hi⟩ := hx.order
    have hlt := hx.lt
    exact ⟨hx.plus, up hx.stub, up hx.fill, (hb.grown hg (by omega)).rows hbW, ⟨A, n, c, e, (hi.keep fun p hp => hbW.cell hp).more hbW.size⟩, up hx.behind, by rw [← hL]; exact (hs.grown hg (by omega) hR).rdlv⟩
  have hone := (hsh wf ⟨rfl, rfl, rfl, Nat.le_refl _, fun _ _ _ => rfl⟩).one
  generalize hQ : bodyPost Tryd.prog Tryd.f7 (BrPost s w) = Q
  unfold bTail3 bodyOf
  simp only [Tryd.f7, codeTail, Option.getD_some]
  have HX := Lib.hid (And.intro hR (And.intro hP (And.intro hbw (And.intro hsh (And.intro hone hQ)))))
  have hRl := hR.lt
  clear hx hR hP hbw hsh hone hQ hb hs
  go_wp2_with (first
    | ((with_reducible refine at_load_sh ?_); refine wpList_load_sh rfl _ rfl p _ rfl HX.out.2.1 ?_)
    | ((with_reducible refine at_store_sh ?_); refine wpList_store_sh rfl _ _ rfl (w.heap.size + 1) ShV.zero _ rfl rfl HX.out.1 HX.out.2.2.2.2.1 ?_; intro w9 hB9 hg9)
    | fail)
  rw [← HX.out.2.2.2.2.2]
  have hb9 := HX.out.2.2.1.grown hg9 HX.out.2.2.1.size (fun k e => by injection e with e; omega)
  refine bodyPost_ret (results_cell1 Tryd.results7 _ _ _ _ _ rfl (load_sh hB9)) rfl ⟨_, rfl, HX.out.2.2.2.1 _ hg9, hb9⟩
set_option maxHeartbeats 4000000 in
theorem brought_tail2 {wb wk : World} {Av : Option Addr} {nb cv : Nat} (hx : BX V s w p Y wb) (hX : Bs wk w.heap.size V) (hR : Bs wk (w.heap.size + 1) ShV.zero) (hP : Bs wk p { Y with bodies := .slice Av nb cv }) (hbw : Below w.heap.size w wk)
    (hrw : RB w wk p (.slice Av nb cv) ((s.bodies.take 10).map (·.take 300))) (hnb : nb = min s.bodies.length 10) (u0 u4 u5 u6 u7 u8 u9 u10 u11 u12 u13 u14 u15 u16 u17 u18 u19 u20 u21 u22 u23 u24 u25 u26 u27 u28 u29 u30 u31 u32 u33 u34 u35 u36 u37 u38 u39 u40 u41 u42 u43 u44 u45 u46 u47 u48 u49 u50 u51 u52 u53 u54 u55 u56 u57 u58 u59 u60 u61 u62 u63 u64 u65 u66 u67 u68 u69 u70 u71 u72 u73 u74 u75 u76 u77 u78 u79 u80 u81 u82 u83 u84 u85 u86 u87 u88 u89 u90 u91 u92 u93 u94 u95 u96 u97 u98 u99 u100 u101 u102 u103 u104 u105 u106 : Value) :
    bTail2.wp Tryd.prog (bodyPost Tryd.prog Tryd.f7 (BrPost s w)) { tmps := (u0 :: Value.pointer (some ⟨w.heap.size, 0, none⟩) :: Value.pointer (some ⟨w.heap.size + 1, 0, none⟩) :: Value.pointer (some ⟨p, 0, none⟩) :: u4 :: u5 :: u6 :: u7 :: u8 :: u9 :: u10 :: u11 :: u12 :: u13 :: u14 :: u15 :: u16 :: u17 :: u18 :: u19 :: u20 :: u21 :: u22 :: u23 :: u24 :: u25 :: u26 :: u27 :: u28 :: u29 :: u30 :: u31 :: u32 :: u33 :: u34 :: u35 :: u36 :: u37 :: u38 :: u39 :: u40 :: u41 :: u42 :: u43 :: u44 :: u45 :: u46 :: u47 :: u48 :: u49 :: u50 :: u51 :: u52 :: u53 :: u54 :: u55 :: u56 :: u57 :: u58 :: u59 :: u60 :: u61 :: u62 :: u63 :: u64 :: u65 :: u66 :: u67 :: u68 :: u69 :: u70 :: u71 :: u72 :: u73 :: u74 :: u75 :: u76 :: u77 :: u78 :: u79 :: u80 :: u81 :: u82 :: u83 :: u84 :: u85 :: u86 :: u87 :: u88 :: u89 :: u90 :: u91 :: u92 :: u93 :: u94 :: u95 :: u96 :: u97 :: u98 :: u99 :: u100 :: u101 :: u102 :: u103 :: u104 :: u105 :: u106 :: []).toArray, defers := [] } wk := by
  obtain ⟨A6, n6, c6, l6, e6, hr6, hl6⟩ := hx.sh.sigs
  have hPl := hP.lt
  have hlt := hx.lt
  have hXl := hbw.size
  generalize hQ : bodyPost Tryd.prog Tryd.f7 (BrPost s w) = Q
  unfold bTail2 bodyOf
  simp only [Tryd.f7, codeTail, Option.getD_some]
  have qp3 : wk.cell? ⟨p, 3, none⟩ = some (.slice Av nb cv) := hP.cell 3
  have fp3 := hP.frozen 3
  have HX := Lib.hid (And.intro hx (And.intro hX (And.intro hR (And.intro hP (And.intro hbw (And.intro hrw (And.intro hnb (And.intro hr6 (And.intro hl6 (And.intro e6 hQ))))))))))
  clear hx hX hR hP hbw hrw hr6 hl6 e6 hQ
  refine wp_seq_k fun K hK => ?_
  go_cut [] from 6 (fun wx => ∃ vb, RB w wx p vb (Pe.brought s).bodies ∧ Bs wx p { Y with bodies := vb } ∧ wk.grownBy wx (some p))
  case first =>
    by_cases hn0 : nb = 0
    · have hs0 : s.bodies = [] := List.length_eq_zero_iff.1 (by omega)
      have hbb : (Pe.brought s).bodies = [[]] := by simp [Pe.brought, hs0]
      have HBB := Lib.hid hbb
      clear hbb hs0 hnb
      subst hn0
      go_wp2_with fail
      go_meet
      refine ⟨.slice (some ⟨wk.heap.size, 0, none⟩) 1 1, ?_, ?_, ?_⟩
      · rw [HBB.out]
        exact RB.nil1 w (wk.setCell ⟨p, 3, none⟩ (.slice (some ⟨wk.heap.size, 0, none⟩) 1 1)) (by simp) hPl
      · exact (HX.out.2.2.2.1.set_ 3 _).alloc _
      · exact ⟨rfl, rfl, rfl, by simp, fun k h1 h2 => (Below.heap_alloc _ _ k (by simpa using h1)).trans (Below.heap_setCell _ _ _ k (fun e => h2 (by rw [e])))⟩
    · have hbb : (Pe.brought s).bodies = (s.bodies.take 10).map (·.take 300) := by
        have : s.bodies ≠ [] := fun e => by rw [e] at hnb; simp at hnb; exact hn0 hnb
        simp [Pe.brought, this]
      have hn0' : ¬ (nb : Int) = 0 := by omega
      have HBB := Lib.hid hbb
      clear hbb
      go_wp2_with fail
      go_meet
      exact ⟨_, by rw [HBB.out]; exact HX.out.2.2.2.2.2.1, HX.out.2.2.2.1, ⟨rfl, rfl, rfl, Nat.le_refl _, fun _ _ _ => rfl⟩⟩
  obtain ⟨vb, hrb, hPb, hgb⟩ := hcut
  have hs := hgb.size
  have hbc : Below w.heap.size w wc := HX.out.2.2.2.2.1.grown hgb hXl (fun k e => by injection e with e; omega)
  have hXc : Bs wc w.heap.size V := HX.out.2.1.grown hgb (fun e => by injection e with e; omega)
  have hRc : Bs wc (w.heap.size + 1) ShV.zero := HX.out.2.2.1.grown hgb (fun e => by injection e with e; omega)
  have hPlc : p < wc.heap.size := by omega
  have HY := Lib.hid (And.intro hXc (And.intro hRc (And.intro hPb (And.intro hbc (And.intro hrb hPlc)))))
  clear hrb hPb hgb hXc hRc hbc qp3 fp3 hs
  refine hK _ _ ?_
  clear hK K
  refine wp_seq_k fun K hK => ?_
  go_cut [] from 5 (fun wx => ∃ v L, B2 p { Y with bodies := vb } wc v L wx ∧ L.map (·.2) = (s.sigs.take 8).map fun x => 48 :: x.take 300)
  case first =>
    go_wp2_with fail
    go_loopw [5] (fun i wr => ∃ (j : Nat) (v : Value) (L : List (Value × List UInt8)), j ≤ min n6 8 ∧ i = .int .i64 (j : Int) ∧ B2 p { Y with bodies := vb } wc v L wr ∧ L.map (·.2) = (s.sigs.take j).map fun x => 48 :: x.take 300) (fun i _ => min n6 8 - (intOf i).toNat)
    case atStart => exact ⟨0, _, [], Nat.zero_le _, rfl, ⟨XS.nil_, (by have := HY.out.2.2.1; rw [show ({ Y with bodies := vb, sigs := Value.slice none 0 0 } : ShV) = { Y with bodies := vb } from by rw [← HX.out.1.nos]]; exact this), ⟨rfl, rfl, rfl, Nat.le_refl _, fun _ _ _ => rfl⟩⟩, rfl⟩
    case round =>
      obtain ⟨j, v, L, hj, rfl, hB, hL⟩ := hrel
      have hXr : Bs wr w.heap.size V := HY.out.1.grown hB.grown (fun e => by injection e with e; omega)
      have q6 : wr.cell? ⟨w.heap.size, 6, none⟩ = some (.slice A6 n6 c6) := by rw [← HX.out.2.2.2.2.2.2.2.2.2.1]; exact hXr.cell 6
      have hgs := hB.grown.size
      by_cases hj10 : (j : Int) < 8
      · by_cases hjn : (j : Int) < n6
        · obtain ⟨b6, o6, A', n', c', xs, e6', hb6, hlk, qb0, hrd⟩ := HX.out.2.2.2.2.2.2.2.1.get (k := j) (by omega)
          subst e6'
          have qb : wr.cell? ⟨b6, o6 + j, none⟩ = some (.slice A' n' c') := by
            rw [World.cell?_of_block (a := ⟨b6, o6 + j, none⟩) (hB.grown.block b6 (by omega) (fun e => by injection e with e; omega)), HY.out.2.2.2.1.cell (p := ⟨b6, o6 + j, none⟩) hb6]
            exact qb0
          obtain ⟨m, hm⟩ : ∃ m, min n' 300 = m := ⟨_, rfl⟩
          obtain ⟨B1', d1, x1, s1, t1⟩ := run_upto hrd m (m : Int) rfl (by omega)
          have i1 : (if (300 : Int) < (n' : Int) then (300 : Int) else (n' : Int)) = (m : Int) := by rw [← hm]; split <;> omega
          have hxt : xs.take m = xs.take 300 := by
            rw [← hm]
            have := hrd.len
            rcases Nat.le_total n' 300 with h | h
            · rw [Nat.min_eq_left h, List.take_of_length_le (by omega), List.take_of_length_le (by omega)]
            · rw [Nat.min_eq_right h]
          have hLn : L.length = j := by have := congrArg List.length hL; simp at this; rw [← HX.out.2.2.2.2.2.2.2.2.1, List.length_map, HX.out.2.2.2.2.2.2.2.1.len] at this; omega
          have hL1 : ∀ u : Value, (L ++ [(u, 48 :: xs.take 300)]).map (·.2) = (s.sigs.take (j + 1)).map fun x => 48 :: x.take 300 := fun u => by
            have hbj : s.sigs[j]? = some xs := by rw [← HX.out.2.2.2.2.2.2.2.2.1, List.getElem?_map, hlk]; rfl
            rw [take_snoc hbj, List.map_append, List.map_append, hL]; rfl
          rw [hxt] at x1
          have hml : m ≤ 300 := by omega
          have qp6 : wr.cell? ⟨p, 6, none⟩ = some v := hB.atP.cell 6
          have HI := Lib.hid (And.intro hB (And.intro hL1 (And.intro x1 (And.intro hLn hB.atP))))
          obtain ⟨Av2, cv2, rfl, _⟩ := hB.row.rdl
          subst hLn
          clear hB hL hL1 x1 hrd hlk qb0 hxt hXr
          have hXl2 : w.heap.size < wr.heap.size := by have := HX.out.1.below.size; omega
          have hpr : p < wr.heap.size := by omega
          have hwc : w.heap.size ≤ wc.heap.size := by omega
          go_upto_region 12 with fail
          obtain ⟨W1, hW1⟩ : ∃ W1, wr.alloc (.cells #[.int .u8 48] 5) = W1 := ⟨_, rfl⟩
          rw [hW1]
          have hown1 : OwnB W1 wr.heap.size (wr.heap.size + 1) (.slice (some ⟨wr.heap.size, 0, none⟩) 1 1) [48] := by rw [← hW1]; exact OwnB.lit wr [48] _ 1 rfl rfl (by omega)
          have hs1 : W1.heap.size = wr.heap.size + 1 := by rw [← hW1]; simp
          have hb1 : Below wr.heap.size wr W1 := by rw [← hW1]; exact (Below.refl _ _).alloc (Nat.le_refl _) _
          clear hW1
          have hw1 : Below w.heap.size w W1 := ((HY.out.2.2.2.1).grown HI.out.1.grown (by omega) (fun k e => by injection e with e; omega)).trans (hb1.mono (by omega))
          have hrW : Rd W1 w.heap.size B1' m d1 (xs.take 300) := HI.out.2.2.1.keep fun p hp => hw1.cell hp
          have q61 : W1.cell? ⟨w.heap.size, 6, none⟩ = some (.slice (some ⟨b6, o6, none⟩) n6 c6) := (hb1.cell (p := ⟨w.heap.size, 6, none⟩) hXl2).trans q6
          have qb1 : W1.cell? ⟨b6, o6 + L.length, none⟩ = some (.slice A' n' c') := (hb1.cell (p := ⟨b6, o6 + L.length, none⟩) (by show b6 < wr.heap.size; omega)).trans qb
          have H1 := Lib.hid (And.intro hown1 (And.intro hs1 (And.intro hb1 (And.intro hrW (And.intro q61 qb1)))))
          clear hown1 hb1 hrW q6 qb hw1
          have hwp : wr.cell? ⟨p, 6, none⟩ = some (.slice Av2 L.length cv2) := qp6
          have HQ := Lib.hid hwp
          clear hwp qp6
          go_region_held3 (fun w' => w'.cell? ⟨w.heap.size, 6, none⟩ = some (.slice (some ⟨b6, o6, none⟩) n6 c6) ∧ w'.cell? ⟨b6, o6 + L.length, none⟩ = some (.slice A' n' c')) (go_keep)
            (first | ((refine step_app (by rfl) (.tmp 85) (.tmp 98) (by rfl) wr.heap.size W1.heap.size _ [48] (by rfl) (by exact (H1.out.1.mono (Nat.le_refl _) (by have := H1.out.2.1; omega)).drewN 1) (by have := H1.out.2.1; simp; omega) w.heap.size B1' m d1 (xs.take 300) (by rfl) (by exact (H1.out.2.2.2.1.drew).rds) (by simp; omega) ?_); intro v6 w6 ho6 hg6 hat6 hb6; have z1 := (hb6.cell (p := ⟨w.heap.size, 6, none⟩) hXl2).trans H1.out.2.2.2.2.1; have z2 := (hb6.cell (p := ⟨b6, o6 + L.length, none⟩) (by show b6 < wr.heap.size; omega)).trans H1.out.2.2.2.2.2; obtain ⟨A6', n6', c6', rfl, _⟩ := ho6.rd; have H6 := Lib.hid (And.intro ho6 hb6); clear ho6 hg6 hat6 hb6) | fail)
          have hcr : wc.heap.size ≤ wr.heap.size := hgs
          have hb6 : Below wr.heap.size wr w6 := H1.out.2.2.1.trans ((Below.refl _ _).drew.trans H6.out.2)
          have hX6 : XS w6 wc.heap.size (.slice Av2 L.length cv2) L := HI.out.1.row.below hb6
          have hP6 : Bs w6 p { Y with bodies := vb, sigs := .slice Av2 L.length cv2 } := (hb6.block p hpr).trans HI.out.1.atP
          have qp6 : w6.cell? ⟨p, 6, none⟩ = some (.slice Av2 L.length cv2) := hP6.cell 6
          have hrt : RdT w6 (.slice A6' n6' c6') (48 :: xs.take 300) := RdT.own H6.out.1
          have hs6 := hb6.size
          have H7 := Lib.hid (And.intro hb6 (And.intro (hX6.alloc (.cells #[.slice A6' n6' c6'] 22)) (And.intro (hrt.alloc (.cells #[.slice A6' n6' c6'] 22)) hP6)))
          clear hb6 hX6 hP6 hrt
          have hjl : L.length ≤ 1000 := by have := HI.out.2.2.2.1; omega
          go_wp2_with (first
            | (at_builtin; refine wpList_xs rfl (.tmp 101) (.tmp 103) rfl wc.heap.size _ _ rfl H7.out.2.1 (by simp; omega) w6.heap.size (.slice A6' n6' c6') (48 :: xs.take 300) rfl (Blk.cell (Blk.new w6 _ _) 0) (by simp) H7.out.2.2.1 (by omega) ?_; intro v7 w7 hX7 hB7; obtain ⟨Av7, cv7, rfl, _⟩ := hX7.rdl; have hb7 : Below wc.heap.size wr w7 := ((H7.out.1.mono hcr).alloc (by omega) _).trans hB7; have hP7 : Bs w7 p { Y with bodies := vb, sigs := .slice Av2 L.length cv2 } := (hb7.block p (by omega)).trans HI.out.1.atP; have qp7 := hP7.cell 6; have fp7 := hP7.frozen 6; have H8 := Lib.hid (HI.out.1.step (by omega) hb7 hX7); clear hX7 hB7 hb7 hP7)
            | fail)
          go_roundw
          case rel => exact ⟨L.length + 1, _, _, by omega, by go_num, (by have h8 := H8.out; simp only [List.length_append, List.length_cons, List.length_nil, Nat.zero_add] at h8; exact h8), HI.out.2.1 _⟩
          case measure => simp [intOf]; omega
        · have hjj : j = min n6 8 := by omega
          have hfin : L.map (·.2) = (s.sigs.take 8).map fun x => 48 :: x.take 300 := by
            rw [hL]
            have : s.sigs.length = n6 := by rw [← HX.out.2.2.2.2.2.2.2.2.1, List.length_map, HX.out.2.2.2.2.2.2.2.1.len]
            rw [List.take_of_length_le (by omega), List.take_of_length_le (by omega)]
          have HF := Lib.hid (And.intro hB hfin)
          clear hB hL hfin hXr
          go_wp2_with fail
          go_meet
          exact ⟨v, L, HF.out.1, HF.out.2⟩
      · have hjj : j = 8 := by omega
        have HF := Lib.hid (And.intro hB (show L.map (·.2) = (s.sigs.take 8).map fun x => 48 :: x.take 300 by rw [hL, hjj]))
        clear hB hL hXr
        by_cases hjn : (j : Int) < n6
        · go_wp2_with fail
          go_meet
          exact ⟨v, L, HF.out.1, HF.out.2⟩
        · go_wp2_with fail
          go_meet
          exact ⟨v, L, HF.out.1, HF.out.2⟩
  obtain ⟨v, L, hB, hL⟩ := hcut
  refine hK _ _ ?_
  rw [← HX.out.2.2.2.2.2.2.2.2.2.2]
  have hbf := HY.out.2.2.2.1.grown hB.grown HY.out.2.2.2.1.size (fun k e => by injection e with e; omega)
  exact brought_tail3 HX.out.1 (HY.out.2.1.grown hB.grown (fun e => by injection e with e; omega)) hB.atP hbf (HY.out.2.2.2.2.1.grown hB.grown (Nat.le_refl _)) hB.row HY.out.2.2.2.2.2 hL _ _ _ _ _ _ _ _ _ _ _ _ _ _ _ _ _ _ _ _ _ _ _ _ _ _ _ _ _ _ _ _ _ _ _ _ _ _ _ _ _ _ _ _ _ _ _ _ _ _ _ _ _ _ _ _ _ _ _ _ _ _ _ _ _ _ _ _ _ _ _ _ _ _ _ _ _ _ _ _ _ _ _ _ _ _ _ _ _ _ _ _ _ _ _ _ _ _ _ _ _ _ _ _
end
end Go.Proofs.YtedlpcioegbmfaaDoor
