/- Brought's loops. -/
import Derived.Test.YtedlpcioegbmfaaDoorPD
import Derived.Test.YtedlpcioegbmfaaDoorPG
import Derived.Test.YtedlpcioegbmfaaDoorPF
import Derived.Test.YtedlpcioegbmfaaDoorPE
import Derived.Test.YtedlpcioegbmfaaDoorPeBL
import Derived.Test.YtedlpcioegbmfaaDoorPeBT2
import Derived.Test.YtedlpcioegbmfaaDoorPB
import Derived.Great.BuildSlice
namespace Go.Proofs.YtedlpcioegbmfaaDoor
open Go.RowKit
set_option maxRecDepth 100000
set_option linter.unusedVariables false
set_option linter.unusedSimpArgs false
noncomputable def bTail1 : Code := codeTail 2 (bodyOf Tryd.f7)
/-- The bodies so far. -/
structure B1 (V : ShV) (s : Pe.Shape) (w : World) (p : Nat) (Y : ShV) (wc : World) (v : Value) (L : List (Value × List UInt8)) (wr : World) : Prop where
  row : OwnC 22 1 wr wc.heap.size wr.heap.size v L.length (L.map (·.1))
  each : ∀ q ∈ L, RdV w w.heap.size q.1 q.2
  atP : Bs wr p { Y with bodies := v }
  grown : wc.grownBy wr (some p)

/-- What the slots of region 5 hold. -/
def B5J (X p H lo : Nat) (v V3 A' B' : Value) (e : Addr) (j n m N : Nat) (cs : List Value) (b : Bool) : Nat → Value → World → Prop
  | 0, u, _ => u = .pointer (some ⟨p, 3, none⟩)
  | 1, u, _ => u = v
  | 2, u, _ => u = .pointer (some ⟨X, 3, none⟩)
  | 3, u, _ => u = V3
  | 4, u, _ => u = .int .i64 (j : Int)
  | 5, u, _ => u = .pointer (some e)
  | 6, u, _ => u = A'
  | 7, u, _ => u = .pointer (some ⟨X, 3, none⟩)
  | 8, u, _ => u = V3
  | 9, u, _ => u = .int .i64 (j : Int)
  | 10, u, _ => u = .pointer (some e)
  | 11, u, _ => u = A'
  | 12, u, _ => u = .int .i64 (n : Int)
  | 13, u, _ => u = .int .i64 (m : Int)
  | 14, u, _ => u = B'
  | 15, u, w => b = false → ∃ q, u = .slice (some ⟨q, 0, none⟩) 1 1 ∧ H ≤ q ∧ w.heap[q]? = some (.cells #[B'] 22 (0, 0))
  | 16, u, w => b = true ∧ OwnC 22 1 w lo w.heap.size u N cs
  | 17, u, _ => u = .pointer (some ⟨p, 3, none⟩)
  | _, _, _ => True
theorem B5J.mono {X p H lo : Nat} {v V3 A' B' : Value} {e : Addr} {j n m N : Nat} {cs : List Value} {b : Bool} (w : World) (o : Obj) : ∀ (i : Nat) (u : Value), B5J X p H lo v V3 A' B' e j n m N cs b i u w → B5J X p H lo v V3 A' B' e j n m N cs b i u (w.alloc o) := by
  intro i u h
  unfold B5J at h ⊢
  split <;> first
    | trivial
    | exact h
    | (intro e; obtain ⟨q, e1, e2, e3⟩ := h e; exact ⟨q, e1, e2, (Below.heap_alloc _ _ _ (Array.getElem?_eq_some_iff.1 e3).1).trans e3⟩)
    | exact ⟨h.1, (h.2.alloc (Nat.le_refl _) _).mono (Nat.le_refl _) (by simp)⟩
theorem B5J.turn {X p H lo : Nat} {v V3 A' B' : Value} {e : Addr} {j n m N : Nat} {cs : List Value} (w w' : World) : ∀ (i : Nat) (u : Value), B5J X p H lo v V3 A' B' e j n m N cs false i u w → B5J X p H lo v V3 A' B' e j n m N cs true i u w' := by
  intro i u h
  unfold B5J at h ⊢
  split <;> first
    | trivial
    | exact h
    | exact fun e => nomatch e
    | exact nomatch h.1
section
variable {V : ShV} {s : Pe.Shape} {w : World} {p : Nat} {Y : ShV} {wc : World}
theorem B1.step {v v6 b : Value} {L : List (Value × List UInt8)} {wr w6 : World} {ys : List UInt8} (h : B1 V s w p Y wc v L wr) (hp : p < wc.heap.size) (hb : Below wc.heap.size wr w6)
    (ho : OwnC 22 1 w6 wc.heap.size w6.heap.size v6 (L.length + 1) (L.map (·.1) ++ [b])) (hr : RdV w w.heap.size b ys) : B1 V s w p Y wc v6 (L ++ [(b, ys)]) (w6.setCell ⟨p, 3, none⟩ v6) := by
  have hgs := h.grown.size
  have hk : ∀ k, k < wc.heap.size → w6.heap[k]? = wr.heap[k]? := fun k hk => hb.block k hk
  have hs6 := hb.size
  have hP : Blk w6 p 26 (ShV.cells { Y with bodies := v }) := (hk p hp).trans h.atP
  refine ⟨?_, ?_, ?_, ?_⟩
  · rw [List.length_append, List.map_append]
    exact (ho.setCell (p := ⟨p, 3, none⟩) (.inl hp) v6).mono (Nat.le_refl _) (by simp)
  · intro q hq
    rcases List.mem_append.1 hq with hq | hq
    · exact h.each q hq
    · obtain rfl := List.mem_singleton.1 hq
      exact hr
  · exact hP.set_ 3 v6
  · refine ⟨hb.os.trans h.grown.os, hb.tape.trans h.grown.tape, hb.output.trans h.grown.output, by simp; omega, fun k h1 h2 => ?_⟩
    rw [Below.heap_setCell _ _ _ k (fun e => h2 (by rw [e]))]
    exact (hk k h1).trans (h.grown.block k h1 h2)
theorem B1.drewN {v : Value} {L : List (Value × List UInt8)} {wr : World} (h : B1 V s w p Y wc v L wr) (n : Nat) : B1 V s w p Y wc v L (wr.drewN n) :=
  ⟨h.row.keep fun _ _ _ => rfl, h.each, h.atP, ⟨h.grown.os, h.grown.tape, h.grown.output, h.grown.size, h.grown.block⟩⟩
/-- From the bodies' row to what reads as rows. -/
theorem B1.rows {V : ShV} {s : Pe.Shape} {w : World} {p : Nat} {Y : ShV} {wc : World} {v : Value} {L : List (Value × List UInt8)} {wr : World} (h : B1 V s w p Y wc v L wr) (hb : Below w.heap.size w wr) : RdLV wr wr.heap.size v (L.map (·.2)) := by
  obtain ⟨A, c, rfl, h1, h2, h3, h4⟩ := h.row.shape
  exact ⟨A, _, c, L, rfl, ⟨rfl, h1, h2, h4, fun v xs hm => ((h.each _ hm).keep fun p hp => hb.cell hp).more hb.size⟩, rfl⟩
set_option maxHeartbeats 4000000 in
theorem brought_tail1 {wb : World} (hx : BX V s w p Y wb) (u0 u4 u5 u6 u7 u8 u9 u10 u11 u12 u13 u14 u15 u16 u17 u18 u19 u20 u21 u22 u23 u24 u25 u26 u27 u28 u29 u30 u31 u32 u33 u34 u35 u36 u37 u38 u39 u40 u41 u42 u43 u44 u45 u46 u47 u48 u49 u50 u51 u52 u53 u54 u55 u56 u57 u58 u59 u60 u61 u62 u63 u64 u65 u66 u67 u68 u69 u70 u71 u72 u73 u74 u75 u76 u77 u78 u79 u80 u81 u82 u83 u84 u85 u86 u87 u88 u89 u90 u91 u92 u93 u94 u95 u96 u97 u98 u99 u100 u101 u102 u103 u104 u105 u106 : Value) :
    bTail1.wp Tryd.prog (bodyPost Tryd.prog Tryd.f7 (BrPost s w)) { tmps := (u0 :: Value.pointer (some ⟨w.heap.size, 0, none⟩) :: Value.pointer (some ⟨w.heap.size + 1, 0, none⟩) :: Value.pointer (some ⟨p, 0, none⟩) :: u4 :: u5 :: u6 :: u7 :: u8 :: u9 :: u10 :: u11 :: u12 :: u13 :: u14 :: u15 :: u16 :: u17 :: u18 :: u19 :: u20 :: u21 :: u22 :: u23 :: u24 :: u25 :: u26 :: u27 :: u28 :: u29 :: u30 :: u31 :: u32 :: u33 :: u34 :: u35 :: u36 :: u37 :: u38 :: u39 :: u40 :: u41 :: u42 :: u43 :: u44 :: u45 :: u46 :: u47 :: u48 :: u49 :: u50 :: u51 :: u52 :: u53 :: u54 :: u55 :: u56 :: u57 :: u58 :: u59 :: u60 :: u61 :: u62 :: u63 :: u64 :: u65 :: u66 :: u67 :: u68 :: u69 :: u70 :: u71 :: u72 :: u73 :: u74 :: u75 :: u76 :: u77 :: u78 :: u79 :: u80 :: u81 :: u82 :: u83 :: u84 :: u85 :: u86 :: u87 :: u88 :: u89 :: u90 :: u91 :: u92 :: u93 :: u94 :: u95 :: u96 :: u97 :: u98 :: u99 :: u100 :: u101 :: u102 :: u103 :: u104 :: u105 :: u106 :: []).toArray, defers := [] } wb := by
  obtain ⟨A3, n3, c3, l3, e3, hr3, hl3⟩ := hx.sh.bodies
  have hPl := hx.atP.lt
  have hlt := hx.lt
  have hP3 : Bs wb p { Y with bodies := .slice none 0 0 } := by have := hx.atP; rw [← hx.nob]; exact this
  generalize hQ : bodyPost Tryd.prog Tryd.f7 (BrPost s w) = Q
  unfold bTail1 bodyOf
  simp only [Tryd.f7, codeTail, Option.getD_some]
  have HX := Lib.hid (And.intro hx (And.intro hr3 (And.intro hl3 (And.intro e3 (And.intro hP3 hQ)))))
  clear hx hr3 hl3 e3 hQ hP3
  refine wp_seq_k fun K hK => ?_
  go_cut [] from 4 (fun wx => ∃ v L, B1 V s w p Y wb v L wx ∧ L.map (·.2) = (s.bodies.take 10).map (·.take 300))
  case first =>
    go_wp2_with fail
    go_loopw [4] (fun i wr => ∃ (j : Nat) (v : Value) (L : List (Value × List UInt8)), j ≤ min n3 10 ∧ i = .int .i64 (j : Int) ∧ B1 V s w p Y wb v L wr ∧ L.map (·.2) = (s.bodies.take j).map (·.take 300)) (fun i _ => min n3 10 - (intOf i).toNat)
    case atStart => exact ⟨0, _, [], Nat.zero_le _, rfl, ⟨OwnC.nil_, fun q hq => (by cases hq), HX.out.2.2.2.2.1, ⟨rfl, rfl, rfl, Nat.le_refl _, fun _ _ _ => rfl⟩⟩, rfl⟩
    case round =>
      obtain ⟨j, v, L, hj, rfl, hB, hL⟩ := hrel
      have hXr : Bs wr w.heap.size V := HX.out.1.atX.grown hB.grown (fun e => by injection e with e; omega)
      have q3 : wr.cell? ⟨w.heap.size, 3, none⟩ = some (.slice A3 n3 c3) := by rw [← HX.out.2.2.2.1]; exact hXr.cell 3
      have qp3 : wr.cell? ⟨p, 3, none⟩ = some v := hB.atP.cell 3
      have fp3 := hB.atP.frozen 3
      have hgs := hB.grown.size
      by_cases hj10 : (j : Int) < 10
      · by_cases hjn : (j : Int) < n3
        · obtain ⟨b3, o3, A', n', c', xs, e3, hb3, hlk, qb0, hrd⟩ := HX.out.2.1.get (k := j) (by omega)
          subst e3
          have qb : wr.cell? ⟨b3, o3 + j, none⟩ = some (.slice A' n' c') := by
            rw [World.cell?_of_block (a := ⟨b3, o3 + j, none⟩) (hB.grown.block b3 (by have := HX.out.1.below.size; omega) (fun e => by injection e with e; omega)), HX.out.1.below.cell (p := ⟨b3, o3 + j, none⟩) hb3]
            exact qb0
          obtain ⟨m, hm⟩ : ∃ m, min n' 300 = m := ⟨_, rfl⟩
          obtain ⟨B1', d1, x1, s1, t1⟩ := run_upto hrd m (m : Int) rfl (by omega)
          have i1 : (if (300 : Int) < (n' : Int) then (300 : Int) else (n' : Int)) = (m : Int) := by rw [← hm]; split <;> omega
          have hxt : xs.take m = xs.take 300 := by
            rw [← hm]
            have := hrd.len
            rcases Nat.le_total n' 300 with h | h
            · rw [Nat.min_eq_left h, List.take_of_length_le (by omega), List.take_of_length_le (by omega)]
            · rw [Nat.min_eq_right h]
          have hLn : L.length = j := by have := congrArg List.length hL; simp at this; rw [← HX.out.2.2.1, List.length_map, HX.out.2.1.len] at this; omega
          have hL1 : (L ++ [(Value.slice B1' m d1, xs.take 300)]).map (·.2) = (s.bodies.take (j + 1)).map (·.take 300) := by
            have hbj : s.bodies[j]? = some xs := by rw [← HX.out.2.2.1, List.getElem?_map, hlk]; rfl
            rw [take_snoc hbj, List.map_append, List.map_append, hL]; rfl
          rw [hxt] at x1
          have HI := Lib.hid (And.intro hB (And.intro hL1 (And.intro x1 hLn)))
          have hvs : ∃ Av nv cv, v = .slice Av nv cv := by obtain ⟨Av, cv, e, _⟩ := hB.row.shape; exact ⟨Av, _, cv, e⟩
          obtain ⟨Av, nv, cv, rfl⟩ := hvs
          clear hB hL hL1 x1 hrd hlk qb0 hxt hXr
          have hXl : w.heap.size < wr.heap.size := by have := HX.out.1.below.size; omega
          have hpr : p < wr.heap.size := by omega
          have hwc : w.heap.size ≤ wb.heap.size := by have := HX.out.1.below.size; omega
          have hbk : ∀ k, Value.ownBlock (.slice Av nv cv) = some k → wb.heap.size ≤ k := fun k e => (HI.out.1.row.1.lt k e).1
          have HBK := Lib.hid hbk
          clear hbk
          go_upto_region 5 with fail
          have hC : ∀ b W, B5G wb.heap.size wr b W → W.cell? ⟨w.heap.size, 3, none⟩ = some (.slice (some ⟨b3, o3, none⟩) n3 c3) ∧ W.cell? ⟨p, 3, none⟩ = some (.slice Av nv cv) ∧ W.cell? ⟨b3, o3 + j, none⟩ = some (.slice A' n' c') := fun b W hG => by
            have hl := hG.low hgs
            exact ⟨(hl.cell (p := ⟨w.heap.size, 3, none⟩) (by show w.heap.size < wb.heap.size; omega)).trans q3, (hl.cell (p := ⟨p, 3, none⟩) hPl).trans qp3, (hl.cell (p := ⟨b3, o3 + j, none⟩) (by show b3 < wb.heap.size; omega)).trans qb⟩
          have HC := Lib.hid hC
          clear hC
          refine wp_region_phase 18 16 (B5J w.heap.size p wr.heap.size wb.heap.size (.slice Av nv cv) (.slice (some ⟨b3, o3, none⟩) n3 c3) (.slice A' n' c') (.slice B1' m d1) ⟨b3, o3 + j, none⟩ j n' m (L.length + 1) (L.map (·.1) ++ [.slice B1' m d1])) (B5G wb.heap.size wr) rfl (by show dstsOk _ 107 = true; decide +kernel) (by decide +kernel) (by decide +kernel) (by decide +kernel) (by decide) (Below.refl _ _).drew ⟨?_, ?_, ?_, ?_, ?_, ?_, ?_, ?_, ?_, ?_, ?_, ?_, ?_, ?_, ?_, ?_, ?_, ?_, trivial⟩ ?_
          · intro b a' W hfr hG hdep; refine PK_of (by simp) rfl hG ?_; have d := hfr 3 (by decide +kernel); refine F_val ?_ trivial rfl; simp only [execOp, d]; simp [go_sem, Act.eval]
          · intro b a' W hfr hG hdep; refine PK_of (by simp) rfl hG ?_; have d : a'.eval (.tmp 49) = .pointer (some ⟨p, 3, none⟩) := hdep 0 (by decide +kernel); exact F_load rfl d (load_rows (HC.out b W hG).2.1) trivial rfl
          · intro b a' W hfr hG hdep; refine PK_of (by simp) rfl hG ?_; have d := hfr 1 (by decide +kernel); refine F_val ?_ trivial rfl; simp only [execOp, d]; simp [go_sem, Act.eval]
          · intro b a' W hfr hG hdep; refine PK_of (by simp) rfl hG ?_; have d : a'.eval (.tmp 51) = .pointer (some ⟨w.heap.size, 3, none⟩) := hdep 2 (by decide +kernel); exact F_load rfl d (load_rows (HC.out b W hG).1) trivial rfl
          · intro b a' W hfr hG hdep; refine PK_of (by simp) rfl hG ?_; exact F_move rfl (hfr 4 (by decide +kernel)) trivial rfl
          · intro b a' W hfr hG hdep; refine PK_of (by simp) rfl hG ?_; have d : a'.eval (.tmp 52) = .slice (some ⟨b3, o3, none⟩) n3 c3 := hdep 3 (by decide +kernel); have d' : a'.eval (.tmp 53) = .int .i64 (j : Int) := hdep 4 (by decide +kernel); refine F_val ?_ trivial rfl; simp only [execOp, d, d']; simp [go_sem, Act.eval, hjn]
          · intro b a' W hfr hG hdep; refine PK_of (by simp) rfl hG ?_; have d : a'.eval (.tmp 54) = .pointer (some ⟨b3, o3 + j, none⟩) := hdep 5 (by decide +kernel); exact F_load rfl d (load_bytesR (HC.out b W hG).2.2) trivial rfl
          · intro b a' W hfr hG hdep; refine PK_of (by simp) rfl hG ?_; have d := hfr 1 (by decide +kernel); refine F_val ?_ trivial rfl; simp only [execOp, d]; simp [go_sem, Act.eval]
          · intro b a' W hfr hG hdep; refine PK_of (by simp) rfl hG ?_; have d : a'.eval (.tmp 56) = .pointer (some ⟨w.heap.size, 3, none⟩) := hdep 7 (by decide +kernel); exact F_load rfl d (load_rows (HC.out b W hG).1) trivial rfl
          · intro b a' W hfr hG hdep; refine PK_of (by simp) rfl hG ?_; exact F_move rfl (hfr 4 (by decide +kernel)) trivial rfl
          · intro b a' W hfr hG hdep; refine PK_of (by simp) rfl hG ?_; have d : a'.eval (.tmp 57) = .slice (some ⟨b3, o3, none⟩) n3 c3 := hdep 8 (by decide +kernel); have d' : a'.eval (.tmp 58) = .int .i64 (j : Int) := hdep 9 (by decide +kernel); refine F_val ?_ trivial rfl; simp only [execOp, d, d']; simp [go_sem, Act.eval, hjn]
          · intro b a' W hfr hG hdep; refine PK_of (by simp) rfl hG ?_; have d : a'.eval (.tmp 59) = .pointer (some ⟨b3, o3 + j, none⟩) := hdep 10 (by decide +kernel); exact F_load rfl d (load_bytesR (HC.out b W hG).2.2) trivial rfl
          · intro b a' W hfr hG hdep; refine PK_of (by simp) rfl hG ?_; have d : a'.eval (.tmp 60) = .slice A' n' c' := hdep 11 (by decide +kernel); exact F_len rfl d trivial rfl
          · intro b a' W hfr hG hdep; refine PK_of (by simp) rfl hG ?_; have d : a'.eval (.tmp 61) = .int .i64 (n' : Int) := hdep 12 (by decide +kernel); exact F_min9 rfl d rfl i1 trivial rfl
          · intro b a' W hfr hG hdep; refine PK_of (by simp) rfl hG ?_; have d : a'.eval (.tmp 55) = .slice A' n' c' := hdep 6 (by decide +kernel); have d' : a'.eval (.tmp 62) = .int .i64 (m : Int) := hdep 13 (by decide +kernel); refine F_val ?_ trivial rfl; simp only [execOp, d, d', Option.map_some, Option.map_none]; simp [s1, t1]
          · intro b a' W hfr hG hdep; have d : a'.eval (.tmp 63) = .slice B1' m d1 := hdep 14 (by decide +kernel); refine wp_one rfl d ⟨_, rfl, by simp, fun e => ⟨W.heap.size, rfl, by subst e; exact (Below.size hG), heap_alloc_new W _⟩, ?_, B5J.mono _ _⟩; unfold B5G at hG ⊢; exact hG.alloc (by have := hG.size; cases b <;> simp only [if_true, Bool.false_eq_true, if_false] <;> omega) _
          · intro a' W hfr hG hdep
            have d : a'.eval (.tmp 50) = .slice Av nv cv := hdep 1 (by decide +kernel)
            obtain ⟨q, dq, hq, hqc⟩ : ∃ q, a'.eval (.tmp 64) = .slice (some ⟨q, 0, none⟩) 1 1 ∧ wr.heap.size ≤ q ∧ W.heap[q]? = some (.cells #[.slice B1' m d1] 22 (0, 0)) := hdep 15 (by decide +kernel) rfl
            obtain ⟨i0, hi0, hz0, hz1, hz2⟩ := info_parts bs_info2
            have hb : Below wr.heap.size wr W := hG
            have hown : OwnC 22 1 W wb.heap.size W.heap.size (.slice Av nv cv) L.length (L.map (·.1)) := (HI.out.1.row.below hb (Nat.le_refl _)).mono (Nat.le_refl _) hb.size
            refine wp_append_any W (.tmp 50) (.tmp 64) 23 rfl wb.heap.size 22 i0 _ 1 24 Tryd.underlying23 hi0 hz0 hz1 hz2 rfl (by omega) _ L.length _ d hown.1 (q + 1) _ 1 1 [.slice B1' m d1] dq (Reads.oneAt hqc) (by simp [Value.oneCell']) (by have := HI.out.2.2.2; simp only [maxLen]; omega) (by have := HI.out.2.2.2; omega) (by have := hb.size; omega) ?_
            intro v6 w6 h1 h2 h3
            exact ⟨v6, rfl, by simp, ⟨rfl, OwnC.of h1⟩, (hb.mono hgs).grown h2 (by have := hb.size; omega) (fun k hk => (hown.1.lt k hk).1), B5J.turn _ _⟩
          · intro b a' W hfr hG hdep; refine PK_of (by simp) rfl hG ?_; have d := hfr 3 (by decide +kernel); refine F_val ?_ trivial rfl; simp only [execOp, d]; simp [go_sem, Act.eval]
          · intro o ho a' W hd hsz hfr hG hJ
            have e1 : o.op = .store 23 (.tmp 66) (.tmp 65) ∧ o.dst = none := by cases ho; exact ⟨rfl, rfl⟩
            clear ho
            have h16 : true = true ∧ OwnC 22 1 W wb.heap.size W.heap.size (a'.eval (.tmp 65)) (L.length + 1) (L.map (·.1) ++ [.slice B1' m d1]) := hJ 16 (by decide)
            obtain ⟨v6, hv6⟩ : ∃ v6, a'.eval (.tmp 65) = v6 := ⟨_, rfl⟩
            have ho6 := h16.2
            rw [hv6] at ho6
            clear h16
            have hp6 : a'.eval (.tmp 66) = .pointer (some ⟨p, 3, none⟩) := hJ 17 (by decide)
            have hb : Below wb.heap.size wr W := hG
            have hP : Blk W p 26 (ShV.cells { Y with bodies := .slice Av nv cv }) := (hb.block p hPl).trans HI.out.1.atP
            obtain ⟨A6, c6, rfl, _⟩ := ho6.shape
            have HF := HI.out.1.step hPl hb ho6 (RdV.mk HI.out.2.2.1)
            rw [hLn] at HF hv6
            have HF := Lib.hid HF
            have hq6 := hP.cell 3
            have hf6 := hP.frozen 3
            obtain ⟨vs, hvs, e⟩ := act_of_some (by show dstsOk _ 107 = true; decide +kernel) hd hsz hfr
            clear hJ hfr hd hsz hG hvs hb hP ho6
            refine wp_store_cell e1.1 hp6 hv6 hq6 hf6 ?_
            rw [e1.2]
            clear hq6 hf6 hp6 hv6 e1
            have hrg : List.range 19 = [0, 1, 2, 3, 4, 5, 6, 7, 8, 9, 10, 11, 12, 13, 14, 15, 16, 17, 18] := rfl
            simp only [layAll, List.map_cons, List.map_nil, List.size_toArray, List.length_cons, List.length_nil, Nat.reduceAdd, hrg, List.zip_cons_cons, List.zip_nil_left, List.foldl_cons, List.foldl_nil, Act.put, List.setIfInBounds_toArray, List.set_cons_zero, List.set_cons_succ] at e
            subst e
            clear hrg
            go_wp2
            go_roundw
            case rel => exact ⟨j + 1, _, _, by omega, by go_num, HF.out, HI.out.2.1⟩
            case measure => simp [intOf]; omega
        · have hjj : j = min n3 10 := by omega
          have hfin : L.map (·.2) = (s.bodies.take 10).map (·.take 300) := by
            rw [hL]
            have : s.bodies.length = n3 := by rw [← HX.out.2.2.1, List.length_map, HX.out.2.1.len]
            rw [List.take_of_length_le (by omega), List.take_of_length_le (by omega)]
          have HF := Lib.hid (And.intro hB hfin)
          clear hB hL hfin hXr
          go_wp2_with fail
          go_meet
          exact ⟨v, L, HF.out.1, HF.out.2⟩
      · have hjj : j = 10 := by omega
        have HF := Lib.hid (And.intro hB (show L.map (·.2) = (s.bodies.take 10).map (·.take 300) by rw [hL, hjj]))
        clear hB hL hXr
        by_cases hjn : (j : Int) < n3
        · go_wp2_with fail
          go_meet
          exact ⟨v, L, HF.out.1, HF.out.2⟩
        · go_wp2_with fail
          go_meet
          exact ⟨v, L, HF.out.1, HF.out.2⟩
  obtain ⟨v, L, hB, hL⟩ := hcut
  refine hK _ _ ?_
  rw [← HX.out.2.2.2.2.2]
  have hbw := HX.out.1.below.grown hB.grown HX.out.1.below.size (fun k e => by injection e with e; omega)
  have hLn : L.length = min s.bodies.length 10 := by have := congrArg List.length hL; simp at this; omega
  obtain ⟨Av, cv, rfl, _⟩ := hB.row.shape
  have hsz := hB.grown.size
  exact brought_tail2 HX.out.1 (HX.out.1.atX.grown hB.grown (fun e => by injection e with e; omega)) (HX.out.1.atR.grown hB.grown (fun e => by injection e with e; omega)) hB.atP hbw ⟨L, hB.row.mono hPl (Nat.le_refl _), hB.each, hL⟩ hLn _ _ _ _ _ _ _ _ _ _ _ _ _ _ _ _ _ _ _ _ _ _ _ _ _ _ _ _ _ _ _ _ _ _ _ _ _ _ _ _ _ _ _ _ _ _ _ _ _ _ _ _ _ _ _ _ _ _ _ _ _ _ _ _ _ _ _ _ _ _ _ _ _ _ _ _ _ _ _ _ _ _ _ _ _ _ _ _ _ _ _ _ _ _ _ _ _ _ _ _ _ _ _ _
end
end Go.Proofs.YtedlpcioegbmfaaDoor
