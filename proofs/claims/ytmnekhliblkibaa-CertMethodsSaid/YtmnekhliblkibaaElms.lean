/- The contract of the law's Elements. -/
import Derived.Test.YtmnekhliblkibaaCase
import Derived.Test.YtmnekhliblkibaaAllsC
namespace Go.Proofs.Ytmnekhliblkibaa
open Go.RowKit
set_option maxRecDepth 1000000
set_option linter.unusedVariables false
set_option linter.unusedSimpArgs false

/-- What Elements hands back: the rows of the seven elements. -/
def ElmsR (k : Kase) (w : World) (e : Ending) (w' : World) : Prop := ∃ (A : Option Addr) (c : Nat) (l : List (Value × List UInt8)), e = .returned (.slice A 7 c) ∧ XS w' w.heap.size (.slice A 7 c) l ∧ l.map (·.2) = k.els.map (·.2.2) ∧ Below w.heap.size w w'
set_option maxHeartbeats 8000000 in
theorem elements_any (k : Kase) (A0 A1 A2 : Option Addr) (n0 c0 n1 c1 n2 c2 : Nat) (w : World) (hk : k.come w A0 A1 A2 n0 c0 n1 c1 n2 c2) :
    Calls Try.prog 35 #[k.val (.slice A0 n0 c0) (.slice A1 n1 c1) (.slice A2 n2 c2)] w (ElmsR k w) := by
  have HK := Lib.hid hk
  have HM := fun W => made_any k.plain A0 A1 A2 n0 c0 n1 c1 n2 c2 W
  obtain ⟨W1, hW1, hKB⟩ : ∃ W1, W1 = w.alloc (.cells (k.plain.row (.slice A0 n0 c0) (.slice A1 n1 c1) (.slice A2 n2 c2)) 42) ∧ Blk W1 w.heap.size 42 (k.plain.row (.slice A0 n0 c0) (.slice A1 n1 c1) (.slice A2 n2 c2)) :=
    ⟨_, rfl, Blk.new w _ _⟩
  have hb01 : Below w.heap.size w W1 := by
    rw [hW1]
    exact (Below.refl _ w).alloc (Nat.le_refl _) _
  have HM1 := HM W1 (hk.r0.up hb01) (hk.r1.up hb01) (hk.r2.up hb01)
    ⟨by have h1 := hk.r0.cap; have h2 := hk.r0.capm; omega, by have h1 := hk.r1.cap; have h2 := hk.r1.capm; omega, by have h1 := hk.r2.cap; have h2 := hk.r2.capm; omega, hk.iss, hk.sub⟩ hk.from_ hk.to hk.e hk.path (by show (0 : Nat) < 256; omega)
  have HB01 := Lib.hid (And.intro hb01 (And.intro hKB HM1))
  clear hk HM hb01 hKB HM1
  have HW := Lib.hid hW1
  unfold Kase.row Kase.plain at hW1
  dsimp only at hW1
  rw [show (((0 : Nat)) : Int) = 0 from rfl] at hW1
  unfold Kase.val
  go_enter Try.func35, Try.ntmps35
  go_upto_region 4 with fail
  rw [← hW1]
  clear hW1
  have hKB := HB01.out.2.1
  have HM1 := HB01.out.2.2
  go_wp2_with (first
    | ((with_reducible refine at_load_case ?_); refine wpList_load_case rfl _ rfl w.heap.size k.plain (.slice A0 n0 c0) (.slice A1 n1 c1) (.slice A2 n2 c2) rfl hKB ?_)
    | fail)
  refine HM1.mono ?_
  clear HM1 hKB
  rintro en w1 ⟨D, A, n, c, rfl, hob, q1, q2, q3, q4, q5, q6, q7, e1, e2, e3, e4, hb1⟩
  have hs01 := HB01.out.1.size
  have hbw1 : Below w.heap.size w w1 := HB01.out.1.trans (hb1.mono hs01)
  have hone := (CI.mk q1 q2 q3 q4 q5 q6 q7).one
  have hs1 := hbw1.size
  obtain ⟨At, nt, ct, ht, hrt, _⟩ := q2
  have H1 := Lib.hid (And.intro hrt hbw1)
  clear hob q1 q3 q4 q5 q6 q7 e1 e2 e3 e4 hb1 hbw1 HB01 HW hs01
  go_upto_region 5 with (first
    | ((with_reducible refine at_store_cert ?_); refine wpList_store_cert rfl _ _ rfl w1.heap.size CV.zero D rfl rfl (Blk.new w1 _ _) hone ?_; intro w2 hB2 hg2)
    | fail)
  have hg12 : Below w1.heap.size w1 w2 := below_grow ((Below.refl _ w1).alloc (Nat.le_refl _) _) hg2 (Nat.le_refl _) (Nat.le_refl _)
  have k1 : w2.cell? ⟨w1.heap.size, 1, none⟩ = some (.slice At nt ct) := (hB2.at_ 1).trans (by rw [← ht]; rfl)
  have hrt2 := H1.out.1.up hg12
  have hbw2 := H1.out.2.trans (hg12.mono hs1)
  have hels := els_wf k HK.out.path
  have H2 := Lib.hid (And.intro hrt2 (And.intro hbw2 hels))
  have hnt : nt ≤ 4000 := by have h1 := hrt2.len; have h2 := kase_tlen k.plain; omega
  clear hg12 hg2 hB2 hrt hrt2 hbw2 hone H1 ht hels
  go_wp2_with fail
  refine (refParse_any At nt ct k.plain.tbs w2 H2.out.1 (by omega)).mono ?_
  rintro en w3 ⟨hb3, ⟨hno, _⟩ | ⟨t0, body, raw, rest, A5, n5, c5, A6, n6, c6, A7, n7, c7, hel, rfl, ho3⟩⟩
  · have h1 := elem_wf (x := El.mk 48 (raws k.els)) (El.mk_wf (by decide) (by have := H2.out.2.2.2; omega)) []
    rw [List.append_nil, ← plain_tbs, hno] at h1
    cases h1
  have hbody : body = raws k.els := by
    have h1 := elem_wf (x := El.mk 48 (raws k.els)) (El.mk_wf (by decide) (by have := H2.out.2.2.2; omega)) []
    rw [List.append_nil, ← plain_tbs, hel] at h1
    simp only [Option.some.injEq, Prod.mk.injEq] at h1
    exact h1.2.1
  subst hbody
  have hr5 : Rd w3 w3.heap.size A5 n5 c5 (raws k.els) := by
    have h2 := ho3.rows
    simp only [List.mem_cons, List.not_mem_nil, or_false, forall_eq_or_imp, forall_eq] at h2
    exact h2.1.rdx
  have hn5 : n5 ≤ 4000 := by have h1 := hr5.len; have h2 := H2.out.2.2.2; omega
  have hbw3 := H2.out.2.1.trans (hb3.mono H2.out.2.1.size)
  have hs3 := hbw3.size
  have hr5' := hr5.alloc (Nat.le_refl _) (.cells #[.int .u8 (t0.toNat : Int), .slice A5 n5 c5, .slice A6 n6 c6] 50)
  have H3 := Lib.hid (And.intro (hr5'.more (B' := (w3.alloc (.cells #[.int .u8 (t0.toNat : Int), .slice A5 n5 c5, .slice A6 n6 c6] 50)).heap.size) (by simp)) (And.intro hbw3 H2.out.2.2))
  clear ho3 hel hb3 hr5 hbw3 k1 hr5' H2
  go_wp2_with fail
  refine (refAll_any A5 n5 c5 (raws k.els) _ H3.out.1 (by omega)).mono ?_
  rintro en w4 ⟨hb4, ⟨hany, _⟩ | ⟨L, A8, n8, c8, hseq, rfl, hE⟩⟩
  · rw [seq_mk H3.out.2.2.1] at hany
    simp [List.any_map, Function.comp_def] at hany
  have hL : L.map EI.dat = k.els := by
    rw [seq_mk H3.out.2.2.1] at hseq
    have h1 := congrArg (List.filterMap id) hseq
    simp only [List.filterMap_map, Function.comp_def, id] at h1
    simpa using h1.symm
  have hL7 : L.length = 7 := by
    have h1 := congrArg List.length hL
    rw [List.length_map] at h1
    rw [h1]; rfl
  have hn8 : n8 = 7 := by
    have h1 := ownE_len hE
    omega
  subst hn8
  obtain ⟨g8, rfl, hg8, _⟩ := hE.spot_ (by omega)
  have hs34 := hb4.size
  simp only [World.size_alloc] at hs34
  have hbw4 : Below w.heap.size w w4 := (H3.out.2.1.alloc (by omega) _).trans (hb4.mono (by simp; omega))
  have hE2 : OwnE w4 0 w4.heap.size (.slice (some ⟨g8, 0, none⟩) 7 c8) L := hE.mono (Nat.zero_le _) (Nat.le_refl _)
  have H4 := Lib.hid (And.intro hE2 (And.intro hL (And.intro hbw4 hL7)))
  clear hE hseq hL hbw4 hb4 H3 hE2 hL7 hs34
  go_upto_region 9 with fail
  go_loopw [10, 11] (fun v i wr => ∃ j : Nat, j ≤ 7 ∧ i = .int .i64 j ∧ XS wr w4.heap.size v ((L.take j).map fun x => (x.vr, x.raw)) ∧ Below w4.heap.size w4 wr) (fun _ i _ => 7 - (intOf i).toNat)
  case atStart => exact ⟨0, by omega, rfl, XS.nil_, Below.refl _ _⟩
  case round =>
    obtain ⟨j, hj, rfl, hX, hb⟩ := hrel
    have hsz := hb.size
    by_cases hlt : j < 7
    · have hlt' : (j : Int) < 7 := by omega
      obtain ⟨g, t, A1, n1', c1', body', A2', n2', c2', raw', hA, hg, hx, q0, q1, q2, r1, r2⟩ := H4.out.1.at_ hb (Nat.le_refl _) hlt
      injection hA with hA
      injection hA with hA
      subst hA
      have hrt : RdT wr (.slice A2' n2' c2') raw' := (RdT.own (H4.out.1.own2 hx)).below hb
      obtain ⟨Av, cv, rfl, hrdl⟩ := hX.rdl
      have hlj : ((L.take j).map fun x => (x.vr, x.raw)).length = j := by rw [List.length_map, List.length_take, H4.out.2.2.2]; omega
      have HX := Lib.hid (And.intro (hX.alloc (.cells #[.slice A2' n2' c2'] 22)) (And.intro hb (And.intro (hrt.alloc (.cells #[.slice A2' n2' c2'] 22)) hx)))
      clear hX hb hrt hrdl r1 r2 hx
      go_wp2_with (first
        | (at_builtin; refine wpList_xs rfl (.tmp 39) (.tmp 45) rfl w4.heap.size _ _ rfl HX.out.1 (by simp; omega) wr.heap.size (.slice A2' n2' c2') raw' rfl (Blk.cell (Blk.new wr _ _) 0) (by simp) HX.out.2.2.1 (by omega) ?_; intro v' w' hX' hB')
        | fail)
      go_roundw
      case rel =>
        refine ⟨j + 1, by omega, by go_num, ?_, HX.out.2.1.trans (((Below.refl _ wr).alloc hsz _).trans hB')⟩
        have e : (L.take (j + 1)).map (fun x => (x.vr, x.raw)) = (L.take j).map (fun x => (x.vr, x.raw)) ++ [(.slice A2' n2' c2', raw')] := by
          rw [List.take_add_one, HX.out.2.2.2, List.map_append]
          rfl
        rw [e]
        exact hX'
      case measure => simp [intOf]; omega
    · obtain rfl : j = 7 := by omega
      have hge : ¬ ((7 : Nat) : Int) < 7 := by omega
      obtain ⟨Av, cv, rfl, hrdl⟩ := hX.rdl
      have hlj : ((L.take 7).map fun x => (x.vr, x.raw)).length = 7 := by rw [List.length_map, List.length_take, H4.out.2.2.2]; rfl
      have hlast : ((L.take 7).map fun x => (x.vr, x.raw)).map (·.2) = k.els.map (·.2.2) := by
        rw [List.take_of_length_le (by rw [H4.out.2.2.2]; omega), List.map_map, ← H4.out.2.1, List.map_map]
        rfl
      have HX := Lib.hid (And.intro hX (And.intro hb hlast))
      clear hX hb hrdl hlast
      rw [hlj] at HX ⊢
      go_wp2
      go_ret
      exact ⟨Av, cv, _, rfl, HX.out.1.lower H4.out.2.2.1.size, HX.out.2.2, H4.out.2.2.1.trans (HX.out.2.1.mono H4.out.2.2.1.size)⟩
end Go.Proofs.Ytmnekhliblkibaa
