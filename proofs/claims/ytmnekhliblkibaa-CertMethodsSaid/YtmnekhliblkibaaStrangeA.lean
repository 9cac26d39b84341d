/- The contract of the law's strange. -/
import Derived.Test.YtmnekhliblkibaaRefOid
import Derived.Test.YtmnekhliblkibaaPlainS
namespace Go.Proofs.Ytmnekhliblkibaa
open Go.RowKit
set_option maxRecDepth 100000
set_option linter.unusedVariables false
set_option linter.unusedSimpArgs false

theorem strange_lit (w W : World) (hb : Below w.heap.size w W) : RetOwn [42, 3] w (.returned (.slice (some ⟨W.heap.size, 0, none⟩) 2 2)) (W.alloc (.cells #[.int .u8 42, .int .u8 3] 5)) := by
  have hl := World.ownsRow_lit (e := 5) (base := w.heap.size) (size := 1) W #[.int .u8 42, .int .u8 3] 2 hb.size (by simp [maxLen]) rfl
  exact retOwn (OwnB.of (n := 2) hl) (hb.alloc hb.size _)
set_option maxHeartbeats 2000000 in
theorem strange_any (A : Option Addr) (n c : Nat) (zs : List Nat) (w : World) (h : RdU w w.heap.size A n c zs) :
    Calls Try.prog 28 #[.slice A n c] w (RetOwn (X.strange zs) w) := by
  have HZ := Lib.hid h
  clear h
  go_enter Try.func28, Try.ntmps28
  go_wp2_with fail
  refine (refOid_any A n c zs w HZ.out).mono ?_
  rintro en w1 ⟨A1, n1, c1, rfl, ho1, hb1⟩
  have hl1 := ownB_len ho1
  have hs1 := hb1.size
  by_cases h0 : n1 = 0
  · subst h0
    have hX : X.strange zs = [42, 3] := by unfold X.strange; rw [if_pos (.inl hl1)]
    have H1 := Lib.hid (And.intro hX hb1)
    clear ho1 hb1 hl1 hX
    go_wp2
    go_ret
    rw [H1.out.1]
    exact strange_lit w w1 H1.out.2
  have hz : ((n1 : Int) == 0) = false := by simp; omega
  by_cases h3 : 300 < n1
  · have h3' : (300 : Int) < n1 := by omega
    have hX : X.strange zs = [42, 3] := by unfold X.strange; rw [if_pos (.inr (.inl (by omega)))]
    have H1 := Lib.hid (And.intro hX hb1)
    clear ho1 hb1 hl1 hX h0
    go_wp2
    go_ret
    rw [H1.out.1]
    exact strange_lit w w1 H1.out.2
  have h3' : ¬ (300 : Int) < n1 := by omega
  by_cases hq : n1 = 3
  · subst hq
    obtain ⟨b, o, rfl, hbl, hc⟩ := ho1.rdx.at_ (by omega)
    obtain ⟨P, hP⟩ : ∃ P, Der.putOid zs = P := ⟨_, rfl⟩
    rw [hP] at ho1 hl1 hc
    match P, hl1 with
    | [x0, x1, x2], _ =>
      have k0 : w1.cell? ⟨b, o, none⟩ = some (.int .u8 (x0.toNat : Int)) := hc 0 x0 rfl
      have k1 : w1.cell? ⟨b, o + 1, none⟩ = some (.int .u8 (x1.toNat : Int)) := hc 1 x1 rfl
      by_cases e0 : x0 = 85
      · subst e0
        by_cases e1 : x1 = 29
        · subst e1
          have hX : X.strange zs = [42, 3] := by unfold X.strange; rw [hP, if_pos (.inr (.inr ⟨rfl, rfl, rfl⟩))]
          have H1 := Lib.hid (And.intro hX hb1)
          clear ho1 hb1 hX h0 hc hP
          go_wp2
          go_ret
          rw [H1.out.1]
          exact strange_lit w w1 H1.out.2
        · have hX : X.strange zs = [85, x1, x2] := by unfold X.strange; rw [hP, if_neg]; rintro (h | h | ⟨_, _, h⟩) <;> simp at h; exact e1 h
          have e1' : ((x1.toNat : Int) == 29) = false := by
            rw [beq_eq_false_iff_ne]
            intro h
            exact e1 (UInt8.toNat_inj.1 (by rw [show (29 : UInt8).toNat = 29 from rfl]; omega))
          have H1 := Lib.hid (And.intro hX (And.intro hb1 ho1))
          clear ho1 hb1 hX h0 hc hP e1
          go_wp2
          go_ret
          rw [H1.out.1]
          exact retOwn H1.out.2.2 H1.out.2.1
      · have hX : X.strange zs = [x0, x1, x2] := by unfold X.strange; rw [hP, if_neg]; rintro (h | h | ⟨_, h, _⟩) <;> simp at h; exact e0 h
        have e0' : ((x0.toNat : Int) == 85) = false := by
          rw [beq_eq_false_iff_ne]
          intro h
          exact e0 (UInt8.toNat_inj.1 (by rw [show (85 : UInt8).toNat = 85 from rfl]; omega))
        have H1 := Lib.hid (And.intro hX (And.intro hb1 ho1))
        clear ho1 hb1 hX h0 hc hP e0
        go_wp2
        go_ret
        rw [H1.out.1]
        exact retOwn H1.out.2.2 H1.out.2.1
  · have hq' : ((n1 : Int) == 3) = false := by simp; omega
    have hX : X.strange zs = Der.putOid zs := by unfold X.strange; rw [if_neg]; rintro (h | h | ⟨h, _⟩) <;> omega
    have H1 := Lib.hid (And.intro hX (And.intro hb1 ho1))
    clear ho1 hb1 hX h0 hq hl1
    go_wp2
    go_ret
    rw [H1.out.1]
    exact retOwn H1.out.2.2 H1.out.2.1
end Go.Proofs.Ytmnekhliblkibaa
