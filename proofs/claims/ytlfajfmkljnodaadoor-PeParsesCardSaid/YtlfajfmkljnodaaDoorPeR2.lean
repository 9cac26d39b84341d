/- The reference's reading: begins. -/
import Derived.Test.YtlfajfmkljnodaaDoorPeR1
namespace Go.Proofs.YtlfajfmkljnodaaDoor
open Go.RowKit
set_option maxRecDepth 100000
set_option linter.unusedVariables false
set_option linter.unusedSimpArgs false
theorem beginsR_any (A : Option Addr) (n c p : Nat) (q : Int) (xs t : List UInt8) (w : World) (h : Rd w w.heap.size A n c xs) (hn : n ≤ 1099511627776) (hq : q = (p : Int)) (hp : p ≤ 1099511627776) (ht : t.length ≤ 1000) (s : Value) (hs : s = .string ⟨t.toArray⟩) :
    Calls Tryd.prog 28 #[.slice A n c, .int .i64 q, s] w fun e w' => e = .returned (.bool (Pe.inb xs p t.length && eqB ((xs.drop p).take t.length) t)) ∧ Below w.heap.size w w' := by
  subst hq hs
  have hc := cutR_any A n c p t.length p t.length xs w h hn rfl rfl hp (by omega)
  obtain ⟨b, hb⟩ : ∃ b, Pe.inb xs p t.length = b := ⟨_, rfl⟩
  obtain ⟨m, hm⟩ : ∃ m, t.length = m := ⟨_, rfl⟩
  have hsz : (ByteArray.mk t.toArray).size = m := by rw [← hm]; rfl
  have hz2 : (t.toArray).size = m := by rw [← hm]; simp
  rw [hb] at hc
  rw [hb]
  rw [hm] at hc ⊢
  have H := Lib.hid hc
  clear hc h hb
  cases b
  · go_enter Tryd.func28, Tryd.ntmps28
    go_wp2_with fail
    refine H.out.mono ?_
    rintro e w1 ⟨A1, n1, c1, rfl, _, hb1⟩
    have H1 := Lib.hid hb1
    clear hb1
    go_wp2_with fail
    go_ret
    exact ⟨by simp, H1.out⟩
  · simp only [if_true] at H
    go_enter Tryd.func28, Tryd.ntmps28
    go_wp2_with fail
    refine H.out.mono ?_
    rintro e w1 ⟨A1, n1, c1, rfl, ho1, hb1⟩
    obtain ⟨_, _, _, e1, hr1⟩ := ho1.rd
    injection e1 with q1 q2 q3
    subst q1 q2 q3
    have hs1 := run_string hr1 9 Tryd.underlying9
    have H1 := Lib.hid hb1
    clear hb1 ho1 hr1
    go_wp2_with fail
    go_ret
    exact ⟨by simp [eqB], H1.out⟩
end Go.Proofs.YtlfajfmkljnodaaDoor
