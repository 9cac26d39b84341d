/- What the layer der computes, in plain Lean: no program in sight. -/
import Derived.WalkKit
namespace Go.Proofs.YtnfngnmajjkdbaaDoor
namespace Der

def be (l : List UInt8) : Nat := l.foldl (fun a x => a * 256 + x.toNat) 0
theorem be_nil : be [] = 0 := rfl
theorem be_snoc (l : List UInt8) (x : UInt8) : be (l ++ [x]) = be l * 256 + x.toNat := by simp [be, List.foldl_append]
theorem be_lt (l : List UInt8) : be l < 256 ^ l.length := by
  have key : ∀ (l : List UInt8) (a k : Nat), a < 256 ^ k → l.foldl (fun a x => a * 256 + x.toNat) a < 256 ^ (k + l.length) := by
    intro l
    induction l with
    | nil => intro a k h; simpa using h
    | cons x l ih =>
      intro a k h
      have hx := x.toNat_lt
      have := ih (a * 256 + x.toNat) (k + 1) (by rw [Nat.pow_succ]; omega)
      simp only [List.foldl_cons, List.length_cons]
      rw [show k + (l.length + 1) = k + 1 + l.length from by omega]
      exact this
  simpa [be] using key l 0 0 (by simp)

/-- Where a body begins and how long it is: by the length alone. -/
def lenOf : List UInt8 → Option (Nat × Nat)
  | _ :: l :: r =>
    if l.toNat < 128 then some (2, l.toNat)
    else if l.toNat = 128 ∨ 132 < l.toNat ∨ r.length < l.toNat - 128 ∨ r.headD 0 = 0 then none
    else if be (r.take (l.toNat - 128)) < 128 then none
    else some (2 + (l.toNat - 128), be (r.take (l.toNat - 128)))
  | _ => none
def tagBad (xs : List UInt8) : Bool := (xs.headD 0).toNat % 32 == 31
def hdr (xs : List UInt8) : Option (Nat × Nat) := if tagBad xs then none else lenOf xs

theorem lenOf_bd {xs : List UInt8} {f n : Nat} (h : lenOf xs = some (f, n)) : 2 ≤ f ∧ f ≤ 6 ∧ f ≤ xs.length ∧ n < 4294967296 := by
  match xs, h with
  | [], h => cases h
  | [_], h => cases h
  | t :: l :: r, h =>
    have hl := l.toNat_lt
    have hb := be_lt (r.take (l.toNat - 128))
    have hk : (r.take (l.toNat - 128)).length ≤ 4 → 256 ^ (r.take (l.toNat - 128)).length ≤ 256 ^ 4 := fun h => Nat.pow_le_pow_right (by omega) h
    simp only [List.length_take] at hb hk
    simp only [lenOf] at h
    by_cases h1 : l.toNat < 128
    · rw [if_pos h1] at h
      simp only [Option.some.injEq, Prod.mk.injEq] at h
      simp only [List.length_cons]
      omega
    · rw [if_neg h1] at h
      by_cases h2 : l.toNat = 128 ∨ 132 < l.toNat ∨ r.length < l.toNat - 128 ∨ r.headD 0 = 0
      · rw [if_pos h2] at h; cases h
      · rw [if_neg h2] at h
        by_cases h3 : be (r.take (l.toNat - 128)) < 128
        · rw [if_pos h3] at h; cases h
        · rw [if_neg h3] at h
          simp only [Option.some.injEq, Prod.mk.injEq] at h
          simp only [List.length_cons]
          have := hk (by omega)
          omega

/-- The element with which bytes begin: tag, body, raw, rest. -/
def elem (xs : List UInt8) : Option (UInt8 × List UInt8 × List UInt8 × List UInt8) :=
  match hdr xs with
  | some (f, n) => if n ≤ xs.length - f then some (xs.headD 0, (xs.take (f + n)).drop f, xs.take (f + n), xs.drop (f + n)) else none
  | none => none
end Der
end Go.Proofs.YtnfngnmajjkdbaaDoor
