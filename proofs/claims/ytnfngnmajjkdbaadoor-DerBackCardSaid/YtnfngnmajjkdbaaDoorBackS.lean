/- Plain laws of DerBack: elements one behind the other, in whatever order. -/
import Derived.Test.YtnfngnmajjkdbaaDoorEach
import Derived.Test.YtnfngnmajjkdbaaDoorPlain2
import Derived.Test.YtnfngnmajjkdbaaDoorSetP
namespace Go.Proofs.YtnfngnmajjkdbaaDoor

/-- An element, whatever stands behind it. -/
def GoodEl (x : UInt8 × List UInt8 × List UInt8) : Prop := ∀ m, Der.elem (x.2.2 ++ m) = some (x.1, x.2.1, x.2.2, m)
theorem good_of {xs : List UInt8} {t : UInt8} {b r rest : List UInt8} (h : Der.elem xs = some (t, b, r, rest)) : GoodEl (t, b, r) := by
  obtain ⟨rfl, _, h3, h4⟩ := Der.elem_inv h
  intro m
  rw [Der.elem_write t b m h4, if_neg h3]
theorem seq_good : ∀ (l : List (UInt8 × List UInt8 × List UInt8)), (∀ x ∈ l, GoodEl x) → Der.seq ((l.map (·.2.2)).flatten) = l.map some
  | [], _ => seq_nil
  | (t, b, r) :: l, h => by
    have ih := seq_good l fun x hx => h x (List.mem_cons_of_mem _ hx)
    have hx := h _ (List.mem_cons_self ..) ((l.map (·.2.2)).flatten)
    have hne : r ++ (l.map (·.2.2)).flatten ≠ [] := fun e => by
      dsimp only at hx
      rw [e] at hx
      cases hx
    rw [List.map_cons, List.flatten_cons, seq_some hne hx, ih]
    rfl
theorem good_all : ∀ (k : Nat) (xs : List UInt8) (l : List (UInt8 × List UInt8 × List UInt8)), xs.length ≤ k → Der.seq xs = l.map some → ∀ x ∈ l, GoodEl x
  | k, xs, l, hk, h => by
    by_cases hx : xs = []
    · subst hx
      rw [seq_nil] at h
      have : l = [] := by simpa using h.symm
      subst this
      intro x hx
      cases hx
    · cases he : Der.elem xs with
      | none =>
        rw [seq_none hx he] at h
        cases l with
        | nil => cases h
        | cons y l => simp at h
      | some q =>
        obtain ⟨t, b, r, rest⟩ := q
        rw [seq_some hx he] at h
        cases l with
        | nil => cases h
        | cons y l =>
          simp only [List.map_cons, List.cons.injEq, Option.some.injEq] at h
          obtain ⟨rfl, h⟩ := h
          have hr := elem_rest he
          cases k with
          | zero => omega
          | succ k =>
            have ih := good_all k rest l (by omega) h
            intro x hm
            rcases List.mem_cons.1 hm with rfl | hm
            · exact good_of he
            · exact ih x hm
end Go.Proofs.YtnfngnmajjkdbaaDoor
