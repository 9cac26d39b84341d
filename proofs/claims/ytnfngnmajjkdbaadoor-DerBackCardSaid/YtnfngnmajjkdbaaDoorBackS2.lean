/- Plain laws of DerBack: elements in their order are a set. -/
import Derived.Test.YtnfngnmajjkdbaaDoorBackS
import Derived.Test.YtnfngnmajjkdbaaDoorAlls1
namespace Go.Proofs.YtnfngnmajjkdbaaDoor

theorem chain_ord : ∀ (l : List (UInt8 × List UInt8 × List UInt8)) (last : List UInt8), Ord (last :: l.map (·.2.2)) → Der.chain last (l.map some) = true
  | [], _, _ => rfl
  | (t, b, r) :: l, last, h => by
    have h' := List.pairwise_cons.1 h
    have h1 := h'.1 r (by simp)
    have ih := chain_ord l r h'.2
    simp only [List.map_cons, Der.chain, h1, ih, Bool.not_false, Bool.and_self]
theorem chain_sorted (l : List (UInt8 × List UInt8 × List UInt8)) (h : Ord (l.map (·.2.2))) : Der.chain [] (l.map some) = true :=
  chain_ord l [] (List.pairwise_cons.2 ⟨fun r _ => Der.less_nil r, h⟩)
end Go.Proofs.YtnfngnmajjkdbaaDoor
