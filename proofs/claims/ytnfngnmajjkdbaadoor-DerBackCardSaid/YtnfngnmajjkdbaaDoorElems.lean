/- The cells of a list of elements. -/
import Derived.Test.YtnfngnmajjkdbaaDoorAll1
namespace Go.Proofs.YtnfngnmajjkdbaaDoor
open Go.RowKit
set_option maxRecDepth 100000

theorem cells_get : ∀ (l : List EI) (k j : Nat) (x : EI), l[k]? = some x → j < 3 → (l.flatMap EI.cells)[3 * k + j]? = x.cells[j]?
  | [], _, _, _, h, _ => by simp at h
  | y :: l, 0, j, x, h, hj => by
    simp at h
    subst h
    rw [List.flatMap_cons, List.getElem?_append_left (by simp [EI.cells]; omega)]
    simp
  | y :: l, k + 1, j, x, h, hj => by
    simp at h
    rw [List.flatMap_cons, List.getElem?_append_right (by simp [EI.cells]; omega)]
    have := cells_get l k j x h hj
    rw [← this]
    congr 1
    simp [EI.cells]; omega

/-- An element of the list: its three cells, and what its slices read as. -/
theorem OwnE.get {w : World} {lo hi n c : Nat} {A : Option Addr} {l : List EI} (h : OwnE w lo hi (.slice A n c) l) {k : Nat} (hk : k < n) :
    ∃ g t A1 n1 c1 body A2 n2 c2 raw, A = some ⟨g, 0, none⟩ ∧ g < hi ∧ l[k]? = some ⟨t, .slice A1 n1 c1, body, .slice A2 n2 c2, raw⟩ ∧
      w.cell? ⟨g, 3 * k, none⟩ = some (.int .u8 (t.toNat : Int)) ∧ w.cell? ⟨g, 3 * k + 1, none⟩ = some (.slice A1 n1 c1) ∧ w.cell? ⟨g, 3 * k + 2, none⟩ = some (.slice A2 n2 c2) ∧
      Rd w hi A1 n1 c1 body ∧ Rd w hi A2 n2 c2 raw := by
  obtain ⟨A', c', e, _, _, _, hr⟩ := h.1.shape
  injection e with e1 e2 e3
  subst e1 e2 e3
  obtain ⟨g, cap, e, hg, _⟩ := h.1.1.form (by omega)
  injection e with e1 e2 e3
  subst e1
  have hx : l[k]? = some (l[k]) := List.getElem?_eq_getElem hk
  have hm := List.getElem_mem hk
  have hb := h.2.1 (l[k].vb, l[k].body) (List.mem_flatMap.2 ⟨_, hm, by simp [EI.rows]⟩)
  have hw := h.2.1 (l[k].vr, l[k].raw) (List.mem_flatMap.2 ⟨_, hm, by simp [EI.rows]⟩)
  obtain ⟨A1, n1, c1, f1, r1⟩ := hb.rd
  obtain ⟨A2, n2, c2, f2, r2⟩ := hw.rd
  obtain ⟨ad, e, hlt, hcell⟩ := hr.2 (by omega)
  injection e with e
  subst e
  dsimp only at f1 f2 r1 r2
  have c0 := hcell (3 * k + 0) _ ((cells_get l k 0 _ hx (by omega)).trans rfl)
  have c1' := hcell (3 * k + 1) _ ((cells_get l k 1 _ hx (by omega)).trans rfl)
  have c2' := hcell (3 * k + 2) _ ((cells_get l k 2 _ hx (by omega)).trans rfl)
  rw [Addr.add_lit, Nat.zero_add] at c0 c1' c2'
  refine ⟨g, l[k].t, A1, n1, c1, l[k].body, A2, n2, c2, l[k].raw, rfl, hlt, ?_, c0, ?_, ?_, r1, r2⟩
  · rw [hx, ← f1, ← f2]
  · rw [c1', f1]
  · rw [c2', f2]
end Go.Proofs.YtnfngnmajjkdbaaDoor
