/- What Parse tells of the anchor, in memory. -/
import Derived.Test.YtedlpcioegbmfaaDoorPJ
import Derived.Test.YtedlpcioegbmfaaDoorPeTop
namespace Go.Proofs.YtedlpcioegbmfaaDoor
open Go.RowKit
set_option maxRecDepth 100000
set_option linter.unusedVariables false
theorem anchor_facts {C : IV} {lo : Nat} {w : World} (h : ImgOwn (Pe.write (Pe.brought Pe.anchor)) C lo w) :
    C.plus = false ∧ C.headers = 392 ∧ C.length = 16 ∧ ∃ b o c bs os cs A2 c2, C.secs = .slice (some ⟨b, o, none⟩) 2 c ∧ b < w.heap.size ∧ w.cell? ⟨b, o, none⟩ = some (.int .u32 393) ∧ w.cell? ⟨b, o + 2, none⟩ = some (.int .u32 392) ∧ w.cell? ⟨b, o + 2 + 1, none⟩ = some (.int .u32 1) ∧
      C.sigs = .slice (some ⟨bs, os, none⟩) 1 cs ∧ bs < w.heap.size ∧ w.cell? ⟨bs, os, none⟩ = some (.slice A2 2 c2) := by
  have hi := Pe.anchor_read.2
  generalize Pe.write (Pe.brought Pe.anchor) = xs at h hi
  have e0 : Pe.plus xs = false := congrArg Pe.Img.plus hi
  have e3 : Pe.headers xs = 392 := congrArg Pe.Img.headers hi
  have e4 : Pe.secs xs = [(393, 2), (392, 1)] := congrArg Pe.Img.secs hi
  have e6 : (if Pe.bare xs then 0 else Pe.length xs) = 16 := congrArg Pe.Img.length hi
  have e7 : Pe.sigs xs = [[48, 7]] := congrArg Pe.Img.sigs hi
  obtain ⟨n0, n1, n2, n3, n5, n6⟩ := h.nums
  have hs := h.secs
  rw [e4] at hs
  obtain ⟨A, c, hA, hr⟩ := hs.rdS
  obtain ⟨b, o, x, rfl, hb, hx, k0, k1⟩ := hr.get (k := 0) (by simp)
  obtain ⟨b', o', x', e, hb', hx', k2, k3⟩ := hr.get (k := 1) (by simp)
  injection e with e
  injection e with e8 e9
  subst e8 e9
  simp only [List.getElem?_cons_zero, Option.some.injEq] at hx
  simp only [List.getElem?_cons_succ, List.getElem?_cons_zero, Option.some.injEq] at hx'
  subst hx hx'
  obtain ⟨l, hg, hl⟩ := h.sigs
  rw [e7] at hl
  obtain ⟨⟨v, zs⟩, rfl⟩ : ∃ q, l = [q] := by
    have := congrArg List.length hl
    simp at this
    rcases l with _ | ⟨q, _ | ⟨q', l⟩⟩
    · simp at this
    · exact ⟨q, rfl⟩
    · simp at this
  simp only [List.map_cons, List.map_nil, List.cons.injEq, and_true] at hl
  subst hl
  obtain ⟨A2, n2, c2, rfl, hr2⟩ := (hg.own _ (List.mem_singleton.2 rfl)).rd
  have hn2 : n2 = 2 := by have := hr2.len; simpa using this.symm
  subst hn2
  obtain ⟨Ag, cg, hgv, _, _, _, hrd⟩ := hg.row.shape
  obtain ⟨ad, rfl, hbs, hcs⟩ := hrd.2 (by simp)
  have hc0 := hcs 0 (.slice A2 2 c2) (by simp)
  obtain ⟨g, cap, ef, hgl, _⟩ := hg.row.1.form (by simp)
  rw [hgv] at ef
  injection ef with ef _ _
  injection ef with ef
  subst ef
  refine ⟨by rw [n0, e0], by rw [n3, e3], by rw [n6, e6], b, o, c, g, 0, cg, A2, c2, hA, hb, ?_, ?_, ?_, hgv, hbs, ?_⟩
  · simpa using k0
  · simpa using k2
  · simpa using k3
  · rw [Addr.add_lit] at hc0
    simpa using hc0
end Go.Proofs.YtedlpcioegbmfaaDoor
