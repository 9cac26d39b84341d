/- append of 'make([]byte, m)' onto a row of bytes of the call's own. -/
import Derived.Test.YtadkiildjehdmaaBase
namespace Go.Proofs.Ytadkiildjehdmaa
open Go.RowKit
set_option maxRecDepth 100000

theorem zeroCells_u8 (m : Nat) : (Builtin.zeroCells (Value.int .u8 0).cells m).toList = (List.replicate m (0 : UInt8)).map bv := by
  apply List.ext_getElem
  · simp [Builtin.zeroCells, Value.cells]
  · intro i h1 h2
    simp [Builtin.zeroCells, Value.cells, bv, Nat.mod_one]

theorem app_zeros (w : World) (ty : TypeId) (lo hi g n cap : Nat) (xs : List UInt8) (h : OwnB w lo hi (.slice (some ⟨g, 0, none⟩) n cap) xs) (hlo : lo ≤ w.heap.size) (m : Nat) (hm : n + m ≤ 35184372088832) :
    ∃ A1 c1 w', (Builtin.append_ #[22, 3] ty #[.slice (some ⟨g, 0, none⟩) n cap, .int .i64 (m : Int)]).run Try.prog w = .ok (.slice A1 (n + m) c1) w' ∧
      OwnB w' lo w'.heap.size (.slice A1 (n + m) c1) (xs ++ List.replicate m 0) ∧ Below lo w w' := by
  obtain ⟨i0, hi0, hz0, hz1, hz2⟩ := info_parts u8_info
  have ht := Try.underlying22
  have htn := Try.underlying3
  have hw : IntKind.i64.wrap (m : Int) = m := by rw [IntKind.wrap_i64]; omega
  have hneg : ¬ ((m : Int) < 0) := by omega
  have h48i : ¬ (281474976710656 < (m : Int)) := by omega
  have hl : xs.length = n := by
    obtain ⟨_, _, _, e, hr⟩ := h.rd
    injection e with e1 e2 e3
    rw [e2]; exact hr.len
  subst hl
  rcases h.1.2 with ⟨e, _⟩ | ⟨g', cap', cur, e, hb, hg, hnc, hcm, hcs, htake⟩
  · cases e
  simp only [Value.slice.injEq, Option.some.injEq, Addr.mk.injEq] at e
  obtain ⟨⟨rfl, _, _⟩, _, rfl⟩ := e
  have hzl := zeroCells_u8 m
  have hlen : (xs ++ List.replicate m 0).length = xs.length + m := by simp
  have hown : ∀ (W : World) (A1 : Option Addr) (c1 : Nat), W.ownsRow lo 5 1 (.slice A1 (xs.length + m) c1) (xs.length + m) ((xs ++ List.replicate m 0).map bv) → OwnB W lo W.heap.size (.slice A1 (xs.length + m) c1) (xs ++ List.replicate m 0) := by
    intro W A1 c1 ho
    exact OwnB.of (n := xs.length + m) ho
  by_cases hroom : xs.length + m ≤ cap
  · have hfit : xs.length + (Builtin.zeroCells (Value.int .u8 0).cells m).toList.length ≤ cur.size := by rw [hzl, hcs]; simp; omega
    have hst := run_storeCells_at Try.prog g xs.length 5 (Builtin.zeroCells (Value.int .u8 0).cells m).toList 0 cur w hg (by simpa using hfit) (by rw [hzl]; exact bv_one _)
    simp only [Nat.add_zero] at hst
    have hrow : World.ownsRow (w.setRow g (cur.toList.take xs.length ++ (Builtin.zeroCells (Value.int .u8 0).cells m).toList ++ cur.toList.drop (xs.length + (Builtin.zeroCells (Value.int .u8 0).cells m).toList.length)).toArray) lo 5 1 (.slice (some ⟨g, 0, none⟩) (xs.length + m) cap) (xs.length + m) ((xs ++ List.replicate m 0).map bv) := by
      refine ⟨by simp, .inr ⟨g, cap, _, rfl, hb, setRow_heap w g cur _ 5 _ hg, hroom, hcm, ?_, ?_⟩⟩
      · rw [hzl] at hfit ⊢
        simp only [List.size_toArray, List.length_append, List.length_take, List.length_drop, Array.length_toList, List.length_map, List.length_replicate] at hfit ⊢
        omega
      · rw [Nat.mul_one] at htake
        rw [htake, hzl, List.map_append, Nat.mul_one]
        rw [List.take_left' (by simp)]
    have hbel : Below lo w (w.setRow g (cur.toList.take xs.length ++ (Builtin.zeroCells (Value.int .u8 0).cells m).toList ++ cur.toList.drop (xs.length + (Builtin.zeroCells (Value.int .u8 0).cells m).toList.length)).toArray) :=
      ⟨rfl, rfl, rfl, by simp [World.setRow], fun k hk => setRow_other w g k _ (by omega)⟩
    refine ⟨_, _, _, ?_, hown _ _ _ hrow, hbel⟩
    rcases Nat.eq_zero_or_pos m with h0 | h0
    · subst h0
      have hz : (Builtin.zeroCells (Value.int .u8 0).cells 0).toList = [] := by simp [hzl]
      rw [hz] at hst
      rw [hz]
      have hw0 : IntKind.i64.wrap 0 = 0 := by decide
      simp only [Nat.add_zero] at hroom
      simp at hst
      simp [Builtin.append_, run_underlying ht, run_underlying htn, sizeOf, typeInfo, zeroValue, hi0, hz0, hz1, hz2, asInt, asIntOf, hw0, hroom, Addr.add_lit, hst]
    · have hns : ¬ (m = 0) := by omega
      simp [Builtin.append_, run_underlying ht, run_underlying htn, sizeOf, typeInfo, zeroValue, hi0, hz0, hz1, hz2, asInt, asIntOf, hw, hneg, hroom, hns, h48i, Addr.add_lit, hst]
  · have hns : ¬ (m = 0) := by omega
    have hge := grownCap_ge w (xs.length + m) cap 5
    have hcm' : grownCap w (xs.length + m) cap 5 ≤ maxLen := grownCap_le_maxLen w (xs.length + m) cap 5 (by simp only [maxLen]; omega)
    have h48' : ¬ (281474976710656 < Builtin.nextslicecap (xs.length + m) cap) := by
      have := growslice_fits (need := xs.length + m) (old := cap) (bytes := 1) (by omega) (by omega)
      omega
    have h63' : ¬ (9223372036854775807 < ((xs.length : Int) + (m : Int))) := by omega
    have holds : ∀ j u, (xs.map bv)[j]? = some u → w.drew.cell? ((⟨g, 0, none⟩ : Addr).add j) = some u := fun j u hu => h.1.cells (g := g) rfl j u hu
    have hfo := run_firstCells_some (P := Try.prog) w.drew 1 xs.length ⟨g, 0, none⟩ xs.length cap (xs.map bv) (by simp) holds
    have hrow : World.ownsRow (w.drew.alloc (.cells ((xs.map bv).toArray ++ Builtin.zeroCells (Value.int .u8 0).cells m ++ Builtin.zeroCells (Value.int .u8 0).cells (grownCap w (xs.length + m) cap 5 - (xs.length + m))) 5)) lo 5 1
        (.slice (some ⟨w.heap.size, 0, none⟩) (xs.length + m) (grownCap w (xs.length + m) cap 5)) (xs.length + m) ((xs ++ List.replicate m 0).map bv) := by
      refine ⟨by simp, .inr ⟨w.heap.size, _, _, rfl, hlo, heap_alloc_new w.drew _, hge, hcm', ?_, ?_⟩⟩
      · simp only [Array.size_append, List.size_toArray, List.length_map, size_zeroCells, Value.cells]
        simp
        omega
      · simp only [Array.toList_append, hzl, List.map_append, Nat.mul_one]
        rw [List.take_left' (by simp)]
    refine ⟨_, _, _, ?_, hown _ _ _ hrow, (Below.refl _ _).drew.alloc hlo _⟩
    simp [Builtin.append_, run_underlying ht, run_underlying htn, sizeOf, typeInfo, zeroValue, hi0, hz0, hz1, hz2, asInt, asIntOf, hw, hneg, hroom, hns, h48i, h63', h48', Question.forced, hfo, newRow, grownCap]
end Go.Proofs.Ytadkiildjehdmaa
