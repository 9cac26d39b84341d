/- Joined of: PeWorks0 PeWorks1. -/
import Derived.Test.YtmpladnglfiejaaGreatDoorPC
import Derived.Test.YtmpladnglfiejaaGreatDoorPE
import Derived.Test.YtmpladnglfiejaaGreatDoorPD
import Derived.Test.YtmpladnglfiejaaGreatDoorPA
section
/- What Brought keeps, and what the anchor says. -/
namespace Go.Proofs.YtmpladnglfiejaaGreatDoor.Pe
def anchor : Shape := { plus := false, stub := [], fill := [], bodies := [[1, 2], [3]], order := [1], behind := [], sigs := [[7]] }
theorem brought_ok (s : Shape) : (brought s).Ok := by
  have hb : ∀ b ∈ (brought s).bodies, b.length ≤ 300 := by
    intro b hb
    simp only [brought] at hb
    split at hb
    · simp at hb; subst hb; simp
    · obtain ⟨c, _, rfl⟩ := List.mem_map.1 hb
      simp only [List.length_take]; omega
  have h1 : 1 ≤ (brought s).bodies.length ∧ (brought s).bodies.length ≤ 10 := by
    simp only [brought]
    split
    · simp
    · rename_i h
      have : 0 < s.bodies.length := by rcases hs : s.bodies with _ | ⟨a, l⟩; · exact absurd hs h
                                       · simp
      simp only [List.length_map, List.length_take]; omega
  refine ⟨?_, ?_, h1.1, h1.2, hb, ?_, ?_, ?_⟩
  · simp only [brought, List.length_take]; omega
  · simp only [brought, List.length_take]; omega
  · simp only [brought, List.length_take]; omega
  · simp only [brought, List.length_map, List.length_take]; omega
  · intro b hb
    simp only [brought] at hb
    obtain ⟨c, _, rfl⟩ := List.mem_map.1 hb
    simp only [List.length_cons, List.length_take]; omega
theorem anchor_secs : (brought anchor).secs = [(393, 2), (392, 1)] := by decide +kernel
theorem anchor_img : (brought anchor).img = ⟨false, 152, 216, 392, [(393, 2), (392, 1)], 400, 16, [[48, 7]]⟩ := by
  unfold Shape.img
  rw [anchor_secs, show (brought anchor).opt + 64 = 152 from by decide +kernel, show (brought anchor).table - 96 = 216 from by decide +kernel, show (brought anchor).headers = 392 from by decide +kernel, show (brought anchor).from_ = 400 from by decide +kernel, show (sigTable (brought anchor).sigs).length = 16 from by decide +kernel]
  rfl
theorem anchor_read : err (write (brought anchor)) = 0 ∧ img (write (brought anchor)) = ⟨false, 152, 216, 392, [(393, 2), (392, 1)], 400, 16, [[48, 7]]⟩ := by
  have h := Shape.parse_ _ (brought_ok anchor)
  have h1 := (Shape.read _ (brought_ok anchor)).2.1
  rw [anchor_img] at h1 h
  refine ⟨?_, h1⟩
  have h2 := congrArg Prod.fst h
  simpa [parse, brought, anchor] using h2
theorem nil_err : err [] = 9 := by decide +kernel
theorem order_len (s : Shape) : (brought s).order.length ≤ 1000 := by simp only [brought, List.length_take]; omega
end Go.Proofs.YtmpladnglfiejaaGreatDoor.Pe
end

section
/- The anchor's shape, written out. -/
namespace Go.Proofs.YtmpladnglfiejaaGreatDoor
open Go.RowKit
set_option linter.unusedVariables false
set_option linter.unusedSimpArgs false
set_option maxRecDepth 100000
theorem rdv_up {W W' : World} {v : Value} {xs : List UInt8} (h : RdV W W.heap.size v xs) (hb : Below W.heap.size W W') : RdV W' W'.heap.size v xs := (h.keep fun p hp => hb.cell hp).more hb.size
theorem rdlv_up {W W' : World} {v : Value} {xs : List (List UInt8)} (h : RdLV W W.heap.size v xs) (hb : Below W.heap.size W W') : RdLV W' W'.heap.size v xs := (h.keep fun p hp => hb.cell hp).more hb.size
theorem below_one (W : World) (o : Obj) : Below W.heap.size W (W.alloc o) := (Below.refl _ _).alloc (Nat.le_refl _) _
theorem rdv_lit (W : World) (xs : List UInt8) (cs : Array Value) (g n : Nat) (hg : g = W.heap.size) (hc : cs = (xs.map bv).toArray) (hl : xs.length = n) (hn : n ≤ 1000) : RdV (W.alloc (.cells cs 5)) (W.alloc (.cells cs 5)).heap.size (.slice (some ⟨g, 0, none⟩) n n) xs := by
  subst hc
  exact RdV.mk (Rd.lit W 5 xs _ g n hg rfl hl (by omega))
theorem rdv_nil (W : World) (B : Nat) : RdV W B (.slice none 0 0) [] := RdV.mk ⟨rfl, Nat.le_refl _, by omega, fun _ => rfl, fun h => absurd h (by omega), ⟨rfl, fun h => absurd h (by omega)⟩⟩
theorem anchor_sh {w w1 w2 w3 w4 w5 w6 : World} (h1 : w1 = w.alloc (.cells #[.int .u8 1, .int .u8 2] 5)) (h2 : w2 = w1.alloc (.cells #[.int .u8 3] 5))
    (h3 : w3 = w2.alloc (.cells #[.slice (some ⟨w.heap.size, 0, none⟩) 2 2, .slice (some ⟨w.heap.size + 1, 0, none⟩) 1 1] 22)) (h4 : w4 = w3.alloc (.cells #[.int .i64 1] 3))
    (h5 : w5 = w4.alloc (.cells #[.int .u8 7] 5)) (h6 : w6 = w5.alloc (.cells #[.slice (some ⟨w.heap.size + 1 + 1 + 1 + 1, 0, none⟩) 1 1] 22)) :
    ShRd w6 w6.heap.size ⟨false, .slice none 0 0, .slice none 0 0, .slice (some ⟨w.heap.size + 1 + 1, 0, none⟩) 2 2, .slice (some ⟨w.heap.size + 1 + 1 + 1, 0, none⟩) 1 1, .slice none 0 0, .slice (some ⟨w.heap.size + 1 + 1 + 1 + 1 + 1, 0, none⟩) 1 1⟩ Pe.anchor := by
  have s1 : w1.heap.size = w.heap.size + 1 := by rw [h1]; simp
  have s2 : w2.heap.size = w.heap.size + 1 + 1 := by rw [h2, World.size_alloc, s1]
  have s3 : w3.heap.size = w.heap.size + 1 + 1 + 1 := by rw [h3, World.size_alloc, s2]
  have s4 : w4.heap.size = w.heap.size + 1 + 1 + 1 + 1 := by rw [h4, World.size_alloc, s3]
  have s5 : w5.heap.size = w.heap.size + 1 + 1 + 1 + 1 + 1 := by rw [h5, World.size_alloc, s4]
  have b12 : Below w1.heap.size w1 w2 := by rw [h2]; exact below_one _ _
  have b34 : Below w3.heap.size w3 w4 := by rw [h4]; exact below_one _ _
  have b45 : Below w4.heap.size w4 w5 := by rw [h5]; exact below_one _ _
  have b56 : Below w5.heap.size w5 w6 := by rw [h6]; exact below_one _ _
  have r1 : RdV w2 w2.heap.size (.slice (some ⟨w.heap.size, 0, none⟩) 2 2) [1, 2] := by
    refine rdv_up ?_ b12
    rw [h1]; exact rdv_lit w [1, 2] _ _ 2 rfl rfl rfl (by omega)
  have r2 : RdV w2 w2.heap.size (.slice (some ⟨w.heap.size + 1, 0, none⟩) 1 1) [3] := by
    rw [h2]; exact rdv_lit w1 [3] _ _ 1 s1.symm rfl rfl (by omega)
  have rb : RdLV w3 w3.heap.size (.slice (some ⟨w.heap.size + 1 + 1, 0, none⟩) 2 2) [[1, 2], [3]] := by
    have := RdL.lit w2 22 [(.slice (some ⟨w.heap.size, 0, none⟩) 2 2, [1, 2]), (.slice (some ⟨w.heap.size + 1, 0, none⟩) 1 1, [3])] _ (w.heap.size + 1 + 1) 2 s2.symm rfl rfl (by omega) (fun v xs hm => by
      simp only [List.mem_cons, List.not_mem_nil, or_false, Prod.mk.injEq] at hm
      rcases hm with ⟨rfl, rfl⟩ | ⟨rfl, rfl⟩
      · exact r1
      · exact r2)
    rw [h3]
    exact ⟨_, _, _, _, rfl, this, rfl⟩
  have ri : RdI w4 w4.heap.size (some ⟨w.heap.size + 1 + 1 + 1, 0, none⟩) 1 1 [1] := by
    refine ⟨rfl, Nat.le_refl _, by omega, fun _ => ⟨_, 0, rfl, by omega⟩, ?_⟩
    rw [h4]
    exact reads_block w3 3 [.int .i64 1] _ s3.symm
  have r7 : RdV w5 w5.heap.size (.slice (some ⟨w.heap.size + 1 + 1 + 1 + 1, 0, none⟩) 1 1) [7] := by
    rw [h5]; exact rdv_lit w4 [7] _ _ 1 s4.symm rfl rfl (by omega)
  have rs : RdLV w6 w6.heap.size (.slice (some ⟨w.heap.size + 1 + 1 + 1 + 1 + 1, 0, none⟩) 1 1) [[7]] := by
    have := RdL.lit w5 22 [(.slice (some ⟨w.heap.size + 1 + 1 + 1 + 1, 0, none⟩) 1 1, [7])] _ (w.heap.size + 1 + 1 + 1 + 1 + 1) 1 s5.symm rfl rfl (by omega) (fun v xs hm => by
      simp only [List.mem_cons, List.not_mem_nil, or_false, Prod.mk.injEq] at hm
      obtain ⟨rfl, rfl⟩ := hm
      exact r7)
    rw [h6]
    exact ⟨_, _, _, _, rfl, this, rfl⟩
  exact ⟨rfl, rdv_nil _ _, rdv_nil _ _, rdlv_up (rdlv_up (rdlv_up rb b34) b45) b56, ⟨_, _, _, rfl, ((ri.keep fun p hp => b45.cell hp).more b45.size).keep (fun p hp => b56.cell hp) |>.more b56.size⟩, rdv_nil _ _, rs⟩
end Go.Proofs.YtmpladnglfiejaaGreatDoor
end
