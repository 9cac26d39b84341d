/- The contracts of the reference's sevens and PutOid. -/
import Derived.Test.YtmnekhliblkibaaLawOps2
namespace Go.Proofs.Ytmnekhliblkibaa
open Go.RowKit
set_option maxRecDepth 100000
set_option linter.unusedVariables false
set_option linter.unusedSimpArgs false

/-- A store into a row of bytes of the call's own. -/
theorem OwnB.put {w : World} {lo hi g n c : Nat} {xs : List UInt8} (h : OwnB w lo hi (.slice (some ⟨g, 0, none⟩) n c) xs) (i : Nat) (y : UInt8) : OwnB (w.setCell ⟨g, i, none⟩ (bv y)) lo hi (.slice (some ⟨g, 0, none⟩) n c) (xs.set i y) := by
  obtain ⟨h1, h2⟩ := h
  obtain ⟨h4, ⟨e, _⟩ | ⟨g', cap, cur, e, hb, hg, hn, hm, hs, ht⟩⟩ := h1
  · cases e
  injection e with e1 e2 e3
  injection e1 with e1
  injection e1 with e1
  subst e1 e3
  have hB : Blk w g 5 cur := hg
  refine ⟨⟨by simp, .inr ⟨g, c, cur.setIfInBounds i (bv y), ?_, hb, hB.set_ i _, ?_, hm, by simpa using hs, ?_⟩⟩, h2⟩
  · simp only [List.length_set]
    rw [← e2]
  · simp only [List.length_set]
    exact hn
  · rw [Array.toList_setIfInBounds, List.length_set, Nat.mul_one, List.take_set]
    rw [Nat.mul_one] at ht
    rw [ht, List.map_set]
theorem OwnB.head {w : World} {lo hi n c : Nat} {A : Option Addr} {xs : List UInt8} (h : OwnB w lo hi (.slice A n c) xs) (hn : 0 < n) : ∃ g, A = some ⟨g, 0, none⟩ ∧ lo ≤ g ∧ g < hi ∧ ∀ i, i < n → w.cell? ⟨g, i, none⟩ = (xs.map bv)[i]? ∧ w.frozen? ⟨g, i, none⟩ = false := by
  obtain ⟨h1, h2⟩ := h
  obtain ⟨h4, ⟨e, _⟩ | ⟨g', cap, cur, e, hb, hg, hn', hm, hs, ht⟩⟩ := h1
  · injection e with e1 e2 e3
    omega
  injection e with e1 e2 e3
  subst e1 e2 e3
  have hB : Blk w g' 5 cur := hg
  refine ⟨g', rfl, hb, h2 g' rfl, fun i hi => ⟨?_, hB.frozen i⟩⟩
  rw [hB.cell i, ← ht, List.getElem?_take, if_pos (by omega)]
  simp
theorem sev_lt {x : Nat} (h : x < 128) : Der.sev x = [UInt8.ofNat x] := by
  unfold Der.sev Der.sevL
  rw [show x / 128 = 0 by omega, Der.sevT_zero, Nat.mod_eq_of_lt h]
  rfl
theorem sev_pend (x : Nat) : Der.sev x = Der.pend (x / 128) ++ [UInt8.ofNat (x % 128)] := by
  unfold Der.sev Der.sevL Der.pend
  rw [List.reverse_cons]
theorem pend_pos {n : Nat} (h : 0 < n) : Der.pend n = Der.pend (n / 128) ++ [UInt8.ofNat (128 + n % 128)] := by
  unfold Der.pend
  rw [Der.sevT_pos h, List.reverse_cons]
theorem sev_up {x : Nat} (h : 128 ≤ x) : Der.sev x = (Der.sev (x / 128)).set ((Der.sev (x / 128)).length - 1) (UInt8.ofNat (128 + (x / 128) % 128)) ++ [UInt8.ofNat (x % 128)] := by
  have hp : 0 < x / 128 := by omega
  rw [sev_pend x, pend_pos hp, sev_pend (x / 128)]
  congr 1
  rw [List.length_append, List.length_singleton, Nat.add_sub_cancel, List.set_append_right _ _ (Nat.le_refl _), Nat.sub_self]
  rfl
theorem pend_le : ∀ (k n : Nat), n < 128 ^ k → (Der.pend n).length ≤ k
  | 0, n, h => by
    have : n = 0 := by simpa using h
    subst this
    rw [Der.pend_zero]
    simp
  | k + 1, n, h => by
    rcases Nat.eq_zero_or_pos n with h0 | h0
    · subst h0; rw [Der.pend_zero]; simp
    · rw [pend_pos h0, List.length_append, List.length_singleton]
      have := pend_le k (n / 128) (by rw [Nat.pow_succ] at h; omega)
      omega
theorem sev_ten (n : Nat) (h : n < 18446744073709551616) : 0 < (Der.sev n).length ∧ (Der.sev n).length ≤ 10 := by
  have := pend_le 9 (n / 128) (by rw [show 128 ^ 9 = 9223372036854775808 from rfl]; omega)
  rw [sev_pend, List.length_append, List.length_singleton]
  omega
set_option maxHeartbeats 2000000
theorem sevens_any : ∀ (x : Nat) (w : World), x < 18446744073709551616 → Calls Try.prog 58 #[.int .u64 (x : Int)] w (RetOwn (Der.sev x) w) := by
  intro x
  induction x using Nat.strongRecOn with
  | ind x ih =>
    intro w hx
    by_cases h : x < 128
    · have h' : (x : Int) < 128 := by omega
      have hs := sev_lt h
      have hl := World.ownsRow_lit (e := 5) (base := w.heap.size) (size := 1) w #[.int .u8 (x : Int)] 1 (Nat.le_refl _) (by simp [maxLen]) rfl
      have hb : bv (UInt8.ofNat x) = .int .u8 (x : Int) := by
        simp only [bv, UInt8.toNat_ofNat']
        rw [Nat.mod_eq_of_lt (by omega)]
      have ho : OwnB (w.alloc (.cells #[.int .u8 (x : Int)] 5)) w.heap.size (w.alloc (.cells #[.int .u8 (x : Int)] 5)).heap.size (.slice (some ⟨w.heap.size, 0, none⟩) 1 1) (Der.sev x) := by
        rw [hs]
        refine OwnB.of (n := 1) ?_
        rw [List.map_singleton, hb]
        exact hl
      have HO := Lib.hid ho
      clear ih hs hl hb ho h
      go_enter Try.func58, Try.ntmps58
      go_wp2
      go_ret
      exact retOwn HO.out ((Below.refl _ _).alloc (Nat.le_refl _) _)
    · have h' : ¬ (x : Int) < 128 := by omega
      have HI := Lib.hid (fun W => ih (x / 128) (by omega) W (by omega))
      have hup := sev_up (x := x) (by omega)
      have hten := sev_ten (x / 128) (by omega)
      have hlast : (Der.sev (x / 128))[(Der.sev (x / 128)).length - 1]? = some (UInt8.ofNat (x / 128 % 128)) := by
        rw [sev_pend (x / 128), List.length_append, List.length_singleton, Nat.add_sub_cancel, List.getElem?_append_right (Nat.le_refl _), Nat.sub_self]
        rfl
      have e0 : ((x / 128 : Nat) : Int) = (x : Int) / 128 := by omega
      rw [e0] at HI
      clear ih e0
      go_enter Try.func58, Try.ntmps58
      go_wp2_with fail
      refine (HI.out w).mono ?_
      rintro en w1 ⟨A1, n1, c1, rfl, ho1, hb1⟩
      dsimp only
      have hl1 := ownB_len ho1
      obtain ⟨m, rfl⟩ : ∃ m, n1 = m + 1 := ⟨n1 - 1, by omega⟩
      rw [hl1, Nat.add_sub_cancel] at hup hlast
      obtain ⟨g, rfl, hlg, hgw, hcf⟩ := ho1.head (by omega)
      obtain ⟨q, hq⟩ : ∃ q, x / 128 % 128 = q := ⟨_, rfl⟩
      have hq1 : (q : Int) < 128 := by omega
      rw [hq] at hup hlast
      have hbq : ∀ z : Nat, z < 256 → bv (UInt8.ofNat z) = .int .u8 (z : Int) := fun z hz => by
        simp only [bv, UInt8.toNat_ofNat']
        rw [Nat.mod_eq_of_lt (by omega)]
      have kc : w1.cell? ⟨g, m, none⟩ = some (.int .u8 (q : Int)) := by
        rw [(hcf m (by omega)).1, List.getElem?_map, hlast, ← hbq q (by omega)]
        rfl
      have kf := (hcf m (by omega)).2
      have hp1 := ho1.put m (UInt8.ofNat (128 + q))
      rw [hbq (128 + q) (by omega)] at hp1
      have hv : (((128 + q : Nat) : Int)) = (q : Int) + 128 := by omega
      rw [hv] at hp1
      have hb2 : Below w.heap.size w (w1.setCell ⟨g, m, none⟩ (.int .u8 ((q : Int) + 128))) := hb1.setCell (show w.heap.size ≤ g from hlg) _
      obtain ⟨w2, hw2⟩ : ∃ w2, w2 = w1.setCell ⟨g, m, none⟩ (.int .u8 ((q : Int) + 128)) := ⟨_, rfl⟩
      rw [← hw2] at hp1 hb2
      have hs2 : w2.heap.size = w1.heap.size := by rw [hw2]; simp
      have H2 := Lib.hid (And.intro hp1 (And.intro hb2 hup))
      have hm10 : (m : Int) ≤ 9 := by omega
      have hwm : wrap64 (m : Int) = m := by unfold wrap64; omega
      clear hp1 hb2 hup hlast hcf ho1 hb1 hv hq HI hbq hten hl1
      go_upto_region 5 with fail
      rw [← hw2]
      clear hw2 kc kf
      have HS := Lib.hid hs2
      clear hs2
      have hone : Reads (w2.alloc (.cells #[.int .u8 ((x : Int) % 128)] 5)) (w2.heap.size + 1) 1 (some ⟨w2.heap.size, 0, none⟩) 1 ([UInt8.ofNat (x % 128)].map bv) := by
        have hb2 : bv (UInt8.ofNat (x % 128)) = .int .u8 ((x : Int) % 128) := by
          simp only [bv, UInt8.toNat_ofNat']
          congr 1
          omega
        rw [List.map_singleton, hb2]
        exact Reads.one w2 5 _
      have HO := Lib.hid hone
      have hsl : ((Der.sev (x / 128)).set m (UInt8.ofNat (128 + q))).length ≤ 100 := by
        have h1 := ownB_len H2.out.1
        omega
      clear hone
      go_wp2_with (first
        | (at_builtin; refine wpList_app rfl (.tmp 24) (.tmp 28) rfl w.heap.size w1.heap.size _ _ rfl (H2.out.1.alloc (by have := HS.out; omega) _) (by have := H2.out.2.1.size; simp; omega) _ _ 1 1 [UInt8.ofNat (x % 128)] rfl HO.out (by omega) ?_; intro v3 w3 ho3 hg3 hat3 hb3)
        | fail)
      go_ret
      have hb : Below w.heap.size w w3 := (H2.out.2.1.alloc (H2.out.2.1.size) _).trans hb3
      rw [H2.out.2.2]
      exact retOwn ho3 hb
end Go.Proofs.Ytmnekhliblkibaa
