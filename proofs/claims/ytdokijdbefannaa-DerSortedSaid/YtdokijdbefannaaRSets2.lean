/- The walk through lintelref10.Sets. -/
import Derived.Test.YtdokijdbefannaaRSets
namespace Go.Proofs.Ytdokijdbefannaa
open Go.RowKit
set_option maxRecDepth 100000
set_option linter.unusedVariables false
set_option linter.unusedSimpArgs false

/-- The parts of L in their order, one behind the other, in new memory. -/
def SetsPost (L : List (Value × List UInt8)) (w : World) (e : Ending) (w' : World) : Prop :=
  ∃ S : List (Value × List UInt8), S.Perm L ∧ Ord (S.map (·.2)) ∧ RetOwn (cat S) w e w'

set_option maxHeartbeats 2000000 in
theorem rsets_any (A : Option Addr) (n c : Nat) (L : List (Value × List UInt8)) (w : World) (h : RdL w w.heap.size A n c L) (hn : n ≤ 1099511627) (ht : (cat L).length ≤ 1099511627776) :
    Calls Try.prog 9 #[.slice A n c] w (SetsPost L w) := by
  have H := Lib.hid (And.intro h ht)
  clear h ht
  go_enter Try.func9, Try.ntmps9
  go_wp2
  go_loopw [3, 4] (fun v i wr => ∃ k : Nat, k ≤ n ∧ i = .int .i64 k ∧ SoFar L w k v wr) (fun _ i _ => n - (intOf i).toNat)
  case atStart => exact ⟨0, Nat.zero_le _, rfl, [], rfl, List.Perm.refl _, List.Pairwise.nil, OwnC.nil_, Below.refl _ _⟩
  case round =>
    obtain ⟨k, hk, rfl, S, hSl, hSp, hSo, hO, hb⟩ := hrel
    obtain ⟨w1, rfl⟩ : ∃ w1 : World, w1 = wr := ⟨_, rfl⟩
    have hsz := hb.size
    obtain ⟨Av, cv, rfl, hcap, hcapm, _, hrds⟩ := hO.shape
    by_cases hlt : k < n
    · obtain ⟨b, o, A1, n1, c1, xs, rfl, hbl, hx, hc0, hrd⟩ := H.out.1.get hlt
      have hc := (hb.cell (p := ⟨b, o + k, none⟩) hbl).trans hc0
      have hlt' : (k : Int) < n := by omega
      have HO := Lib.hid (And.intro hSl (And.intro hSp (And.intro hSo (And.intro hO (And.intro hb (And.intro hx (And.intro hc0 hrd)))))))
      clear hSl hSp hSo hO hb hx hc0 hrd hrds hcap hcapm
      go_wp2_with
        (at_builtin
         refine wpList_appC rfl (.tmp 16) (.tmp 21) 22 rfl 24 _ 1 24 bs_info Try.underlying22 rfl (by omega) w.heap.size w1.heap.size _ k (vals S) rfl (HO.out.2.2.2.1.alloc (Nat.le_refl _) _) (by simp; omega) _ _ 1 1 [.slice A1 n1 c1] rfl (Reads.one _ _ _) (by simp [Value.oneCell']) (by omega) (by omega) ?_
         intro v6 w6 ho6 hg6 hat6 hb6
         obtain ⟨g, cap, rfl, hgl, hgh⟩ := ho6.slice_ (by omega)
         have hG0 : Gap S xs w g cap k k w6 := ⟨Nat.le_refl _, fun y hy => (by rw [List.drop_of_length_le (by have := HO.out.1; omega)] at hy; cases hy), ⟨.slice A1 n1 c1, by rw [List.take_of_length_le (by have := HO.out.1; omega), List.drop_of_length_le (by have := HO.out.1; omega)]; exact ho6⟩, HO.out.2.2.2.2.1.trans (Below.trans ((Below.refl _ _).alloc hsz _) hb6)⟩
         have H6 := Lib.hid hG0
         clear ho6 hg6 hat6 hb6 hG0 hgh)
      go_loopw [5] (fun i wr => ∃ a : Nat, i = .int .i64 a ∧ Gap S xs w g cap k a wr) (fun i _ => (intOf i).toNat)
      case atStart => exact ⟨k, rfl, H6.out⟩
      case round =>
        obtain ⟨a, rfl, hG⟩ := hrel
        obtain ⟨ha, hd, ⟨u, hOu⟩, hbb⟩ := hG
        have hHG := HO.out
        have hcx : wr.cell? ⟨b, o + k, none⟩ = some (.slice A1 n1 c1) := (hbb.cell (p := ⟨b, o + k, none⟩) hbl).trans hHG.2.2.2.2.2.2.1
        have hrx := hHG.2.2.2.2.2.2.2.below hbb
        have hGG : Gap S xs w g cap k a wr := ⟨ha, hd, ⟨u, hOu⟩, hbb⟩
        by_cases h0 : 0 < a
        · obtain ⟨a', rfl⟩ : ∃ a', a = a' + 1 := ⟨a - 1, by omega⟩
          have hl : a' < S.length := by have := hHG.1; omega
          obtain ⟨⟨y, ys⟩, hey⟩ : ∃ q, S[a'] = q := ⟨_, rfl⟩
          have hy : S[a']? = some (y, ys) := by rw [List.getElem?_eq_getElem hl, hey]
          have hym : (y, ys) ∈ L := List.mem_of_mem_take (hHG.2.1.mem_iff.1 (List.mem_of_getElem? hy))
          obtain ⟨A8, n8, c8, rfl, hr8⟩ := H.out.1.each _ _ hym
          have hry := hr8.below hbb
          have hcy : wr.cell? ⟨g, a', none⟩ = some (.slice A8 n8 c8) := (hOu.cell1 (gap_at hy)).1
          obtain ⟨u9, hu9⟩ : ∃ u9, wr.cell? ⟨g, a' + 1, none⟩ = some u9 ∧ wr.frozen? ⟨g, a' + 1, none⟩ = false := by
            refine ⟨u, hOu.cell1 ?_⟩
            rw [List.getElem?_append_right (by rw [vals_len, List.length_take]; omega)]
            simp [vals_len, List.length_take, show min (a' + 1) S.length = a' + 1 from by omega]
          obtain ⟨hu9, hf9⟩ := hu9
          obtain ⟨z, hz⟩ : ∃ z, Op.bytesLess xs ys = z := ⟨_, rfl⟩
          have hwr : IntKind.i64.wrap ((a' : Int) + 1 - 1) = (a' : Int) := by rw [show (a' : Int) + 1 - 1 = a' from by omega]; exact IntWalk.i64_in _ (by omega)
          have hcz : ∀ (W : World) (B B' : Nat), Rd W B A1 n1 c1 xs → Rd W B' A8 n8 c8 ys → Calls Try.prog 19 #[.slice A1 n1 c1, .slice A8 n8 c8] W fun e w' => e = .returned (.bool z) ∧ w' = W := fun W B B' h1 h2 => by
            have := ahead_any A1 A8 n1 c1 n8 c8 xs ys _ _ _ h1 h2
            rw [hz] at this
            exact this
          have HC := Lib.hid (And.intro hcz (And.intro hrx (And.intro hry (And.intro hGG (And.intro hy hz)))))
          clear hcz hrx hry hGG hz hy hey hym hr8 hHG hd hOu hbb hl
          have hpos : (0 : Int) < (a' : Int) + 1 := by omega
          go_wp2
          go_quiet ((go_at_call 19; exact Calls.quiet_of_same (HC.out.1 _ _ _ (HC.out.2.1.drewN _) (HC.out.2.2.1.drewN _))))
          cases z with
          | true =>
            go_wp2
            go_roundw
            case rel => exact ⟨a', rfl, (HC.out.2.2.2.1.drewN _).step hgl HC.out.2.2.2.2.1 HC.out.2.2.2.2.2⟩
            case measure => simp [intOf]
          | false =>
            go_wp2
            go_roundw
            case rel => exact ⟨k + 1, by omega, by go_num, (HC.out.2.2.2.1.drewN _).put hgl HO.out.1 HO.out.2.1 HO.out.2.2.1 HO.out.2.2.2.2.2.1 (.inr ⟨a', _, ys, rfl, HC.out.2.2.2.2.1, HC.out.2.2.2.2.2⟩)⟩
            case measure => simp [intOf]; omega
        · obtain rfl : a = 0 := by omega
          have hu9 := (hOu.cell1 (j := 0) (u := u) (by simp [vals])).1
          have hf9 := (hOu.cell1 (j := 0) (u := u) (by simp [vals])).2
          have HC := Lib.hid hGG
          clear hrx hGG hHG hd hOu hbb
          go_wp2
          go_quiet (fail)
          go_wp2
          go_roundw
          case rel => exact ⟨k + 1, by omega, by go_num, (HC.out.drewN _).put hgl HO.out.1 HO.out.2.1 HO.out.2.2.1 HO.out.2.2.2.2.2.1 (.inl rfl)⟩
          case measure => simp [intOf]; omega
    · obtain rfl : n = k := by omega
      have hge : ¬ (n : Int) < n := by omega
      have htk : L.take n = L := List.take_of_length_le (by have := H.out.1.len; omega)
      rw [htk] at hSp
      have hS : RdL w1 w1.heap.size Av n cv S := ⟨hSl, hcap, hcapm, hrds, fun v xs hm => ((H.out.1.each v xs (hSp.mem_iff.1 hm)).below hb).more hsz⟩
      have hct : (cat S).length ≤ 1099511627776 := by rw [perm_cat hSp]; exact H.out.2
      have hrel0 : CatRel S w1 0 (.slice none 0 0) w1 := ⟨by simpa [cat] using OwnB.nil_, Below.refl _ _⟩
      have HS := Lib.hid (And.intro hSp (And.intro hSo (And.intro hb hrel0)))
      clear hSl hSp hSo hO hb hrel0 htk hrds hcap hcapm
      go_wp2
      go_loopw [6, 7] (fun v i wr => ∃ j : Nat, j ≤ n ∧ i = .int .i64 j ∧ CatRel S w1 j v wr) (fun _ i _ => n - (intOf i).toNat)
      case atStart => exact ⟨0, by omega, rfl, HS.out.2.2.2⟩
      case round =>
        obtain ⟨j, hj, rfl, ho, hb⟩ := hrel
        by_cases hlt : j < n
        · have hu := hS.up hb
          obtain ⟨b, o, A', n', c', xs, rfl, hbb, hx, hc, hr⟩ := hu.get hlt
          have hs := cat_take_succ hx
          have hc2 := cat_take_le S (j + 1)
          have hxs := hr.len
          rw [hs, List.length_append, hxs] at hc2
          have HS2 := Lib.hid hs
          have HO := Lib.hid ho
          have hlt' : (j : Int) < n := by omega
          have hsz2 := hb.size
          have hrr := hr.rds
          clear hs hxs hx ho hr hu
          go_wp2_with
            (at_builtin
             refine wpList_app rfl (.tmp 60) (.tmp 64) rfl w1.heap.size wr.heap.size _ (cat (S.take j)) rfl HO.out (by omega) _ A' n' c' xs rfl hrr (by omega) ?_
             intro v2 w2 ho2 hg2 hat2 hb2)
          go_roundw
          case rel => exact ⟨j + 1, by omega, by go_num, by rw [HS2.out]; exact ho2, hb.trans hb2⟩
          case measure => simp [intOf]; omega
        · obtain rfl : j = n := by omega
          have HO := Lib.hid (And.intro ho hb)
          have hge : ¬ (j : Int) < j := by omega
          clear ho hb
          go_wp2
          go_ret
          refine ⟨S, HS.out.1, HS.out.2.1, retOwn ?_ (HS.out.2.2.1.trans (HO.out.2.mono hsz))⟩
          have := HO.out.1
          rw [List.take_of_length_le (by have := hS.len; omega)] at this
          exact this.mono hsz (Nat.le_refl _)
end Go.Proofs.Ytdokijdbefannaa
