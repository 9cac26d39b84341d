/- The walk through the law DerSorted. -/
import Derived.Test.YtdokijdbefannaaSetsW
namespace Go.Proofs.Ytdokijdbefannaa
open Go.RowKit
set_option maxRecDepth 100000
set_option linter.unusedVariables false
set_option linter.unusedSimpArgs false

/-- The parts turned: from place s on, then those before, all backwards. -/
def turnedL {α : Type} (L : List α) (s : Nat) : List α := (L.drop (s % L.length) ++ L.take (s % L.length)).reverse
theorem turned_perm {α : Type} (L : List α) (s : Nat) : (turnedL L s).Perm L := by
  unfold turnedL
  refine (List.reverse_perm _).trans ?_
  refine List.perm_append_comm.trans ?_
  rw [List.take_append_drop]
theorem turned_at {α : Type} (L : List α) (s i : Nat) (hi : i < L.length) : (turnedL L s)[i]? = L[(L.length - 1 - i + s) % L.length]? := by
  have hs : s % L.length < L.length := Nat.mod_lt _ (by omega)
  obtain ⟨q, hq⟩ : ∃ q, q = s % L.length := ⟨_, rfl⟩
  have hm : (L.length - 1 - i + s) % L.length = (L.length - 1 - i + q) % L.length := by rw [hq, Nat.add_mod_mod]
  rw [hm]
  unfold turnedL
  rw [← hq] at hs ⊢
  have hlen : (L.drop q ++ L.take q).length = L.length := by simp; omega
  rw [List.getElem?_reverse (by omega), hlen]
  by_cases h : L.length - 1 - i < L.length - q
  · rw [List.getElem?_append_left (by simp; omega), List.getElem?_drop, Nat.mod_eq_of_lt (by omega), Nat.add_comm]
  · rw [List.getElem?_append_right (by simp; omega), List.length_drop, List.getElem?_take, if_pos (by omega)]
    have : (L.length - 1 - i + q) % L.length = L.length - 1 - i + q - L.length := by
      rw [Nat.mod_eq_sub_mod (by omega), Nat.mod_eq_of_lt (by omega)]
    rw [this]
    congr 1
    omega
theorem cat_same_len {S L : List (Value × List UInt8)} (h : S.map (·.2) = L.map (·.2)) : (cat S).length = (cat L).length := by unfold cat; rw [h]

set_option maxHeartbeats 2000000 in
theorem derSorted_walk (w : World) (A : Option Addr) (n c : Nat) (L : List (Value × List UInt8)) (h : RdL w w.heap.size A n c L) (by_ : Int) :
    Calls Try.prog 4 #[.slice A n c, .int .i64 by_] w fun e w' => e = .returned (.bool true) ∧ Below w.heap.size w w' := by
  have hw := works_any w
  have H := Lib.hid (And.intro h hw)
  clear h hw
  go_enter Try.func4, Try.ntmps4
  by_cases hn : 30 < n
  · have hn' : (30 : Int) < n := by omega
    go_wp2_with fail
    refine H.out.2.mono ?_
    rintro e w1 ⟨rfl, hb1⟩
    go_wp2
    go_ret
    exact ⟨rfl, hb1⟩
  · have hn' : ¬ (30 : Int) < n := by omega
    go_wp2
    go_loop [5, 6] (fun t i => ∃ k : Nat, k ≤ n ∧ i = .int .i64 k ∧ t = .int .i64 ((cat (L.take k)).length : Int) ∧ ∀ p ∈ L.take k, p.2.length ≤ 1024) (fun _ i => n - (intOf i).toNat)
    case atStart => exact ⟨0, Nat.zero_le _, rfl, rfl, fun p hp => by simp at hp⟩
    case round =>
      obtain ⟨k, hk, rfl, rfl, hp⟩ := hrel
      have hct := cat_le _ hp
      rw [List.length_take] at hct
      have hct' : (cat (L.take k)).length ≤ 30720 := by
        refine Nat.le_trans hct ?_
        have : min k L.length ≤ 30 := by omega
        omega
      obtain ⟨q, hq⟩ : ∃ q, (cat (L.take k)).length = q := ⟨_, rfl⟩
      rw [hq] at hct' ⊢
      by_cases hlt : k < n
      · have hlt' : (k : Int) < n := by omega
        obtain ⟨b, o, A1, n1, c1, xs, rfl, hbl, hx, hc, hrd⟩ := H.out.1.get hlt
        have hxl := hrd.len
        have HP := Lib.hid (And.intro hp (And.intro hx (And.intro hxl hq)))
        clear hp hx hxl hrd hct hq
        by_cases h1 : 1024 < n1
        · have h1' : (1024 : Int) < n1 := by omega
          go_wp2_with fail
          refine H.out.2.mono ?_
          rintro e w1 ⟨rfl, hb1⟩
          go_wp2
          go_ret
          exact ⟨rfl, hb1⟩
        · have h1' : ¬ (1024 : Int) < n1 := by omega
          have hpos : (0 : Int) ≤ (q : Int) + n1 := by omega
          go_wp2
          go_round
          case rel =>
            refine ⟨k + 1, by omega, by go_num, ?_, fun p hp => ?_⟩
            · rw [cat_take_succ HP.out.2.1, List.length_append, HP.out.2.2.1, HP.out.2.2.2]; go_num
            rw [List.take_add_one, HP.out.2.1] at hp
            rcases List.mem_append.1 hp with hp | hp
            · exact HP.out.1 p hp
            · simp at hp
              subst hp
              have := HP.out.2.2.1
              dsimp only
              omega
          case measure => simp [intOf]; omega
      · obtain rfl : n = k := by omega
        have hge : ¬ (n : Int) < n := by omega
        rw [List.take_of_length_le (by have := H.out.1.len; omega)] at hp hq
        have HP := Lib.hid (And.intro hp hq)
        clear hp hct hq
        obtain ⟨r, hr⟩ : ∃ r, Int.tmod by_ n = r := ⟨_, rfl⟩
        go_wp2
        go_loopw [7, 8] (fun v i wr => ∃ (k : Nat), k ≤ n ∧ i = .int .i64 k ∧ OwnC 24 1 wr w.heap.size wr.heap.size v k (vals ((turnedL L (r + n).toNat).take k)) ∧ Below w.heap.size w wr) (fun _ i _ => n - (intOf i).toNat)
        case atStart => exact ⟨0, Nat.zero_le _, rfl, OwnC.nil_, Below.refl _ _⟩
        case round =>
          obtain ⟨k, hk, rfl, ho, hb⟩ := hrel
          have hsz := hb.size
          by_cases hlt : k < n
          · have hlt' : (k : Int) < n := by omega
            have hn0 : (0 : Int) < n := by omega
            have hr1 : r < n := by rw [← hr]; exact Int.tmod_lt_of_pos _ hn0
            have hr2 : -(n : Int) < r := by rw [← hr]; exact Int.lt_tmod_of_pos _ hn0
            obtain ⟨s, hs⟩ : ∃ s, (r + n).toNat = s := ⟨_, rfl⟩
            have hs' : r + n = (s : Int) := by omega
            have hidx : (wrap64 ((n : Int) - 1 - k + wrap64 (r + n))).tmod n = (((n - 1 - k + s) % n : Nat) : Int) := by
              rw [hs', IntWalk.wrap64_in (s : Int) (by omega), IntWalk.wrap64_in _ (by omega), Int.ofNat_tmod]
              congr 1
              omega
            have hm : (n - 1 - k + s) % n < n := Nat.mod_lt _ (by omega)
            have hta := turned_at L s k (by have := H.out.1.len; omega)
            rw [H.out.1.len] at hta
            obtain ⟨m, hmm⟩ : ∃ m, (n - 1 - k + s) % n = m := ⟨_, rfl⟩
            rw [hmm] at hidx hm hta
            obtain ⟨b, o, A1, n1, c1, xs, rfl, hbl, hx, hc0, hrd⟩ := H.out.1.get hm
            have hc := (hb.cell (p := ⟨b, o + m, none⟩) hbl).trans hc0
            rw [hx] at hta
            have hvt := vals_take hta
            rw [hs] at ho
            have hm' : (m : Int) < n := by omega
            have HO := Lib.hid (And.intro ho (And.intro hb (And.intro hvt hs)))
            clear ho hb hvt hs hx hc0 hrd hta hmm hs' hr1 hr2
            go_wp2_with
              (at_builtin
               refine wpList_appC rfl (.tmp 40) (.tmp 60) 22 rfl 24 _ 1 24 bs_info Try.underlying22 rfl (by omega) w.heap.size wr.heap.size _ k (vals ((turnedL L s).take k)) rfl (HO.out.1.alloc (Nat.le_refl _) _) (by simp; omega) _ _ 1 1 [.slice A1 n1 c1] rfl (Reads.one _ _ _) (by simp [Value.oneCell']) (by omega) (by omega) ?_
               intro v6 w6 ho6 hg6 hat6 hb6
               have H6 := Lib.hid (And.intro ho6 hb6)
               clear ho6 hg6 hat6 hb6)
            go_roundw
            case rel =>
              refine ⟨k + 1, by omega, by go_num, ?_, HO.out.2.1.trans (Below.trans ((Below.refl _ _).alloc hsz _) H6.out.2)⟩
              have hv := HO.out.2.2.1
              have h6 := H6.out.1
              have e : ∀ j, vals ((turnedL L s).take j) = (vals (turnedL L s)).take j := fun j => by simp [vals, List.map_take]
              rw [HO.out.2.2.2]
              rw [e] at h6 ⊢
              rw [hv]
              exact h6
            case measure => simp [intOf]; omega
          · obtain rfl : n = k := by omega
            have hge : ¬ (n : Int) < n := by omega
            obtain ⟨T, hT⟩ : ∃ T, turnedL L (r + n).toNat = T := ⟨_, rfl⟩
            have hTp : T.Perm L := by rw [← hT]; exact turned_perm _ _
            have hTl : T.length = n := hTp.length_eq.trans H.out.1.len
            rw [hT, List.take_of_length_le (by omega)] at ho
            obtain ⟨w0, rfl⟩ : ∃ w0 : World, w0 = wr := ⟨_, rfl⟩
            obtain ⟨Av, cv, rfl, hcap, hcapm, _, hrds⟩ := ho.shape
            have hTr : RdL w0 w0.heap.size Av n cv T := ⟨hTl, hcap, hcapm, hrds, fun v xs hm => ((H.out.1.each v xs (hTp.mem_iff.1 hm)).below hb).more hsz⟩
            have hcp := copied_any A n c L w0 (H.out.1.up hb) (by omega) (fun p hq => by have := HP.out.1 p hq; omega)
            have HT := Lib.hid (And.intro hTp (And.intro hTr (And.intro hb hcp)))
            clear hTp hTr hb hcp hrds ho hcap hcapm hT hTl
            go_wp2_with fail
            refine HT.out.2.2.2.mono ?_
            rintro e w1 ⟨A1, c1, L1, rfl, hr1, he1, hb1⟩
            have hq30 : q ≤ 1099511627776 := by
              have := cat_le L HP.out.1
              rw [HP.out.2, H.out.1.len] at this
              omega
            have hs1 := sets_any A1 n c1 L1 w1 hr1 (by omega) (by rw [cat_same_len he1, HP.out.2]; exact hq30)
            have H1 := Lib.hid (And.intro hr1 (And.intro he1 (And.intro hb1 hs1)))
            clear hr1 he1 hb1 hs1
            go_wp2_with fail
            refine H1.out.2.2.2.mono ?_
            rintro e w2 ⟨S, hSp, hSo, A2, n2, c2, rfl, ho2, hb2⟩
            obtain ⟨_, _, _, e2, hrd2⟩ := ho2.rd
            injection e2 with ea en ec
            subst ea en ec
            obtain rfl : n2 = q := by rw [← hrd2.len, perm_cat hSp, cat_same_len H1.out.2.1, HP.out.2]
            have hs2 := sets_any Av n cv T w2 ((HT.out.2.1.up H1.out.2.2.1).up hb2) (by omega) (by rw [perm_cat HT.out.1, HP.out.2]; exact hq30)
            have H2 := Lib.hid (And.intro hSp (And.intro hSo (And.intro hrd2 (And.intro hb2 hs2))))
            clear hSp hSo hrd2 hb2 hs2 ho2
            go_wp2_with fail
            refine H2.out.2.2.2.2.mono ?_
            rintro e w3 ⟨S', hSp', hSo', A3, n3, c3, rfl, ho3, hb3⟩
            have hce := sets_same (H2.out.1) (hSp'.trans HT.out.1) H2.out.2.1 hSo' H1.out.2.1.symm
            rw [hce] at ho3
            obtain ⟨_, _, _, e3, hrd3⟩ := ho3.rd
            injection e3 with ea en ec
            subst ea en ec
            have heq := eqbytes_same A2 A3 n2 c2 n3 c3 (cat S) _ _ w3 (H2.out.2.2.1.below hb3) hrd3
            have H3 := Lib.hid (And.intro heq hb3)
            clear heq hb3 hSp' hSo' hce ho3 hrd3
            go_wp2_with fail
            refine H3.out.1.mono ?_
            rintro e w4 ⟨rfl, rfl⟩
            have H4 := Lib.hid (works_any w4)
            go_wp2_with fail
            refine H4.out.mono ?_
            rintro e w5 ⟨rfl, hb5⟩
            go_wp2
            go_ret
            have hbw1 := HT.out.2.2.1.trans (H1.out.2.2.1.mono HT.out.2.2.1.size)
            have hbw2 := hbw1.trans (H2.out.2.2.2.1.mono hbw1.size)
            have hbw3 := hbw2.trans (H3.out.2.mono hbw2.size)
            exact ⟨rfl, hbw3.trans (hb5.mono hbw3.size)⟩
end Go.Proofs.Ytdokijdbefannaa
