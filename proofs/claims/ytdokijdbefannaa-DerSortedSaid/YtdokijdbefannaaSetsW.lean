/- The walk through the law DerSets. -/
import Derived.Test.YtdokijdbefannaaSetT
import Derived.Test.YtdokijdbefannaaCopied
import Derived.Test.YtdokijdbefannaaWorks
import Derived.BigQuiet
import Derived.Deep.QuietTactic
namespace Go.Proofs.Ytdokijdbefannaa
open Go.RowKit
set_option maxRecDepth 100000
set_option linter.unusedVariables false
set_option linter.unusedSimpArgs false

theorem eqbytes_same (A A' : Option Addr) (n c n' c' : Nat) (xs : List UInt8) (B B' : Nat) (w : World) (h : Rd w B A n c xs) (h' : Rd w B' A' n' c' xs) :
    Calls Try.prog 8 #[.slice A n c, .slice A' n' c'] w fun e w' => e = .returned (.bool true) ∧ w' = w :=
  (eqbytes_any A A' n c n' c' xs xs B B' w h h').mono fun _ _ ⟨he, hw⟩ => ⟨by rw [he, eqB_self], hw⟩
theorem cat_le {m : Nat} : ∀ (L : List (Value × List UInt8)), (∀ p ∈ L, p.2.length ≤ m) → (cat L).length ≤ L.length * m
  | [], _ => by simp [cat]
  | p :: L, h => by
    have ih := cat_le L fun q hq => h q (List.mem_cons_of_mem _ hq)
    have h1 := h p (List.mem_cons_self ..)
    have e : cat (p :: L) = p.2 ++ cat L := by simp [cat]
    rw [e, List.length_append, List.length_cons, Nat.succ_mul]
    omega
theorem sets_same {S S' L L' : List (Value × List UInt8)} (h : S.Perm L) (h' : S'.Perm L') (ho : Ord (S.map (·.2))) (ho' : Ord (S'.map (·.2))) (he : L'.map (·.2) = L.map (·.2)) : cat S' = cat S := by
  unfold cat
  rw [ord_unique (l := S'.map (·.2)) (l' := S.map (·.2)) ?_ ho' ho]
  refine (h'.map _).trans ?_
  rw [he]
  exact (h.map _).symm

set_option maxHeartbeats 2000000 in
theorem derSets_walk (w : World) (A : Option Addr) (n c : Nat) (L : List (Value × List UInt8)) (h : RdL w w.heap.size A n c L) :
    Calls Try.prog 3 #[.slice A n c] w fun e w' => e = .returned (.bool true) ∧ Below w.heap.size w w' := by
  have hw := works_any w
  have H := Lib.hid (And.intro h hw)
  clear h hw
  go_enter Try.func3, Try.ntmps3
  by_cases hn : 60 < n
  · have hn' : (60 : Int) < n := by omega
    go_wp2_with fail
    refine H.out.2.mono ?_
    rintro e w1 ⟨rfl, hb1⟩
    go_wp2
    go_ret
    exact ⟨rfl, hb1⟩
  · have hn' : ¬ (60 : Int) < n := by omega
    go_wp2
    go_loop [3] (fun i => ∃ k : Nat, k ≤ n ∧ i = .int .i64 k ∧ ∀ p ∈ L.take k, p.2.length ≤ 1024) (fun i => n - (intOf i).toNat)
    case atStart => exact ⟨0, Nat.zero_le _, rfl, fun p hp => by simp at hp⟩
    case round =>
      obtain ⟨k, hk, rfl, hp⟩ := hrel
      by_cases hlt : k < n
      · have hlt' : (k : Int) < n := by omega
        obtain ⟨b, o, A1, n1, c1, xs, rfl, hbl, hx, hc, hrd⟩ := H.out.1.get hlt
        have hxl := hrd.len
        have HP := Lib.hid (And.intro hp (And.intro hx hxl))
        clear hp hx hxl hrd
        by_cases h1 : 1024 < n1
        · have h1' : (1024 : Int) < n1 := by omega
          go_wp2_with fail
          refine H.out.2.mono ?_
          rintro e w1 ⟨rfl, hb1⟩
          go_wp2
          go_ret
          exact ⟨rfl, hb1⟩
        · have h1' : ¬ (1024 : Int) < n1 := by omega
          go_wp2
          go_round
          case rel =>
            refine ⟨k + 1, by omega, by go_num, fun p hp => ?_⟩
            rw [List.take_add_one, HP.out.2.1] at hp
            rcases List.mem_append.1 hp with hp | hp
            · exact HP.out.1 p hp
            · simp at hp
              subst hp
              have := HP.out.2.2
              dsimp only
              omega
          case measure => simp [intOf]; omega
      · obtain rfl : n = k := by omega
        have hge : ¬ (n : Int) < n := by omega
        rw [List.take_of_length_le (by have := H.out.1.len; omega)] at hp
        have hct := cat_le L hp
        rw [H.out.1.len] at hct
        have hcp := copied_any A n c L w H.out.1 (by omega) (fun p hq => by have := hp p hq; omega)
        have HP := Lib.hid (And.intro hp (And.intro hct hcp))
        clear hp hct hcp
        go_wp2_with fail
        refine HP.out.2.2.mono ?_
        rintro e w1 ⟨A1, c1, L1, rfl, hr1, he1, hb1⟩
        have hcl : (cat L1).length = (cat L).length := by unfold cat; rw [he1]
        have hs1 := sets_any A1 n c1 L1 w1 hr1 (by omega) (by have := HP.out.2.1; omega)
        have H1 := Lib.hid (And.intro hr1 (And.intro he1 (And.intro hb1 hs1)))
        clear hr1 he1 hb1 hcl hs1
        go_wp2_with fail
        refine H1.out.2.2.2.mono ?_
        rintro e w2 ⟨S, hSp, hSo, A2, n2, c2, rfl, ho2, hb2⟩
        have hr2 := rsets_any A n c L w2 ((H.out.1.up H1.out.2.2.1).up hb2) (by omega) (by have := HP.out.2.1; omega)
        have H2 := Lib.hid (And.intro hSp (And.intro hSo (And.intro ho2 (And.intro hb2 hr2))))
        clear hSp hSo ho2 hb2 hr2
        go_wp2_with fail
        refine H2.out.2.2.2.2.mono ?_
        rintro e w3 ⟨S', hSp', hSo', A3, n3, c3, rfl, ho3, hb3⟩
        have hce := sets_same H2.out.1 hSp' H2.out.2.1 hSo' H1.out.2.1.symm
        rw [hce] at ho3
        obtain ⟨_, _, _, e3, hrd3⟩ := ho3.rd
        injection e3 with ea en ec
        subst ea en ec
        obtain ⟨_, _, _, e2, hrd2⟩ := H2.out.2.2.1.rd
        injection e2 with ea en ec
        subst ea en ec
        have heq := eqbytes_same A2 A3 n2 c2 n3 c3 (cat S) _ _ w3 (hrd2.below hb3) hrd3
        have H3 := Lib.hid (And.intro heq hb3)
        clear heq hb3 hSp' hSo' hce ho3 hrd3 hrd2
        go_wp2_with fail
        refine H3.out.1.mono ?_
        rintro e w4 ⟨rfl, rfl⟩
        go_wp2
        go_loopw [6] (fun i wr => ∃ k : Nat, k ≤ n ∧ i = .int .i64 k ∧ Below w4.heap.size w4 wr) (fun i _ => n - (intOf i).toNat)
        case atStart => exact ⟨0, Nat.zero_le _, rfl, Below.refl _ _⟩
        case round =>
          obtain ⟨k, hk, rfl, hb⟩ := hrel
          have hbw2 : Below w2.heap.size w2 wr := H3.out.2.trans (hb.mono H3.out.2.size)
          have hbw1 : Below w1.heap.size w1 wr := H2.out.2.2.2.1.trans (hbw2.mono H2.out.2.2.2.1.size)
          have hbw : Below w.heap.size w wr := H1.out.2.2.1.trans (hbw1.mono H1.out.2.2.1.size)
          by_cases hlt : k < n
          · have hlt' : (k : Int) < n := by omega
            obtain ⟨b, o, A5, n5, c5, xs, rfl, hbl, hx, hc, hrd⟩ := (H.out.1.below hbw).get hlt
            obtain ⟨b', o', A6, n6, c6, ys, rfl, hbl', hy, hc', hrd'⟩ := (H1.out.1.below hbw1).get hlt
            have hxy : ys = xs := by
              have := congrArg (·[k]?) H1.out.2.1
              simpa [hx, hy] using this
            subst hxy
            have heq : ∀ m, Calls Try.prog 8 #[.slice A6 n6 c6, .slice A5 n5 c5] (wr.drewN m) fun e w' => e = .returned (.bool true) ∧ w' = wr.drewN m := fun m => eqbytes_same _ _ _ _ _ _ ys _ _ _ (hrd'.drewN m) (hrd.drewN m)
            have HB := Lib.hid (And.intro hb heq)
            clear hb hbw hbw1 hbw2 hrd hrd' hx hy heq
            go_wp2
            go_quiet ((go_at_call 8; exact Calls.quiet_of_same (HB.out.2 _)))
            go_wp2
            go_roundw
            case rel => exact ⟨k + 1, by omega, by go_num, below_drewN HB.out.1 _⟩
            case measure => simp [intOf]; omega
          · obtain rfl : n = k := by omega
            have hge : ¬ (n : Int) < n := by omega
            have HB := Lib.hid (And.intro hbw (works_any wr))
            clear hb hbw hbw1 hbw2
            go_wp2_with fail
            refine HB.out.2.mono ?_
            rintro e w5 ⟨rfl, hb5⟩
            go_wp2
            go_ret
            exact ⟨rfl, HB.out.1.trans (hb5.mono HB.out.1.size)⟩
end Go.Proofs.Ytdokijdbefannaa
