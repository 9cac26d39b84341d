/- The reference's reading: number, numbers, begins. -/
import Derived.Test.YtlfajfmkljnodaaDoorPeRGet
import Derived.Deep.RegionHeld3
namespace Go.Proofs.YtlfajfmkljnodaaDoor
open Go.RowKit
set_option maxRecDepth 100000
set_option linter.unusedVariables false
set_option linter.unusedSimpArgs false
theorem numberR_any (A : Option Addr) (n c p k : Nat) (q y : Int) (xs : List UInt8) (w : World) (h : Rd w w.heap.size A n c xs) (hn : n ≤ 1099511627776) (hq : q = (p : Int)) (hy : y = (k : Int)) (hp : p ≤ 1099511627776) (hk : Pe.Size k) :
    Calls Tryd.prog 27 #[.slice A n c, .int .i64 q, .int .i64 y] w fun e w' => e = .returned (.tuple #[.int .i64 (Pe.at_ xs p k : Int), .bool (Pe.inb xs p k)]) ∧ Below w.heap.size w w' := by
  subst hq hy
  have hk4 : k ≤ 4 := by rcases hk with rfl | rfl | rfl <;> omega
  have hg := getR_any A n c p k p k xs w h hn rfl rfl hp hk
  obtain ⟨b, hb⟩ : ∃ b, Pe.inb xs p k = b := ⟨_, rfl⟩
  obtain ⟨N, hN⟩ : ∃ N, Pe.at_ xs p k = N := ⟨_, rfl⟩
  have hNl : N < 4294967296 := by
    rw [← hN]
    exact Nat.lt_of_lt_of_le (Pe.at_lt xs p k) (by have := Nat.pow_le_pow_right (n := 256) (by omega) hk4; omega)
  rw [hb, hN] at hg
  rw [hb, hN]
  have hw : IntKind.i64.wrap (N : Int) = (N : Int) := by rw [IntKind.wrap_i64]; omega
  have H := Lib.hid hg
  clear hg h hk hb hN
  cases b
  · go_enter Tryd.func27, Tryd.ntmps27
    go_wp2_with fail
    refine H.out.mono ?_
    rintro e w1 ⟨rfl, hb1⟩
    have H1 := Lib.hid hb1
    clear hb1
    simp only [Bool.false_eq_true, if_false]
    go_wp2_with fail
    exact bodyPost_ret (v := .tuple #[.int .i64 (N : Int), .bool false]) (by simp [results, Tryd.results27, go_sem]) rfl ⟨rfl, H1.out⟩
  · go_enter Tryd.func27, Tryd.ntmps27
    go_wp2_with fail
    refine H.out.mono ?_
    rintro e w1 ⟨rfl, hb1⟩
    have H1 := Lib.hid hb1
    clear hb1
    simp only [if_true]
    go_wp2_with fail
    exact bodyPost_ret (v := .tuple #[.int .i64 (N : Int), .bool true]) (by simp [results, Tryd.results27, go_sem]) rfl ⟨rfl, H1.out⟩
def pairC (x : Nat × Nat) : List Value := [.int .i64 (x.1 : Int), .int .i64 (x.2 : Int)]
theorem pairC_get : ∀ (l : List (Nat × Nat)) (k : Nat) (x : Nat × Nat), l[k]? = some x → (l.flatMap pairC)[k * 2]? = some (.int .i64 (x.1 : Int)) ∧ (l.flatMap pairC)[k * 2 + 1]? = some (.int .i64 (x.2 : Int))
  | [], _, _, h => by cases h
  | y :: l, 0, x, h => by
    simp only [List.getElem?_cons_zero, Option.some.injEq] at h
    subst h
    exact ⟨rfl, rfl⟩
  | y :: l, k + 1, x, h => by
    simp only [List.getElem?_cons_succ] at h
    have ih := pairC_get l k x h
    rw [List.flatMap_cons, show (k + 1) * 2 = k * 2 + 1 + 1 by omega]
    exact ih
set_option maxHeartbeats 2000000 in
theorem numbersR_any (A : Option Addr) (n c g m : Nat) (xs : List UInt8) (ps : List (Nat × Nat)) (w : World) (h : Rd w w.heap.size A n c xs) (hn : n ≤ 1099511627776) (hB : Blk w g 67 (ps.flatMap pairC).toArray) (hm : ps.length = m) (hm10 : m ≤ 100) (hps : ∀ p ∈ ps, p.1 ≤ 1099511627776 ∧ Pe.Size p.2) :
    Calls Tryd.prog 29 #[.slice A n c, .slice (some ⟨g, 0, none⟩) m m] w fun e w' => Below w.heap.size w w' ∧ ∃ v, e = .returned (.tuple #[v, .bool (ps.all fun p => Pe.inb xs p.1 p.2)]) ∧ ((ps.all fun p => Pe.inb xs p.1 p.2) = true → OwnC 3 1 w' w.heap.size w'.heap.size v m ((ps.map fun p => Pe.at_ xs p.1 p.2).map natV)) := by
  have hgl := hB.lt
  have H := Lib.hid (And.intro h (And.intro hB (And.intro hm hps)))
  clear h hB hm hps
  go_enter Tryd.func29, Tryd.ntmps29
  go_wp2_with fail
  go_loopw [6, 7, 8, 9] (fun v i _ _ wr => ∃ j : Nat, j ≤ m ∧ i = .int .i64 (j : Int) ∧ OwnC 3 1 wr w.heap.size wr.heap.size v j (((ps.take j).map fun p => Pe.at_ xs p.1 p.2).map natV) ∧ ((ps.take j).all fun p => Pe.inb xs p.1 p.2) = true ∧ Below w.heap.size w wr) (fun _ i _ _ _ => m - (intOf i).toNat)
  case atStart => exact ⟨0, Nat.zero_le _, rfl, OwnC.nil_, rfl, Below.refl _ _⟩
  case round =>
    obtain ⟨j, hj, rfl, ho, hall, hb⟩ := hrel
    by_cases hlt : j < m
    · have hlt' : (j : Int) < m := by omega
      obtain ⟨⟨p, k⟩, hpk⟩ : ∃ x, ps[j]? = some x := ⟨_, List.getElem?_eq_getElem (by have := H.out.2.2.1; omega)⟩
      obtain ⟨g1, g2⟩ := pairC_get ps j _ hpk
      obtain ⟨hp40, hks⟩ := H.out.2.2.2 _ (List.mem_of_getElem? hpk)
      have hcell : ∀ W, Below w.heap.size w W → W.cell? ⟨g, j * 2, none⟩ = some (.int .i64 (p : Int)) ∧ W.cell? ⟨g, j * 2 + 1, none⟩ = some (.int .i64 (k : Int)) := fun W hW => by
        have h1 := H.out.2.1.below hW hgl
        exact ⟨by rw [h1.cell]; simpa using g1, by rw [h1.cell]; simpa using g2⟩
      have hnum : ∀ W, Below w.heap.size w W → Calls Tryd.prog 27 #[.slice A n c, .int .i64 (p : Int), .int .i64 (k : Int)] W fun e w' => e = .returned (.tuple #[.int .i64 (Pe.at_ xs p k : Int), .bool (Pe.inb xs p k)]) ∧ Below W.heap.size W w' := fun W hW =>
        numberR_any A n c p k p k xs W ((H.out.1.below hW).more hW.size) hn rfl rfl hp40 hks
      obtain ⟨q1, q2⟩ := hcell wr hb
      obtain ⟨bi, hbi⟩ : ∃ b, Pe.inb xs p k = b := ⟨_, rfl⟩
      obtain ⟨N, hN⟩ : ∃ N, Pe.at_ xs p k = N := ⟨_, rfl⟩
      rw [hbi, hN] at hnum
      have HI := Lib.hid (And.intro ho (And.intro hall (And.intro hb (And.intro hcell (And.intro hnum (And.intro hpk (And.intro hbi hN)))))))
      clear ho hall hb hcell hnum hpk hbi hN g1 g2 hks
      go_upto_region 5 with fail
      go_region_held3 (fun w' => w'.cell? ⟨g, j * 2, none⟩ = some (.int .i64 (p : Int)) ∧ w'.cell? ⟨g, j * 2 + 1, none⟩ = some (.int .i64 (k : Int))) (go_keep)
        (first
          | (go_at_call 27; ((with_reducible refine (HI.out.2.2.2.2.1 _ (by exact HI.out.2.2.1.drew)).mono ?_); rintro e wa ⟨rfl, hba⟩); have hwa : Below w.heap.size w wa := HI.out.2.2.1.drew.trans (hba.mono HI.out.2.2.1.size); have q1a := (HI.out.2.2.2.1 wa hwa).1; have q2a := (HI.out.2.2.2.1 wa hwa).2; have hwra : Below wr.heap.size wr wa := (Below.refl wr.heap.size wr).drew.trans hba; have HA := Lib.hid (And.intro hwa hwra); clear hba hwa hwra))
      cases bi
      · have hno : (ps.all fun p => Pe.inb xs p.1 p.2) = false := by
          rw [Bool.eq_false_iff]
          intro h1
          have h2 := List.all_eq_true.1 h1 _ (List.mem_of_getElem? HI.out.2.2.2.2.2.1)
          rw [HI.out.2.2.2.2.2.2.1] at h2
          cases h2
        have HNO := Lib.hid hno
        clear hno
        go_wp2_with fail
        exact bodyPost_ret (v := .tuple #[.slice none 0 0, .bool false]) (by simp [results, Tryd.results29, go_sem]) rfl ⟨HA.out.1, _, by rw [HNO.out], fun h1 => by rw [HNO.out] at h1; cases h1⟩
      · have hown := (HI.out.1.below HA.out.2 (Nat.le_refl _)).mono (Nat.le_refl _) HA.out.2.size
        have hx1 : ((ps.take (j + 1)).map fun p => Pe.at_ xs p.1 p.2).map natV = (((ps.take j).map fun p => Pe.at_ xs p.1 p.2).map natV) ++ [.int .i64 (N : Int)] := by
          rw [take_snoc HI.out.2.2.2.2.2.1, List.map_append, List.map_append, ← HI.out.2.2.2.2.2.2.2]; rfl
        have hx2 : ((ps.take (j + 1)).all fun p => Pe.inb xs p.1 p.2) = true := by
          rw [take_snoc HI.out.2.2.2.2.2.1, List.all_append, HI.out.2.1]
          simp [HI.out.2.2.2.2.2.2.1]
        have HO := Lib.hid (And.intro hown (And.intro hx1 hx2))
        have hsza := HA.out.1.size
        clear hown hx1 hx2
        go_wp2_with
          (at_builtin
           refine wpList_appC rfl (.tmp 33) (.tmp 35) 37 rfl 3 _ 1 8 int_info Tryd.underlying37 rfl (by omega) w.heap.size wa.heap.size _ j _ rfl (HO.out.1.alloc (Nat.le_refl _) _) (by simp; omega) _ _ 1 1 [.int .i64 (N : Int)] rfl (Reads.one wa 3 _) (by simp [Value.oneCell']) (by omega) (by omega) ?_
           intro v2 w2 ho2 hg2 hat2 hb2
           have HB := Lib.hid (And.intro ho2 ((HA.out.1.alloc HA.out.1.size (.cells #[.int .i64 (N : Int)] 3)).trans hb2))
           clear ho2 hg2 hat2 hb2)
        go_roundw
        case rel => exact ⟨j + 1, by omega, by go_num, by rw [HO.out.2.1]; exact HB.out.1, HO.out.2.2, HB.out.2⟩
        case measure => simp [intOf]; omega
    · obtain rfl : j = m := by omega
      have hge : ¬ (j : Int) < j := by omega
      have hall' : (ps.all fun p => Pe.inb xs p.1 p.2) = true := by rw [List.take_of_length_le (by have := H.out.2.2.1; omega)] at hall; exact hall
      rw [List.take_of_length_le (by have := H.out.2.2.1; omega)] at ho
      have HQ := Lib.hid (And.intro ho (And.intro hb hall'))
      clear ho hb hall hall'
      go_wp2_with fail
      exact bodyPost_ret (v := .tuple #[u6, .bool true]) (by simp [results, Tryd.results29, go_sem]) rfl ⟨HQ.out.2.1, _, by rw [HQ.out.2.2], fun _ => by have h1 := HQ.out.1; rw [List.map_map] at h1; exact h1⟩
end Go.Proofs.YtlfajfmkljnodaaDoor
