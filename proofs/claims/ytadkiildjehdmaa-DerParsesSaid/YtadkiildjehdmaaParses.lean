/- The walk of the law DerParses. -/
import Derived.Test.YtadkiildjehdmaaApart4
import Derived.Test.YtadkiildjehdmaaRef2
import Derived.Test.YtadkiildjehdmaaWorks
import Derived.Test.YtadkiildjehdmaaDer5
namespace Go.Proofs.Ytadkiildjehdmaa
open Go.RowKit
set_option maxRecDepth 1000000
set_option linter.unusedVariables false
set_option linter.unusedSimpArgs false

/-- Rows one behind the other lie in blocks of their own. -/
theorem Owns.apart {w : World} : ∀ {l : List (Value × List UInt8)} {lo hi : Nat}, Owns w lo hi l → Apart' l
  | [], _, _, _ => List.Pairwise.nil
  | (v, xs) :: l, lo, hi, ⟨mid, h1, h2, h3⟩ => by
    refine List.Pairwise.cons ?_ (Owns.apart h3)
    intro p hp g e1 e2
    have a := h2.lt_ (q := g) e1
    have b := (Owns.rd h3 (v := p.1) (xs := p.2) hp).lt_ e2
    omega
theorem Owns.rows {w : World} {l : List (Value × List UInt8)} {lo hi : Nat} (h : Owns w lo hi l) : ∀ p ∈ l, OwnB w lo hi p.1 p.2 := fun p hp => Owns.rd h (v := p.1) (xs := p.2) hp
/-- Two groups of rows, one behind the other. -/
theorem apart_back {w : World} {lo mid hi : Nat} {l l' : List (Value × List UInt8)} (h : ∀ p ∈ l, OwnB w lo mid p.1 p.2) (h' : ∀ p ∈ l', OwnB w mid hi p.1 p.2) (ha : Apart' l) (ha' : Apart' l') : Apart' (l' ++ l) := by
  refine List.pairwise_append.2 ⟨ha', ha, fun p hp q hq g e1 e2 => ?_⟩
  have a := (h' p hp).lt_ e1
  have b := (h q hq).lt_ e2
  omega

/-- What Parse tells, errors too. -/
structure Der.PR where
  t : UInt8
  body : List UInt8
  raw : List UInt8
  rest : List UInt8
  er : Int
def Der.pres (er : Int) (xs : List UInt8) : Der.PR := match Der.elem xs with
  | none => ⟨0, [], [], [], er⟩
  | some (t, body, raw, rest) => ⟨t, body, raw, rest, 0⟩
theorem Owns.nils (w : World) (n : Nat) {lo hi : Nat} (h : lo ≤ hi) : Owns w lo hi (List.replicate n (.slice none 0 0, [])) := by
  induction n with
  | zero => exact h
  | succ n ih => exact ⟨lo, Nat.le_refl _, OwnB.nil_, ih⟩
theorem ParsePost.one {er : Int} {xs : List UInt8} {w w' : World} {e : Ending} (h : ParsePost er xs w e w') :
    ∃ A1 n1 c1 A2 n2 c2 A3 n3 c3, e = .returned (.tuple #[.agg #[.int .u8 ((Der.pres er xs).t.toNat : Int), .slice A1 n1 c1, .slice A2 n2 c2], .slice A3 n3 c3, .int .i64 (Der.pres er xs).er]) ∧
      Owns w' w.heap.size w'.heap.size [(.slice A1 n1 c1, (Der.pres er xs).body), (.slice A2 n2 c2, (Der.pres er xs).raw), (.slice A3 n3 c3, (Der.pres er xs).rest)] ∧ Below w.heap.size w w' := by
  obtain ⟨hb, ⟨hno, rfl⟩ | ⟨t, body, raw, rest, A1, n1, c1, A2, n2, c2, A3, n3, c3, hel, rfl, ho⟩⟩ := h
  · refine ⟨none, 0, 0, none, 0, 0, none, 0, 0, ?_, ?_, hb⟩
    · simp [Der.pres, hno]
    · simp only [Der.pres, hno]
      exact Owns.nils w' 3 hb.size
  · refine ⟨A1, n1, c1, A2, n2, c2, A3, n3, c3, ?_, ?_, hb⟩
    · simp [Der.pres, hel]
    · simp only [Der.pres, hel]
      exact ho
theorem Der.pres_len (er : Int) (xs : List UInt8) : (Der.pres er xs).body.length ≤ xs.length ∧ (Der.pres er xs).raw.length ≤ xs.length ∧ (Der.pres er xs).rest.length ≤ xs.length := by
  unfold Der.pres
  cases h : Der.elem xs with
  | none => simp
  | some x =>
    obtain ⟨t, b, r, s⟩ := x
    have := elem_len h
    exact ⟨this.1, this.2.1, this.2.2.1⟩

def ParsesPost (w : World) (e : Ending) (w' : World) : Prop := e = .returned (.bool true) ∧ Below w.heap.size w w'

theorem parses_large (A : Option Addr) (n c : Nat) (w : World) (hn : (8192 : Int) < n) :
    Calls Try.prog 3 #[.slice A n c] w (ParsesPost w) := by
  go_enter Try.func3, Try.ntmps3
  go_wp2_with fail
  refine (large_any A n c _).mono ?_
  rintro e w1 ⟨he, rfl⟩
  rw [decide_eq_true hn] at he
  subst he
  go_wp2_with fail
  refine (works_any _).mono ?_
  rintro e w1 ⟨rfl, hb1⟩
  go_wp2
  go_ret
  exact ⟨rfl, hb1⟩

set_option maxHeartbeats 4000000 in
theorem parses_main (A : Option Addr) (n c : Nat) (xs : List UInt8) (w : World) (h : Rd w w.heap.size A n c xs) (hn : ¬ (8192 : Int) < n) :
    Calls Try.prog 3 #[.slice A n c] w (ParsesPost w) := by
  have hl := h.len
  have H := Lib.hid (And.intro h hl)
  clear h hl
  go_enter Try.func3, Try.ntmps3
  go_wp2_with fail
  refine (large_any A n c _).mono ?_
  rintro e w ⟨he, rfl⟩
  rw [decide_eq_false (show ¬ (8192 : Int) < n by omega)] at he
  subst he
  go_wp2_with fail
  refine (roomy_any A n c xs _ H.out.1 (by omega)).mono ?_
  rintro e w1 ⟨v1, rfl, hR1, hb1⟩
  obtain ⟨A1, n1, c1, rfl, hr1⟩ := hR1.own.rd
  have hn1 : n1 = n := by rw [← hr1.len, H.out.2]
  subst hn1
  have H1 := Lib.hid (And.intro hR1 (And.intro hr1 hb1))
  have hs1 := hb1.size
  clear hR1 hr1 hb1
  go_wp2_with fail
  refine (parse_any A1 n1 c1 xs _ H1.out.2.1 (by omega)).mono ?_
  rintro e w2 hp
  obtain ⟨A2, n2, c2, A3, n3, c3, A4, n4, c4, rfl, ho2, hb2⟩ := hp.one
  clear hp
  obtain ⟨R, hR⟩ : ∃ R, Der.pres 9 xs = R := ⟨_, rfl⟩
  have hpl := Der.pres_len 9 xs
  rw [hR] at ho2 hpl ⊢
  have hs2 := hb2.size
  have hbx := Blk.new w2 27 #[.int .u8 (R.t.toNat : Int), .slice A2 n2 c2, .slice A3 n3 c3]
  have H2 := Lib.hid (And.intro ho2 (And.intro hb2 (And.intro hpl hR)))
  clear ho2 hb2 hR hpl
  go_wp2_with fail
  refine (refParse_any A n1 c xs _ (H.out.1.up (H1.out.2.2.trans ((Below.trans H2.out.2.1 (by (repeat (first | exact Below.refl _ _ | assumption | (refine Below.setCell ?_ (by first | omega | (simp; done) | (simp; omega)) _) | (refine Below.alloc ?_ (by first | omega | (simp; done) | (simp; omega)) _) | (refine below_drewN ?_ _) | (refine Below.drew ?_))))).mono hs1))) (by omega)).mono ?_
  rintro e w3 hp
  obtain ⟨A5, n5, c5, A6, n6, c6, A7, n7, c7, rfl, ho3, hb3⟩ := hp.one
  clear hp
  have hR := H2.out.2.2.2
  rw [hR] at ho3 ⊢
  have hs3 := hb3.size
  simp at hs3
  obtain ⟨hcx, hfx, hBx, hzx⟩ := hbx.box hb3 (by simp)
  have hby := Blk.new w3 27 #[.int .u8 (R.t.toNat : Int), .slice A5 n5 c5, .slice A6 n6 c6]
  have hBx' := hBx.alloc (.cells #[.int .u8 (R.t.toNat : Int), .slice A5 n5 c5, .slice A6 n6 c6] 27)
  have hb23 : Below w2.heap.size w2 w3 := Below.trans (by (repeat (first | exact Below.refl _ _ | assumption | (refine Below.setCell ?_ (by first | omega | (simp; done) | (simp; omega)) _) | (refine Below.alloc ?_ (by first | omega | (simp; done) | (simp; omega)) _) | (refine below_drewN ?_ _) | (refine Below.drew ?_)))) (hb3.mono (by simp))
  have hO2 := H2.out.1.below hb23 (Nat.le_refl _)
  have H3 := Lib.hid (And.intro ho3 (And.intro hb3 (And.intro hBx' (And.intro hby (And.intro hb23 hO2)))))
  clear ho3 hb3 hR hBx hBx' hby hbx hb23 hO2
  go_wp2_with fail
  have q1 : ∀ {A' : Option Addr} {n' c' : Nat} {ys : List UInt8}, ∀ lo hi, OwnB w3 lo hi (.slice A' n' c') ys → hi ≤ w3.heap.size → Rd (w3.alloc (.cells #[.int .u8 (R.t.toNat : Int), .slice A5 n5 c5, .slice A6 n6 c6] 27)) w3.heap.size A' n' c' ys := by
    intro A' n' c' ys lo hi ho hh
    obtain ⟨_, _, _, e', hrd⟩ := ho.rd
    injection e' with ea en ec
    subst ea en ec
    exact (hrd.more hh).alloc (Nat.le_refl _) _
  have r2 := H3.out.2.2.2.2.2.rows
  have r3 := H3.out.1.rows
  simp only [List.mem_cons, List.not_mem_nil, or_false, forall_eq_or_imp, forall_eq] at r2 r3
  have HQ := Lib.hid (And.intro (And.intro (q1 _ _ r2.1 (by omega)) (And.intro (q1 _ _ r2.2.1 (by omega)) (q1 _ _ r2.2.2 (by omega)))) (And.intro (q1 _ _ r3.1 (Nat.le_refl _)) (And.intro (q1 _ _ r3.2.1 (Nat.le_refl _)) (q1 _ _ r3.2.2 (Nat.le_refl _)))))
  clear r2 r3 q1
  refine (one_any R.t A2 A3 A5 A6 n2 c2 n3 c3 n5 c5 n6 c6 R.body R.raw w3.heap.size _ HQ.out.1.1 HQ.out.1.2.1 HQ.out.2.1 HQ.out.2.2.1 (by simp)).mono ?_
  rintro e w4 ⟨rfl, hb4⟩
  simp only [World.size_alloc] at hb4
  obtain ⟨hcx4, hfx4, hBx4, hzx4⟩ := H3.out.2.2.1.box hb4 (by omega)
  have hs4 := hb4.size
  simp at hs4
  have H4 := Lib.hid (And.intro hb4 hBx4)
  clear hb4 hBx4 hcx hfx hzx
  go_wp2_with fail
  refine (eqbytes_same _ _ _ _ _ _ _ _ _ _ ((HQ.out.1.2.2.more (show w3.heap.size ≤ w3.heap.size + 1 by omega)).below H4.out.1) ((HQ.out.2.2.2.more (show w3.heap.size ≤ w3.heap.size + 1 by omega)).below H4.out.1)).mono ?_
  rintro e w5 ⟨rfl, rfl⟩
  have hb34 : Below w3.heap.size w3 w5 := Below.trans (by (repeat (first | exact Below.refl _ _ | assumption | (refine Below.setCell ?_ (by first | omega | (simp; done) | (simp; omega)) _) | (refine Below.alloc ?_ (by first | omega | (simp; done) | (simp; omega)) _) | (refine below_drewN ?_ _) | (refine Below.drew ?_)))) (H4.out.1.mono (by omega))
  have hb14 : Below w1.heap.size w1 w5 := H2.out.2.1.trans ((H3.out.2.2.2.2.1.trans (hb34.mono (by omega))).mono hs2)
  have hR5 := H1.out.1.below hb14 (Nat.le_refl _)
  have hRd5 := H.out.1.up (H1.out.2.2.trans (hb14.mono hs1))
  have hbw5 : Below w.heap.size w w5 := H1.out.2.2.trans (hb14.mono hs1)
  have H5 := Lib.hid (And.intro hR5 (And.intro hRd5 (And.intro hb34 hbw5)))
  clear hb34 hb14 hR5 hRd5 hbw5
  go_wp2_with fail
  refine (kept_any _ _ _ _ _ _ _ _ _ H5.out.1 H5.out.2.1 (by omega)).mono ?_
  rintro e w6 ⟨rfl, rfl⟩
  have rows : ∀ p ∈ [(Value.slice A2 n2 c2, R.body), (.slice A3 n3 c3, R.raw), (.slice A4 n4 c4, R.rest)], OwnB w6 w1.heap.size w6.heap.size p.1 p.2 :=
    fun p hp => ((H3.out.2.2.2.2.2.rows p hp).below H5.out.2.2.1 (by omega)).mono (Nat.le_refl _) (by omega)
  have hap := apart_back (l := [(Value.slice A1 n1 c1, xs)]) (lo := w.heap.size) (mid := w1.heap.size) (fun p hp => by obtain rfl := List.mem_singleton.1 hp; exact H5.out.1.own) rows (by simp [Apart']) H2.out.1.apart
  have HA := Lib.hid (And.intro rows hap)
  clear rows hap
  go_wp2_with fail
  have hz : (w6.alloc (.cells #[.int .u8 (R.t.toNat : Int), .slice A2 n2 c2, .slice A3 n3 c3] 27)).heap.size = w6.heap.size + 1 := by simp
  refine (apart_any w.heap.size w6.heap.size (some ⟨w6.heap.size, 0, none⟩) (some ⟨w6.heap.size + 1, 0, none⟩) 1 1 2 2 [⟨R.t, .slice A2 n2 c2, R.body, .slice A3 n3 c3, R.raw⟩] [(.slice A4 n4 c4, R.rest), (.slice A1 n1 c1, xs)] _ rfl ?_ rfl (by omega) ?_ ?_ ?_ (by omega) (by simp; omega) (by omega) ?_).mono ?_
  · intro k x hx
    have hk : k = 0 := by have := (List.getElem?_eq_some_iff.1 hx).1; simp at this; omega
    subst hk
    simp only [List.getElem?_cons_zero, Option.some.injEq] at hx
    subst hx
    have hb := (Blk.new w6 27 #[.int .u8 (R.t.toNat : Int), .slice A2 n2 c2, .slice A3 n3 c3]).alloc (.cells #[.slice A4 n4 c4, .slice A1 n1 c1] 22)
    exact ⟨_, rfl, hb.lt, hb.cell 1, hb.cell 2⟩
  · have := reads_two (w6.alloc (.cells #[.int .u8 (R.t.toNat : Int), .slice A2 n2 c2, .slice A3 n3 c3] 27)) 22 (.slice A4 n4 c4) (.slice A1 n1 c1)
    rw [hz] at this
    exact this.more (by simp)
  · intro p hp
    have hp' : p ∈ [(Value.slice A2 n2 c2, R.body), (.slice A3 n3 c3, R.raw), (.slice A4 n4 c4, R.rest)] ++ [(.slice A1 n1 c1, xs)] := by simpa [EI.rows] using hp
    rcases List.mem_append.1 hp' with hp' | hp'
    · exact (((HA.out.1 p hp').alloc (Nat.le_refl _) _).alloc (by simp) _).mono (by omega) (Nat.le_refl _)
    · obtain rfl := List.mem_singleton.1 hp'
      exact ((H5.out.1.own.alloc (by omega) _).alloc (by simp; omega) _).mono (Nat.le_refl _) (by omega)
  · simpa [EI.rows] using HA.out.2
  · intro p hp
    have hp' : p ∈ [(Value.slice A2 n2 c2, R.body), (.slice A3 n3 c3, R.raw), (.slice A4 n4 c4, R.rest), (.slice A1 n1 c1, xs)] := by simpa [EI.rows] using hp
    have h1 := H2.out.2.2.1
    have h2 := H.out.2
    simp only [List.mem_cons, List.not_mem_nil, or_false] at hp'
    rcases hp' with rfl | rfl | rfl | rfl <;> simp <;> omega
  rintro e w7 ⟨rfl, hb7⟩
  have hbw7 : Below w.heap.size w w7 := H5.out.2.2.2.trans ((Below.alloc (Below.alloc (Below.refl _ _) (by omega) _) (by simp; omega) _).trans hb7)
  go_wp2_with fail
  refine (works_any _).mono ?_
  rintro e w8 ⟨rfl, hb8⟩
  go_wp2
  go_ret
  exact ⟨rfl, hbw7.trans (hb8.mono hbw7.size)⟩

theorem derParses_walk (w : World) (A : Option Addr) (n c : Nat) (xs : List UInt8) (h : Rd w w.heap.size A n c xs) :
    Calls Try.prog 3 #[.slice A n c] w fun e w' => e = .returned (.bool true) ∧ Below w.heap.size w w' := by
  by_cases hn : (8192 : Int) < n
  · exact parses_large A n c w hn
  · exact parses_main A n c xs w h hn
end Go.Proofs.Ytadkiildjehdmaa
