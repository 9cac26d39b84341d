/- The contracts of the document's Parts, only, whole, number, value. -/
import Derived.Test.YtmnekhliblkibaaAllsC
import Derived.Test.YtmnekhliblkibaaRefBitsC
import Derived.Test.YtmnekhliblkibaaGO
import Derived.Test.YtmnekhliblkibaaRCSpec
namespace Go.Proofs.Ytmnekhliblkibaa
open Go.RowKit
set_option maxRecDepth 100000
set_option linter.unusedVariables false
set_option linter.unusedSimpArgs false

/-- Bytes of one's own and whether they are right; at most so many. -/
def BytesQ (w : World) (m : Nat) (o : Option (List UInt8)) (e : Ending) (w' : World) : Prop :=
  ∃ (q : Bool) (A : Option Addr) (n c : Nat) (ys : List UInt8), e = .returned (.tuple #[.slice A n c, .bool q]) ∧ Below w.heap.size w w' ∧ OwnB w' w.heap.size w'.heap.size (.slice A n c) ys ∧ ys.length ≤ m ∧ o = if q = true then some ys else none
/-- Elements of one's own and whether they are right; of at most so many bytes. -/
def ElemsQ (w : World) (m : Nat) (o : Option (List El)) (e : Ending) (w' : World) : Prop :=
  ∃ (q : Bool) (A : Option Addr) (n c : Nat) (L : List EI), e = .returned (.tuple #[.slice A n c, .bool q]) ∧ Below w.heap.size w w' ∧ OwnE w' w.heap.size w'.heap.size (.slice A n c) L ∧ n = L.length ∧ (∀ y ∈ L.map EI.dat, y.2.1.length ≤ m ∧ y.2.2.length ≤ m) ∧ o = if q = true then some (L.map EI.dat) else none

theorem rparts_any (t : UInt8) (A1 A2 : Option Addr) (n1 c1 n2 c2 : Nat) (u : Int) (b r : List UInt8) (w : World) (h1 : Rd w w.heap.size A1 n1 c1 b) (hn : n1 ≤ 1099511627) :
    Calls Try.prog 48 #[.agg #[.int .u8 (t.toNat : Int), .slice A1 n1 c1, .slice A2 n2 c2], .int .u8 u] w (ElemsQ w n1 (RC.parts u (t, b, r))) := by
  have hB0 := Blk.new w 50 #[.int .u8 (t.toNat : Int), .slice A1 n1 c1, .slice A2 n2 c2]
  have hnl := h1.len
  go_enter Try.func48, Try.ntmps48
  go_wp2_with fail
  refine (refAll_any A1 n1 c1 b _ ((h1.alloc (Nat.le_refl _) _).more (by simp)) hn).mono ?_
  rintro e w2 ⟨hb2, ⟨hany, rfl⟩ | ⟨L, A, n, c, hs, rfl, hE⟩⟩
  · have hbw : Below w.heap.size w w2 := Below.trans (by (repeat (first | exact Below.refl _ _ | assumption | (refine Below.setCell ?_ (by first | omega | (simp; done) | (simp; omega)) _) | (refine Below.alloc ?_ (by first | omega | (simp; done) | (simp; omega)) _) | (refine below_drewN ?_ _) | (refine Below.drew ?_)))) (hb2.mono (by first | omega | (simp; done) | (simp; omega)))
    have hB2 := hB0.below hb2 (by simp)
    have k0 : w2.cell? ⟨w.heap.size, 0, none⟩ = some (.int .u8 (t.toNat : Int)) := hB2.cell 0
    have hspec : RC.parts u (t, b, r) = none := by unfold RC.parts; rw [all_none hany]; simp
    have H2 := Lib.hid (And.intro hbw hspec)
    clear hbw hB2 hany hb2 hB0 hspec h1
    by_cases hu : (t.toNat : Int) = u
    · subst hu
      have he : ((t.toNat : Int) == (t.toNat : Int)) = true := by simp
      go_wp2
      go_ret2
      exact ⟨false, none, 0, 0, [], rfl, H2.out.1, OwnE.nil_, rfl, by simp, H2.out.2⟩
    · have he : ((t.toNat : Int) == u) = false := by simpa using hu
      go_wp2
      go_ret2
      exact ⟨false, none, 0, 0, [], rfl, H2.out.1, OwnE.nil_, rfl, by simp, H2.out.2⟩
  · have hbw : Below w.heap.size w w2 := Below.trans (by (repeat (first | exact Below.refl _ _ | assumption | (refine Below.setCell ?_ (by first | omega | (simp; done) | (simp; omega)) _) | (refine Below.alloc ?_ (by first | omega | (simp; done) | (simp; omega)) _) | (refine below_drewN ?_ _) | (refine Below.drew ?_)))) (hb2.mono (by first | omega | (simp; done) | (simp; omega)))
    have hB2 := hB0.below hb2 (by simp)
    have k0 : w2.cell? ⟨w.heap.size, 0, none⟩ = some (.int .u8 (t.toNat : Int)) := hB2.cell 0
    have hl := ownE_len hE
    have hall : Der.all b = some (L.map EI.dat) := all_some (by rw [hs, List.map_map]; rfl)
    have hm : ∀ y ∈ L.map EI.dat, y.2.1.length ≤ n1 ∧ y.2.2.length ≤ n1 := by rw [← hnl]; exact seq_bounds hall
    have H2 := Lib.hid (And.intro hbw (And.intro hall (And.intro (hE.mono (lo' := w.heap.size) (by simp) (Nat.le_refl _)) (And.intro hl hm))))
    clear hbw hB2 hall hE hs hb2 hB0 h1 hl hm
    by_cases hu : (t.toNat : Int) = u
    · subst hu
      have he : ((t.toNat : Int) == (t.toNat : Int)) = true := by simp
      go_wp2
      go_ret2
      exact ⟨true, A, n, c, L, rfl, H2.out.1, H2.out.2.2.1, H2.out.2.2.2.1, H2.out.2.2.2.2, by unfold RC.parts; rw [if_pos rfl, H2.out.2.1]; rfl⟩
    · have he : ((t.toNat : Int) == u) = false := by simpa using hu
      have hu' := Lib.hid hu
      clear hu
      go_wp2
      go_ret2
      exact ⟨false, A, n, c, L, rfl, H2.out.1, H2.out.2.2.1, H2.out.2.2.2.1, H2.out.2.2.2.2, by unfold RC.parts; rw [if_neg hu'.out]; rfl⟩

theorem rwhole_any (t : UInt8) (A1 A2 : Option Addr) (n1 c1 n2 c2 : Nat) (b r : List UInt8) (w : World) (h1 : Rd w w.heap.size A1 n1 c1 b) (hn : n1 ≤ 1099511627776) :
    Calls Try.prog 49 #[.agg #[.int .u8 (t.toNat : Int), .slice A1 n1 c1, .slice A2 n2 c2]] w (BytesQ w n1 (Cert.whole (t, b, r))) := by
  have hB0 := Blk.new w 50 #[.int .u8 (t.toNat : Int), .slice A1 n1 c1, .slice A2 n2 c2]
  have hnl := h1.len
  have hsp : ∀ (k : Nat) (ys : List UInt8), Der.bits b = some (ys, k) → Cert.whole (t, b, r) = if ((t.toNat : Int) == 3 && (k : Int) == 0) = true then some ys else none := by
    intro k ys h
    unfold Cert.whole
    by_cases h3 : (t.toNat : Int) = 3
    · rw [body_mk (x := (t, b, r)) h3]
      simp only [Option.bind_some, h]
      by_cases h0 : k = 0
      · subst h0; rw [must_t (b := ((ys, 0) : List UInt8 × Nat).2 == 0) rfl]; simp [h3]
      · rw [must_f (by simpa using h0), if_neg (by simp; omega)]; rfl
    · rw [body_no (x := (t, b, r)) h3, if_neg (by simp [h3])]; rfl
  have hsn : Der.bits b = none → Cert.whole (t, b, r) = none := by
    intro h
    unfold Cert.whole
    by_cases h3 : (t.toNat : Int) = 3
    · rw [body_mk (x := (t, b, r)) h3]
      simp only [Option.bind_some, h]; rfl
    · rw [body_no (x := (t, b, r)) h3]; rfl
  have HS := Lib.hid (And.intro hsp hsn)
  clear hsp hsn
  go_enter Try.func49, Try.ntmps49
  go_wp2_with fail
  refine (refBits_any A1 n1 c1 b _ ((h1.alloc (Nat.le_refl _) _).more (by simp)) hn).mono ?_
  rintro e w2 ⟨hb2, ⟨hx, rfl⟩ | ⟨ys, k, A, n, c, hx, rfl, hO⟩⟩
  · have hbw : Below w.heap.size w w2 := Below.trans (by (repeat (first | exact Below.refl _ _ | assumption | (refine Below.setCell ?_ (by first | omega | (simp; done) | (simp; omega)) _) | (refine Below.alloc ?_ (by first | omega | (simp; done) | (simp; omega)) _) | (refine below_drewN ?_ _) | (refine Below.drew ?_)))) (hb2.mono (by first | omega | (simp; done) | (simp; omega)))
    have hB2 := hB0.below hb2 (by simp)
    have k0 : w2.cell? ⟨w.heap.size, 0, none⟩ = some (.int .u8 (t.toNat : Int)) := hB2.cell 0
    have H2 := Lib.hid (And.intro hbw (HS.out.2 hx))
    clear hbw hB2 hb2 hB0 h1 hx
    obtain ⟨q, hq⟩ : ∃ q, ((t.toNat : Int) == 3) = q := ⟨_, rfl⟩
    cases q <;>
    · go_wp2
      go_ret2
      exact ⟨false, none, 0, 0, [], rfl, H2.out.1, OwnB.nil_, Nat.zero_le _, H2.out.2⟩
  · have hbw : Below w.heap.size w w2 := Below.trans (by (repeat (first | exact Below.refl _ _ | assumption | (refine Below.setCell ?_ (by first | omega | (simp; done) | (simp; omega)) _) | (refine Below.alloc ?_ (by first | omega | (simp; done) | (simp; omega)) _) | (refine below_drewN ?_ _) | (refine Below.drew ?_)))) (hb2.mono (by first | omega | (simp; done) | (simp; omega)))
    have hB2 := hB0.below hb2 (by simp)
    have k0 : w2.cell? ⟨w.heap.size, 0, none⟩ = some (.int .u8 (t.toNat : Int)) := hB2.cell 0
    have hlen : ys.length ≤ n1 := by rw [← hnl]; exact bits_len hx
    have H2 := Lib.hid (And.intro hbw (And.intro (HS.out.1 k ys hx) (And.intro (hO.mono (lo' := w.heap.size) (by simp) (Nat.le_refl _)) hlen)))
    clear hbw hB2 hb2 hB0 h1 hx hO hlen
    obtain ⟨q, hq⟩ : ∃ q, ((t.toNat : Int) == 3) = q := ⟨_, rfl⟩
    obtain ⟨p, hp⟩ : ∃ p, ((k : Int) == 0) = p := ⟨_, rfl⟩
    cases q
    · go_wp2
      go_ret2
      exact ⟨false, A, n, c, ys, rfl, H2.out.1, H2.out.2.2.1, H2.out.2.2.2, by rw [H2.out.2.1, hq, hp]; simp⟩
    · cases p <;>
      · go_wp2
        go_ret2
        exact ⟨_, A, n, c, ys, rfl, H2.out.1, H2.out.2.2.1, H2.out.2.2.2, by rw [H2.out.2.1, hq, hp]; simp⟩

theorem rnumber_any (t : UInt8) (A1 A2 : Option Addr) (n1 c1 n2 c2 : Nat) (b r : List UInt8) (w : World) (h1 : Rd w w.heap.size A1 n1 c1 b) (hn : n1 ≤ 1099511627776) :
    Calls Try.prog 76 #[.agg #[.int .u8 (t.toNat : Int), .slice A1 n1 c1, .slice A2 n2 c2]] w (BytesQ w n1 (Cert.number (t, b, r))) := by
  have hB0 := Blk.new w 50 #[.int .u8 (t.toNat : Int), .slice A1 n1 c1, .slice A2 n2 c2]
  have hnl := h1.len
  have hsp : Cert.number (t, b, r) = if ((t.toNat : Int) == 2) = true then Der.int b else none := by
    unfold Cert.number
    by_cases h3 : (t.toNat : Int) = 2
    · rw [body_mk (x := (t, b, r)) h3]; simp [h3]
    · rw [body_no (x := (t, b, r)) h3, if_neg (by simp [h3])]; rfl
  have HS := Lib.hid hsp
  clear hsp
  go_enter Try.func76, Try.ntmps76
  go_wp2_with fail
  refine (refInt_any A1 n1 c1 b _ ((h1.alloc (Nat.le_refl _) _).more (by simp)) hn).mono ?_
  rintro e w2 ⟨hb2, ⟨hx, rfl⟩ | ⟨ys, A, n, c, hx, rfl, hO⟩⟩
  · have hbw : Below w.heap.size w w2 := Below.trans (by (repeat (first | exact Below.refl _ _ | assumption | (refine Below.setCell ?_ (by first | omega | (simp; done) | (simp; omega)) _) | (refine Below.alloc ?_ (by first | omega | (simp; done) | (simp; omega)) _) | (refine below_drewN ?_ _) | (refine Below.drew ?_)))) (hb2.mono (by first | omega | (simp; done) | (simp; omega)))
    have hB2 := hB0.below hb2 (by simp)
    have k0 : w2.cell? ⟨w.heap.size, 0, none⟩ = some (.int .u8 (t.toNat : Int)) := hB2.cell 0
    have H2 := Lib.hid (And.intro hbw hx)
    clear hbw hB2 hb2 hB0 h1 hx
    obtain ⟨q, hq⟩ : ∃ q, ((t.toNat : Int) == 2) = q := ⟨_, rfl⟩
    cases q <;>
    · go_wp2
      go_ret2
      exact ⟨false, none, 0, 0, [], rfl, H2.out.1, OwnB.nil_, Nat.zero_le _, by rw [HS.out, hq, H2.out.2]; simp⟩
  · have hbw : Below w.heap.size w w2 := Below.trans (by (repeat (first | exact Below.refl _ _ | assumption | (refine Below.setCell ?_ (by first | omega | (simp; done) | (simp; omega)) _) | (refine Below.alloc ?_ (by first | omega | (simp; done) | (simp; omega)) _) | (refine below_drewN ?_ _) | (refine Below.drew ?_)))) (hb2.mono (by first | omega | (simp; done) | (simp; omega)))
    have hB2 := hB0.below hb2 (by simp)
    have k0 : w2.cell? ⟨w.heap.size, 0, none⟩ = some (.int .u8 (t.toNat : Int)) := hB2.cell 0
    have hlen : ys.length ≤ n1 := by rw [← hnl]; exact int_len hx
    have H2 := Lib.hid (And.intro hbw (And.intro hx (And.intro (hO.mono (lo' := w.heap.size) (by simp) (Nat.le_refl _)) hlen)))
    clear hbw hB2 hb2 hB0 h1 hx hO hlen
    obtain ⟨q, hq⟩ : ∃ q, ((t.toNat : Int) == 2) = q := ⟨_, rfl⟩
    cases q <;>
    · go_wp2
      go_ret2
      exact ⟨_, A, n, c, ys, rfl, H2.out.1, H2.out.2.2.1, H2.out.2.2.2, by rw [HS.out, hq, H2.out.2.1] <;> rfl⟩

/-- A number's value and whether it is small. -/
def ValueQ (w : World) (b : List UInt8) (e : Ending) (w' : World) : Prop := w' = w ∧ ∃ (q : Bool) (v : Nat), e = .returned (.tuple #[.int .u64 (v : Int), .bool q]) ∧ RC.value b = if q = true then some v else none
theorem rvalue_any (A : Option Addr) (n c : Nat) (b : List UInt8) (w : World) (h : Rd w w.heap.size A n c b) :
    Calls Try.prog 99 #[.slice A n c] w (ValueQ w b) := by
  have hl := h.len
  by_cases h5 : 5 < n
  · have h5' : (5 : Int) < n := by omega
    have HS : Hid (RC.value b = none) := Lib.hid (by unfold RC.value; rw [if_neg (by omega)])
    clear hl h
    go_enter Try.func99, Try.ntmps99
    go_wp2
    go_ret2
    exact ⟨rfl, false, 0, rfl, HS.out⟩
  have h5' : ¬ (5 : Int) < n := by omega
  have H := Lib.hid (And.intro h hl)
  clear h hl
  go_enter Try.func99, Try.ntmps99
  go_wp2
  go_loopw [4, 5] (fun v i wr => ∃ k : Nat, k ≤ n ∧ i = .int .i64 k ∧ v = .int .u64 (Der.be (b.take k) : Int) ∧ wr = w) (fun _ i _ => n - (intOf i).toNat)
  case atStart => exact ⟨0, Nat.zero_le _, rfl, rfl, rfl⟩
  case round =>
    obtain ⟨k, hk, rfl, rfl, rfl⟩ := hrel
    have hbl : Der.be (b.take k) < 256 ^ k := by
      have := Der.be_lt (b.take k)
      rwa [List.length_take, Nat.min_eq_left (by have := H.out.2; omega)] at this
    obtain ⟨V, hV⟩ : ∃ V, Der.be (b.take k) = V := ⟨_, rfl⟩
    have hVb : V < 1099511627776 := by
      rw [← hV]
      have := Nat.pow_le_pow_right (n := 256) (by decide) (show k ≤ 5 by omega)
      omega
    by_cases hlt : k < n
    · have hlt' : (k : Int) < n := by omega
      obtain ⟨g, o, rfl, hg, hcell⟩ := H.out.1.at_ (by omega)
      obtain ⟨x, hx⟩ : ∃ x, b[k]? = some x := ⟨_, List.getElem?_eq_getElem (by have := H.out.2; omega)⟩
      have hcx := hcell k x hx
      have hbe : Der.be (b.take (k + 1)) = Der.be (b.take k) * 256 + x.toNat := by rw [take_snoc hx, Der.be_snoc]
      have hbl2 : Der.be (b.take (k + 1)) < 1099511627776 := by
        have h1 := Der.be_lt (b.take (k + 1))
        rw [List.length_take, Nat.min_eq_left (by have := H.out.2; omega)] at h1
        have := Nat.pow_le_pow_right (n := 256) (by decide) (show k + 1 ≤ 5 by omega)
        omega
      rw [hV] at hbe ⊢
      have hxl := x.toNat_lt
      have hb2 : V * 256 + x.toNat < 1099511627776 := by omega
      have hw1 : IntKind.u64.wrap (256 * (V : Int)) = 256 * (V : Int) := IntWalk.u64_in _ (by omega)
      have hw2 : IntKind.u64.wrap (256 * (V : Int) + (x.toNat : Int)) = 256 * (V : Int) + (x.toNat : Int) := IntWalk.u64_in _ (by omega)
      have hw3 : IntKind.u64.wrap (x.toNat : Int) = (x.toNat : Int) := IntWalk.u64_in _ (by omega)
      have HK := Lib.hid hbe
      clear hbe hbl hcell hx hV hbl2
      go_wp2
      go_roundw
      case rel => exact ⟨k + 1, by omega, by go_num, by rw [HK.out]; go_num, by first | rfl | trivial⟩
      case measure => simp [intOf]; omega
    · obtain rfl : n = k := by omega
      have hge : ¬ (n : Int) < n := by omega
      have e : b.take n = b := List.take_of_length_le (by have := H.out.2; omega)
      rw [hV]
      have HV := Lib.hid (hV.symm.trans (by rw [e]))
      clear hV hbl e
      go_wp2
      go_ret2
      refine ⟨rfl, decide ((V : Int) < 8589934592), V, rfl, ?_⟩
      unfold RC.value
      rw [← HV.out]
      by_cases hv : V < 8589934592
      · rw [if_pos ⟨by have := H.out.2; omega, hv⟩, if_pos (by simp; omega)]
      · rw [if_neg (fun h => hv h.2), if_neg (by simp; omega)]

/-- The one element that bytes are, and whether they are one. -/
def OnlyQ (w : World) (n : Nat) (xs : List UInt8) (e : Ending) (w' : World) : Prop := ∃ (q : Bool) (t : UInt8) (b r : List UInt8) (A1 : Option Addr) (n1 c1 : Nat) (A2 : Option Addr) (n2 c2 : Nat),
  e = .returned (.tuple #[.agg #[.int .u8 (t.toNat : Int), .slice A1 n1 c1, .slice A2 n2 c2], .bool q]) ∧ Below w.heap.size w w' ∧ Owns w' w.heap.size w'.heap.size [(.slice A1 n1 c1, b), (.slice A2 n2 c2, r)] ∧ b.length ≤ n ∧ r.length ≤ n ∧ Cert.only xs = if q = true then some (t, b, r) else none
set_option maxHeartbeats 1000000 in
theorem ronly_any (A : Option Addr) (n c : Nat) (xs : List UInt8) (w : World) (h : Rd w w.heap.size A n c xs) (hn : n ≤ 1099511627776) :
    Calls Try.prog 47 #[.slice A n c] w (OnlyQ w n xs) := by
  have hnl := h.len
  have hB0 := Blk.new w 50 #[.int .u8 0, .slice none 0 0, .slice none 0 0]
  go_enter Try.func47, Try.ntmps47
  go_wp2_with fail
  refine (refParse_any A n c xs _ (h.alloc (Nat.le_refl _) _ |>.more (by simp)) hn).mono ?_
  rintro e w1 ⟨hb1, ⟨hx, rfl⟩ | ⟨t, body, raw, rest, A1, n1, c1, A2, n2, c2, A3, n3, c3, hx, rfl, ho⟩⟩
  · have hbw : Below w.heap.size w w1 := Below.trans (by (repeat (first | exact Below.refl _ _ | assumption | (refine Below.setCell ?_ (by first | omega | (simp; done) | (simp; omega)) _) | (refine Below.alloc ?_ (by first | omega | (simp; done) | (simp; omega)) _) | (refine below_drewN ?_ _) | (refine Below.drew ?_)))) (hb1.mono (by first | omega | (simp; done) | (simp; omega)))
    have hB1 := hB0.below hb1 (by simp)
    obtain ⟨hc0, hf0⟩ := hB1.facts
    have hlt := hB1.lt
    have H1 := Lib.hid (And.intro hx (And.intro hbw hB1))
    clear hx hbw hb1 hB0 h hB1
    go_wp2
    have hB2 := (((H1.out.2.2.set_ 0 (.int .u8 0)).set_ 1 (.slice none 0 0)).set_ 2 (.slice none 0 0)).alloc (.cells #[.int .u8 0, .slice none 0 0, .slice none 0 0] 50)
    obtain ⟨k0, k1⟩ := hB2.facts
    have k00 := k0 0
    have k01 := k0 1
    have k02 := k0 2
    simp only [List.setIfInBounds_toArray, List.set_cons_zero, List.set_cons_succ, List.getElem?_toArray, List.getElem?_cons_zero, List.getElem?_cons_succ] at k00 k01 k02
    refine bodyPost_ret (v := .tuple #[.agg #[.int .u8 0, .slice none 0 0, .slice none 0 0], .bool false]) (by simp [results, Try.results47, go_sem, k00, k01, k02]) rfl ?_
    refine ⟨false, 0, [], [], none, 0, 0, none, 0, 0, rfl, by have := H1.out.2.1; have := this.size; (repeat (first | exact Below.refl _ _ | assumption | (refine Below.setCell ?_ (by first | omega | (simp; done) | (simp; omega)) _) | (refine Below.alloc ?_ (by first | omega | (simp; done) | (simp; omega)) _) | (refine below_drewN ?_ _) | (refine Below.drew ?_))), ⟨w.heap.size, Nat.le_refl _, OwnB.nil_, w.heap.size, Nat.le_refl _, OwnB.nil_, Nat.le_trans H1.out.2.1.size (by simp)⟩, Nat.zero_le _, Nat.zero_le _, by unfold Cert.only; rw [H1.out.1]; rfl⟩
  · have hbw : Below w.heap.size w w1 := Below.trans (by (repeat (first | exact Below.refl _ _ | assumption | (refine Below.setCell ?_ (by first | omega | (simp; done) | (simp; omega)) _) | (refine Below.alloc ?_ (by first | omega | (simp; done) | (simp; omega)) _) | (refine below_drewN ?_ _) | (refine Below.drew ?_)))) (hb1.mono (by first | omega | (simp; done) | (simp; omega)))
    obtain ⟨m1, hm1, ho1, m2, hm2, ho2, m3, hm3, ho3, hm4⟩ := ho
    have hl3 := ownB_len ho3
    have hB1 := hB0.below hb1 (by simp)
    obtain ⟨hc0, hf0⟩ := hB1.facts
    have hlt := hB1.lt
    have hle := elem_len hx
    have H1 := Lib.hid (And.intro hx (And.intro hbw (And.intro ho1 (And.intro ho2 (And.intro hl3 (And.intro hB1 hle))))))
    have hsz := hbw.size
    have hm4 : m3 ≤ w1.heap.size := hm4
    have hm : w.heap.size + 1 ≤ m1 ∧ m1 ≤ m2 ∧ m2 ≤ w1.heap.size := by simp at hm1; omega
    clear hx hbw hb1 hB0 h ho1 ho2 ho3 hB1 hl3 hm1 hm2 hm3 hm4 hle
    obtain ⟨q, hq⟩ : ∃ q, ((n3 : Int) == 0) = q := ⟨_, rfl⟩
    have hrest : rest = [] ↔ q = true := by
      have h1 := H1.out.2.2.2.2.1
      rw [← hq]
      constructor
      · rintro rfl; simp at h1; subst h1; rfl
      · intro h
        have h2 : n3 = 0 := by simpa using h
        exact List.eq_nil_of_length_eq_zero (by omega)
    have HR := Lib.hid hrest
    clear hrest
    go_wp2
    have hB2 := (((H1.out.2.2.2.2.2.1.set_ 0 (.int .u8 (t.toNat : Int))).set_ 1 (.slice A1 n1 c1)).set_ 2 (.slice A2 n2 c2)).alloc (.cells #[.int .u8 (t.toNat : Int), .slice A1 n1 c1, .slice A2 n2 c2] 50)
    obtain ⟨k0, k1⟩ := hB2.facts
    have k00 := k0 0
    have k01 := k0 1
    have k02 := k0 2
    simp only [List.setIfInBounds_toArray, List.set_cons_zero, List.set_cons_succ, List.getElem?_toArray, List.getElem?_cons_zero, List.getElem?_cons_succ] at k00 k01 k02
    refine bodyPost_ret (v := .tuple #[.agg #[.int .u8 (t.toNat : Int), .slice A1 n1 c1, .slice A2 n2 c2], .bool q]) (by simp [results, Try.results47, go_sem, k00, k01, k02]) rfl ?_
    refine ⟨q, t, body, raw, A1, n1, c1, A2, n2, c2, rfl, by have := H1.out.2.1; have := this.size; (repeat (first | exact Below.refl _ _ | assumption | (refine Below.setCell ?_ (by first | omega | (simp; done) | (simp; omega)) _) | (refine Below.alloc ?_ (by first | omega | (simp; done) | (simp; omega)) _) | (refine below_drewN ?_ _) | (refine Below.drew ?_))), ⟨m1, by omega, ?_, m2, hm.2.1, ?_, ?_⟩, by have := H1.out.2.2.2.2.2.2; omega, by have := H1.out.2.2.2.2.2.2; omega, ?_⟩
    · have o1 := H1.out.2.2.1.mono (lo' := w.heap.size + 1) (by simp) (Nat.le_refl _)
      exact (((((o1.setCell (by simp) _).setCell (by simp) _).setCell (by simp) _).alloc (by simp; omega) _).mono (by omega) (Nat.le_refl _))
    · exact ((((H1.out.2.2.2.1).setCell (by simp; omega) _).setCell (by simp; omega) _).setCell (by simp; omega) _).alloc (by simp; omega) _
    · exact Nat.le_trans hm.2.2 (by simp)
    · unfold Cert.only
      rw [H1.out.1]
      dsimp only
      by_cases h : rest = []
      · rw [if_pos h, if_pos (HR.out.1 h)]
      · rw [if_neg h, if_neg (fun e => h (HR.out.2 e))]
end Go.Proofs.Ytmnekhliblkibaa
