/- The walk of the law DerBits. -/
import Derived.Test.YtadkiildjehdmaaWorks
import Derived.Test.YtadkiildjehdmaaBits
import Derived.Test.YtadkiildjehdmaaDer5
import Derived.Test.YtadkiildjehdmaaRef3
import Derived.Test.YtadkiildjehdmaaOpen
namespace Go.Proofs.Ytadkiildjehdmaa
open Go.RowKit
set_option maxRecDepth 1000000
set_option linter.unusedVariables false
set_option linter.unusedSimpArgs false

def BitsLawPost (w : World) (e : Ending) (w' : World) : Prop := e = .returned (.bool true) ∧ Below w.heap.size w w'

theorem bitsl_large (x : UInt8) (A : Option Addr) (n c : Nat) (w : World) (hn : (8192 : Int) < n) :
    Calls Try.prog 12 #[.int .u8 (x.toNat : Int), .slice A n c] w (BitsLawPost w) := by
  go_enter Try.func12, Try.ntmps12
  go_wp2_with fail
  refine (large_any A n c _).mono ?_
  rintro e w1 ⟨he, rfl⟩
  rw [decide_eq_true hn] at he
  subst he
  go_wp2_with fail
  refine (works_any _).mono ?_
  rintro e w1 ⟨rfl, hb1⟩
  go_wp2
  go_ret
  exact ⟨rfl, hb1⟩

/-- The first part: the law as far as the call of Bits. -/
theorem bitsl_big (x : UInt8) (A : Option Addr) (n c : Nat) (xs : List UInt8) (w : World) (h : Rd w w.heap.size A n c xs) (hn : ¬ (8192 : Int) < n) (h8 : (7 : Int) < x.toNat) (hd : Hid (Der.bits (x :: xs) = none)) :
    Calls Try.prog 12 #[.int .u8 (x.toNat : Int), .slice A n c] w (BitsLawPost w) := by
  have hl := h.len
  have HL := Lib.hid hl
  have HA := Lib.hid (And.intro (OwnB.lit w [x] [.int .u8 (x.toNat : Int)] 1 rfl rfl (by omega)) ((h.alloc (Nat.le_refl _) (.cells #[.int .u8 (x.toNat : Int)] 5)).rds))
  clear h hl
  go_enter Try.func12, Try.ntmps12
  go_wp2_with fail
  refine (large_any A n c _).mono ?_
  rintro e w1 ⟨he, rfl⟩
  rw [decide_eq_false (show ¬ (8192 : Int) < n by omega)] at he
  subst he
  go_wp2_with
    (at_builtin
     refine wpList_app rfl (.tmp 15) (.tmp 16) rfl w1.heap.size (w1.heap.size + 1) _ [x] rfl HA.out.1 (by simp) _ A n c xs rfl HA.out.2 (by simp <;> omega) ?_
     intro v2 w2 ho2 hg2 hat2 hb2
     obtain ⟨A2, n2, c2, rfl, hr2⟩ := ho2.rd
     have HR := Lib.hid (And.intro hr2 (And.intro (Below.trans (by (repeat (first | exact Below.refl _ _ | assumption | (refine Below.setCell ?_ (by first | omega | (simp; done) | (simp; omega)) _) | (refine Below.alloc ?_ (by first | omega | (simp; done) | (simp; omega)) _) | (refine below_drewN ?_ _) | (refine Below.drew ?_)))) hb2 : Below w1.heap.size w1 w2) hr2.len))
     clear ho2 hg2 hat2 hb2 hr2)
  refine (bits_any A2 n2 c2 _ _ HR.out.1 (by have h1 := HR.out.2.2; have h2 := HL.out; rw [List.length_append, List.length_singleton] at h1; omega)).mono ?_
  rintro e w3 ⟨hb3, ⟨hno, rfl⟩ | ⟨ys, k, A3, n3, c3, hy, rfl, ho3⟩⟩
  · clear hno
    go_wp2_with fail
    refine (works_any _).mono ?_
    rintro e w4 ⟨rfl, hb4⟩
    go_wp2
    go_ret
    exact ⟨rfl, HR.out.2.1.trans ((hb3.trans (hb4.mono hb3.size)).mono HR.out.2.1.size)⟩
  · have := hd.out
    rw [List.singleton_append, this] at hy
    cases hy

set_option maxHeartbeats 400000 in
theorem bitsl_nil0 (x : UInt8) (A : Option Addr) (c : Nat) (xs : List UInt8) (n : Nat) (w : World) (h : Rd w w.heap.size A n c xs) (h0 : n = 0) (hk : Hid (x.toNat = 0)) (hd : Hid (Der.bits (x :: xs) = some (xs, 0))) :
    Calls Try.prog 12 #[.int .u8 0, .slice A n c] w (BitsLawPost w) := by
  subst h0
  have hl := h.len
  have HL := Lib.hid hl
  have HA := Lib.hid (And.intro (OwnB.lit w [x] [.int .u8 0] 1 (by simp [bv, hk.out]) rfl (by omega)) ((h.alloc (Nat.le_refl _) (.cells #[.int .u8 0] 5)).rds))
  have H0 := Lib.hid h
  clear h hl
  go_enter Try.func12, Try.ntmps12
  go_wp2_with fail
  refine (large_any _ 0 c _).mono ?_
  rintro e w1 ⟨he, rfl⟩
  rw [decide_eq_false (show ¬ (8192 : Int) < (0 : Nat) by omega)] at he
  subst he
  go_wp2_with
    (at_builtin
     refine wpList_app rfl (.tmp 15) (.tmp 16) rfl w1.heap.size (w1.heap.size + 1) _ [x] rfl HA.out.1 (by simp) _ _ 0 c xs rfl HA.out.2 (by simp <;> omega) ?_
     intro v2 w2 ho2 hg2 hat2 hb2
     obtain ⟨A2, n2, c2, rfl, hr2⟩ := ho2.rd
     have HR := Lib.hid (And.intro hr2 (And.intro (Below.trans (by (repeat (first | exact Below.refl _ _ | assumption | (refine Below.setCell ?_ (by first | omega | (simp; done) | (simp; omega)) _) | (refine Below.alloc ?_ (by first | omega | (simp; done) | (simp; omega)) _) | (refine below_drewN ?_ _) | (refine Below.drew ?_)))) hb2 : Below w1.heap.size w1 w2) hr2.len))
     clear ho2 hg2 hat2 hb2 hr2)
  refine (bits_any A2 n2 c2 _ _ HR.out.1 (by have h1 := HR.out.2.2; have h2 := HL.out; rw [List.length_append, List.length_singleton] at h1; omega)).mono ?_
  rintro e w3 ⟨hb3, ⟨hno, rfl⟩ | ⟨ys, k, A3, n3, c3, hy, rfl, ho3⟩⟩
  · rw [List.singleton_append, hd.out] at hno
    cases hno
  · have hd1 := hd.out
    rw [List.singleton_append, hd1] at hy
    simp only [Option.some.injEq, Prod.mk.injEq] at hy
    obtain ⟨rfl, rfl⟩ := hy
    have hbw := HR.out.2.1.trans (hb3.mono HR.out.2.1.size)
    obtain ⟨_, _, _, e3, hr3⟩ := ho3.rd
    injection e3 with ea eb ec
    subst ea eb ec
    have HR3 := Lib.hid (And.intro hr3 (H0.out.below hbw))
    clear hb3 hr3 ho3 hd1
    skip
    go_wp2_with fail
    refine (eqbytes_any _ _ _ _ _ _ _ _ _ _ _ (HR3.out.1) (HR3.out.2)).mono ?_
    rintro e w4 ⟨he, rfl⟩
    rw [eqB_self] at he
    subst he
    go_wp2_with fail
    refine (works_any _).mono ?_
    rintro e w5 ⟨rfl, hb5⟩
    go_wp2
    go_ret
    exact ⟨rfl, hbw.trans (Below.trans (by (repeat (first | exact Below.refl _ _ | assumption | (refine Below.setCell ?_ (by first | omega | (simp; done) | (simp; omega)) _) | (refine Below.alloc ?_ (by first | omega | (simp; done) | (simp; omega)) _) | (refine below_drewN ?_ _) | (refine Below.drew ?_)))) (hb5.mono (by simpa using hbw.size)))⟩
set_option maxHeartbeats 400000 in
theorem bitsl_nil (x : UInt8) (A : Option Addr) (c : Nat) (xs : List UInt8) (n : Nat) (w : World) (h : Rd w w.heap.size A n c xs) (h0 : n = 0) (hp : ((x.toNat : Int) == 0) = false) (hp7 : (x.toNat : Int) ≤ 7) (hd : Hid (Der.bits (x :: xs) = none)) :
    Calls Try.prog 12 #[.int .u8 (x.toNat : Int), .slice A n c] w (BitsLawPost w) := by
  have hk : Hid True := Lib.hid trivial
  subst h0
  have hl := h.len
  have HL := Lib.hid hl
  have HA := Lib.hid (And.intro (OwnB.lit w [x] [.int .u8 (x.toNat : Int)] 1 (by simp [bv, hk.out]) rfl (by omega)) ((h.alloc (Nat.le_refl _) (.cells #[.int .u8 (x.toNat : Int)] 5)).rds))
  skip
  clear h hl
  go_enter Try.func12, Try.ntmps12
  go_wp2_with fail
  refine (large_any _ 0 c _).mono ?_
  rintro e w1 ⟨he, rfl⟩
  rw [decide_eq_false (show ¬ (8192 : Int) < (0 : Nat) by omega)] at he
  subst he
  go_wp2_with
    (at_builtin
     refine wpList_app rfl (.tmp 15) (.tmp 16) rfl w1.heap.size (w1.heap.size + 1) _ [x] rfl HA.out.1 (by simp) _ _ 0 c xs rfl HA.out.2 (by simp <;> omega) ?_
     intro v2 w2 ho2 hg2 hat2 hb2
     obtain ⟨A2, n2, c2, rfl, hr2⟩ := ho2.rd
     have HR := Lib.hid (And.intro hr2 (And.intro (Below.trans (by (repeat (first | exact Below.refl _ _ | assumption | (refine Below.setCell ?_ (by first | omega | (simp; done) | (simp; omega)) _) | (refine Below.alloc ?_ (by first | omega | (simp; done) | (simp; omega)) _) | (refine below_drewN ?_ _) | (refine Below.drew ?_)))) hb2 : Below w1.heap.size w1 w2) hr2.len))
     clear ho2 hg2 hat2 hb2 hr2)
  refine (bits_any A2 n2 c2 _ _ HR.out.1 (by have h1 := HR.out.2.2; have h2 := HL.out; rw [List.length_append, List.length_singleton] at h1; omega)).mono ?_
  rintro e w3 ⟨hb3, ⟨hno, rfl⟩ | ⟨ys, k, A3, n3, c3, hy, rfl, ho3⟩⟩
  · have hbw := HR.out.2.1.trans (hb3.mono HR.out.2.1.size)
    clear hno hb3
    skip
    go_wp2_with fail
    refine (works_any _).mono ?_
    rintro e w4 ⟨rfl, hb4⟩
    go_wp2
    go_ret
    exact ⟨rfl, hbw.trans (Below.trans (by (repeat (first | exact Below.refl _ _ | assumption | (refine Below.setCell ?_ (by first | omega | (simp; done) | (simp; omega)) _) | (refine Below.alloc ?_ (by first | omega | (simp; done) | (simp; omega)) _) | (refine below_drewN ?_ _) | (refine Below.drew ?_)))) (hb4.mono (by simpa using hbw.size)))⟩
  · have := hd.out
    rw [List.singleton_append, this] at hy
    cases hy
set_option maxHeartbeats 800000 in
theorem bitsl_yes_0 (x xl : UInt8) (b o n c m : Nat) (xs : List UInt8) (w : World) (h : Rd w w.heap.size (some ⟨b, o, none⟩) n c xs) (hn : ¬ (8192 : Int) < n) (h0 : 0 < n) (h0' : (0 : Int) < n) (hm : m < n) (hb : b < w.heap.size)
    (hcl0 : w.cell? ⟨b, o + m, none⟩ = some (.int .u8 (xl.toNat : Int))) (hw : IntKind.i64.wrap ((n : Int) - 1) = (m : Int)) (hml : (m : Int) < n) (hk : Hid (x.toNat = 0)) (hbt : ((xl.toNat : Int) % 256 == (xl.toNat : Int)) = true) (hd : Hid (Der.bits (x :: xs) = some (xs, 0))) :
    Calls Try.prog 12 #[.int .u8 0, .slice (some ⟨b, o, none⟩) n c] w (BitsLawPost w) := by
  have hl := h.len
  have HL := Lib.hid hl
  have HA := Lib.hid (And.intro (OwnB.lit w [x] [.int .u8 0] 1 (by simp [bv, hk.out]) rfl (by omega)) ((h.alloc (Nat.le_refl _) (.cells #[.int .u8 0] 5)).rds))
  have H0 := Lib.hid h
  clear h hl
  go_enter Try.func12, Try.ntmps12
  go_wp2_with fail
  refine (large_any _ n c _).mono ?_
  rintro e w1 ⟨he, rfl⟩
  rw [decide_eq_false (show ¬ (8192 : Int) < n by omega)] at he
  subst he
  go_wp2_with
    (at_builtin
     refine wpList_app rfl (.tmp 15) (.tmp 16) rfl w1.heap.size (w1.heap.size + 1) _ [x] rfl HA.out.1 (by simp) _ _ n c xs rfl HA.out.2 (by simp <;> omega) ?_
     intro v2 w2 ho2 hg2 hat2 hb2
     obtain ⟨A2, n2, c2, rfl, hr2⟩ := ho2.rd
     have HR := Lib.hid (And.intro hr2 (And.intro (Below.trans (by (repeat (first | exact Below.refl _ _ | assumption | (refine Below.setCell ?_ (by first | omega | (simp; done) | (simp; omega)) _) | (refine Below.alloc ?_ (by first | omega | (simp; done) | (simp; omega)) _) | (refine below_drewN ?_ _) | (refine Below.drew ?_)))) hb2 : Below w1.heap.size w1 w2) hr2.len))
     clear ho2 hg2 hat2 hb2 hr2)
  refine (bits_any A2 n2 c2 _ _ HR.out.1 (by have h1 := HR.out.2.2; have h2 := HL.out; rw [List.length_append, List.length_singleton] at h1; omega)).mono ?_
  rintro e w3 ⟨hb3, ⟨hno, rfl⟩ | ⟨ys, k, A3, n3, c3, hy, rfl, ho3⟩⟩
  · rw [List.singleton_append, hd.out] at hno
    cases hno
  · have hd1 := hd.out
    rw [List.singleton_append, hd1] at hy
    simp only [Option.some.injEq, Prod.mk.injEq] at hy
    obtain ⟨rfl, rfl⟩ := hy
    have hbw := HR.out.2.1.trans (hb3.mono HR.out.2.1.size)
    obtain ⟨_, _, _, e3, hr3⟩ := ho3.rd
    injection e3 with ea eb ec
    subst ea eb ec
    have HR3 := Lib.hid (And.intro hr3 (H0.out.below hbw))
    clear hb3 hr3 ho3 hd1
    have hcl := (hbw.cell (p := ⟨b, o + m, none⟩) hb).trans hcl0
    clear hcl0
    go_wp2
    go_quiet (fail)
    go_wp2_with fail
    refine (eqbytes_any _ _ _ _ _ _ _ _ _ _ _ (HR3.out.1.drewN _) (HR3.out.2.drewN _)).mono ?_
    rintro e w4 ⟨he, rfl⟩
    rw [eqB_self] at he
    subst he
    go_wp2_with fail
    refine (works_any _).mono ?_
    rintro e w5 ⟨rfl, hb5⟩
    go_wp2
    go_ret
    exact ⟨rfl, hbw.trans (Below.trans (by (repeat (first | exact Below.refl _ _ | assumption | (refine Below.setCell ?_ (by first | omega | (simp; done) | (simp; omega)) _) | (refine Below.alloc ?_ (by first | omega | (simp; done) | (simp; omega)) _) | (refine below_drewN ?_ _) | (refine Below.drew ?_)))) (hb5.mono (by simpa using hbw.size)))⟩
set_option maxHeartbeats 800000 in
theorem bitsl_no_0 (x xl : UInt8) (b o n c m : Nat) (xs : List UInt8) (w : World) (h : Rd w w.heap.size (some ⟨b, o, none⟩) n c xs) (hn : ¬ (8192 : Int) < n) (h0 : 0 < n) (h0' : (0 : Int) < n) (hm : m < n) (hb : b < w.heap.size)
    (hcl0 : w.cell? ⟨b, o + m, none⟩ = some (.int .u8 (xl.toNat : Int))) (hw : IntKind.i64.wrap ((n : Int) - 1) = (m : Int)) (hml : (m : Int) < n) (hk : Hid (x.toNat = 0)) (hbt : ((xl.toNat : Int) % 256 == (xl.toNat : Int)) = false) (hd : Hid (Der.bits (x :: xs) = none)) :
    Calls Try.prog 12 #[.int .u8 0, .slice (some ⟨b, o, none⟩) n c] w (BitsLawPost w) := by
  have hl := h.len
  have HL := Lib.hid hl
  have HA := Lib.hid (And.intro (OwnB.lit w [x] [.int .u8 0] 1 (by simp [bv, hk.out]) rfl (by omega)) ((h.alloc (Nat.le_refl _) (.cells #[.int .u8 0] 5)).rds))
  have H0 := Lib.hid h
  clear h hl
  go_enter Try.func12, Try.ntmps12
  go_wp2_with fail
  refine (large_any _ n c _).mono ?_
  rintro e w1 ⟨he, rfl⟩
  rw [decide_eq_false (show ¬ (8192 : Int) < n by omega)] at he
  subst he
  go_wp2_with
    (at_builtin
     refine wpList_app rfl (.tmp 15) (.tmp 16) rfl w1.heap.size (w1.heap.size + 1) _ [x] rfl HA.out.1 (by simp) _ _ n c xs rfl HA.out.2 (by simp <;> omega) ?_
     intro v2 w2 ho2 hg2 hat2 hb2
     obtain ⟨A2, n2, c2, rfl, hr2⟩ := ho2.rd
     have HR := Lib.hid (And.intro hr2 (And.intro (Below.trans (by (repeat (first | exact Below.refl _ _ | assumption | (refine Below.setCell ?_ (by first | omega | (simp; done) | (simp; omega)) _) | (refine Below.alloc ?_ (by first | omega | (simp; done) | (simp; omega)) _) | (refine below_drewN ?_ _) | (refine Below.drew ?_)))) hb2 : Below w1.heap.size w1 w2) hr2.len))
     clear ho2 hg2 hat2 hb2 hr2)
  refine (bits_any A2 n2 c2 _ _ HR.out.1 (by have h1 := HR.out.2.2; have h2 := HL.out; rw [List.length_append, List.length_singleton] at h1; omega)).mono ?_
  rintro e w3 ⟨hb3, ⟨hno, rfl⟩ | ⟨ys, k, A3, n3, c3, hy, rfl, ho3⟩⟩
  · have hbw := HR.out.2.1.trans (hb3.mono HR.out.2.1.size)
    clear hno hb3
    have hcl := (hbw.cell (p := ⟨b, o + m, none⟩) hb).trans hcl0
    clear hcl0
    go_wp2
    go_quiet (fail)
    go_wp2_with fail
    refine (works_any _).mono ?_
    rintro e w4 ⟨rfl, hb4⟩
    go_wp2
    go_ret
    exact ⟨rfl, hbw.trans (Below.trans (by (repeat (first | exact Below.refl _ _ | assumption | (refine Below.setCell ?_ (by first | omega | (simp; done) | (simp; omega)) _) | (refine Below.alloc ?_ (by first | omega | (simp; done) | (simp; omega)) _) | (refine below_drewN ?_ _) | (refine Below.drew ?_)))) (hb4.mono (by simpa using hbw.size)))⟩
  · have := hd.out
    rw [List.singleton_append, this] at hy
    cases hy
set_option maxHeartbeats 800000 in
theorem bitsl_yes_1 (x xl : UInt8) (b o n c m : Nat) (xs : List UInt8) (w : World) (h : Rd w w.heap.size (some ⟨b, o, none⟩) n c xs) (hn : ¬ (8192 : Int) < n) (h0 : 0 < n) (h0' : (0 : Int) < n) (hm : m < n) (hb : b < w.heap.size)
    (hcl0 : w.cell? ⟨b, o + m, none⟩ = some (.int .u8 (xl.toNat : Int))) (hw : IntKind.i64.wrap ((n : Int) - 1) = (m : Int)) (hml : (m : Int) < n) (hk : Hid (x.toNat = 1)) (hbt : ((xl.toNat : Int) / 2 * 2 % 256 == (xl.toNat : Int)) = true) (hd : Hid (Der.bits (x :: xs) = some (xs, 1))) :
    Calls Try.prog 12 #[.int .u8 1, .slice (some ⟨b, o, none⟩) n c] w (BitsLawPost w) := by
  have hl := h.len
  have HL := Lib.hid hl
  have HA := Lib.hid (And.intro (OwnB.lit w [x] [.int .u8 1] 1 (by simp [bv, hk.out]) rfl (by omega)) ((h.alloc (Nat.le_refl _) (.cells #[.int .u8 1] 5)).rds))
  have H0 := Lib.hid h
  clear h hl
  go_enter Try.func12, Try.ntmps12
  go_wp2_with fail
  refine (large_any _ n c _).mono ?_
  rintro e w1 ⟨he, rfl⟩
  rw [decide_eq_false (show ¬ (8192 : Int) < n by omega)] at he
  subst he
  go_wp2_with
    (at_builtin
     refine wpList_app rfl (.tmp 15) (.tmp 16) rfl w1.heap.size (w1.heap.size + 1) _ [x] rfl HA.out.1 (by simp) _ _ n c xs rfl HA.out.2 (by simp <;> omega) ?_
     intro v2 w2 ho2 hg2 hat2 hb2
     obtain ⟨A2, n2, c2, rfl, hr2⟩ := ho2.rd
     have HR := Lib.hid (And.intro hr2 (And.intro (Below.trans (by (repeat (first | exact Below.refl _ _ | assumption | (refine Below.setCell ?_ (by first | omega | (simp; done) | (simp; omega)) _) | (refine Below.alloc ?_ (by first | omega | (simp; done) | (simp; omega)) _) | (refine below_drewN ?_ _) | (refine Below.drew ?_)))) hb2 : Below w1.heap.size w1 w2) hr2.len))
     clear ho2 hg2 hat2 hb2 hr2)
  refine (bits_any A2 n2 c2 _ _ HR.out.1 (by have h1 := HR.out.2.2; have h2 := HL.out; rw [List.length_append, List.length_singleton] at h1; omega)).mono ?_
  rintro e w3 ⟨hb3, ⟨hno, rfl⟩ | ⟨ys, k, A3, n3, c3, hy, rfl, ho3⟩⟩
  · rw [List.singleton_append, hd.out] at hno
    cases hno
  · have hd1 := hd.out
    rw [List.singleton_append, hd1] at hy
    simp only [Option.some.injEq, Prod.mk.injEq] at hy
    obtain ⟨rfl, rfl⟩ := hy
    have hbw := HR.out.2.1.trans (hb3.mono HR.out.2.1.size)
    obtain ⟨_, _, _, e3, hr3⟩ := ho3.rd
    injection e3 with ea eb ec
    subst ea eb ec
    have HR3 := Lib.hid (And.intro hr3 (H0.out.below hbw))
    clear hb3 hr3 ho3 hd1
    have hcl := (hbw.cell (p := ⟨b, o + m, none⟩) hb).trans hcl0
    clear hcl0
    go_wp2
    go_quiet (fail)
    go_wp2_with fail
    refine (eqbytes_any _ _ _ _ _ _ _ _ _ _ _ (HR3.out.1.drewN _) (HR3.out.2.drewN _)).mono ?_
    rintro e w4 ⟨he, rfl⟩
    rw [eqB_self] at he
    subst he
    go_wp2_with fail
    refine (works_any _).mono ?_
    rintro e w5 ⟨rfl, hb5⟩
    go_wp2
    go_ret
    exact ⟨rfl, hbw.trans (Below.trans (by (repeat (first | exact Below.refl _ _ | assumption | (refine Below.setCell ?_ (by first | omega | (simp; done) | (simp; omega)) _) | (refine Below.alloc ?_ (by first | omega | (simp; done) | (simp; omega)) _) | (refine below_drewN ?_ _) | (refine Below.drew ?_)))) (hb5.mono (by simpa using hbw.size)))⟩
set_option maxHeartbeats 800000 in
theorem bitsl_no_1 (x xl : UInt8) (b o n c m : Nat) (xs : List UInt8) (w : World) (h : Rd w w.heap.size (some ⟨b, o, none⟩) n c xs) (hn : ¬ (8192 : Int) < n) (h0 : 0 < n) (h0' : (0 : Int) < n) (hm : m < n) (hb : b < w.heap.size)
    (hcl0 : w.cell? ⟨b, o + m, none⟩ = some (.int .u8 (xl.toNat : Int))) (hw : IntKind.i64.wrap ((n : Int) - 1) = (m : Int)) (hml : (m : Int) < n) (hk : Hid (x.toNat = 1)) (hbt : ((xl.toNat : Int) / 2 * 2 % 256 == (xl.toNat : Int)) = false) (hd : Hid (Der.bits (x :: xs) = none)) :
    Calls Try.prog 12 #[.int .u8 1, .slice (some ⟨b, o, none⟩) n c] w (BitsLawPost w) := by
  have hl := h.len
  have HL := Lib.hid hl
  have HA := Lib.hid (And.intro (OwnB.lit w [x] [.int .u8 1] 1 (by simp [bv, hk.out]) rfl (by omega)) ((h.alloc (Nat.le_refl _) (.cells #[.int .u8 1] 5)).rds))
  have H0 := Lib.hid h
  clear h hl
  go_enter Try.func12, Try.ntmps12
  go_wp2_with fail
  refine (large_any _ n c _).mono ?_
  rintro e w1 ⟨he, rfl⟩
  rw [decide_eq_false (show ¬ (8192 : Int) < n by omega)] at he
  subst he
  go_wp2_with
    (at_builtin
     refine wpList_app rfl (.tmp 15) (.tmp 16) rfl w1.heap.size (w1.heap.size + 1) _ [x] rfl HA.out.1 (by simp) _ _ n c xs rfl HA.out.2 (by simp <;> omega) ?_
     intro v2 w2 ho2 hg2 hat2 hb2
     obtain ⟨A2, n2, c2, rfl, hr2⟩ := ho2.rd
     have HR := Lib.hid (And.intro hr2 (And.intro (Below.trans (by (repeat (first | exact Below.refl _ _ | assumption | (refine Below.setCell ?_ (by first | omega | (simp; done) | (simp; omega)) _) | (refine Below.alloc ?_ (by first | omega | (simp; done) | (simp; omega)) _) | (refine below_drewN ?_ _) | (refine Below.drew ?_)))) hb2 : Below w1.heap.size w1 w2) hr2.len))
     clear ho2 hg2 hat2 hb2 hr2)
  refine (bits_any A2 n2 c2 _ _ HR.out.1 (by have h1 := HR.out.2.2; have h2 := HL.out; rw [List.length_append, List.length_singleton] at h1; omega)).mono ?_
  rintro e w3 ⟨hb3, ⟨hno, rfl⟩ | ⟨ys, k, A3, n3, c3, hy, rfl, ho3⟩⟩
  · have hbw := HR.out.2.1.trans (hb3.mono HR.out.2.1.size)
    clear hno hb3
    have hcl := (hbw.cell (p := ⟨b, o + m, none⟩) hb).trans hcl0
    clear hcl0
    go_wp2
    go_quiet (fail)
    go_wp2_with fail
    refine (works_any _).mono ?_
    rintro e w4 ⟨rfl, hb4⟩
    go_wp2
    go_ret
    exact ⟨rfl, hbw.trans (Below.trans (by (repeat (first | exact Below.refl _ _ | assumption | (refine Below.setCell ?_ (by first | omega | (simp; done) | (simp; omega)) _) | (refine Below.alloc ?_ (by first | omega | (simp; done) | (simp; omega)) _) | (refine below_drewN ?_ _) | (refine Below.drew ?_)))) (hb4.mono (by simpa using hbw.size)))⟩
  · have := hd.out
    rw [List.singleton_append, this] at hy
    cases hy
set_option maxHeartbeats 800000 in
theorem bitsl_yes_2 (x xl : UInt8) (b o n c m : Nat) (xs : List UInt8) (w : World) (h : Rd w w.heap.size (some ⟨b, o, none⟩) n c xs) (hn : ¬ (8192 : Int) < n) (h0 : 0 < n) (h0' : (0 : Int) < n) (hm : m < n) (hb : b < w.heap.size)
    (hcl0 : w.cell? ⟨b, o + m, none⟩ = some (.int .u8 (xl.toNat : Int))) (hw : IntKind.i64.wrap ((n : Int) - 1) = (m : Int)) (hml : (m : Int) < n) (hk : Hid (x.toNat = 2)) (hbt : ((xl.toNat : Int) / 4 * 4 % 256 == (xl.toNat : Int)) = true) (hd : Hid (Der.bits (x :: xs) = some (xs, 2))) :
    Calls Try.prog 12 #[.int .u8 2, .slice (some ⟨b, o, none⟩) n c] w (BitsLawPost w) := by
  have hl := h.len
  have HL := Lib.hid hl
  have HA := Lib.hid (And.intro (OwnB.lit w [x] [.int .u8 2] 1 (by simp [bv, hk.out]) rfl (by omega)) ((h.alloc (Nat.le_refl _) (.cells #[.int .u8 2] 5)).rds))
  have H0 := Lib.hid h
  clear h hl
  go_enter Try.func12, Try.ntmps12
  go_wp2_with fail
  refine (large_any _ n c _).mono ?_
  rintro e w1 ⟨he, rfl⟩
  rw [decide_eq_false (show ¬ (8192 : Int) < n by omega)] at he
  subst he
  go_wp2_with
    (at_builtin
     refine wpList_app rfl (.tmp 15) (.tmp 16) rfl w1.heap.size (w1.heap.size + 1) _ [x] rfl HA.out.1 (by simp) _ _ n c xs rfl HA.out.2 (by simp <;> omega) ?_
     intro v2 w2 ho2 hg2 hat2 hb2
     obtain ⟨A2, n2, c2, rfl, hr2⟩ := ho2.rd
     have HR := Lib.hid (And.intro hr2 (And.intro (Below.trans (by (repeat (first | exact Below.refl _ _ | assumption | (refine Below.setCell ?_ (by first | omega | (simp; done) | (simp; omega)) _) | (refine Below.alloc ?_ (by first | omega | (simp; done) | (simp; omega)) _) | (refine below_drewN ?_ _) | (refine Below.drew ?_)))) hb2 : Below w1.heap.size w1 w2) hr2.len))
     clear ho2 hg2 hat2 hb2 hr2)
  refine (bits_any A2 n2 c2 _ _ HR.out.1 (by have h1 := HR.out.2.2; have h2 := HL.out; rw [List.length_append, List.length_singleton] at h1; omega)).mono ?_
  rintro e w3 ⟨hb3, ⟨hno, rfl⟩ | ⟨ys, k, A3, n3, c3, hy, rfl, ho3⟩⟩
  · rw [List.singleton_append, hd.out] at hno
    cases hno
  · have hd1 := hd.out
    rw [List.singleton_append, hd1] at hy
    simp only [Option.some.injEq, Prod.mk.injEq] at hy
    obtain ⟨rfl, rfl⟩ := hy
    have hbw := HR.out.2.1.trans (hb3.mono HR.out.2.1.size)
    obtain ⟨_, _, _, e3, hr3⟩ := ho3.rd
    injection e3 with ea eb ec
    subst ea eb ec
    have HR3 := Lib.hid (And.intro hr3 (H0.out.below hbw))
    clear hb3 hr3 ho3 hd1
    have hcl := (hbw.cell (p := ⟨b, o + m, none⟩) hb).trans hcl0
    clear hcl0
    go_wp2
    go_quiet (fail)
    go_wp2_with fail
    refine (eqbytes_any _ _ _ _ _ _ _ _ _ _ _ (HR3.out.1.drewN _) (HR3.out.2.drewN _)).mono ?_
    rintro e w4 ⟨he, rfl⟩
    rw [eqB_self] at he
    subst he
    go_wp2_with fail
    refine (works_any _).mono ?_
    rintro e w5 ⟨rfl, hb5⟩
    go_wp2
    go_ret
    exact ⟨rfl, hbw.trans (Below.trans (by (repeat (first | exact Below.refl _ _ | assumption | (refine Below.setCell ?_ (by first | omega | (simp; done) | (simp; omega)) _) | (refine Below.alloc ?_ (by first | omega | (simp; done) | (simp; omega)) _) | (refine below_drewN ?_ _) | (refine Below.drew ?_)))) (hb5.mono (by simpa using hbw.size)))⟩
set_option maxHeartbeats 800000 in
theorem bitsl_no_2 (x xl : UInt8) (b o n c m : Nat) (xs : List UInt8) (w : World) (h : Rd w w.heap.size (some ⟨b, o, none⟩) n c xs) (hn : ¬ (8192 : Int) < n) (h0 : 0 < n) (h0' : (0 : Int) < n) (hm : m < n) (hb : b < w.heap.size)
    (hcl0 : w.cell? ⟨b, o + m, none⟩ = some (.int .u8 (xl.toNat : Int))) (hw : IntKind.i64.wrap ((n : Int) - 1) = (m : Int)) (hml : (m : Int) < n) (hk : Hid (x.toNat = 2)) (hbt : ((xl.toNat : Int) / 4 * 4 % 256 == (xl.toNat : Int)) = false) (hd : Hid (Der.bits (x :: xs) = none)) :
    Calls Try.prog 12 #[.int .u8 2, .slice (some ⟨b, o, none⟩) n c] w (BitsLawPost w) := by
  have hl := h.len
  have HL := Lib.hid hl
  have HA := Lib.hid (And.intro (OwnB.lit w [x] [.int .u8 2] 1 (by simp [bv, hk.out]) rfl (by omega)) ((h.alloc (Nat.le_refl _) (.cells #[.int .u8 2] 5)).rds))
  have H0 := Lib.hid h
  clear h hl
  go_enter Try.func12, Try.ntmps12
  go_wp2_with fail
  refine (large_any _ n c _).mono ?_
  rintro e w1 ⟨he, rfl⟩
  rw [decide_eq_false (show ¬ (8192 : Int) < n by omega)] at he
  subst he
  go_wp2_with
    (at_builtin
     refine wpList_app rfl (.tmp 15) (.tmp 16) rfl w1.heap.size (w1.heap.size + 1) _ [x] rfl HA.out.1 (by simp) _ _ n c xs rfl HA.out.2 (by simp <;> omega) ?_
     intro v2 w2 ho2 hg2 hat2 hb2
     obtain ⟨A2, n2, c2, rfl, hr2⟩ := ho2.rd
     have HR := Lib.hid (And.intro hr2 (And.intro (Below.trans (by (repeat (first | exact Below.refl _ _ | assumption | (refine Below.setCell ?_ (by first | omega | (simp; done) | (simp; omega)) _) | (refine Below.alloc ?_ (by first | omega | (simp; done) | (simp; omega)) _) | (refine below_drewN ?_ _) | (refine Below.drew ?_)))) hb2 : Below w1.heap.size w1 w2) hr2.len))
     clear ho2 hg2 hat2 hb2 hr2)
  refine (bits_any A2 n2 c2 _ _ HR.out.1 (by have h1 := HR.out.2.2; have h2 := HL.out; rw [List.length_append, List.length_singleton] at h1; omega)).mono ?_
  rintro e w3 ⟨hb3, ⟨hno, rfl⟩ | ⟨ys, k, A3, n3, c3, hy, rfl, ho3⟩⟩
  · have hbw := HR.out.2.1.trans (hb3.mono HR.out.2.1.size)
    clear hno hb3
    have hcl := (hbw.cell (p := ⟨b, o + m, none⟩) hb).trans hcl0
    clear hcl0
    go_wp2
    go_quiet (fail)
    go_wp2_with fail
    refine (works_any _).mono ?_
    rintro e w4 ⟨rfl, hb4⟩
    go_wp2
    go_ret
    exact ⟨rfl, hbw.trans (Below.trans (by (repeat (first | exact Below.refl _ _ | assumption | (refine Below.setCell ?_ (by first | omega | (simp; done) | (simp; omega)) _) | (refine Below.alloc ?_ (by first | omega | (simp; done) | (simp; omega)) _) | (refine below_drewN ?_ _) | (refine Below.drew ?_)))) (hb4.mono (by simpa using hbw.size)))⟩
  · have := hd.out
    rw [List.singleton_append, this] at hy
    cases hy
set_option maxHeartbeats 800000 in
theorem bitsl_yes_3 (x xl : UInt8) (b o n c m : Nat) (xs : List UInt8) (w : World) (h : Rd w w.heap.size (some ⟨b, o, none⟩) n c xs) (hn : ¬ (8192 : Int) < n) (h0 : 0 < n) (h0' : (0 : Int) < n) (hm : m < n) (hb : b < w.heap.size)
    (hcl0 : w.cell? ⟨b, o + m, none⟩ = some (.int .u8 (xl.toNat : Int))) (hw : IntKind.i64.wrap ((n : Int) - 1) = (m : Int)) (hml : (m : Int) < n) (hk : Hid (x.toNat = 3)) (hbt : ((xl.toNat : Int) / 8 * 8 % 256 == (xl.toNat : Int)) = true) (hd : Hid (Der.bits (x :: xs) = some (xs, 3))) :
    Calls Try.prog 12 #[.int .u8 3, .slice (some ⟨b, o, none⟩) n c] w (BitsLawPost w) := by
  have hl := h.len
  have HL := Lib.hid hl
  have HA := Lib.hid (And.intro (OwnB.lit w [x] [.int .u8 3] 1 (by simp [bv, hk.out]) rfl (by omega)) ((h.alloc (Nat.le_refl _) (.cells #[.int .u8 3] 5)).rds))
  have H0 := Lib.hid h
  clear h hl
  go_enter Try.func12, Try.ntmps12
  go_wp2_with fail
  refine (large_any _ n c _).mono ?_
  rintro e w1 ⟨he, rfl⟩
  rw [decide_eq_false (show ¬ (8192 : Int) < n by omega)] at he
  subst he
  go_wp2_with
    (at_builtin
     refine wpList_app rfl (.tmp 15) (.tmp 16) rfl w1.heap.size (w1.heap.size + 1) _ [x] rfl HA.out.1 (by simp) _ _ n c xs rfl HA.out.2 (by simp <;> omega) ?_
     intro v2 w2 ho2 hg2 hat2 hb2
     obtain ⟨A2, n2, c2, rfl, hr2⟩ := ho2.rd
     have HR := Lib.hid (And.intro hr2 (And.intro (Below.trans (by (repeat (first | exact Below.refl _ _ | assumption | (refine Below.setCell ?_ (by first | omega | (simp; done) | (simp; omega)) _) | (refine Below.alloc ?_ (by first | omega | (simp; done) | (simp; omega)) _) | (refine below_drewN ?_ _) | (refine Below.drew ?_)))) hb2 : Below w1.heap.size w1 w2) hr2.len))
     clear ho2 hg2 hat2 hb2 hr2)
  refine (bits_any A2 n2 c2 _ _ HR.out.1 (by have h1 := HR.out.2.2; have h2 := HL.out; rw [List.length_append, List.length_singleton] at h1; omega)).mono ?_
  rintro e w3 ⟨hb3, ⟨hno, rfl⟩ | ⟨ys, k, A3, n3, c3, hy, rfl, ho3⟩⟩
  · rw [List.singleton_append, hd.out] at hno
    cases hno
  · have hd1 := hd.out
    rw [List.singleton_append, hd1] at hy
    simp only [Option.some.injEq, Prod.mk.injEq] at hy
    obtain ⟨rfl, rfl⟩ := hy
    have hbw := HR.out.2.1.trans (hb3.mono HR.out.2.1.size)
    obtain ⟨_, _, _, e3, hr3⟩ := ho3.rd
    injection e3 with ea eb ec
    subst ea eb ec
    have HR3 := Lib.hid (And.intro hr3 (H0.out.below hbw))
    clear hb3 hr3 ho3 hd1
    have hcl := (hbw.cell (p := ⟨b, o + m, none⟩) hb).trans hcl0
    clear hcl0
    go_wp2
    go_quiet (fail)
    go_wp2_with fail
    refine (eqbytes_any _ _ _ _ _ _ _ _ _ _ _ (HR3.out.1.drewN _) (HR3.out.2.drewN _)).mono ?_
    rintro e w4 ⟨he, rfl⟩
    rw [eqB_self] at he
    subst he
    go_wp2_with fail
    refine (works_any _).mono ?_
    rintro e w5 ⟨rfl, hb5⟩
    go_wp2
    go_ret
    exact ⟨rfl, hbw.trans (Below.trans (by (repeat (first | exact Below.refl _ _ | assumption | (refine Below.setCell ?_ (by first | omega | (simp; done) | (simp; omega)) _) | (refine Below.alloc ?_ (by first | omega | (simp; done) | (simp; omega)) _) | (refine below_drewN ?_ _) | (refine Below.drew ?_)))) (hb5.mono (by simpa using hbw.size)))⟩
set_option maxHeartbeats 800000 in
theorem bitsl_no_3 (x xl : UInt8) (b o n c m : Nat) (xs : List UInt8) (w : World) (h : Rd w w.heap.size (some ⟨b, o, none⟩) n c xs) (hn : ¬ (8192 : Int) < n) (h0 : 0 < n) (h0' : (0 : Int) < n) (hm : m < n) (hb : b < w.heap.size)
    (hcl0 : w.cell? ⟨b, o + m, none⟩ = some (.int .u8 (xl.toNat : Int))) (hw : IntKind.i64.wrap ((n : Int) - 1) = (m : Int)) (hml : (m : Int) < n) (hk : Hid (x.toNat = 3)) (hbt : ((xl.toNat : Int) / 8 * 8 % 256 == (xl.toNat : Int)) = false) (hd : Hid (Der.bits (x :: xs) = none)) :
    Calls Try.prog 12 #[.int .u8 3, .slice (some ⟨b, o, none⟩) n c] w (BitsLawPost w) := by
  have hl := h.len
  have HL := Lib.hid hl
  have HA := Lib.hid (And.intro (OwnB.lit w [x] [.int .u8 3] 1 (by simp [bv, hk.out]) rfl (by omega)) ((h.alloc (Nat.le_refl _) (.cells #[.int .u8 3] 5)).rds))
  have H0 := Lib.hid h
  clear h hl
  go_enter Try.func12, Try.ntmps12
  go_wp2_with fail
  refine (large_any _ n c _).mono ?_
  rintro e w1 ⟨he, rfl⟩
  rw [decide_eq_false (show ¬ (8192 : Int) < n by omega)] at he
  subst he
  go_wp2_with
    (at_builtin
     refine wpList_app rfl (.tmp 15) (.tmp 16) rfl w1.heap.size (w1.heap.size + 1) _ [x] rfl HA.out.1 (by simp) _ _ n c xs rfl HA.out.2 (by simp <;> omega) ?_
     intro v2 w2 ho2 hg2 hat2 hb2
     obtain ⟨A2, n2, c2, rfl, hr2⟩ := ho2.rd
     have HR := Lib.hid (And.intro hr2 (And.intro (Below.trans (by (repeat (first | exact Below.refl _ _ | assumption | (refine Below.setCell ?_ (by first | omega | (simp; done) | (simp; omega)) _) | (refine Below.alloc ?_ (by first | omega | (simp; done) | (simp; omega)) _) | (refine below_drewN ?_ _) | (refine Below.drew ?_)))) hb2 : Below w1.heap.size w1 w2) hr2.len))
     clear ho2 hg2 hat2 hb2 hr2)
  refine (bits_any A2 n2 c2 _ _ HR.out.1 (by have h1 := HR.out.2.2; have h2 := HL.out; rw [List.length_append, List.length_singleton] at h1; omega)).mono ?_
  rintro e w3 ⟨hb3, ⟨hno, rfl⟩ | ⟨ys, k, A3, n3, c3, hy, rfl, ho3⟩⟩
  · have hbw := HR.out.2.1.trans (hb3.mono HR.out.2.1.size)
    clear hno hb3
    have hcl := (hbw.cell (p := ⟨b, o + m, none⟩) hb).trans hcl0
    clear hcl0
    go_wp2
    go_quiet (fail)
    go_wp2_with fail
    refine (works_any _).mono ?_
    rintro e w4 ⟨rfl, hb4⟩
    go_wp2
    go_ret
    exact ⟨rfl, hbw.trans (Below.trans (by (repeat (first | exact Below.refl _ _ | assumption | (refine Below.setCell ?_ (by first | omega | (simp; done) | (simp; omega)) _) | (refine Below.alloc ?_ (by first | omega | (simp; done) | (simp; omega)) _) | (refine below_drewN ?_ _) | (refine Below.drew ?_)))) (hb4.mono (by simpa using hbw.size)))⟩
  · have := hd.out
    rw [List.singleton_append, this] at hy
    cases hy
set_option maxHeartbeats 800000 in
theorem bitsl_yes_4 (x xl : UInt8) (b o n c m : Nat) (xs : List UInt8) (w : World) (h : Rd w w.heap.size (some ⟨b, o, none⟩) n c xs) (hn : ¬ (8192 : Int) < n) (h0 : 0 < n) (h0' : (0 : Int) < n) (hm : m < n) (hb : b < w.heap.size)
    (hcl0 : w.cell? ⟨b, o + m, none⟩ = some (.int .u8 (xl.toNat : Int))) (hw : IntKind.i64.wrap ((n : Int) - 1) = (m : Int)) (hml : (m : Int) < n) (hk : Hid (x.toNat = 4)) (hbt : ((xl.toNat : Int) / 16 * 16 % 256 == (xl.toNat : Int)) = true) (hd : Hid (Der.bits (x :: xs) = some (xs, 4))) :
    Calls Try.prog 12 #[.int .u8 4, .slice (some ⟨b, o, none⟩) n c] w (BitsLawPost w) := by
  have hl := h.len
  have HL := Lib.hid hl
  have HA := Lib.hid (And.intro (OwnB.lit w [x] [.int .u8 4] 1 (by simp [bv, hk.out]) rfl (by omega)) ((h.alloc (Nat.le_refl _) (.cells #[.int .u8 4] 5)).rds))
  have H0 := Lib.hid h
  clear h hl
  go_enter Try.func12, Try.ntmps12
  go_wp2_with fail
  refine (large_any _ n c _).mono ?_
  rintro e w1 ⟨he, rfl⟩
  rw [decide_eq_false (show ¬ (8192 : Int) < n by omega)] at he
  subst he
  go_wp2_with
    (at_builtin
     refine wpList_app rfl (.tmp 15) (.tmp 16) rfl w1.heap.size (w1.heap.size + 1) _ [x] rfl HA.out.1 (by simp) _ _ n c xs rfl HA.out.2 (by simp <;> omega) ?_
     intro v2 w2 ho2 hg2 hat2 hb2
     obtain ⟨A2, n2, c2, rfl, hr2⟩ := ho2.rd
     have HR := Lib.hid (And.intro hr2 (And.intro (Below.trans (by (repeat (first | exact Below.refl _ _ | assumption | (refine Below.setCell ?_ (by first | omega | (simp; done) | (simp; omega)) _) | (refine Below.alloc ?_ (by first | omega | (simp; done) | (simp; omega)) _) | (refine below_drewN ?_ _) | (refine Below.drew ?_)))) hb2 : Below w1.heap.size w1 w2) hr2.len))
     clear ho2 hg2 hat2 hb2 hr2)
  refine (bits_any A2 n2 c2 _ _ HR.out.1 (by have h1 := HR.out.2.2; have h2 := HL.out; rw [List.length_append, List.length_singleton] at h1; omega)).mono ?_
  rintro e w3 ⟨hb3, ⟨hno, rfl⟩ | ⟨ys, k, A3, n3, c3, hy, rfl, ho3⟩⟩
  · rw [List.singleton_append, hd.out] at hno
    cases hno
  · have hd1 := hd.out
    rw [List.singleton_append, hd1] at hy
    simp only [Option.some.injEq, Prod.mk.injEq] at hy
    obtain ⟨rfl, rfl⟩ := hy
    have hbw := HR.out.2.1.trans (hb3.mono HR.out.2.1.size)
    obtain ⟨_, _, _, e3, hr3⟩ := ho3.rd
    injection e3 with ea eb ec
    subst ea eb ec
    have HR3 := Lib.hid (And.intro hr3 (H0.out.below hbw))
    clear hb3 hr3 ho3 hd1
    have hcl := (hbw.cell (p := ⟨b, o + m, none⟩) hb).trans hcl0
    clear hcl0
    go_wp2
    go_quiet (fail)
    go_wp2_with fail
    refine (eqbytes_any _ _ _ _ _ _ _ _ _ _ _ (HR3.out.1.drewN _) (HR3.out.2.drewN _)).mono ?_
    rintro e w4 ⟨he, rfl⟩
    rw [eqB_self] at he
    subst he
    go_wp2_with fail
    refine (works_any _).mono ?_
    rintro e w5 ⟨rfl, hb5⟩
    go_wp2
    go_ret
    exact ⟨rfl, hbw.trans (Below.trans (by (repeat (first | exact Below.refl _ _ | assumption | (refine Below.setCell ?_ (by first | omega | (simp; done) | (simp; omega)) _) | (refine Below.alloc ?_ (by first | omega | (simp; done) | (simp; omega)) _) | (refine below_drewN ?_ _) | (refine Below.drew ?_)))) (hb5.mono (by simpa using hbw.size)))⟩
set_option maxHeartbeats 800000 in
theorem bitsl_no_4 (x xl : UInt8) (b o n c m : Nat) (xs : List UInt8) (w : World) (h : Rd w w.heap.size (some ⟨b, o, none⟩) n c xs) (hn : ¬ (8192 : Int) < n) (h0 : 0 < n) (h0' : (0 : Int) < n) (hm : m < n) (hb : b < w.heap.size)
    (hcl0 : w.cell? ⟨b, o + m, none⟩ = some (.int .u8 (xl.toNat : Int))) (hw : IntKind.i64.wrap ((n : Int) - 1) = (m : Int)) (hml : (m : Int) < n) (hk : Hid (x.toNat = 4)) (hbt : ((xl.toNat : Int) / 16 * 16 % 256 == (xl.toNat : Int)) = false) (hd : Hid (Der.bits (x :: xs) = none)) :
    Calls Try.prog 12 #[.int .u8 4, .slice (some ⟨b, o, none⟩) n c] w (BitsLawPost w) := by
  have hl := h.len
  have HL := Lib.hid hl
  have HA := Lib.hid (And.intro (OwnB.lit w [x] [.int .u8 4] 1 (by simp [bv, hk.out]) rfl (by omega)) ((h.alloc (Nat.le_refl _) (.cells #[.int .u8 4] 5)).rds))
  have H0 := Lib.hid h
  clear h hl
  go_enter Try.func12, Try.ntmps12
  go_wp2_with fail
  refine (large_any _ n c _).mono ?_
  rintro e w1 ⟨he, rfl⟩
  rw [decide_eq_false (show ¬ (8192 : Int) < n by omega)] at he
  subst he
  go_wp2_with
    (at_builtin
     refine wpList_app rfl (.tmp 15) (.tmp 16) rfl w1.heap.size (w1.heap.size + 1) _ [x] rfl HA.out.1 (by simp) _ _ n c xs rfl HA.out.2 (by simp <;> omega) ?_
     intro v2 w2 ho2 hg2 hat2 hb2
     obtain ⟨A2, n2, c2, rfl, hr2⟩ := ho2.rd
     have HR := Lib.hid (And.intro hr2 (And.intro (Below.trans (by (repeat (first | exact Below.refl _ _ | assumption | (refine Below.setCell ?_ (by first | omega | (simp; done) | (simp; omega)) _) | (refine Below.alloc ?_ (by first | omega | (simp; done) | (simp; omega)) _) | (refine below_drewN ?_ _) | (refine Below.drew ?_)))) hb2 : Below w1.heap.size w1 w2) hr2.len))
     clear ho2 hg2 hat2 hb2 hr2)
  refine (bits_any A2 n2 c2 _ _ HR.out.1 (by have h1 := HR.out.2.2; have h2 := HL.out; rw [List.length_append, List.length_singleton] at h1; omega)).mono ?_
  rintro e w3 ⟨hb3, ⟨hno, rfl⟩ | ⟨ys, k, A3, n3, c3, hy, rfl, ho3⟩⟩
  · have hbw := HR.out.2.1.trans (hb3.mono HR.out.2.1.size)
    clear hno hb3
    have hcl := (hbw.cell (p := ⟨b, o + m, none⟩) hb).trans hcl0
    clear hcl0
    go_wp2
    go_quiet (fail)
    go_wp2_with fail
    refine (works_any _).mono ?_
    rintro e w4 ⟨rfl, hb4⟩
    go_wp2
    go_ret
    exact ⟨rfl, hbw.trans (Below.trans (by (repeat (first | exact Below.refl _ _ | assumption | (refine Below.setCell ?_ (by first | omega | (simp; done) | (simp; omega)) _) | (refine Below.alloc ?_ (by first | omega | (simp; done) | (simp; omega)) _) | (refine below_drewN ?_ _) | (refine Below.drew ?_)))) (hb4.mono (by simpa using hbw.size)))⟩
  · have := hd.out
    rw [List.singleton_append, this] at hy
    cases hy
set_option maxHeartbeats 800000 in
theorem bitsl_yes_5 (x xl : UInt8) (b o n c m : Nat) (xs : List UInt8) (w : World) (h : Rd w w.heap.size (some ⟨b, o, none⟩) n c xs) (hn : ¬ (8192 : Int) < n) (h0 : 0 < n) (h0' : (0 : Int) < n) (hm : m < n) (hb : b < w.heap.size)
    (hcl0 : w.cell? ⟨b, o + m, none⟩ = some (.int .u8 (xl.toNat : Int))) (hw : IntKind.i64.wrap ((n : Int) - 1) = (m : Int)) (hml : (m : Int) < n) (hk : Hid (x.toNat = 5)) (hbt : ((xl.toNat : Int) / 32 * 32 % 256 == (xl.toNat : Int)) = true) (hd : Hid (Der.bits (x :: xs) = some (xs, 5))) :
    Calls Try.prog 12 #[.int .u8 5, .slice (some ⟨b, o, none⟩) n c] w (BitsLawPost w) := by
  have hl := h.len
  have HL := Lib.hid hl
  have HA := Lib.hid (And.intro (OwnB.lit w [x] [.int .u8 5] 1 (by simp [bv, hk.out]) rfl (by omega)) ((h.alloc (Nat.le_refl _) (.cells #[.int .u8 5] 5)).rds))
  have H0 := Lib.hid h
  clear h hl
  go_enter Try.func12, Try.ntmps12
  go_wp2_with fail
  refine (large_any _ n c _).mono ?_
  rintro e w1 ⟨he, rfl⟩
  rw [decide_eq_false (show ¬ (8192 : Int) < n by omega)] at he
  subst he
  go_wp2_with
    (at_builtin
     refine wpList_app rfl (.tmp 15) (.tmp 16) rfl w1.heap.size (w1.heap.size + 1) _ [x] rfl HA.out.1 (by simp) _ _ n c xs rfl HA.out.2 (by simp <;> omega) ?_
     intro v2 w2 ho2 hg2 hat2 hb2
     obtain ⟨A2, n2, c2, rfl, hr2⟩ := ho2.rd
     have HR := Lib.hid (And.intro hr2 (And.intro (Below.trans (by (repeat (first | exact Below.refl _ _ | assumption | (refine Below.setCell ?_ (by first | omega | (simp; done) | (simp; omega)) _) | (refine Below.alloc ?_ (by first | omega | (simp; done) | (simp; omega)) _) | (refine below_drewN ?_ _) | (refine Below.drew ?_)))) hb2 : Below w1.heap.size w1 w2) hr2.len))
     clear ho2 hg2 hat2 hb2 hr2)
  refine (bits_any A2 n2 c2 _ _ HR.out.1 (by have h1 := HR.out.2.2; have h2 := HL.out; rw [List.length_append, List.length_singleton] at h1; omega)).mono ?_
  rintro e w3 ⟨hb3, ⟨hno, rfl⟩ | ⟨ys, k, A3, n3, c3, hy, rfl, ho3⟩⟩
  · rw [List.singleton_append, hd.out] at hno
    cases hno
  · have hd1 := hd.out
    rw [List.singleton_append, hd1] at hy
    simp only [Option.some.injEq, Prod.mk.injEq] at hy
    obtain ⟨rfl, rfl⟩ := hy
    have hbw := HR.out.2.1.trans (hb3.mono HR.out.2.1.size)
    obtain ⟨_, _, _, e3, hr3⟩ := ho3.rd
    injection e3 with ea eb ec
    subst ea eb ec
    have HR3 := Lib.hid (And.intro hr3 (H0.out.below hbw))
    clear hb3 hr3 ho3 hd1
    have hcl := (hbw.cell (p := ⟨b, o + m, none⟩) hb).trans hcl0
    clear hcl0
    go_wp2
    go_quiet (fail)
    go_wp2_with fail
    refine (eqbytes_any _ _ _ _ _ _ _ _ _ _ _ (HR3.out.1.drewN _) (HR3.out.2.drewN _)).mono ?_
    rintro e w4 ⟨he, rfl⟩
    rw [eqB_self] at he
    subst he
    go_wp2_with fail
    refine (works_any _).mono ?_
    rintro e w5 ⟨rfl, hb5⟩
    go_wp2
    go_ret
    exact ⟨rfl, hbw.trans (Below.trans (by (repeat (first | exact Below.refl _ _ | assumption | (refine Below.setCell ?_ (by first | omega | (simp; done) | (simp; omega)) _) | (refine Below.alloc ?_ (by first | omega | (simp; done) | (simp; omega)) _) | (refine below_drewN ?_ _) | (refine Below.drew ?_)))) (hb5.mono (by simpa using hbw.size)))⟩
set_option maxHeartbeats 800000 in
theorem bitsl_no_5 (x xl : UInt8) (b o n c m : Nat) (xs : List UInt8) (w : World) (h : Rd w w.heap.size (some ⟨b, o, none⟩) n c xs) (hn : ¬ (8192 : Int) < n) (h0 : 0 < n) (h0' : (0 : Int) < n) (hm : m < n) (hb : b < w.heap.size)
    (hcl0 : w.cell? ⟨b, o + m, none⟩ = some (.int .u8 (xl.toNat : Int))) (hw : IntKind.i64.wrap ((n : Int) - 1) = (m : Int)) (hml : (m : Int) < n) (hk : Hid (x.toNat = 5)) (hbt : ((xl.toNat : Int) / 32 * 32 % 256 == (xl.toNat : Int)) = false) (hd : Hid (Der.bits (x :: xs) = none)) :
    Calls Try.prog 12 #[.int .u8 5, .slice (some ⟨b, o, none⟩) n c] w (BitsLawPost w) := by
  have hl := h.len
  have HL := Lib.hid hl
  have HA := Lib.hid (And.intro (OwnB.lit w [x] [.int .u8 5] 1 (by simp [bv, hk.out]) rfl (by omega)) ((h.alloc (Nat.le_refl _) (.cells #[.int .u8 5] 5)).rds))
  have H0 := Lib.hid h
  clear h hl
  go_enter Try.func12, Try.ntmps12
  go_wp2_with fail
  refine (large_any _ n c _).mono ?_
  rintro e w1 ⟨he, rfl⟩
  rw [decide_eq_false (show ¬ (8192 : Int) < n by omega)] at he
  subst he
  go_wp2_with
    (at_builtin
     refine wpList_app rfl (.tmp 15) (.tmp 16) rfl w1.heap.size (w1.heap.size + 1) _ [x] rfl HA.out.1 (by simp) _ _ n c xs rfl HA.out.2 (by simp <;> omega) ?_
     intro v2 w2 ho2 hg2 hat2 hb2
     obtain ⟨A2, n2, c2, rfl, hr2⟩ := ho2.rd
     have HR := Lib.hid (And.intro hr2 (And.intro (Below.trans (by (repeat (first | exact Below.refl _ _ | assumption | (refine Below.setCell ?_ (by first | omega | (simp; done) | (simp; omega)) _) | (refine Below.alloc ?_ (by first | omega | (simp; done) | (simp; omega)) _) | (refine below_drewN ?_ _) | (refine Below.drew ?_)))) hb2 : Below w1.heap.size w1 w2) hr2.len))
     clear ho2 hg2 hat2 hb2 hr2)
  refine (bits_any A2 n2 c2 _ _ HR.out.1 (by have h1 := HR.out.2.2; have h2 := HL.out; rw [List.length_append, List.length_singleton] at h1; omega)).mono ?_
  rintro e w3 ⟨hb3, ⟨hno, rfl⟩ | ⟨ys, k, A3, n3, c3, hy, rfl, ho3⟩⟩
  · have hbw := HR.out.2.1.trans (hb3.mono HR.out.2.1.size)
    clear hno hb3
    have hcl := (hbw.cell (p := ⟨b, o + m, none⟩) hb).trans hcl0
    clear hcl0
    go_wp2
    go_quiet (fail)
    go_wp2_with fail
    refine (works_any _).mono ?_
    rintro e w4 ⟨rfl, hb4⟩
    go_wp2
    go_ret
    exact ⟨rfl, hbw.trans (Below.trans (by (repeat (first | exact Below.refl _ _ | assumption | (refine Below.setCell ?_ (by first | omega | (simp; done) | (simp; omega)) _) | (refine Below.alloc ?_ (by first | omega | (simp; done) | (simp; omega)) _) | (refine below_drewN ?_ _) | (refine Below.drew ?_)))) (hb4.mono (by simpa using hbw.size)))⟩
  · have := hd.out
    rw [List.singleton_append, this] at hy
    cases hy
set_option maxHeartbeats 800000 in
theorem bitsl_yes_6 (x xl : UInt8) (b o n c m : Nat) (xs : List UInt8) (w : World) (h : Rd w w.heap.size (some ⟨b, o, none⟩) n c xs) (hn : ¬ (8192 : Int) < n) (h0 : 0 < n) (h0' : (0 : Int) < n) (hm : m < n) (hb : b < w.heap.size)
    (hcl0 : w.cell? ⟨b, o + m, none⟩ = some (.int .u8 (xl.toNat : Int))) (hw : IntKind.i64.wrap ((n : Int) - 1) = (m : Int)) (hml : (m : Int) < n) (hk : Hid (x.toNat = 6)) (hbt : ((xl.toNat : Int) / 64 * 64 % 256 == (xl.toNat : Int)) = true) (hd : Hid (Der.bits (x :: xs) = some (xs, 6))) :
    Calls Try.prog 12 #[.int .u8 6, .slice (some ⟨b, o, none⟩) n c] w (BitsLawPost w) := by
  have hl := h.len
  have HL := Lib.hid hl
  have HA := Lib.hid (And.intro (OwnB.lit w [x] [.int .u8 6] 1 (by simp [bv, hk.out]) rfl (by omega)) ((h.alloc (Nat.le_refl _) (.cells #[.int .u8 6] 5)).rds))
  have H0 := Lib.hid h
  clear h hl
  go_enter Try.func12, Try.ntmps12
  go_wp2_with fail
  refine (large_any _ n c _).mono ?_
  rintro e w1 ⟨he, rfl⟩
  rw [decide_eq_false (show ¬ (8192 : Int) < n by omega)] at he
  subst he
  go_wp2_with
    (at_builtin
     refine wpList_app rfl (.tmp 15) (.tmp 16) rfl w1.heap.size (w1.heap.size + 1) _ [x] rfl HA.out.1 (by simp) _ _ n c xs rfl HA.out.2 (by simp <;> omega) ?_
     intro v2 w2 ho2 hg2 hat2 hb2
     obtain ⟨A2, n2, c2, rfl, hr2⟩ := ho2.rd
     have HR := Lib.hid (And.intro hr2 (And.intro (Below.trans (by (repeat (first | exact Below.refl _ _ | assumption | (refine Below.setCell ?_ (by first | omega | (simp; done) | (simp; omega)) _) | (refine Below.alloc ?_ (by first | omega | (simp; done) | (simp; omega)) _) | (refine below_drewN ?_ _) | (refine Below.drew ?_)))) hb2 : Below w1.heap.size w1 w2) hr2.len))
     clear ho2 hg2 hat2 hb2 hr2)
  refine (bits_any A2 n2 c2 _ _ HR.out.1 (by have h1 := HR.out.2.2; have h2 := HL.out; rw [List.length_append, List.length_singleton] at h1; omega)).mono ?_
  rintro e w3 ⟨hb3, ⟨hno, rfl⟩ | ⟨ys, k, A3, n3, c3, hy, rfl, ho3⟩⟩
  · rw [List.singleton_append, hd.out] at hno
    cases hno
  · have hd1 := hd.out
    rw [List.singleton_append, hd1] at hy
    simp only [Option.some.injEq, Prod.mk.injEq] at hy
    obtain ⟨rfl, rfl⟩ := hy
    have hbw := HR.out.2.1.trans (hb3.mono HR.out.2.1.size)
    obtain ⟨_, _, _, e3, hr3⟩ := ho3.rd
    injection e3 with ea eb ec
    subst ea eb ec
    have HR3 := Lib.hid (And.intro hr3 (H0.out.below hbw))
    clear hb3 hr3 ho3 hd1
    have hcl := (hbw.cell (p := ⟨b, o + m, none⟩) hb).trans hcl0
    clear hcl0
    go_wp2
    go_quiet (fail)
    go_wp2_with fail
    refine (eqbytes_any _ _ _ _ _ _ _ _ _ _ _ (HR3.out.1.drewN _) (HR3.out.2.drewN _)).mono ?_
    rintro e w4 ⟨he, rfl⟩
    rw [eqB_self] at he
    subst he
    go_wp2_with fail
    refine (works_any _).mono ?_
    rintro e w5 ⟨rfl, hb5⟩
    go_wp2
    go_ret
    exact ⟨rfl, hbw.trans (Below.trans (by (repeat (first | exact Below.refl _ _ | assumption | (refine Below.setCell ?_ (by first | omega | (simp; done) | (simp; omega)) _) | (refine Below.alloc ?_ (by first | omega | (simp; done) | (simp; omega)) _) | (refine below_drewN ?_ _) | (refine Below.drew ?_)))) (hb5.mono (by simpa using hbw.size)))⟩
set_option maxHeartbeats 800000 in
theorem bitsl_no_6 (x xl : UInt8) (b o n c m : Nat) (xs : List UInt8) (w : World) (h : Rd w w.heap.size (some ⟨b, o, none⟩) n c xs) (hn : ¬ (8192 : Int) < n) (h0 : 0 < n) (h0' : (0 : Int) < n) (hm : m < n) (hb : b < w.heap.size)
    (hcl0 : w.cell? ⟨b, o + m, none⟩ = some (.int .u8 (xl.toNat : Int))) (hw : IntKind.i64.wrap ((n : Int) - 1) = (m : Int)) (hml : (m : Int) < n) (hk : Hid (x.toNat = 6)) (hbt : ((xl.toNat : Int) / 64 * 64 % 256 == (xl.toNat : Int)) = false) (hd : Hid (Der.bits (x :: xs) = none)) :
    Calls Try.prog 12 #[.int .u8 6, .slice (some ⟨b, o, none⟩) n c] w (BitsLawPost w) := by
  have hl := h.len
  have HL := Lib.hid hl
  have HA := Lib.hid (And.intro (OwnB.lit w [x] [.int .u8 6] 1 (by simp [bv, hk.out]) rfl (by omega)) ((h.alloc (Nat.le_refl _) (.cells #[.int .u8 6] 5)).rds))
  have H0 := Lib.hid h
  clear h hl
  go_enter Try.func12, Try.ntmps12
  go_wp2_with fail
  refine (large_any _ n c _).mono ?_
  rintro e w1 ⟨he, rfl⟩
  rw [decide_eq_false (show ¬ (8192 : Int) < n by omega)] at he
  subst he
  go_wp2_with
    (at_builtin
     refine wpList_app rfl (.tmp 15) (.tmp 16) rfl w1.heap.size (w1.heap.size + 1) _ [x] rfl HA.out.1 (by simp) _ _ n c xs rfl HA.out.2 (by simp <;> omega) ?_
     intro v2 w2 ho2 hg2 hat2 hb2
     obtain ⟨A2, n2, c2, rfl, hr2⟩ := ho2.rd
     have HR := Lib.hid (And.intro hr2 (And.intro (Below.trans (by (repeat (first | exact Below.refl _ _ | assumption | (refine Below.setCell ?_ (by first | omega | (simp; done) | (simp; omega)) _) | (refine Below.alloc ?_ (by first | omega | (simp; done) | (simp; omega)) _) | (refine below_drewN ?_ _) | (refine Below.drew ?_)))) hb2 : Below w1.heap.size w1 w2) hr2.len))
     clear ho2 hg2 hat2 hb2 hr2)
  refine (bits_any A2 n2 c2 _ _ HR.out.1 (by have h1 := HR.out.2.2; have h2 := HL.out; rw [List.length_append, List.length_singleton] at h1; omega)).mono ?_
  rintro e w3 ⟨hb3, ⟨hno, rfl⟩ | ⟨ys, k, A3, n3, c3, hy, rfl, ho3⟩⟩
  · have hbw := HR.out.2.1.trans (hb3.mono HR.out.2.1.size)
    clear hno hb3
    have hcl := (hbw.cell (p := ⟨b, o + m, none⟩) hb).trans hcl0
    clear hcl0
    go_wp2
    go_quiet (fail)
    go_wp2_with fail
    refine (works_any _).mono ?_
    rintro e w4 ⟨rfl, hb4⟩
    go_wp2
    go_ret
    exact ⟨rfl, hbw.trans (Below.trans (by (repeat (first | exact Below.refl _ _ | assumption | (refine Below.setCell ?_ (by first | omega | (simp; done) | (simp; omega)) _) | (refine Below.alloc ?_ (by first | omega | (simp; done) | (simp; omega)) _) | (refine below_drewN ?_ _) | (refine Below.drew ?_)))) (hb4.mono (by simpa using hbw.size)))⟩
  · have := hd.out
    rw [List.singleton_append, this] at hy
    cases hy
set_option maxHeartbeats 800000 in
theorem bitsl_yes_7 (x xl : UInt8) (b o n c m : Nat) (xs : List UInt8) (w : World) (h : Rd w w.heap.size (some ⟨b, o, none⟩) n c xs) (hn : ¬ (8192 : Int) < n) (h0 : 0 < n) (h0' : (0 : Int) < n) (hm : m < n) (hb : b < w.heap.size)
    (hcl0 : w.cell? ⟨b, o + m, none⟩ = some (.int .u8 (xl.toNat : Int))) (hw : IntKind.i64.wrap ((n : Int) - 1) = (m : Int)) (hml : (m : Int) < n) (hk : Hid (x.toNat = 7)) (hbt : ((xl.toNat : Int) / 128 * 128 % 256 == (xl.toNat : Int)) = true) (hd : Hid (Der.bits (x :: xs) = some (xs, 7))) :
    Calls Try.prog 12 #[.int .u8 7, .slice (some ⟨b, o, none⟩) n c] w (BitsLawPost w) := by
  have hl := h.len
  have HL := Lib.hid hl
  have HA := Lib.hid (And.intro (OwnB.lit w [x] [.int .u8 7] 1 (by simp [bv, hk.out]) rfl (by omega)) ((h.alloc (Nat.le_refl _) (.cells #[.int .u8 7] 5)).rds))
  have H0 := Lib.hid h
  clear h hl
  go_enter Try.func12, Try.ntmps12
  go_wp2_with fail
  refine (large_any _ n c _).mono ?_
  rintro e w1 ⟨he, rfl⟩
  rw [decide_eq_false (show ¬ (8192 : Int) < n by omega)] at he
  subst he
  go_wp2_with
    (at_builtin
     refine wpList_app rfl (.tmp 15) (.tmp 16) rfl w1.heap.size (w1.heap.size + 1) _ [x] rfl HA.out.1 (by simp) _ _ n c xs rfl HA.out.2 (by simp <;> omega) ?_
     intro v2 w2 ho2 hg2 hat2 hb2
     obtain ⟨A2, n2, c2, rfl, hr2⟩ := ho2.rd
     have HR := Lib.hid (And.intro hr2 (And.intro (Below.trans (by (repeat (first | exact Below.refl _ _ | assumption | (refine Below.setCell ?_ (by first | omega | (simp; done) | (simp; omega)) _) | (refine Below.alloc ?_ (by first | omega | (simp; done) | (simp; omega)) _) | (refine below_drewN ?_ _) | (refine Below.drew ?_)))) hb2 : Below w1.heap.size w1 w2) hr2.len))
     clear ho2 hg2 hat2 hb2 hr2)
  refine (bits_any A2 n2 c2 _ _ HR.out.1 (by have h1 := HR.out.2.2; have h2 := HL.out; rw [List.length_append, List.length_singleton] at h1; omega)).mono ?_
  rintro e w3 ⟨hb3, ⟨hno, rfl⟩ | ⟨ys, k, A3, n3, c3, hy, rfl, ho3⟩⟩
  · rw [List.singleton_append, hd.out] at hno
    cases hno
  · have hd1 := hd.out
    rw [List.singleton_append, hd1] at hy
    simp only [Option.some.injEq, Prod.mk.injEq] at hy
    obtain ⟨rfl, rfl⟩ := hy
    have hbw := HR.out.2.1.trans (hb3.mono HR.out.2.1.size)
    obtain ⟨_, _, _, e3, hr3⟩ := ho3.rd
    injection e3 with ea eb ec
    subst ea eb ec
    have HR3 := Lib.hid (And.intro hr3 (H0.out.below hbw))
    clear hb3 hr3 ho3 hd1
    have hcl := (hbw.cell (p := ⟨b, o + m, none⟩) hb).trans hcl0
    clear hcl0
    go_wp2
    go_quiet (fail)
    go_wp2_with fail
    refine (eqbytes_any _ _ _ _ _ _ _ _ _ _ _ (HR3.out.1.drewN _) (HR3.out.2.drewN _)).mono ?_
    rintro e w4 ⟨he, rfl⟩
    rw [eqB_self] at he
    subst he
    go_wp2_with fail
    refine (works_any _).mono ?_
    rintro e w5 ⟨rfl, hb5⟩
    go_wp2
    go_ret
    exact ⟨rfl, hbw.trans (Below.trans (by (repeat (first | exact Below.refl _ _ | assumption | (refine Below.setCell ?_ (by first | omega | (simp; done) | (simp; omega)) _) | (refine Below.alloc ?_ (by first | omega | (simp; done) | (simp; omega)) _) | (refine below_drewN ?_ _) | (refine Below.drew ?_)))) (hb5.mono (by simpa using hbw.size)))⟩
set_option maxHeartbeats 800000 in
theorem bitsl_no_7 (x xl : UInt8) (b o n c m : Nat) (xs : List UInt8) (w : World) (h : Rd w w.heap.size (some ⟨b, o, none⟩) n c xs) (hn : ¬ (8192 : Int) < n) (h0 : 0 < n) (h0' : (0 : Int) < n) (hm : m < n) (hb : b < w.heap.size)
    (hcl0 : w.cell? ⟨b, o + m, none⟩ = some (.int .u8 (xl.toNat : Int))) (hw : IntKind.i64.wrap ((n : Int) - 1) = (m : Int)) (hml : (m : Int) < n) (hk : Hid (x.toNat = 7)) (hbt : ((xl.toNat : Int) / 128 * 128 % 256 == (xl.toNat : Int)) = false) (hd : Hid (Der.bits (x :: xs) = none)) :
    Calls Try.prog 12 #[.int .u8 7, .slice (some ⟨b, o, none⟩) n c] w (BitsLawPost w) := by
  have hl := h.len
  have HL := Lib.hid hl
  have HA := Lib.hid (And.intro (OwnB.lit w [x] [.int .u8 7] 1 (by simp [bv, hk.out]) rfl (by omega)) ((h.alloc (Nat.le_refl _) (.cells #[.int .u8 7] 5)).rds))
  have H0 := Lib.hid h
  clear h hl
  go_enter Try.func12, Try.ntmps12
  go_wp2_with fail
  refine (large_any _ n c _).mono ?_
  rintro e w1 ⟨he, rfl⟩
  rw [decide_eq_false (show ¬ (8192 : Int) < n by omega)] at he
  subst he
  go_wp2_with
    (at_builtin
     refine wpList_app rfl (.tmp 15) (.tmp 16) rfl w1.heap.size (w1.heap.size + 1) _ [x] rfl HA.out.1 (by simp) _ _ n c xs rfl HA.out.2 (by simp <;> omega) ?_
     intro v2 w2 ho2 hg2 hat2 hb2
     obtain ⟨A2, n2, c2, rfl, hr2⟩ := ho2.rd
     have HR := Lib.hid (And.intro hr2 (And.intro (Below.trans (by (repeat (first | exact Below.refl _ _ | assumption | (refine Below.setCell ?_ (by first | omega | (simp; done) | (simp; omega)) _) | (refine Below.alloc ?_ (by first | omega | (simp; done) | (simp; omega)) _) | (refine below_drewN ?_ _) | (refine Below.drew ?_)))) hb2 : Below w1.heap.size w1 w2) hr2.len))
     clear ho2 hg2 hat2 hb2 hr2)
  refine (bits_any A2 n2 c2 _ _ HR.out.1 (by have h1 := HR.out.2.2; have h2 := HL.out; rw [List.length_append, List.length_singleton] at h1; omega)).mono ?_
  rintro e w3 ⟨hb3, ⟨hno, rfl⟩ | ⟨ys, k, A3, n3, c3, hy, rfl, ho3⟩⟩
  · have hbw := HR.out.2.1.trans (hb3.mono HR.out.2.1.size)
    clear hno hb3
    have hcl := (hbw.cell (p := ⟨b, o + m, none⟩) hb).trans hcl0
    clear hcl0
    go_wp2
    go_quiet (fail)
    go_wp2_with fail
    refine (works_any _).mono ?_
    rintro e w4 ⟨rfl, hb4⟩
    go_wp2
    go_ret
    exact ⟨rfl, hbw.trans (Below.trans (by (repeat (first | exact Below.refl _ _ | assumption | (refine Below.setCell ?_ (by first | omega | (simp; done) | (simp; omega)) _) | (refine Below.alloc ?_ (by first | omega | (simp; done) | (simp; omega)) _) | (refine below_drewN ?_ _) | (refine Below.drew ?_)))) (hb4.mono (by simpa using hbw.size)))⟩
  · have := hd.out
    rw [List.singleton_append, this] at hy
    cases hy

theorem derBits_u8 (x : UInt8) (A : Option Addr) (n c : Nat) (xs : List UInt8) (w : World) (h : Rd w w.heap.size A n c xs) :
    Calls Try.prog 12 #[.int .u8 (x.toNat : Int), .slice A n c] w (BitsLawPost w) := by
  by_cases hn : (8192 : Int) < n
  · exact bitsl_large x A n c w hn
  by_cases h8 : 7 < x.toNat
  · exact bitsl_big x A n c xs w h hn (by omega) (Lib.hid (by rw [Der.bits, if_pos (.inl h8)]))
  have hl := h.len
  rcases Nat.eq_zero_or_pos n with h0 | h0
  · obtain rfl : xs = [] := List.eq_nil_of_length_eq_zero (by omega)
    by_cases hx : x.toNat = 0
    · have := bitsl_nil0 x A c [] n w h h0 (Lib.hid hx) (Lib.hid (by rw [Der.bits, if_neg (by omega), hx]; simp [Nat.mod_one]))
      rw [hx]
      exact this
    · exact bitsl_nil x A c [] n w h h0 (by simp; omega) (by omega) (Lib.hid (by rw [Der.bits, if_pos (.inr ⟨by omega, rfl⟩)]))
  · obtain ⟨b, o, rfl, hb, hcell⟩ := h.at_ h0
    obtain ⟨m, rfl⟩ : ∃ m, n = m + 1 := ⟨n - 1, by omega⟩
    obtain ⟨xl, hxl⟩ : ∃ xl, xs.getLastD 0 = xl := ⟨_, rfl⟩
    have hcl := hcell m xl (by rw [last_get hl, hxl])
    have hw : IntKind.i64.wrap (((m + 1 : Nat) : Int) - 1) = (m : Int) := by rw [IntKind.wrap_i64]; omega
    have hne : xs ≠ [] := fun e => by subst e; simp at hl
    have hlast : (x :: xs).getLastD 0 = xl := by
      rw [← hxl, List.getLastD_eq_getLast?, List.getLastD_eq_getLast?, List.getLast?_cons, ]
      cases xs with
      | nil => exact absurd rfl hne
      | cons a r => simp [List.getLast?_cons]
    have hyes : xl.toNat % 2 ^ x.toNat = 0 → Der.bits (x :: xs) = some (xs, x.toNat) := by
      intro e
      rw [Der.bits, if_neg (by rintro (h | h); exact h8 h; exact hne h.2), hlast, if_pos e]
    have hno : xl.toNat % 2 ^ x.toNat ≠ 0 → Der.bits (x :: xs) = none := by
      intro e
      rw [Der.bits, if_neg (by rintro (h | h); exact h8 h; exact hne h.2), hlast, if_neg e]
    have hml : (m : Int) < (m + 1 : Nat) := by omega
    have hxb := xl.toNat_lt
    have hk : x.toNat = 0 ∨ x.toNat = 1 ∨ x.toNat = 2 ∨ x.toNat = 3 ∨ x.toNat = 4 ∨ x.toNat = 5 ∨ x.toNat = 6 ∨ x.toNat = 7 := by omega
    rcases hk with hk | hk | hk | hk | hk | hk | hk | hk
    · rw [hk] at hyes hno
      rw [hk]
      by_cases hz : xl.toNat % 2 ^ 0 = 0
      · exact bitsl_yes_0 x xl b o (m + 1) c m xs w h hn h0 (by omega) (by omega) hb hcl hw hml (Lib.hid hk) (by simp only [beq_iff_eq]; omega) (Lib.hid (hyes hz))
      · exact bitsl_no_0 x xl b o (m + 1) c m xs w h hn h0 (by omega) (by omega) hb hcl hw hml (Lib.hid hk) (by simp only [beq_eq_false_iff_ne, ne_eq]; omega) (Lib.hid (hno hz))
    · rw [hk] at hyes hno
      rw [hk]
      by_cases hz : xl.toNat % 2 ^ 1 = 0
      · exact bitsl_yes_1 x xl b o (m + 1) c m xs w h hn h0 (by omega) (by omega) hb hcl hw hml (Lib.hid hk) (by simp only [beq_iff_eq]; omega) (Lib.hid (hyes hz))
      · exact bitsl_no_1 x xl b o (m + 1) c m xs w h hn h0 (by omega) (by omega) hb hcl hw hml (Lib.hid hk) (by simp only [beq_eq_false_iff_ne, ne_eq]; omega) (Lib.hid (hno hz))
    · rw [hk] at hyes hno
      rw [hk]
      by_cases hz : xl.toNat % 2 ^ 2 = 0
      · exact bitsl_yes_2 x xl b o (m + 1) c m xs w h hn h0 (by omega) (by omega) hb hcl hw hml (Lib.hid hk) (by simp only [beq_iff_eq]; omega) (Lib.hid (hyes hz))
      · exact bitsl_no_2 x xl b o (m + 1) c m xs w h hn h0 (by omega) (by omega) hb hcl hw hml (Lib.hid hk) (by simp only [beq_eq_false_iff_ne, ne_eq]; omega) (Lib.hid (hno hz))
    · rw [hk] at hyes hno
      rw [hk]
      by_cases hz : xl.toNat % 2 ^ 3 = 0
      · exact bitsl_yes_3 x xl b o (m + 1) c m xs w h hn h0 (by omega) (by omega) hb hcl hw hml (Lib.hid hk) (by simp only [beq_iff_eq]; omega) (Lib.hid (hyes hz))
      · exact bitsl_no_3 x xl b o (m + 1) c m xs w h hn h0 (by omega) (by omega) hb hcl hw hml (Lib.hid hk) (by simp only [beq_eq_false_iff_ne, ne_eq]; omega) (Lib.hid (hno hz))
    · rw [hk] at hyes hno
      rw [hk]
      by_cases hz : xl.toNat % 2 ^ 4 = 0
      · exact bitsl_yes_4 x xl b o (m + 1) c m xs w h hn h0 (by omega) (by omega) hb hcl hw hml (Lib.hid hk) (by simp only [beq_iff_eq]; omega) (Lib.hid (hyes hz))
      · exact bitsl_no_4 x xl b o (m + 1) c m xs w h hn h0 (by omega) (by omega) hb hcl hw hml (Lib.hid hk) (by simp only [beq_eq_false_iff_ne, ne_eq]; omega) (Lib.hid (hno hz))
    · rw [hk] at hyes hno
      rw [hk]
      by_cases hz : xl.toNat % 2 ^ 5 = 0
      · exact bitsl_yes_5 x xl b o (m + 1) c m xs w h hn h0 (by omega) (by omega) hb hcl hw hml (Lib.hid hk) (by simp only [beq_iff_eq]; omega) (Lib.hid (hyes hz))
      · exact bitsl_no_5 x xl b o (m + 1) c m xs w h hn h0 (by omega) (by omega) hb hcl hw hml (Lib.hid hk) (by simp only [beq_eq_false_iff_ne, ne_eq]; omega) (Lib.hid (hno hz))
    · rw [hk] at hyes hno
      rw [hk]
      by_cases hz : xl.toNat % 2 ^ 6 = 0
      · exact bitsl_yes_6 x xl b o (m + 1) c m xs w h hn h0 (by omega) (by omega) hb hcl hw hml (Lib.hid hk) (by simp only [beq_iff_eq]; omega) (Lib.hid (hyes hz))
      · exact bitsl_no_6 x xl b o (m + 1) c m xs w h hn h0 (by omega) (by omega) hb hcl hw hml (Lib.hid hk) (by simp only [beq_eq_false_iff_ne, ne_eq]; omega) (Lib.hid (hno hz))
    · rw [hk] at hyes hno
      rw [hk]
      by_cases hz : xl.toNat % 2 ^ 7 = 0
      · exact bitsl_yes_7 x xl b o (m + 1) c m xs w h hn h0 (by omega) (by omega) hb hcl hw hml (Lib.hid hk) (by simp only [beq_iff_eq]; omega) (Lib.hid (hyes hz))
      · exact bitsl_no_7 x xl b o (m + 1) c m xs w h hn h0 (by omega) (by omega) hb hcl hw hml (Lib.hid hk) (by simp only [beq_eq_false_iff_ne, ne_eq]; omega) (Lib.hid (hno hz))

theorem derBits_walk (w : World) (a0 : Int) (w0 : (Lit.int .u8 a0).wf = true) (A : Option Addr) (n c : Nat) (xs : List UInt8) (h : Rd w w.heap.size A n c xs) :
    Calls Try.prog 12 #[.int .u8 a0, .slice A n c] w fun e w' => e = .returned (.bool true) ∧ Below w.heap.size w w' := by
  have := derBits_u8 (UInt8.ofNat a0.toNat) A n c xs w h
  rw [u8_of_wf w0] at this
  exact this
end Go.Proofs.Ytadkiildjehdmaa
