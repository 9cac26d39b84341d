/- The contract of der.PutOid's closure. -/
import Derived.Test.YtnfngnmajjkdbaaDoorOid
import Derived.Test.YtnfngnmajjkdbaaDoorDer7
import Derived.Test.YtnfngnmajjkdbaaDoorAll2
import Derived.Outline
import Derived.ArgAppend
namespace Go.Proofs.YtnfngnmajjkdbaaDoor
open Go.RowKit
set_option maxRecDepth 100000
set_option linter.unusedVariables false
set_option linter.unusedSimpArgs false

theorem OwnB.lt_ {w : World} {lo hi q : Nat} {v : Value} {xs : List UInt8} (h : OwnB w lo hi v xs) (hq : v.ownBlock = some q) : lo ≤ q ∧ q < hi := ⟨(h.1.lt q hq).1, h.2 q hq⟩
theorem Rd.of_own {w : World} {lo hi n c : Nat} {A : Option Addr} {xs : List UInt8} (h : OwnB w lo hi (.slice A n c) xs) : Rd w hi A n c xs := by
  obtain ⟨_, _, _, e, hr⟩ := h.rd
  injection e with ea eb ec
  subst ea eb ec
  exact hr
namespace Der

/-- A number's bytes, 7 bits a byte, the lowest first, all with the bit 80. -/
def sevT (n : Nat) : List UInt8 := if n = 0 then [] else UInt8.ofNat (128 + n % 128) :: sevT (n / 128)
termination_by n
decreasing_by omega
theorem sevT_zero : sevT 0 = [] := by rw [sevT]; rfl
theorem sevT_pos {n : Nat} (h : 0 < n) : sevT n = UInt8.ofNat (128 + n % 128) :: sevT (n / 128) := by rw [sevT, if_neg (by omega)]
def sevL (n : Nat) : List UInt8 := UInt8.ofNat (n % 128) :: sevT (n / 128)
def sev (n : Nat) : List UInt8 := (sevL n).reverse
theorem sevT_le : ∀ (k n : Nat), n < 128 ^ k → (sevT n).length ≤ k
  | 0, n, h => by simp at h; subst h; rw [sevT_zero]; simp
  | k + 1, n, h => by
    rcases Nat.eq_zero_or_pos n with h0 | h0
    · subst h0; rw [sevT_zero]; simp
    · rw [sevT_pos h0, List.length_cons]
      have := sevT_le k (n / 128) (by rw [Nat.pow_succ] at h; omega)
      omega
theorem sev_len (n : Nat) (h : n < 18446744073709551616) : (sev n).length ≤ 10 := by
  have := sevT_le 9 (n / 128) (by rw [show 128 ^ 9 = 9223372036854775808 from rfl]; omega)
  simp [sev, sevL]; omega
end Der

/-- What the closure leaves. -/
def PutPost (g : Nat) (xs : List UInt8) (n : Nat) (w : World) (e : Ending) (w' : World) : Prop :=
  e = .returned (.tuple #[]) ∧ ∃ v', Blk w' g 22 #[v'] ∧ OwnB w' (g + 1) w'.heap.size v' (xs ++ Der.sev n) ∧ Below g w w'

def SevRel (w : World) (N m : Nat) (v : Value) (wr : World) : Prop :=
  ∃ ys, ys ++ Der.sevT m = Der.sevL N ∧ OwnB wr w.heap.size wr.heap.size v ys ∧ Below w.heap.size w wr

theorem u64_and127 (a : Nat) (ha : a < 18446744073709551616) : bits .and .u64 (a : Int) 127 = ((a % 128 : Nat) : Int) := by
  show IntKind.u64.wrap ((BitVec.ofInt 64 (a : Int) &&& BitVec.ofInt 64 ((127 : Nat) : Int)).toNat : Int) = _
  rw [BitVec.toNat_and, ofInt_u64 a ha, ofInt_u64 127 (by omega)]
  rw [show (127 : Nat) = 2 ^ 7 - 1 from rfl, Nat.and_two_pow_sub_one_eq_mod]
  simp only [IntKind.wrap, IntKind.bits, IntKind.signed]
  simp
  omega
theorem u8_or128 (r : Nat) (h : r < 128) : bits .or .u8 128 (r : Int) = 128 + (r : Int) := by
  have key : ∀ x : Fin 128, bits .or .u8 128 ((x.val : Nat) : Int) = 128 + ((x.val : Nat) : Int) := by decide +kernel
  exact key ⟨r, h⟩
theorem bv_of {n : Nat} (h : n < 256) : bv (UInt8.ofNat n) = .int .u8 (n : Int) := by
  simp only [bv, UInt8.toNat_ofNat']
  rw [Nat.mod_eq_of_lt (by omega)]
theorem retTup (g : Nat) {xs : List UInt8} {n : Nat} {w w' : World} (h : ∃ v', Blk w' g 22 #[v'] ∧ OwnB w' (g + 1) w'.heap.size v' (xs ++ Der.sev n) ∧ Below g w w') : PutPost g xs n w (.returned (.tuple #[])) w' := ⟨rfl, h⟩

set_option maxHeartbeats 2000000 in
theorem put_any (g N : Nat) (v : Value) (xs : List UInt8) (w : World) (hB : Blk w g 22 #[v]) (ho : OwnB w (g + 1) w.heap.size v xs) (hN : N < 18446744073709551616) (hx : xs.length ≤ 17592186044416) :
    Calls Tryd.prog 25 #[.int .u64 (N : Int), .pointer (some ⟨g, 0, none⟩)] w (PutPost g xs N w) := by
  have hgw := hB.lt
  have hsl := Der.sev_len N hN
  have H := Lib.hid (And.intro hB (And.intro ho hsl))
  clear hB ho hsl
  obtain ⟨r, hr⟩ : ∃ r, N % 128 = r := ⟨_, rfl⟩
  have hr1 : (r : Int) < 128 := by omega
  have e0 := u64_and127 N hN
  rw [hr] at e0
  have e1 : (r : Int) % 256 = r := by omega
  have hrel0 : SevRel w N (N / 128) (.slice (some ⟨w.heap.size, 0, none⟩) 1 1) (w.alloc (.cells #[.int .u8 (r : Int)] 5)) := by
    refine ⟨[UInt8.ofNat (N % 128)], rfl, ?_, (Below.refl _ _).alloc (Nat.le_refl _) _⟩
    have hl := World.ownsRow_lit (e := 5) (base := w.heap.size) (size := 1) w #[.int .u8 (r : Int)] 1 (Nat.le_refl _) (by simp [maxLen]) rfl
    have hb : bv (UInt8.ofNat (N % 128)) = .int .u8 (r : Int) := by rw [hr]; exact bv_of (by omega)
    refine OwnB.of (n := 1) ?_
    rw [List.map_singleton, hb]
    exact hl
  have HR0 := Lib.hid hrel0
  clear hrel0 hr
  go_enter Tryd.func25, Tryd.ntmps25
  go_wp2
  clear e0 e1
  go_loopw [0, 3] (fun n v wr => ∃ m : Nat, m < 18446744073709551616 ∧ n = .int .u64 (m : Int) ∧ SevRel w N m v wr) (fun n _ _ => (intOf n).toNat)
  case atStart => exact ⟨N / 128, by omega, by go_num, HR0.out⟩
  case round =>
    obtain ⟨m, hm, rfl, ys, hys, hoy, hb⟩ := hrel
    have hsz := hb.size
    have hyl : ys.length ≤ 20 := by
      have h1 := congrArg List.length hys
      have h2 := H.out.2.2
      unfold Der.sev at h2
      rw [List.length_append] at h1
      rw [List.length_reverse] at h2
      omega
    by_cases h0 : 0 < m
    · have h0' : (0 : Int) < m := by omega
      obtain ⟨q, hq⟩ : ∃ q, m % 128 = q := ⟨_, rfl⟩
      have hq1 : (q : Int) < 128 := by omega
      have e0 := u64_and127 m hm
      rw [hq] at e0
      have e1 : (q : Int) % 256 = q := by omega
      have e2 := u8_or128 q (by omega)
      have hone : Hid (Reads (wr.alloc (.cells #[.int .u8 (128 + (q : Int))] 5)) (wr.heap.size + 1) 1 (some ⟨wr.heap.size, 0, none⟩) 1 ([UInt8.ofNat (128 + q)].map bv)) := by
        have hb2 : bv (UInt8.ofNat (128 + q)) = .int .u8 (128 + (q : Int)) := by
          rw [bv_of (by omega)]
          simp
        rw [List.map_singleton, hb2]
        exact Reads.one wr 5 _
      rw [Der.sevT_pos h0, hq] at hys
      have HY := Lib.hid (And.intro hys (And.intro hoy hb))
      clear hys hoy hb hq
      go_wp2_with
        (at_builtin
         refine wpList_app rfl (.tmp 14) (.tmp 19) rfl w.heap.size wr.heap.size _ ys rfl (HY.out.2.1.alloc (Nat.le_refl _) _) (by simp; omega) _ _ 1 1 [UInt8.ofNat (128 + q)] rfl hone.out (by omega) ?_
         intro v2 w2 ho2 hg2 hat2 hb2)
      go_roundw
      case rel => exact ⟨m / 128, by omega, by go_num, ys ++ [UInt8.ofNat (128 + q)], by rw [List.append_assoc]; exact HY.out.1, ho2, HY.out.2.2.trans (Below.trans (by (repeat (first | exact Below.refl _ _ | assumption | (refine Below.setCell ?_ (by first | omega | (simp; done) | (simp; omega)) _) | (refine Below.alloc ?_ (by first | omega | (simp; done) | (simp; omega)) _) | (refine below_drewN ?_ _) | (refine Below.drew ?_)))) hb2)⟩
      case measure => simp [intOf]; omega
    · obtain rfl : m = 0 := by omega
      rw [Der.sevT_zero, List.append_nil] at hys
      subst hys
      obtain ⟨Ay, ny, cy, rfl, hry⟩ := hoy.rd
      have hny : ny ≤ 20 := by rw [← hry.len]; exact hyl
      have HY := Lib.hid (And.intro hoy hb)
      clear hoy hb hry
      go_wp2_with fail
      refine (reverse_any _ _ _ _ _ _ _ HY.out.1 (by omega)).mono ?_
      rintro e w2 ⟨rfl, ho2, hg2, hs2⟩
      have hb2 : Below w.heap.size w w2 := HY.out.2.grown hg2 hsz (fun k hk => (HY.out.1.lt_ hk).1)
      obtain ⟨hc2, hf2⟩ := (H.out.1.below hb2 hgw).facts
      have hb2' : Below w.heap.size w w2 := hb2
      have hv2 := H.out.2.1.below hb2 (Nat.le_refl _)
      have HZ := Lib.hid (And.intro ho2 (And.intro hb2 (And.intro hv2 (H.out.1.below hb2 hgw))))
      have hsz2 : w.heap.size ≤ w2.heap.size := hb2.size
      clear ho2 hg2 hb2 hb2' hv2
      go_wp2_with
        (at_builtin
         refine wpList_app rfl (.tmp 23) (.tmp 24) rfl (g + 1) w.heap.size _ xs rfl HZ.out.2.2.1 (by omega) _ _ ny cy _ rfl (Rd.of_own HZ.out.1).rds (by omega) ?_
         intro v3 w3 ho3 hg3 hat3 hb3
         have HV := Lib.hid (And.intro ho3 hb3)
         have hBv := HZ.out.2.2.2.below hb3 (by omega)
         obtain ⟨hc3, hf3⟩ := hBv.facts
         have HB3 := Lib.hid hBv
         obtain ⟨A3, n3, c3, rfl, _⟩ := ho3.rd
         clear ho3 hg3 hat3 hb3 hBv hc2 hf2)
      go_end0
      exact retTup g ⟨_, by simpa using HB3.out.set_ 0 _, (HV.out.1.setCell (by simp) _).mono (Nat.le_refl _) (by simp), ((HZ.out.2.1.mono (by omega)).trans (HV.out.2.mono (by omega))).setCell (by simp) _⟩
end Go.Proofs.YtnfngnmajjkdbaaDoor
