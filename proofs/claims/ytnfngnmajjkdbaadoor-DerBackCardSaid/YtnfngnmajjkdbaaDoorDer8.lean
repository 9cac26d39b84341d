/- The contracts of der.Write and of the reference's Write. -/
import Derived.Test.YtnfngnmajjkdbaaDoorProg
import Derived.Test.YtnfngnmajjkdbaaDoorMem
import Derived.Test.YtnfngnmajjkdbaaDoorMem2
import Derived.Test.YtnfngnmajjkdbaaDoorNum
import Derived.Test.YtnfngnmajjkdbaaDoorBase
import Derived.Test.YtnfngnmajjkdbaaDoorDer6
import Derived.Test.YtnfngnmajjkdbaaDoorDer7
import Derived.Test.YtnfngnmajjkdbaaDoorDerSpec2
import Derived.Test.YtnfngnmajjkdbaaDoorLit
namespace Go.Proofs.YtnfngnmajjkdbaaDoor
open Go.RowKit
set_option maxRecDepth 100000

set_option maxHeartbeats 400000 in
theorem write_short (t : UInt8) (A : Option Addr) (n c : Nat) (xs : List UInt8) (w : World) (h : Rd w w.heap.size A n c xs) (hn : n < 128) :
    Calls Tryd.prog 6 #[.int .u8 (t.toNat : Int), .slice A n c] w (RetOwn (Der.write t xs) w) := by
  have hl := h.len
  obtain ⟨L, hL⟩ : ∃ L, L = [(Value.slice (some ⟨w.heap.size, 0, none⟩) 2 2, [t, UInt8.ofNat n]), (.slice A n c, xs)] := ⟨_, rfl⟩
  have hj := RdL.lit (w.alloc (.cells #[.int .u8 (t.toNat : Int), .int .u8 (n : Int)] 5)) 22
    L [.slice (some ⟨w.heap.size, 0, none⟩) 2 2, .slice A n c] (w.heap.size + 1) 2 (by simp) (by rw [hL]; rfl) (by rw [hL]; rfl) (by omega)
    (fun v ys hm => by
      rw [hL] at hm
      simp only [List.mem_cons, Prod.mk.injEq, List.not_mem_nil, or_false] at hm
      rcases hm with ⟨rfl, rfl⟩ | ⟨rfl, rfl⟩
      · exact RdV.mk (Rd.lit w 5 [t, UInt8.ofNat n] [.int .u8 (t.toNat : Int), .int .u8 (n : Int)] _ 2 rfl (by simp only [List.map_cons, List.map_nil]; rw [bv_ofNat (by omega)]; rfl) rfl (by omega))
      · exact RdV.mk (h.up (by (repeat (first | exact Below.refl _ _ | assumption | (refine Below.setCell ?_ (by first | omega | (simp; done) | (simp; omega)) _) | (refine Below.alloc ?_ (by first | omega | (simp; done) | (simp; omega)) _) | (refine below_drewN ?_ _) | (refine Below.drew ?_))))))
  have ec : cat L = Der.write t xs := by
    rw [hL]
    simp [cat, Der.write, Der.lenB, hl, hn]
  have el : (cat L).length ≤ 1000 := by
    rw [hL]
    simp [cat]; omega
  clear hL
  have HJ := Lib.hid (And.intro hj ec)
  have hnt : (n : Int) < 128 := by omega
  clear hj hl h ec
  go_enter Tryd.func6, Tryd.ntmps6
  go_wp2_with fail
  refine (join_any _ 2 2 L _ HJ.out.1 (by omega) (by omega)).mono ?_
  rintro e w1 ⟨A1, n1, c1, rfl, ho1, hb1⟩
  have hbw1 : Below w.heap.size w w1 := Below.trans (by (repeat (first | exact Below.refl _ _ | assumption | (refine Below.setCell ?_ (by first | omega | (simp; done) | (simp; omega)) _) | (refine Below.alloc ?_ (by first | omega | (simp; done) | (simp; omega)) _) | (refine below_drewN ?_ _) | (refine Below.drew ?_)))) (hb1.mono (by simp; omega))
  go_wp2
  go_ret
  refine retOwn ?_ hbw1
  rw [HJ.out.2] at ho1
  exact ho1.mono (by simp; omega) (Nat.le_refl _)

def LenRel (N : Nat) (w : World) (acc : List UInt8) (m : Nat) (v : Value) (wr : World) : Prop := acc ++ Der.leB m = Der.leB N ∧ OwnB wr w.heap.size wr.heap.size v acc ∧ Below w.heap.size w wr

set_option maxHeartbeats 1000000 in
theorem write_long (t : UInt8) (A : Option Addr) (n c : Nat) (xs : List UInt8) (w : World) (h : Rd w w.heap.size A n c xs) (hn : 128 ≤ n) (hn2 : n ≤ 1099511627000) :
    Calls Tryd.prog 6 #[.int .u8 (t.toNat : Int), .slice A n c] w (RetOwn (Der.write t xs) w) := by
  have hl := h.len
  have hnt : ¬ (n : Int) < 128 := by omega
  have hrel0 : LenRel n w [] n (.slice none 0 0) w := ⟨rfl, OwnB.nil_, Below.refl _ _⟩
  have HL := Lib.hid hl
  clear hl
  go_enter Tryd.func6, Tryd.ntmps6
  go_wp2
  go_loopw [5, 6] (fun v i wr => ∃ m acc, m ≤ n ∧ i = .int .i64 (m : Int) ∧ LenRel n w acc m v wr) (fun _ i _ => (intOf i).toNat)
  case atStart => exact ⟨n, [], Nat.le_refl _, rfl, hrel0⟩
  case round =>
    obtain ⟨m, acc, hm, rfl, hacc, ho, hb⟩ := hrel
    by_cases hlt : 0 < m
    · have hlt' : (0 : Int) < m := by omega
      have e1 : (Value.int .u8 ((m : Int) % 256)) = bv (UInt8.ofNat m) := by
        simp only [bv, UInt8.toNat_ofNat']
        congr 1
      have hone : Hid (Reads (wr.alloc (.cells #[.int .u8 ((m : Int) % 256)] 5)) (wr.heap.size + 1) 1 (some ⟨wr.heap.size, 0, none⟩) 1 ([UInt8.ofNat m].map bv)) := by
        rw [e1]; exact Reads.one wr 5 _
      have hal : acc.length ≤ 8 := by
        have := congrArg List.length hacc
        rw [List.length_append] at this
        have := Der.leB_le 8 n (by omega)
        omega
      have hst : (acc ++ [UInt8.ofNat m]) ++ Der.leB (m / 256) = Der.leB n := by
        rw [List.append_assoc, ← hacc, Der.leB_pos hlt]; rfl
      have HS := Lib.hid (And.intro hst ho)
      have hbs := hb.size
      clear e1 hst hacc ho
      go_wp2_with
        (at_builtin
         refine wpList_app rfl (.tmp 24) (.tmp 27) rfl w.heap.size wr.heap.size _ acc rfl (HS.out.2.alloc (Nat.le_refl _) _) (by simp; omega) _ _ 1 1 [UInt8.ofNat m] rfl hone.out (by omega) ?_
         intro v2 w2 ho2 hg2 hat2 hb2)
      go_roundw
      case rel => exact ⟨m / 256, acc ++ [UInt8.ofNat m], by omega, by go_num, HS.out.1, ho2, (hb.alloc (by omega) _).trans hb2⟩
      case measure => simp [intOf]; omega
    · obtain rfl : m = 0 := by omega
      rw [Der.leB_zero, List.append_nil] at hacc
      subst hacc
      obtain ⟨A5, n5, c5, rfl, hr5⟩ := ho.rd
      have hl5 := hr5.len
      have hle5 := Der.leB_le 8 n (by omega)
      have hn5 : n5 ≤ 8 := by omega
      have HH := Lib.hid (And.intro ho hl5)
      clear hl5 hle5 ho hr5 hlt
      go_wp2_with fail
      refine (reverse_any w.heap.size wr.heap.size A5 n5 c5 _ _ HH.out.1 (by omega)).mono ?_
      rintro e w2 ⟨rfl, ho2, hg2, hz2⟩
      have hb2 : Below w.heap.size wr w2 := (Below.refl _ _).grown hg2 (by have := hb.size; omega) (fun k hk => by
        have h1 := HH.out.1.1.lt k hk
        exact h1.1)
      have hbw2 := hb.trans hb2
      have hsz2 := hbw2.size
      obtain ⟨L, hL⟩ : ∃ L, L = [(Value.slice (some ⟨w2.heap.size, 0, none⟩) 2 2, [t, UInt8.ofNat (128 + n5)]), (.slice A5 n5 c5, (Der.leB n).reverse), (.slice A n c, xs)] := ⟨_, rfl⟩
      have hj := RdL.lit (w2.alloc (.cells #[.int .u8 (t.toNat : Int), .int .u8 (128 + (n5 : Int))] 5)) 22
        L [.slice (some ⟨w2.heap.size, 0, none⟩) 2 2, .slice A5 n5 c5, .slice A n c] (w2.heap.size + 1) 3 (by simp) (by rw [hL]; rfl) (by rw [hL]; rfl) (by omega)
        (fun v ys hm => by
          rw [hL] at hm
          simp only [List.mem_cons, Prod.mk.injEq, List.not_mem_nil, or_false] at hm
          rcases hm with ⟨rfl, rfl⟩ | ⟨rfl, rfl⟩ | ⟨rfl, rfl⟩
          · exact RdV.mk (Rd.lit w2 5 [t, UInt8.ofNat (128 + n5)] [.int .u8 (t.toNat : Int), .int .u8 (128 + (n5 : Int))] _ 2 rfl (by simp only [List.map_cons, List.map_nil]; rw [bv_ofNat (by omega)]; rfl) rfl (by omega))
          · obtain ⟨A6, n6, c6, e6, hr6⟩ := ho2.rd
            exact ⟨A6, n6, c6, e6, (hr6.alloc (by omega) _).more (by simp; omega)⟩
          · exact RdV.mk (h.up (by (repeat (first | exact Below.refl _ _ | assumption | (refine Below.setCell ?_ (by first | omega | (simp; done) | (simp; omega)) _) | (refine Below.alloc ?_ (by first | omega | (simp; done) | (simp; omega)) _) | (refine below_drewN ?_ _) | (refine Below.drew ?_))))))
      have hl := HL.out
      have hlr := HH.out.2
      have ec : cat L = Der.write t xs := by
        rw [hL]
        unfold Der.write Der.lenB
        rw [hl, if_neg (by omega), hlr]
        simp [cat]
      have el : (cat L).length ≤ 1099511627776 := by
        rw [hL]
        simp [cat]; omega
      have HJ := Lib.hid (And.intro hj ec)
      clear hL hj ec hl hlr ho2 hg2 hz2 hb2
      go_wp2_with fail
      refine (join_any _ 3 3 L _ HJ.out.1 (by omega) el).mono ?_
      rintro e w3 ⟨A1, n1, c1, rfl, ho3, hb3⟩
      have hbw3 : Below w.heap.size w w3 := Below.trans (by (repeat (first | exact Below.refl _ _ | assumption | (refine Below.setCell ?_ (by first | omega | (simp; done) | (simp; omega)) _) | (refine Below.alloc ?_ (by first | omega | (simp; done) | (simp; omega)) _) | (refine below_drewN ?_ _) | (refine Below.drew ?_)))) (hb3.mono (by simp; omega))
      go_wp2
      go_ret
      refine retOwn ?_ hbw3
      rw [HJ.out.2] at ho3
      exact ho3.mono (by simp; omega) (Nat.le_refl _)

theorem write_any (t : UInt8) (A : Option Addr) (n c : Nat) (xs : List UInt8) (w : World) (h : Rd w w.heap.size A n c xs) (hn : n ≤ 1099511627000) :
    Calls Tryd.prog 6 #[.int .u8 (t.toNat : Int), .slice A n c] w (RetOwn (Der.write t xs) w) := by
  by_cases hs : n < 128
  · exact write_short t A n c xs w h hs
  · exact write_long t A n c xs w h (by omega) hn
end Go.Proofs.YtnfngnmajjkdbaaDoor
