/- The contract of the reference's Write. -/
import Derived.Test.YtadkiildjehdmaaProg
import Derived.Test.YtadkiildjehdmaaMem
import Derived.Test.YtadkiildjehdmaaMem2
import Derived.Test.YtadkiildjehdmaaNum
import Derived.Test.YtadkiildjehdmaaBase
import Derived.Test.YtadkiildjehdmaaDer7
import Derived.Test.YtadkiildjehdmaaDer8
import Derived.Test.YtadkiildjehdmaaDerSpec2
namespace Go.Proofs.Ytadkiildjehdmaa
open Go.RowKit
set_option maxRecDepth 100000

/-- A slice of bytes that was written out is a row of the call's own. -/
theorem OwnB.lit (w : World) (xs : List UInt8) (cs : List Value) (n : Nat) (hc : cs = xs.map bv) (hl : xs.length = n) (hn : n ≤ 1099511627776) :
    OwnB (w.alloc (.cells cs.toArray 5)) w.heap.size (w.heap.size + 1) (.slice (some ⟨w.heap.size, 0, none⟩) n n) xs := by
  subst hc hl
  refine ⟨⟨by simp, .inr ⟨w.heap.size, _, _, rfl, Nat.le_refl _, heap_alloc_new w _, Nat.le_refl _, by simp only [maxLen]; omega, by simp, by simp only [Nat.mul_one]; rw [List.take_of_length_le (by simp)]⟩⟩, fun k hk => by simp [Value.ownBlock] at hk; omega⟩

set_option maxHeartbeats 400000 in
theorem refWrite_short (t : UInt8) (A : Option Addr) (n c : Nat) (xs : List UInt8) (w : World) (h : Rd w w.heap.size A n c xs) (hn : n < 128) :
    Calls Try.prog 28 #[.int .u8 (t.toNat : Int), .slice A n c] w (RetOwn (Der.write t xs) w) := by
  have hl := h.len
  have hnt : (n : Int) < 128 := by omega
  have ho0 := OwnB.lit w [t] [.int .u8 (t.toNat : Int)] 1 rfl rfl (by omega)
  have hone : Reads ((w.alloc (.cells #[.int .u8 (t.toNat : Int)] 5)).alloc (.cells #[.int .u8 (n : Int)] 5)) ((w.alloc (.cells #[.int .u8 (t.toNat : Int)] 5)).alloc (.cells #[.int .u8 (n : Int)] 5)).heap.size 1 (some ⟨w.heap.size + 1, 0, none⟩) 1 ([UInt8.ofNat n].map bv) := by
    simp only [List.map_cons, List.map_nil]
    rw [bv_ofNat (by omega)]
    exact reads_block _ _ [.int .u8 (n : Int)] _ (by simp)
  have HH := Lib.hid (And.intro ho0 (And.intro hone h))
  have hw : Hid (Der.write t xs = [t] ++ [UInt8.ofNat n] ++ xs) := by simp [Hid, Der.write, Der.lenB, hl, hn]
  clear ho0 hone h
  go_enter Try.func28, Try.ntmps28
  go_wp2_with (first
    | (at_builtin
       refine wpList_app rfl (.tmp 16) (.tmp 19) rfl w.heap.size (w.heap.size + 1) _ [t] rfl (HH.out.1.alloc (by simp) _) (by simp; omega) _ _ 1 1 [UInt8.ofNat n] rfl HH.out.2.1 (by simp) ?_
       intro v1 w1 ho1 hg1 hat1 hb1
       have hbw1 : Below w.heap.size w w1 := Below.trans (by (repeat (first | exact Below.refl _ _ | assumption | (refine Below.setCell ?_ (by first | omega | (simp; done) | (simp; omega)) _) | (refine Below.alloc ?_ (by first | omega | (simp; done) | (simp; omega)) _) | (refine below_drewN ?_ _) | (refine Below.drew ?_)))) hb1)
    | (at_builtin
       refine wpList_app rfl (.tmp 21) (.tmp 22) rfl w.heap.size w1.heap.size v1 ([t] ++ [UInt8.ofNat n]) rfl ho1 hbw1.size _ A n c xs rfl (HH.out.2.2.up hbw1).rds (by simp; omega) ?_
       intro v2 w2 ho2 hg2 hat2 hb2
       have hbw2 : Below w.heap.size w w2 := Below.trans hbw1 hb2))
  go_ret
  exact retOwn (by rw [hw.out]; exact ho2) hbw2

def RefLenRel (t : UInt8) (N : Nat) (w : World) (acc : List UInt8) (m : Nat) (v : Value) (wr : World) : Prop :=
  acc ++ Der.leB m = Der.leB N ∧ OwnB wr (w.heap.size + 1) wr.heap.size v acc ∧ OwnB wr w.heap.size (w.heap.size + 1) (.slice (some ⟨w.heap.size, 0, none⟩) 1 1) [t] ∧ Below w.heap.size w wr ∧ w.heap.size + 1 ≤ wr.heap.size

def RefOutRel (t : UInt8) (g n5 c5 H : Nat) (l : List UInt8) (w : World) (j : Nat) (v : Value) (wr : World) : Prop :=
  OwnB wr w.heap.size wr.heap.size v (t :: UInt8.ofNat (128 + n5) :: l.reverse.take j) ∧ OwnB wr (w.heap.size + 1) H (.slice (some ⟨g, 0, none⟩) n5 c5) l ∧ (∀ k, v.ownBlock = some k → k < w.heap.size + 1 ∨ H ≤ k) ∧
    Below w.heap.size w wr ∧ H ≤ wr.heap.size

/-- An owned row is kept by an append onto another row. -/
theorem OwnB.kept {w w' : World} {lo hi : Nat} {v v0 : Value} {xs : List UInt8} (h : OwnB w lo hi v xs) (hg : w.grownBy w' v0.ownBlock) (hh : hi ≤ w.heap.size) (hn : ∀ k, v0.ownBlock = some k → k < lo ∨ hi ≤ k) : OwnB w' lo hi v xs :=
  h.keep fun k h1 h2 => hg.block k (by omega) (fun e => by have := hn k e.symm; omega)

set_option maxHeartbeats 1000000 in
theorem refWrite_long (t : UInt8) (A : Option Addr) (n c : Nat) (xs : List UInt8) (w : World) (h : Rd w w.heap.size A n c xs) (hn : 128 ≤ n) (hn2 : n ≤ 1099511627000) :
    Calls Try.prog 28 #[.int .u8 (t.toNat : Int), .slice A n c] w (RetOwn (Der.write t xs) w) := by
  have hl := h.len
  have hnt : ¬ (n : Int) < 128 := by omega
  have ho0 := OwnB.lit w [t] [.int .u8 (t.toNat : Int)] 1 rfl rfl (by omega)
  have hrel0 : RefLenRel t n w [] n (.slice none 0 0) (w.alloc (.cells #[.int .u8 (t.toNat : Int)] 5)) := ⟨rfl, OwnB.nil_, ho0, by (repeat (first | exact Below.refl _ _ | assumption | (refine Below.setCell ?_ (by first | omega | (simp; done) | (simp; omega)) _) | (refine Below.alloc ?_ (by first | omega | (simp; done) | (simp; omega)) _) | (refine below_drewN ?_ _) | (refine Below.drew ?_))), by simp⟩
  have HL := Lib.hid hl
  clear hl ho0
  go_enter Try.func28, Try.ntmps28
  go_wp2
  go_loopw [7, 8] (fun v i wr => ∃ m acc, m ≤ n ∧ i = .int .i64 (m : Int) ∧ RefLenRel t n w acc m v wr) (fun _ i _ => (intOf i).toNat)
  case atStart => exact ⟨n, [], Nat.le_refl _, rfl, hrel0⟩
  case round =>
    obtain ⟨m, acc, hm, rfl, hacc, ho, hout, hb, hsz⟩ := hrel
    by_cases hlt : 0 < m
    · have hlt' : (0 : Int) < m := by omega
      have e1 : (Value.int .u8 ((m : Int) % 256)) = bv (UInt8.ofNat m) := by
        simp only [bv, UInt8.toNat_ofNat']
        congr 1
      have hone : Hid (Reads (wr.alloc (.cells #[.int .u8 ((m : Int) % 256)] 5)) (wr.heap.size + 1) 1 (some ⟨wr.heap.size, 0, none⟩) 1 ([UInt8.ofNat m].map bv)) := by
        rw [e1]; exact Reads.one wr 5 _
      have hal : acc.length ≤ 8 := by
        have := congrArg List.length hacc
        rw [List.length_append] at this
        have := Der.leB_le 8 n (by omega)
        omega
      have hst : (acc ++ [UInt8.ofNat m]) ++ Der.leB (m / 256) = Der.leB n := by
        rw [List.append_assoc, ← hacc, Der.leB_pos hlt]; rfl
      have HS := Lib.hid (And.intro hst (And.intro ho hout))
      clear e1 hst hacc ho hout
      go_wp2_with
        (at_builtin
         refine wpList_app rfl (.tmp 29) (.tmp 33) rfl (w.heap.size + 1) wr.heap.size _ acc rfl (HS.out.2.1.alloc (Nat.le_refl _) _) (by simp; omega) _ _ 1 1 [UInt8.ofNat m] rfl hone.out (by omega) ?_
         intro v2 w2 ho2 hg2 hat2 hb2)
      go_roundw
      case rel => exact ⟨m / 256, acc ++ [UInt8.ofNat m], by omega, by go_num, HS.out.1, ho2, (HS.out.2.2.alloc (by omega) _).below hb2 (Nat.le_refl _), (hb.alloc (by omega) _).trans (hb2.mono (by omega)), by have := hb2.size; simp at this; omega⟩
      case measure => simp [intOf]; omega
    · obtain rfl : m = 0 := by omega
      rw [Der.leB_zero, List.append_nil] at hacc
      subst hacc
      obtain ⟨A5, n5, c5, rfl, hr5⟩ := ho.rd
      have hl5 := hr5.len
      have hle5 := Der.leB_le 8 n (by omega)
      have hpos := Der.leB_pos (n := n) (by omega)
      have hn5 : n5 ≤ 8 := by omega
      have hn5p : 0 < n5 := by rw [← hl5, hpos]; simp
      obtain ⟨g, cap, e, _, _⟩ := ho.1.form (by omega)
      injection e with ea en ec
      subst ea ec
      have hone : Reads (wr.alloc (.cells #[.int .u8 (128 + (n5 : Int))] 5)) (wr.heap.size + 1) 1 (some ⟨wr.heap.size, 0, none⟩) 1 ([UInt8.ofNat (128 + n5)].map bv) := by
        have e1 : (Value.int .u8 (128 + (n5 : Int))) = bv (UInt8.ofNat (128 + n5)) := by rw [bv_ofNat (by omega)]; rfl
        rw [e1]; exact Reads.one wr 5 _
      have HH := Lib.hid (And.intro ho (And.intro hl5 (And.intro hout hone)))
      clear hl5 hle5 ho hr5 hlt hpos hout hone en
      go_wp2_with
        (at_builtin
         refine wpList_app rfl (.tmp 35) (.tmp 40) rfl w.heap.size (w.heap.size + 1) _ [t] rfl (HH.out.2.2.1.alloc (by omega) _) (by simp; omega) _ _ 1 1 [UInt8.ofNat (128 + n5)] rfl HH.out.2.2.2 (by simp) ?_
         intro v2 w2 ho2 hg2 hat2 hb2)
      have hs2 := hg2.size
      simp at hs2
      have hrel1 : RefOutRel t g n5 c5 wr.heap.size (Der.leB n) w 0 v2 w2 := by
        refine ⟨by simpa using ho2, (HH.out.1.alloc (Nat.le_refl _) _).kept hg2 (by simp) (fun k hk => ?_), fun k hk => ?_, (hb.alloc (by omega) _).trans hb2, by omega⟩
        · have hk' : w.heap.size = k := Option.some.inj hk
          omega
        · rcases hat2 with e | e <;> rw [e] at hk
          · have hk' : w.heap.size = k := Option.some.inj hk
            omega
          · have hk' := Option.some.inj hk
            simp at hk'
            omega
      clear ho2 hg2 hat2 hb2 hs2
      obtain ⟨H, hH⟩ : ∃ H, wr.heap.size = H := ⟨_, rfl⟩
      rw [hH] at hrel1
      clear hH
      go_loopw [6, 9] (fun v i wq => ∃ r, r ≤ n5 ∧ i = .int .i64 ((r : Int) - 1) ∧ RefOutRel t g n5 c5 H (Der.leB n) w (n5 - r) v wq) (fun _ i _ => (intOf i + 1).toNat)
      case atStart => exact ⟨n5, Nat.le_refl _, rfl, by rw [Nat.sub_self]; exact hrel1⟩
      case round =>
        obtain ⟨r, hr, rfl, ho, hol, hne, hbq, hHq⟩ := hrel
        by_cases hlt : 0 < r
        · have hlt' : (0 : Int) ≤ (r : Int) - 1 := by omega
          obtain ⟨x, hx, hcx⟩ := hol.cellAt HH.out.2.1 (j := r - 1) (by omega)
          have hrn : (r : Int) - 1 < n5 := by omega
          have hsq := hbq.size
          have hone : Hid (Reads (wr.alloc (.cells #[.int .u8 (x.toNat : Int)] 5)) (wr.heap.size + 1) 1 (some ⟨wr.heap.size, 0, none⟩) 1 ([x].map bv)) := Reads.one wr 5 _
          have hst : t :: UInt8.ofNat (128 + n5) :: (Der.leB n).reverse.take (n5 - (r - 1)) = (t :: UInt8.ofNat (128 + n5) :: (Der.leB n).reverse.take (n5 - r)) ++ [x] := by
            rw [show n5 - (r - 1) = n5 - r + 1 from by omega, take_snoc (x := x)]
            · rfl
            · rw [List.getElem?_reverse (by rw [HH.out.2.1]; omega), HH.out.2.1, show n5 - 1 - (n5 - r) = r - 1 from by omega, hx]
          have hll : (t :: UInt8.ofNat (128 + n5) :: (Der.leB n).reverse.take (n5 - r)).length ≤ 100 := by simp; omega
          have HS := Lib.hid (And.intro hst (And.intro ho hol))
          clear hst ho hol hx
          go_wp2_with
            (at_builtin
             refine wpList_app rfl (.tmp 49) (.tmp 54) rfl w.heap.size wr.heap.size _ (t :: UInt8.ofNat (128 + n5) :: (Der.leB n).reverse.take (n5 - r)) rfl (HS.out.2.1.alloc (Nat.le_refl _) _) (by simp; omega) _ _ 1 1 [x] rfl hone.out (by omega) ?_
             intro v3 w3 ho3 hg3 hat3 hb3)
          go_roundw
          case rel =>
            have hs3 := hg3.size
            simp at hs3
            refine ⟨r - 1, by omega, by rw [show ((r - 1 : Nat) : Int) = (r : Int) - 1 from by omega], by rw [HS.out.1]; exact ho3, (HS.out.2.2.alloc (by omega) _).kept hg3 (by simp; omega) hne, fun k hk => ?_, (hbq.alloc (by omega) _).trans hb3, by omega⟩
            rcases hat3 with e | e <;> rw [e] at hk
            · exact hne k hk
            · have hk' := Option.some.inj hk
              simp at hk'
              omega
          case measure => simp [intOf]; omega
        · obtain rfl : r = 0 := by omega
          have hu := h.up hbq
          have HS := Lib.hid (And.intro ho hu.rds)
          have hll : (t :: UInt8.ofNat (128 + n5) :: (Der.leB n).reverse.take (n5 - 0)).length ≤ 100 := by simp; omega
          have hsq := hbq.size
          clear ho hu
          go_wp2_with
            (at_builtin
             refine wpList_app rfl (.tmp 56) (.tmp 57) rfl w.heap.size wr.heap.size _ (t :: UInt8.ofNat (128 + n5) :: (Der.leB n).reverse.take (n5 - 0)) rfl HS.out.1 hsq _ A n c xs rfl HS.out.2 (by omega) ?_
             intro v3 w3 ho3 hg3 hat3 hb3)
          go_ret
          refine retOwn ?_ (hbq.trans hb3)
          have e : Der.write t xs = (t :: UInt8.ofNat (128 + n5) :: (Der.leB n).reverse.take (n5 - 0)) ++ xs := by
            unfold Der.write Der.lenB
            rw [HL.out, if_neg (by omega), HH.out.2.1, List.take_of_length_le (by rw [List.length_reverse, HH.out.2.1]; omega)]
          rw [e]
          exact ho3

theorem refWrite_any (t : UInt8) (A : Option Addr) (n c : Nat) (xs : List UInt8) (w : World) (h : Rd w w.heap.size A n c xs) (hn : n ≤ 1099511627000) :
    Calls Try.prog 28 #[.int .u8 (t.toNat : Int), .slice A n c] w (RetOwn (Der.write t xs) w) := by
  by_cases hs : n < 128
  · exact refWrite_short t A n c xs w h hs
  · exact refWrite_long t A n c xs w h (by omega) hn
end Go.Proofs.Ytadkiildjehdmaa
