/- The contracts of the reference's All, Eq, within, Check. -/
import Derived.Test.YtmnekhliblkibaaGB
import Derived.Test.YtmnekhliblkibaaGD
import Derived.Test.YtmnekhliblkibaaGR
import Derived.Test.YtmnekhliblkibaaGK
import Derived.Test.YtmnekhliblkibaaGC
namespace Go.Proofs.Ytmnekhliblkibaa
open Go.RowKit
set_option maxRecDepth 100000
set_option linter.unusedVariables false
set_option linter.unusedSimpArgs false

/-- What the rounds of the reference's All keep. -/
def RAllI (w : World) (xs : List UInt8) (b v : Value) (wr : World) : Prop :=
  ∃ (ys : List UInt8) (l : List EI), Der.seq xs = l.map (fun x => some x.dat) ++ Der.seq ys ∧ RdV wr wr.heap.size b ys ∧ ys.length ≤ xs.length ∧ l.length + ys.length ≤ xs.length ∧ OwnE wr w.heap.size wr.heap.size v l ∧ Below w.heap.size w wr

theorem elem_pos {xs : List UInt8} {t : UInt8} {b r s : List UInt8} (h : Der.elem xs = some (t, b, r, s)) : s.length < xs.length := elem_rest h

set_option maxHeartbeats 2000000 in
theorem refAll_any (A1 : Option Addr) (n1 c1 : Nat) (xs : List UInt8) (w : World) (h1 : Rd w w.heap.size A1 n1 c1 xs) (hn : n1 ≤ 1099511627) :
    Calls Try.prog 57 #[.slice A1 n1 c1] w (AllPost xs w) := by
  have hlx := h1.len
  have hrel0 : RAllI w xs (.slice A1 n1 c1) (.slice none 0 0) w := ⟨xs, [], rfl, RdV.mk h1, Nat.le_refl _, by simp, OwnE.nil_, Below.refl _ _⟩
  have HR0 := Lib.hid (And.intro hrel0 hlx)
  clear hrel0 h1 hlx
  go_enter Try.func57, Try.ntmps57
  go_wp2
  go_loopw [0, 4] (fun b v wr => RAllI w xs b v wr) (fun b _ _ => match b with | .slice _ m _ => m | _ => 0)
  case atStart => exact HR0.out.1
  case round =>
    obtain ⟨ys, l, hs, ⟨A2, n2, c2, rfl, hr⟩, hyl, hll, hE, hb⟩ := hrel
    have hsz := hb.size
    have hn2 := hr.len
    by_cases hpos : 0 < n2
    · have hpos' : (0 : Int) < n2 := by omega
      have hne : ys ≠ [] := by rintro rfl; simp at hn2; omega
      have hb12 : n2 ≤ 1099511627 := by have := HR0.out.2; omega
      have hl12 : l.length + 1 ≤ 1099511627 := by have := HR0.out.2; omega
      have HX := Lib.hid (And.intro hs (And.intro hr (And.intro hyl (And.intro hll (And.intro hE (And.intro hb hn2))))))
      obtain ⟨Av, cv, rfl, _, _, _, _⟩ := hE.1.shape
      clear hs hr hyl hll hE hb hn2
      go_wp2_with fail
      refine (refParse_any A2 n2 c2 ys _ HX.out.2.1 (by omega)).mono ?_
      rintro e w2 ⟨hb2, ⟨hno, rfl⟩ | ⟨t, body, raw, rest, A3, n3, c3, A4, n4, c4, A5, n5, c5, hel, rfl, ho⟩⟩
      · have hany : (Der.seq xs).any (·.isNone) = true := by rw [HX.out.1, seq_none hne hno]; simp
        have HN := Lib.hid (And.intro hany (HX.out.2.2.2.2.2.1.trans (hb2.mono hsz)))
        have hs2 := hb2.size
        clear hno hany hb2
        go_wp2
        go_ret2
        exact ⟨HN.out.2.alloc (by omega) _, .inl ⟨HN.out.1, rfl⟩⟩
      · have hbx := Blk.new w2 50 #[.int .u8 (t.toNat : Int), .slice A3 n3 c3, .slice A4 n4 c4]
        have hs2 := hb2.size
        have hrr := elem_pos hel
        obtain ⟨m1, q1, q2, m2, q3, q4, m3, q5, q6, q7⟩ := ho
        have q7' : m3 ≤ w2.heap.size := q7
        have hrows : Owns w2 wr.heap.size w2.heap.size [(.slice A3 n3 c3, body), (.slice A4 n4 c4, raw)] := ⟨m1, q1, q2, m2, q3, q4, show m2 ≤ w2.heap.size by omega⟩
        have hrest := q6
        have hn5 := (Rd.of_own q6).len
        have hm2 : wr.heap.size ≤ m2 := by have := q1; have := q3; omega
        have HY := Lib.hid (And.intro hel (And.intro hb2 (And.intro hbx (And.intro hrows (And.intro (hrest.mono hm2 q7') (And.intro hrr hn5))))))
        clear hel hb2 hbx hrows hrest hrr q1 q2 q3 q4 q5 q6 q7 q7' hn5
        have hmid : OwnC 50 3 ((w2.alloc (.cells #[.int .u8 (t.toNat : Int), .slice A3 n3 c3, .slice A4 n4 c4] 50)).alloc (.cells #[.int .u8 (t.toNat : Int), .slice A3 n3 c3, .slice A4 n4 c4] 50)) w.heap.size wr.heap.size (.slice Av l.length cv) l.length (l.flatMap EI.cells) :=
          ((HX.out.2.2.2.2.1.1.below HY.out.2.1 (Nat.le_refl _)).alloc hs2 _).alloc (by simp; omega) _
        have HM := Lib.hid hmid
        clear hmid
        go_wp2_with
          (at_builtin
           refine wpList_appC rfl (.tmp 20) (.tmp 22) 82 rfl 50 _ 3 56 elem_info Try.underlying82 rfl (by omega) w.heap.size wr.heap.size _ l.length (l.flatMap EI.cells) rfl HM.out (by simp; omega) _ _ 1 1 [.int .u8 (t.toNat : Int), .slice A3 n3 c3, .slice A4 n4 c4] rfl (by have := reads_three (w2.alloc (.cells #[.int .u8 (t.toNat : Int), .slice A3 n3 c3, .slice A4 n4 c4] 50)) 50 (.int .u8 (t.toNat : Int)) (.slice A3 n3 c3) (.slice A4 n4 c4); simpa using this) (by simp [Value.oneCell']) (by omega) (by omega) ?_
           intro v6 w6 ho6 hg6 hat6 hb6)
        go_roundw
        case rel =>
          have h4 := HY.out.2.2.2.1
          have hs6 := hg6.size
          simp at hs6
          refine ⟨rest, l ++ [⟨t, .slice A3 n3 c3, body, .slice A4 n4 c4, raw⟩], ?_, RdV.mk ?_, by have := HX.out.2.2.1; have := HY.out.2.2.2.2.2.1; omega, ?_, ?_, ?_⟩
          · rw [HX.out.1, seq_some hne HY.out.1]
            simp [EI.dat]
          · refine Rd.more (B := w2.heap.size) (Rd.of_own (OwnB.grown ((HY.out.2.2.2.2.1.alloc (Nat.le_refl _) _).alloc (by simp) _) hg6 ?_)) (by omega)
            intro g hg e
            have a := HY.out.2.2.2.2.1.lt_ hg
            have b := HM.out.lt_ e
            omega
          · have := HX.out.2.2.2.1; have := HY.out.2.2.2.2.2.1; rw [List.length_append, List.length_singleton]; omega
          · have e1 : OwnE ((w2.alloc (.cells #[.int .u8 (t.toNat : Int), .slice A3 n3 c3, .slice A4 n4 c4] 50)).alloc (.cells #[.int .u8 (t.toNat : Int), .slice A3 n3 c3, .slice A4 n4 c4] 50)) w.heap.size wr.heap.size (.slice Av l.length cv) l :=
              HX.out.2.2.2.2.1.keepRows (KeepRows.trans (KeepRows.below HY.out.2.1 (Nat.le_refl _)) (KeepRows.trans (KeepRows.alloc _ _) (KeepRows.alloc _ _)))
            exact OwnE.snoc (x := ⟨t, .slice A3 n3 c3, body, .slice A4 n4 c4, raw⟩) e1 (((h4.alloc (Nat.le_refl _) _).alloc (by simp) _).mono (Nat.le_refl _) (by simp; omega)) ho6 hg6 hsz
          · exact HX.out.2.2.2.2.2.1.trans ((HY.out.2.1.mono hsz).trans (Below.trans (Below.alloc (Below.alloc (Below.refl _ _) (by omega) _) (by simp; omega) _) hb6))
        case measure => simp; have := HY.out.2.2.2.2.2; have := HX.out.2.2.2.2.2.2; omega
    · obtain rfl : n2 = 0 := by omega
      have hy0 : ys = [] := List.eq_nil_of_length_eq_zero hn2
      rw [hy0, seq_nil, List.append_nil] at hs
      obtain ⟨Av, cv, rfl, _, _, _, _⟩ := hE.1.shape
      have HX := Lib.hid (And.intro hs (And.intro hE hb))
      clear hs hE hb hr hn2 hyl hll hy0
      go_wp2
      go_ret2
      exact ⟨HX.out.2.2, .inr ⟨l, Av, _, cv, HX.out.1, rfl, HX.out.2.1⟩⟩

/-- Cells of the elements of a list. -/
theorem OwnE.at_ {w wr : World} {lo hi B n c : Nat} {A : Option Addr} {l : List EI} (h : OwnE w lo hi (.slice A n c) l) (hb : Below B w wr) (hB : hi ≤ B) {k : Nat} (hk : k < n) :
    ∃ g t A1 n1 c1 body A2 n2 c2 raw, A = some ⟨g, 0, none⟩ ∧ g < hi ∧ l[k]? = some ⟨t, .slice A1 n1 c1, body, .slice A2 n2 c2, raw⟩ ∧
      wr.cell? ⟨g, k * 3, none⟩ = some (.int .u8 (t.toNat : Int)) ∧ wr.cell? ⟨g, k * 3 + 1, none⟩ = some (.slice A1 n1 c1) ∧ wr.cell? ⟨g, k * 3 + 2, none⟩ = some (.slice A2 n2 c2) ∧
      Rd wr hi A1 n1 c1 body ∧ Rd wr hi A2 n2 c2 raw := by
  obtain ⟨g, t, A1, n1, c1, body, A2, n2, c2, raw, rfl, hg, hx, q0, q1, q2, r1, r2⟩ := h.get hk
  rw [Nat.mul_comm 3 k] at q0 q1 q2
  have hk' : ∀ p : Addr, p.block < hi → wr.cell? p = w.cell? p := fun p hp => hb.cell (by omega)
  exact ⟨g, t, A1, n1, c1, body, A2, n2, c2, raw, rfl, hg, hx, (hk' ⟨g, k * 3, none⟩ hg).trans q0, (hk' ⟨g, k * 3 + 1, none⟩ hg).trans q1, (hk' ⟨g, k * 3 + 2, none⟩ hg).trans q2, r1.keep hk', r2.keep hk'⟩

end Go.Proofs.Ytmnekhliblkibaa
