/- The contracts of der.element, der.own, der.Parse. -/
import Derived.Test.YtnfngnmajjkdbaaDoorProg
import Derived.Test.YtnfngnmajjkdbaaDoorMem
import Derived.Test.YtnfngnmajjkdbaaDoorDerSpec
import Derived.Test.YtnfngnmajjkdbaaDoorNum
import Derived.Test.YtnfngnmajjkdbaaDoorBase
import Derived.Test.YtnfngnmajjkdbaaDoorDer1
import Derived.BigQuiet
import Derived.BigRegion
import Derived.StillTailTactics
import Derived.Deep.QuietTactic
import Derived.Deep.RegionHeld3
namespace Go.Proofs.YtnfngnmajjkdbaaDoor
open Go.RowKit
set_option maxRecDepth 100000

theorem bcell {W w1 : World} (hb : Below W.heap.size W w1) : (∀ b o, b < W.heap.size → w1.cell? ⟨b, o, none⟩ = W.cell? ⟨b, o, none⟩) ∧ (∀ b o, b < W.heap.size → w1.frozen? ⟨b, o, none⟩ = W.frozen? ⟨b, o, none⟩) :=
  ⟨fun b o h => hb.cell (p := ⟨b, o, none⟩) h, fun b o h => hb.frozen (p := ⟨b, o, none⟩) h⟩

/-- What element tells of the bytes xs: slices of the same memory, below B as they are. -/
def ElemPost (B : Nat) (xs : List UInt8) (w : World) (e : Ending) (w' : World) : Prop :=
  Below w.heap.size w w' ∧
  ((Der.elem xs = none ∧ e = .returned (.tuple #[.agg #[.int .u8 0, .slice none 0 0, .slice none 0 0], .slice none 0 0, .bool false])) ∨
   ∃ t body raw rest A1 n1 c1 A2 n2 c2 A3 n3 c3, Der.elem xs = some (t, body, raw, rest) ∧
     e = .returned (.tuple #[.agg #[.int .u8 (t.toNat : Int), .slice A1 n1 c1, .slice A2 n2 c2], .slice A3 n3 c3, .bool true]) ∧
     Rd w B A1 n1 c1 body ∧ Rd w B A2 n2 c2 raw ∧ Rd w B A3 n3 c3 rest)

theorem elem_none {xs : List UInt8} (h : Der.hdr xs = none) : Der.elem xs = none := by simp [Der.elem, h]

theorem elem_yes {xs : List UInt8} {B : Nat} {w w' : World} {t : UInt8} {body raw rest : List UInt8} {A1 A2 A3 : Option Addr} {n1 n2 n3 c1 c2 c3 : Nat} (h : Der.elem xs = some (t, body, raw, rest)) (hb : Below w.heap.size w w')
    (h1 : Rd w B A1 n1 c1 body) (h2 : Rd w B A2 n2 c2 raw) (h3 : Rd w B A3 n3 c3 rest) :
    ElemPost B xs w (.returned (.tuple #[.agg #[.int .u8 (t.toNat : Int), .slice A1 n1 c1, .slice A2 n2 c2], .slice A3 n3 c3, .bool true])) w' :=
  ⟨hb, .inr ⟨t, body, raw, rest, _, _, _, _, _, _, _, _, _, h, rfl, h1, h2, h3⟩⟩
theorem hdr_len {xs : List UInt8} {f n : Nat} (h : Der.hdr xs = some (f, n)) : Der.lenOf xs = some (f, n) := by
  unfold Der.hdr at h
  split at h
  · cases h
  · exact h

set_option maxHeartbeats 400000 in
theorem element_any (A : Option Addr) (n c : Nat) (xs : List UInt8) (B : Nat) (w : World) (h : Rd w B A n c xs) (hB : B ≤ w.heap.size) :
    Calls Tryd.prog 20 #[.slice A n c] w (ElemPost B xs w) := by
  have hcap := h.cap
  have hcm := h.capm
  have hl := h.len
  go_enter Tryd.func20, Tryd.ntmps20
  go_wp2_with fail
  refine (head_any A n c xs B _ (h.alloc hB _)).mono ?_
  rintro e w' ⟨f, k, ok, rfl, ⟨nd, rfl⟩, hyes, hno⟩
  cases ok with
  | false =>
    have HNO := Lib.hid (elem_none (hno rfl))
    clear hyes hno
    go_wp2
    exact bodyPost_ret (v := .tuple #[.agg #[.int .u8 0, .slice none 0 0, .slice none 0 0], .slice none 0 0, .bool false]) (by simp [results, Tryd.results20, go_sem]) rfl ⟨by (repeat (first | exact Below.refl _ _ | assumption | (refine Below.setCell ?_ (by first | omega | (simp; done) | (simp; omega)) _) | (refine Below.alloc ?_ (by first | omega | (simp; done) | (simp; omega)) _) | (refine below_drewN ?_ _) | (refine Below.drew ?_))), .inl ⟨HNO.out, rfl⟩⟩
  | true =>
    obtain ⟨f', n', rfl, rfl, hd⟩ := hyes rfl
    clear hno hyes
    obtain ⟨hf2, hf6, hfl, hn32⟩ := Der.lenOf_bd (hdr_len hd)
    rw [hl] at hfl
    have hel : Der.elem xs = if n' ≤ n - f' then some (xs.headD 0, (xs.take (f' + n')).drop f', xs.take (f' + n'), xs.drop (f' + n')) else none := by
      simp [Der.elem, hd, hl]
    have HEL := Lib.hid hel
    clear hel hd
    by_cases hfit : n' ≤ n - f'
    · have hgt : ¬ ((n : Int) - f' < n') := by omega
      obtain ⟨b, o, rfl, hbB, hcell⟩ := h.at_ (by omega)
      have hbw : b < w.heap.size := by omega
      have h0 : w.cell? ⟨b, o, none⟩ = some (.int .u8 ((xs.headD 0).toNat : Int)) := by
        have hx : xs[0]? = some (xs.headD 0) := by cases xs with
          | nil => simp at hl; omega
          | cons x r => rfl
        simpa using hcell 0 _ hx
      obtain ⟨A1, hr1, c1, d1⟩ := run_cut h f' (f' + n') (f' : Int) ((f' : Int) + (n' : Int)) rfl (by omega) (by omega) (by omega)
      obtain ⟨A2, hr2, c2, d2⟩ := run_cut_lo h (f' + n') ((f' : Int) + (n' : Int)) (by omega) (by omega)
      have hr3 := h.upto (f' + n') (by omega)
      have el := HEL.out
      rw [if_pos hfit] at el
      have HX := Lib.hid (And.intro el (And.intro hr1 (And.intro hr2 hr3)))
      clear h hcell hl el hr1 hr2 hr3 HEL
      go_wp2
      go_region
      go_wp2
      exact bodyPost_ret (v := .tuple #[.agg #[.int .u8 ((xs.headD 0).toNat : Int), .slice A1 (f' + n' - f') (c - f'), .slice (some ⟨b, o, none⟩) (f' + n') c], .slice A2 (n - (f' + n')) (c - (f' + n')), .bool true]) (by simp [results, Tryd.results20, go_sem]) rfl
        (elem_yes HX.out.1 (by (repeat (first | exact Below.refl _ _ | assumption | (refine Below.setCell ?_ (by first | omega | (simp; done) | (simp; omega)) _) | (refine Below.alloc ?_ (by first | omega | (simp; done) | (simp; omega)) _) | (refine below_drewN ?_ _) | (refine Below.drew ?_)))) HX.out.2.1 HX.out.2.2.2 HX.out.2.2.1)
    · have hgt : ((n : Int) - f' < n') := by omega
      have hno := HEL.out
      rw [if_neg hfit] at hno
      have HNO := Lib.hid hno
      clear hno
      go_wp2
      exact bodyPost_ret (v := .tuple #[.agg #[.int .u8 0, .slice none 0 0, .slice none 0 0], .slice none 0 0, .bool false]) (by simp [results, Tryd.results20, go_sem]) rfl ⟨by (repeat (first | exact Below.refl _ _ | assumption | (refine Below.setCell ?_ (by first | omega | (simp; done) | (simp; omega)) _) | (refine Below.alloc ?_ (by first | omega | (simp; done) | (simp; omega)) _) | (refine below_drewN ?_ _) | (refine Below.drew ?_))), .inl ⟨HNO.out, rfl⟩⟩
end Go.Proofs.YtnfngnmajjkdbaaDoor
