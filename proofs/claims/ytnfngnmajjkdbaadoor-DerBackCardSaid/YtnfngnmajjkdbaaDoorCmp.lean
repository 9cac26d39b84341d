/- The contract of bytes.Compare. -/
import Derived.Test.YtnfngnmajjkdbaaDoorProg
import Derived.Test.YtnfngnmajjkdbaaDoorMem
import Derived.Test.YtnfngnmajjkdbaaDoorMem2
import Derived.Test.YtnfngnmajjkdbaaDoorNum
import Derived.Test.YtnfngnmajjkdbaaDoorBase
import Derived.Test.YtnfngnmajjkdbaaDoorDer6
import Derived.Lib.Bytealg
import Derived.Laws.Externs
import Derived.Outline
namespace Go.Proofs.YtnfngnmajjkdbaaDoor
open Go.RowKit
set_option maxRecDepth 100000
set_option linter.unusedVariables false
set_option linter.unusedSimpArgs false

theorem run_loadBytes {P : Program} (w : World) : ∀ (xs : List UInt8) (acc : List UInt8) (ad : Addr), (∀ (j : Nat) x, xs[j]? = some x → w.cell? (ad.add j) = some (.int .u8 (x.toNat : Int))) →
    (Extern.Bytes.loadBytes ad xs.length ⟨acc.toArray⟩).run P w = .ok ⟨(acc ++ xs).toArray⟩ w
  | [], acc, ad, _ => by simp [Extern.Bytes.loadBytes, Sem.run_pure]
  | x :: xs, acc, ad, h => by
    have h0 : w.cell? ad = some (.int .u8 (x.toNat : Int)) := by simpa [Addr.add] using h 0 x rfl
    have ih := run_loadBytes (P := P) w xs (acc ++ [x]) (ad.add 1) (fun j y hy => by
      rw [add_of_add, Nat.add_comm]
      exact h (j + 1) y hy)
    have hx : ((x.toNat : Int).toNat).toUInt8 = x := by simp
    have hp : (ByteArray.mk acc.toArray).push x = ⟨(acc ++ [x]).toArray⟩ := by
      unfold ByteArray.push
      simp
    have hl : (load ad).run P w = .ok (.int .u8 (x.toNat : Int)) w := by simp [go_sem, h0]
    simp only [List.length_cons, Extern.Bytes.loadBytes, Sem.run_bind, hl, Result.andThen_ok, hx, hp]
    simpa using ih
theorem run_bytesOf {P : Program} {w : World} {B n c : Nat} {A : Option Addr} {xs : List UInt8} (h : Rd w B A n c xs) : (Extern.Bytes.bytesOf (.slice A n c)).run P w = .ok ⟨xs.toArray⟩ w := by
  have hl := h.len
  rcases A with _ | ad
  · have := h.nil rfl
    have := h.cap
    obtain rfl : xs = [] := List.eq_nil_of_length_eq_zero (by omega)
    simp [Extern.Bytes.bytesOf, Sem.run_pure]
    rfl
  · simp only [Extern.Bytes.bytesOf]
    subst hl
    have := run_loadBytes (P := P) w xs [] ad (fun j x hx => by
      obtain ⟨ad', e, _, hc⟩ := h.rds.2 (by have := (List.getElem?_eq_some_iff.1 hx).1; omega)
      injection e with e
      subst e
      exact hc j (bv x) (by simp [hx]))
    rw [List.nil_append] at this
    exact this

theorem compare_any (A A' : Option Addr) (n c n' c' : Nat) (xs ys : List UInt8) (B B' : Nat) (w : World) (h : Rd w B A n c xs) (h' : Rd w B' A' n' c' ys) :
    Calls Tryd.prog 27 #[.slice A n c, .slice A' n' c'] w fun e w' => e = .returned (.int .i64 (Lib.compareBytes xs ys)) ∧ w' = w := by
  have k1 := run_bytesOf (P := Tryd.prog) h
  have k2 := run_bytesOf (P := Tryd.prog) h'
  have hr : (Extern.BytealgCompare.compare #[.slice A n c, .slice A' n' c']).run Tryd.prog w = .ok (.int .i64 (Lib.compareBytes xs ys)) w := by
    change Sem.run Tryd.prog (do pure (goInt (Extern.BytealgCompare.cmp (← Extern.Bytes.bytesOf (.slice A n c)) (← Extern.Bytes.bytesOf (.slice A' n' c'))))) w = _
    simp only [Sem.run_bind, k1, k2, Result.andThen, Sem.run_pure]
    rw [Lib.cmp_eq]
    rfl
  have HR := Lib.hid hr
  clear h h' k1 k2 hr
  go_enter Tryd.func27, Tryd.ntmps27
  go_wp2
  rw [run_callFunc_extern Tryd.func38 (by kernel_rfl) (by kernel_rfl) (by kernel_rfl) (e := Extern.BytealgCompare.compare) (by kernel_rfl), HR.out]
  simp only [Result.andThen]
  rw [Oper.upon_value]
  go_wp2
  go_ret
  exact ⟨rfl, rfl⟩

theorem less_iff : ∀ (a b : List UInt8), Op.bytesLess b a = decide (0 < Lib.compareBytes a b)
  | [], [] => rfl
  | [], _ :: _ => by simp [Op.bytesLess, Lib.compareBytes]
  | _ :: _, [] => by simp [Op.bytesLess, Lib.compareBytes]
  | x :: a, y :: b => by
    have ih := less_iff a b
    simp only [Op.bytesLess, Lib.compareBytes, ih]
    by_cases h1 : x < y
    · have h2 : ¬ y < x := UInt8.not_lt.2 (UInt8.le_of_lt h1)
      have h3 : (y == x) = false := by
        rw [beq_eq_false_iff_ne]
        rintro rfl
        exact UInt8.lt_irrefl _ h1
      simp [h1, h2, h3]
    · by_cases h2 : y < x
      · simp [h1, h2]
      · have h3 : y = x := UInt8.le_antisymm (UInt8.not_lt.1 h1) (UInt8.not_lt.1 h2)
        subst h3
        simp [h1]

end Go.Proofs.YtnfngnmajjkdbaaDoor
