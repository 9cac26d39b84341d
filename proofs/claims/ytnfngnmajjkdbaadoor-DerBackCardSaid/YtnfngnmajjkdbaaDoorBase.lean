/- The contracts of copies and comparisons of byte slices: CopyBytes, EqBytes, slices.Clone, Roomy, Kept. -/
import Derived.Test.YtnfngnmajjkdbaaDoorProg
import Derived.Test.YtnfngnmajjkdbaaDoorMem
import Derived.Test.YtnfngnmajjkdbaaDoorNum
import Derived.BigQuiet
import Derived.Deep.QuietTactic
import Derived.Laws.BytesArg
import Derived.KernelRfl
import Derived.WalkLawsBesides
import Derived.WalkSpells
namespace Go.Proofs.YtnfngnmajjkdbaaDoor
open Go.RowKit
set_option maxRecDepth 100000

theorem u8_info : (Tryd.prog.info? 5).map (fun i => (i.zero, i.size, i.bytes)) = some (some (.int .u8 0), 1, 1) := by kernel_rfl

/-- append of bytes onto a row of the call's own. -/
theorem wpList_app {w : World} {ops : Array Oper} {rest : List Oper} {o : Oper} {a : Act} {Q : Exit → Act → World → Prop} (hgd : o.guard = none) (s x : Operand)
    (ho : o.op = .call { callee := .builtin .append, args := #[s, x], argTypes := #[22, 22] })
    (lo hi : Nat) (v : Value) (xs : List UInt8) (hs : a.eval s = v) (hown : OwnB w lo hi v xs) (hlo : lo ≤ w.heap.size)
    (B : Nat) (A : Option Addr) (m c : Nat) (news : List UInt8) (hx : a.eval x = .slice A m c) (hr : Reads w B 1 A m (news.map bv)) (hlen : xs.length + m ≤ 35184372088832)
    (h : ∀ v' w', OwnB w' lo w'.heap.size v' (xs ++ news) → w.grownBy w' v.ownBlock → (v'.ownBlock = v.ownBlock ∨ v'.ownBlock = some w.heap.size) → Below lo w w' → wpList Tryd.prog ops Q rest (a.put o.dst v') w') :
    wpList Tryd.prog ops Q (o :: rest) a w := by
  obtain ⟨i0, hi0, hz0, hz1, hz2⟩ := info_parts u8_info
  have hm : news.length = m := by have := hr.1; simp at this; omega
  refine wpList_append_any w hgd s x 22 ho lo 5 i0 _ 1 1 Tryd.underlying22 hi0 hz0 hz1 hz2 rfl (by omega) v xs.length (xs.map bv) hs hown.1 B A m c (news.map bv) hx hr (bv_one news) (by simp only [maxLen]; omega) (by omega) hlo ?_
  intro v' w' h1 h2 h3
  exact h v' w' (OwnB.of (by rw [List.map_append]; exact h1)) h2 h3 ((Below.refl _ _).grown h2 hlo fun k hk => (hown.1.lt k hk).1)

/-- A new row with the bytes xs; what was there is as it was. -/
def RetOwn (xs : List UInt8) (w : World) (e : Ending) (w' : World) : Prop :=
  ∃ A n c, e = .returned (.slice A n c) ∧ OwnB w' w.heap.size w'.heap.size (.slice A n c) xs ∧ Below w.heap.size w w'
theorem retOwn {xs : List UInt8} {w w' : World} {v : Value} (h : OwnB w' w.heap.size w'.heap.size v xs) (hb : Below w.heap.size w w') : RetOwn xs w (.returned v) w' := by
  obtain ⟨A, n, c, rfl, _⟩ := h.rd
  exact ⟨A, n, c, rfl, h, hb⟩

theorem clone_nil (n c : Nat) (w : World) (hn : n = 0) :
    Calls Tryd.prog 22 #[.slice none n c] w (RetOwn [] w) := by
  subst hn
  have hnil := fun W => Lib.run_eql_slice_nil (P := Tryd.prog) W 22 5 none 0 c 0 0 Tryd.underlying22
  go_enter Tryd.func22, Tryd.ntmps22
  go_wp2
  go_ret
  exact retOwn OwnB.nil_ (Below.refl _ _)

theorem clone_any (A : Option Addr) (n c : Nat) (xs : List UInt8) (w : World) (h : Rd w w.heap.size A n c xs) (hn : n ≤ 1099511627776) :
    Calls Tryd.prog 22 #[.slice A n c] w (RetOwn xs w) := by
  obtain ⟨i0, hi0, hz0, hz1, hz2⟩ := info_parts u8_info
  have hl := h.len
  rcases A with _ | ad
  · have hc := h.cap
    have := h.nil rfl
    obtain rfl : xs = [] := List.eq_nil_of_length_eq_zero (by omega)
    exact clone_nil n c w (by omega)
  have hnil := fun W => Lib.run_eql_slice_nil (P := Tryd.prog) W 22 5 (some ad) n c 0 0 Tryd.underlying22
  have hr := (h.alloc (Nat.le_refl _) (.cells #[] 5)).rds
  have hz := World.ownsRow_made (e := 5) (size := 1) w #[] 0 (base := w.heap.size) (Nat.le_refl _) (by simp) (by simp)
  go_enter Tryd.func22, Tryd.ntmps22
  go_wp2_with
    (at_builtin
     refine wpList_append_any _ rfl (.tmp 5) (.tmp 6) _ rfl w.heap.size 5 i0 _ 1 1 Tryd.underlying22 hi0 hz0 hz1 hz2 rfl (by omega) (.slice (some ⟨w.heap.size, 0, none⟩) 0 0) 0 [] rfl
         hz w.heap.size (some ad) n c (xs.map bv) rfl hr (bv_one xs) (by simp only [maxLen]; omega) (by omega) (by simp) ?_
     intro v1 w1 hown1 hg1 hat1
     have hbw1 : Below w.heap.size w w1 := ((Below.refl _ _).alloc (Nat.le_refl _) _).grown hg1 (by simp) (by simp [Value.ownBlock]))
  go_ret
  exact retOwn (OwnB.of (by simpa using hown1)) hbw1

/-! ### v[lo:hi], v[lo:], v[:hi]: the address under one name -/
theorem run_cut {w : World} {B n c : Nat} {A : Option Addr} {xs : List UInt8} (h : Rd w B A n c xs) (lo hi : Nat) (l r : Int) (hl : l = lo) (hr : r = hi) (h1 : lo ≤ hi) (h2 : hi ≤ n) :
    ∃ A1, Rd w B A1 (hi - lo) (c - lo) ((xs.take hi).drop lo) ∧ (∀ W, (Instr.sliceAt 22 (.slice A n c) (some (.int .i64 l)) (some (.int .i64 r)) none).run Tryd.prog W = .ok (.slice A1 (hi - lo) (c - lo)) W) ∧
      ∀ W, (Instr.slice 22 (.slice A n c) (some (.int .i64 l)) (some (.int .i64 r)) none).run Tryd.prog W = .ok (.slice A1 (hi - lo) (c - lo)) W := by
  have hc := h.cap
  refine ⟨_, h.cut h1 h2, fun W => ?_, fun W => ?_⟩ <;> subst hl hr <;> simp [go_sem, Tryd.underlying22, show (lo : Int) ≤ hi by omega, show (hi : Int) ≤ c by omega]
theorem run_cut_lo {w : World} {B n c : Nat} {A : Option Addr} {xs : List UInt8} (h : Rd w B A n c xs) (lo : Nat) (l : Int) (hl : l = lo) (h1 : lo ≤ n) :
    ∃ A1, Rd w B A1 (n - lo) (c - lo) (xs.drop lo) ∧ (∀ W, (Instr.sliceAt 22 (.slice A n c) (some (.int .i64 l)) none none).run Tryd.prog W = .ok (.slice A1 (n - lo) (c - lo)) W) ∧
      ∀ W, (Instr.slice 22 (.slice A n c) (some (.int .i64 l)) none none).run Tryd.prog W = .ok (.slice A1 (n - lo) (c - lo)) W := by
  have hc := h.cap
  have hx := h.cut h1 (Nat.le_refl n)
  rw [List.take_of_length_le (by have := h.len; omega)] at hx
  refine ⟨_, hx, fun W => ?_, fun W => ?_⟩ <;> subst hl <;> simp [go_sem, Tryd.underlying22, show (lo : Int) ≤ n by omega]
theorem Rd.upto {w : World} {B n c : Nat} {A : Option Addr} {xs : List UInt8} (h : Rd w B A n c xs) (hi : Nat) (h2 : hi ≤ n) :
    Rd w B A hi c (xs.take hi) := by
  have hc := h.cap
  have hx := h.cut (Nat.zero_le hi) h2
  rw [List.drop_zero] at hx
  by_cases e : c = 0
  · subst e; simpa using hx
  · rw [if_neg e] at hx
    have : A.map (·.add 0) = A := by cases A <;> simp [Addr.add]
    rw [this] at hx
    simpa using hx

/-! ### string(b) -/
theorem map_bv (xs : List UInt8) : xs.map bv = (xs.map fun x => (x.toNat : Int)).map (Value.int .u8) := by simp [bv]
theorem strOf (xs : List UInt8) : strOfNums (xs.map fun x => (x.toNat : Int)) = ⟨xs.toArray⟩ := by
  simp [strOfNums, Function.comp_def]
theorem run_string {w : World} {B n c : Nat} {A : Option Addr} {xs : List UInt8} (h : Rd w B A n c xs) :
    ∀ dst, Tryd.prog.underlying dst = some .string → (convert 22 dst (.slice A n c)).run Tryd.prog w = .ok (.string ⟨xs.toArray⟩) w := by
  intro dst hd
  have hl := h.len
  rcases Nat.eq_zero_or_pos n with h0 | h0
  · subst h0
    obtain rfl : xs = [] := List.eq_nil_of_length_eq_zero hl
    rcases A with _ | ⟨b, o, s⟩
    · exact run_convert_bytes_nil w 22 5 Tryd.underlying22 Tryd.underlying5 0 c dst hd
    · rw [run_convert_bytes_string w 22 dst 5 _ 0 c Tryd.underlying22 Tryd.underlying5 hd, run_bytesToString w _ 0 c [] (by simp [loadCells, loadCellsFrom])]
      rfl
  · obtain ⟨b, o, rfl, _, hc⟩ := h.at_ h0
    rw [run_convert_bytes_arg w 22 5 Tryd.underlying22 Tryd.underlying5 b o n c (xs.map fun x => (x.toNat : Int)) (by simpa using hl) (fun i hi => by
      have hx : xs[i]? = some (xs[i]'(by omega)) := List.getElem?_eq_getElem (by omega)
      rw [hc i _ hx]; simp [hx]) dst hd, strOf]

/-- The same bytes? -/
def eqB (xs ys : List UInt8) : Bool := xs == ys

theorem eqbytes_any (A A' : Option Addr) (n c n' c' : Nat) (xs ys : List UInt8) (B B' : Nat) (w : World) (h : Rd w B A n c xs) (h' : Rd w B' A' n' c' ys) :
    Calls Tryd.prog 9 #[.slice A n c, .slice A' n' c'] w fun e w' => e = .returned (.bool (eqB xs ys)) ∧ w' = w := by
  have k1 := run_string h 9 Tryd.underlying9
  have k2 := run_string h' 9 Tryd.underlying9
  clear h h'
  go_enter Tryd.func9, Tryd.ntmps9
  go_wp2
  go_ret
  exact ⟨rfl, rfl⟩

/-! ### Roomy, Kept -/
theorem eqB_self (xs : List UInt8) : eqB xs xs = true := by simp [eqB]
end Go.Proofs.YtnfngnmajjkdbaaDoor
