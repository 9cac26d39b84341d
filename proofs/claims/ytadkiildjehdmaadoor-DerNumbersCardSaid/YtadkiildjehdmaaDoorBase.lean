/- The contracts of copies and comparisons of byte slices: CopyBytes, EqBytes, slices.Clone, Roomy, Kept. -/
import Derived.Test.YtadkiildjehdmaaDoorProg
import Derived.Test.YtadkiildjehdmaaDoorMem
import Derived.Test.YtadkiildjehdmaaDoorNum
import Derived.BigQuiet
import Derived.Deep.QuietTactic
import Derived.Laws.BytesArg
import Derived.KernelRfl
import Derived.WalkLawsBesides
import Derived.WalkSpells
namespace Go.Proofs.YtadkiildjehdmaaDoor
open Go.RowKit
set_option maxRecDepth 100000

theorem u8_info : (Tryd.prog.info? 5).map (fun i => (i.zero, i.size, i.bytes)) = some (some (.int .u8 0), 1, 1) := by kernel_rfl

/-- append of bytes onto a row of the call's own. -/
theorem wpList_app {w : World} {ops : Array Oper} {rest : List Oper} {o : Oper} {a : Act} {Q : Exit → Act → World → Prop} (hgd : o.guard = none) (s x : Operand)
    (ho : o.op = .call { callee := .builtin .append, args := #[s, x], argTypes := #[22, 22] })
    (lo hi : Nat) (v : Value) (xs : List UInt8) (hs : a.eval s = v) (hown : OwnB w lo hi v xs) (hlo : lo ≤ w.heap.size)
    (B : Nat) (A : Option Addr) (m c : Nat) (news : List UInt8) (hx : a.eval x = .slice A m c) (hr : Reads w B 1 A m (news.map bv)) (hlen : xs.length + m ≤ 35184372088832)
    (h : ∀ v' w', OwnB w' lo w'.heap.size v' (xs ++ news) → w.grownBy w' v.ownBlock → (v'.ownBlock = v.ownBlock ∨ v'.ownBlock = some w.heap.size) → Below lo w w' → wpList Tryd.prog ops Q rest (a.put o.dst v') w') :
    wpList Tryd.prog ops Q (o :: rest) a w := by
  obtain ⟨i0, hi0, hz0, hz1, hz2⟩ := info_parts u8_info
  have hm : news.length = m := by have := hr.1; simp at this; omega
  refine wpList_append_any w hgd s x 22 ho lo 5 i0 _ 1 1 Tryd.underlying22 hi0 hz0 hz1 hz2 rfl (by omega) v xs.length (xs.map bv) hs hown.1 B A m c (news.map bv) hx hr (bv_one news) (by simp only [maxLen]; omega) (by omega) hlo ?_
  intro v' w' h1 h2 h3
  exact h v' w' (OwnB.of (by rw [List.map_append]; exact h1)) h2 h3 ((Below.refl _ _).grown h2 hlo fun k hk => (hown.1.lt k hk).1)

/-- A new row with the bytes xs; what was there is as it was. -/
def RetOwn (xs : List UInt8) (w : World) (e : Ending) (w' : World) : Prop :=
  ∃ A n c, e = .returned (.slice A n c) ∧ OwnB w' w.heap.size w'.heap.size (.slice A n c) xs ∧ Below w.heap.size w w'
theorem retOwn {xs : List UInt8} {w w' : World} {v : Value} (h : OwnB w' w.heap.size w'.heap.size v xs) (hb : Below w.heap.size w w') : RetOwn xs w (.returned v) w' := by
  obtain ⟨A, n, c, rfl, _⟩ := h.rd
  exact ⟨A, n, c, rfl, h, hb⟩

theorem copy_any (A : Option Addr) (n c : Nat) (xs : List UInt8) (w : World) (h : Rd w w.heap.size A n c xs) (hn : n ≤ 1099511627776) :
    Calls Tryd.prog 30 #[.slice A n c] w (RetOwn xs w) := by
  obtain ⟨i0, hi0, hz0, hz1, hz2⟩ := info_parts u8_info
  have hr := h.rds
  have hl := h.len
  go_enter Tryd.func30, Tryd.ntmps30
  go_wp2_with
    (at_builtin
     refine wpList_append_any _ rfl (.tmp 4) (.tmp 5) _ rfl w.heap.size 5 i0 _ 1 1 Tryd.underlying22 hi0 hz0 hz1 hz2 rfl (by omega) (.slice none 0 0) 0 [] rfl
         ⟨by simp, .inl ⟨rfl, rfl⟩⟩ w.heap.size A n c (xs.map bv) rfl hr (bv_one xs) (by simp only [maxLen]; omega) (by omega) (Nat.le_refl _) ?_
     intro v1 w1 hown1 hg1 hat1
     have hbw1 : Below w.heap.size w w1 := (Below.refl _ _).grown hg1 (Nat.le_refl _) (by simp [Value.ownBlock]))
  go_ret
  exact retOwn (OwnB.of (by simpa using hown1)) hbw1

theorem clone_nil (n c : Nat) (w : World) (hn : n = 0) :
    Calls Tryd.prog 29 #[.slice none n c] w (RetOwn [] w) := by
  subst hn
  have hnil := fun W => Lib.run_eql_slice_nil (P := Tryd.prog) W 22 5 none 0 c 0 0 Tryd.underlying22
  go_enter Tryd.func29, Tryd.ntmps29
  go_wp2
  go_ret
  exact retOwn OwnB.nil_ (Below.refl _ _)

theorem clone_any (A : Option Addr) (n c : Nat) (xs : List UInt8) (w : World) (h : Rd w w.heap.size A n c xs) (hn : n ≤ 1099511627776) :
    Calls Tryd.prog 29 #[.slice A n c] w (RetOwn xs w) := by
  obtain ⟨i0, hi0, hz0, hz1, hz2⟩ := info_parts u8_info
  have hl := h.len
  rcases A with _ | ad
  · have hc := h.cap
    have := h.nil rfl
    obtain rfl : xs = [] := List.eq_nil_of_length_eq_zero (by omega)
    exact clone_nil n c w (by omega)
  have hnil := fun W => Lib.run_eql_slice_nil (P := Tryd.prog) W 22 5 (some ad) n c 0 0 Tryd.underlying22
  have hr := (h.alloc (Nat.le_refl _) (.cells #[] 5)).rds
  have hz := World.ownsRow_made (e := 5) (size := 1) w #[] 0 (base := w.heap.size) (Nat.le_refl _) (by simp) (by simp)
  go_enter Tryd.func29, Tryd.ntmps29
  go_wp2_with
    (at_builtin
     refine wpList_append_any _ rfl (.tmp 5) (.tmp 6) _ rfl w.heap.size 5 i0 _ 1 1 Tryd.underlying22 hi0 hz0 hz1 hz2 rfl (by omega) (.slice (some ⟨w.heap.size, 0, none⟩) 0 0) 0 [] rfl
         hz w.heap.size (some ad) n c (xs.map bv) rfl hr (bv_one xs) (by simp only [maxLen]; omega) (by omega) (by simp) ?_
     intro v1 w1 hown1 hg1 hat1
     have hbw1 : Below w.heap.size w w1 := ((Below.refl _ _).alloc (Nat.le_refl _) _).grown hg1 (by simp) (by simp [Value.ownBlock]))
  go_ret
  exact retOwn (OwnB.of (by simpa using hown1)) hbw1

/-! ### v[lo:hi], v[lo:], v[:hi]: the address under one name -/
theorem run_cut {w : World} {B n c : Nat} {A : Option Addr} {xs : List UInt8} (h : Rd w B A n c xs) (lo hi : Nat) (l r : Int) (hl : l = lo) (hr : r = hi) (h1 : lo ≤ hi) (h2 : hi ≤ n) :
    ∃ A1, Rd w B A1 (hi - lo) (c - lo) ((xs.take hi).drop lo) ∧ (∀ W, (Instr.sliceAt 22 (.slice A n c) (some (.int .i64 l)) (some (.int .i64 r)) none).run Tryd.prog W = .ok (.slice A1 (hi - lo) (c - lo)) W) ∧
      ∀ W, (Instr.slice 22 (.slice A n c) (some (.int .i64 l)) (some (.int .i64 r)) none).run Tryd.prog W = .ok (.slice A1 (hi - lo) (c - lo)) W := by
  have hc := h.cap
  refine ⟨_, h.cut h1 h2, fun W => ?_, fun W => ?_⟩ <;> subst hl hr <;> simp [go_sem, Tryd.underlying22, show (lo : Int) ≤ hi by omega, show (hi : Int) ≤ c by omega]
theorem run_cut_lo {w : World} {B n c : Nat} {A : Option Addr} {xs : List UInt8} (h : Rd w B A n c xs) (lo : Nat) (l : Int) (hl : l = lo) (h1 : lo ≤ n) :
    ∃ A1, Rd w B A1 (n - lo) (c - lo) (xs.drop lo) ∧ (∀ W, (Instr.sliceAt 22 (.slice A n c) (some (.int .i64 l)) none none).run Tryd.prog W = .ok (.slice A1 (n - lo) (c - lo)) W) ∧
      ∀ W, (Instr.slice 22 (.slice A n c) (some (.int .i64 l)) none none).run Tryd.prog W = .ok (.slice A1 (n - lo) (c - lo)) W := by
  have hc := h.cap
  have hx := h.cut h1 (Nat.le_refl n)
  rw [List.take_of_length_le (by have := h.len; omega)] at hx
  refine ⟨_, hx, fun W => ?_, fun W => ?_⟩ <;> subst hl <;> simp [go_sem, Tryd.underlying22, show (lo : Int) ≤ n by omega]
theorem Rd.upto {w : World} {B n c : Nat} {A : Option Addr} {xs : List UInt8} (h : Rd w B A n c xs) (hi : Nat) (h2 : hi ≤ n) :
    Rd w B A hi c (xs.take hi) := by
  have hc := h.cap
  have hx := h.cut (Nat.zero_le hi) h2
  rw [List.drop_zero] at hx
  by_cases e : c = 0
  · subst e; simpa using hx
  · rw [if_neg e] at hx
    have : A.map (·.add 0) = A := by cases A <;> simp [Addr.add]
    rw [this] at hx
    simpa using hx

/-! ### string(b) -/
theorem map_bv (xs : List UInt8) : xs.map bv = (xs.map fun x => (x.toNat : Int)).map (Value.int .u8) := by simp [bv]
theorem strOf (xs : List UInt8) : strOfNums (xs.map fun x => (x.toNat : Int)) = ⟨xs.toArray⟩ := by
  simp [strOfNums, Function.comp_def]
theorem run_string {w : World} {B n c : Nat} {A : Option Addr} {xs : List UInt8} (h : Rd w B A n c xs) :
    ∀ dst, Tryd.prog.underlying dst = some .string → (convert 22 dst (.slice A n c)).run Tryd.prog w = .ok (.string ⟨xs.toArray⟩) w := by
  intro dst hd
  have hl := h.len
  rcases Nat.eq_zero_or_pos n with h0 | h0
  · subst h0
    obtain rfl : xs = [] := List.eq_nil_of_length_eq_zero hl
    rcases A with _ | ⟨b, o, s⟩
    · exact run_convert_bytes_nil w 22 5 Tryd.underlying22 Tryd.underlying5 0 c dst hd
    · rw [run_convert_bytes_string w 22 dst 5 _ 0 c Tryd.underlying22 Tryd.underlying5 hd, run_bytesToString w _ 0 c [] (by simp [loadCells, loadCellsFrom])]
      rfl
  · obtain ⟨b, o, rfl, _, hc⟩ := h.at_ h0
    rw [run_convert_bytes_arg w 22 5 Tryd.underlying22 Tryd.underlying5 b o n c (xs.map fun x => (x.toNat : Int)) (by simpa using hl) (fun i hi => by
      have hx : xs[i]? = some (xs[i]'(by omega)) := List.getElem?_eq_getElem (by omega)
      rw [hc i _ hx]; simp [hx]) dst hd, strOf]

/-- The same bytes? -/
def eqB (xs ys : List UInt8) : Bool := xs == ys

theorem eqbytes_any (A A' : Option Addr) (n c n' c' : Nat) (xs ys : List UInt8) (B B' : Nat) (w : World) (h : Rd w B A n c xs) (h' : Rd w B' A' n' c' ys) :
    Calls Tryd.prog 10 #[.slice A n c, .slice A' n' c'] w fun e w' => e = .returned (.bool (eqB xs ys)) ∧ w' = w := by
  have k1 := run_string h 9 Tryd.underlying9
  have k2 := run_string h' 9 Tryd.underlying9
  clear h h'
  go_enter Tryd.func10, Tryd.ntmps10
  go_wp2
  go_ret
  exact ⟨rfl, rfl⟩

/-! ### Roomy, Kept -/
/-- The seven marks behind Roomy's bytes. -/
def marks (k : Nat) : List UInt8 := (List.range k).map fun i => UInt8.ofNat (201 + i)
theorem marks_succ (k : Nat) : marks (k + 1) = marks k ++ [UInt8.ofNat (201 + k)] := by simp [marks, List.range_succ]
theorem marks_len (k : Nat) : (marks k).length = k := by simp [marks]

/-- v reads as xs; it is a row of the call's own, in which the seven marks stand behind xs. -/
def RoomB (w : World) (lo hi : Nat) (v : Value) (xs : List UInt8) : Prop :=
  ∃ g cap, v = .slice (some ⟨g, 0, none⟩) xs.length cap ∧ OwnB w lo hi (.slice (some ⟨g, 0, none⟩) (xs.length + 7) cap) (xs ++ marks 7)

theorem room_mk {w : World} {lo hi n g cap : Nat} {v : Value} {xs : List UInt8} (hl : xs.length = n) (hv : v = .slice (some ⟨g, 0, none⟩) n cap)
    (h : OwnB w lo hi (.slice (some ⟨g, 0, none⟩) (n + 7) cap) (xs ++ marks 7)) : RoomB w lo hi v xs := by
  subst hl hv
  exact ⟨g, cap, rfl, h⟩
theorem RoomB.keep {w w' : World} {lo hi : Nat} {v : Value} {xs : List UInt8} (h : RoomB w lo hi v xs) (hk : ∀ k, lo ≤ k → k < hi → w'.heap[k]? = w.heap[k]?) : RoomB w' lo hi v xs := by
  obtain ⟨g, cap, e, h⟩ := h
  exact ⟨g, cap, e, h.keep hk⟩
theorem RoomB.below {w w' : World} {lo hi B : Nat} {v : Value} {xs : List UInt8} (h : RoomB w lo hi v xs) (hb : Below B w w') (hB : hi ≤ B) : RoomB w' lo hi v xs := h.keep fun k _ hk => hb.block k (by omega)
/-- A row is a row of its first elements too. -/
theorem RoomB.own {w : World} {lo hi : Nat} {v : Value} {xs : List UInt8} (h : RoomB w lo hi v xs) : OwnB w lo hi v xs := by
  obtain ⟨g, cap, rfl, h⟩ := h
  refine ⟨⟨by simp, ?_⟩, h.2⟩
  rcases h.1.2 with ⟨e, _⟩ | ⟨g', cap', cur, e, hb, hg, hnc, hcm, hcs, ht⟩
  · cases e
  · simp only [Value.slice.injEq, Option.some.injEq, Addr.mk.injEq] at e
    obtain ⟨⟨rfl, _, _⟩, _, rfl⟩ := e
    refine .inr ⟨g, cap, cur, rfl, hb, hg, by rw [List.length_append, marks_len] at hnc; omega, hcm, hcs, ?_⟩
    have := congrArg (List.take xs.length) ht
    simpa [List.take_take] using this

def RoomRel (xs : List UInt8) (w : World) (k : Nat) (v : Value) (wr : World) : Prop := OwnB wr w.heap.size wr.heap.size v (xs ++ marks k) ∧ Below w.heap.size w wr

set_option maxHeartbeats 400000 in
theorem roomy_any (A : Option Addr) (n c : Nat) (xs : List UInt8) (w : World) (h : Rd w w.heap.size A n c xs) (hn : n ≤ 1099511627000) :
    Calls Tryd.prog 11 #[.slice A n c] w fun e w' => ∃ v, e = .returned v ∧ RoomB w' w.heap.size w'.heap.size v xs ∧ Below w.heap.size w w' := by
  obtain ⟨i0, hi0, hz0, hz1, hz2⟩ := info_parts u8_info
  have hl := h.len
  go_enter Tryd.func11, Tryd.ntmps11
  go_wp2_with fail
  refine (copy_any A n c xs w h (by omega)).mono ?_
  rintro e w1 ⟨A1, n1, c1, rfl, ho1, hb1⟩
  have hrel0 : RoomRel xs w 0 (.slice A1 n1 c1) w1 := ⟨by simpa [marks] using ho1, hb1⟩
  clear ho1 hb1 h
  go_wp2
  go_loopw [3, 4] (fun v i wr => ∃ k : Nat, k ≤ 7 ∧ i = .int .i64 k ∧ RoomRel xs w k v wr) (fun _ i _ => 7 - (intOf i).toNat)
  case atStart => exact ⟨0, by omega, rfl, hrel0⟩
  case round =>
    obtain ⟨k, hk, rfl, hr⟩ := hrel
    by_cases hlt : k < 7
    · have hlt' : (k : Int) < 7 := by omega
      obtain ⟨ho, hb⟩ := hr
      have hlm := marks_len k
      have hbs := hb.size
      have e1 : (Value.int .u8 (201 + (k : Int))) = bv (UInt8.ofNat (201 + k)) := by
        simp only [bv, UInt8.toNat_ofNat']
        rw [Nat.mod_eq_of_lt (by omega)]
        rfl
      have hone : Hid (Reads (wr.alloc (.cells #[.int .u8 (201 + (k : Int))] 5)) (wr.heap.size + 1) 1 (some ⟨wr.heap.size, 0, none⟩) 1 ([UInt8.ofNat (201 + k)].map bv)) := by
        rw [e1]; exact Reads.one wr 5 _
      clear e1
      have HO := Lib.hid ho
      clear ho
      go_wp2_with
        (at_builtin
         refine wpList_app rfl (.tmp 11) (.tmp 15) rfl w.heap.size wr.heap.size _ (xs ++ marks k) rfl (HO.out.alloc (Nat.le_refl _) _) (by simp; omega) _ _ 1 1 [UInt8.ofNat (201 + k)] rfl hone.out (by simp; omega) ?_
         intro v2 w2 ho2 hg2 hat2 hb2)
      go_roundw
      case rel => exact ⟨k + 1, by omega, by go_num, by rw [marks_succ, ← List.append_assoc]; exact ho2, (hb.alloc (by omega) _).trans hb2⟩
      case measure => simp [intOf]; omega
    · obtain rfl : k = 7 := by omega
      obtain ⟨ho, hb⟩ := hr
      have hlm := marks_len 7
      have hx7 : (xs ++ marks 7).length = xs.length + 7 := by simp [hlm]
      obtain ⟨g, cap, hv, hg1, hg2⟩ := ho.1.form (by omega)
      rw [hx7, hl] at hv
      subst hv
      obtain ⟨A', n', c', e', hr'⟩ := ho.rd
      injection e' with ea en ec
      subst ea en ec
      have hc1 := hr'.cap
      have hc2 := hr'.capm
      have HR := Lib.hid ho
      clear hx7 ho hr' hlm
      go_wp2
      go_ret
      exact ⟨_, rfl, room_mk hl rfl HR.out, hb⟩

theorem eqB_self (xs : List UInt8) : eqB xs xs = true := by simp [eqB]
theorem mark_at (xs : List UInt8) {n k : Nat} (hl : xs.length = n) (hk : k < 7) : (xs ++ marks 7)[n + k]? = some (UInt8.ofNat (201 + k)) := by
  subst hl
  rw [List.getElem?_append_right (by omega), Nat.add_sub_cancel_left]
  simp [marks, hk]
theorem mark_bv {k : Nat} (hk : k < 7) : bv (UInt8.ofNat (201 + k)) = Value.int .u8 (201 + (k : Int)) := by
  simp only [bv, UInt8.toNat_ofNat']
  rw [Nat.mod_eq_of_lt (by omega)]
  rfl

theorem kept_any (lo hi : Nat) (v : Value) (A' : Option Addr) (n c' : Nat) (xs : List UInt8) (B : Nat) (w : World) (h : RoomB w lo hi v xs) (h' : Rd w B A' n c' xs) (hn : n ≤ 1099511627000) :
    Calls Tryd.prog 16 #[v, .slice A' n c'] w fun e w' => e = .returned (.bool true) ∧ w' = w := by
  obtain ⟨A, n', c, e, hr⟩ := h.own.rd
  obtain ⟨g, cap, e', ho⟩ := h
  subst e
  have hl := h'.len
  rw [hl] at e' ho
  injection e' with ea en ec
  subst ea en ec
  obtain ⟨A2, n2, c2, e2, hr2⟩ := ho.rd
  injection e2 with ea en ec
  subst ea en ec
  have hE := eqbytes_any (some ⟨g, 0, none⟩) A' n' c n' c' xs xs hi B w hr h'
  rw [eqB_self] at hE
  have HE := Lib.hid hE
  have hc1 := hr2.cap
  have hc2 := hr2.capm
  have hcell : ∀ k, k < 7 → w.cell? ⟨g, n' + k, none⟩ = some (.int .u8 (201 + (k : Int))) := by
    intro k hk
    obtain ⟨x, hx, hc⟩ := hr2.get (k := n' + k) (by omega)
    rw [mark_at xs hl hk] at hx
    injection hx with hx
    subst hx
    have := mark_bv hk
    simp only [bv] at this
    rw [this, Nat.zero_add] at hc
    exact hc
  have HC := Lib.hid hcell
  clear hE hcell hr hr2 ho h' hl
  go_enter Tryd.func16, Tryd.ntmps16
  go_wp2_with fail
  refine HE.out.mono ?_
  rintro e w' ⟨rfl, rfl⟩
  go_wp2
  go_loop [6] (fun i => ∃ k : Nat, k ≤ 7 ∧ i = .int .i64 k) (fun i => 7 - (intOf i).toNat)
  case atStart => exact ⟨0, by omega, rfl⟩
  case round =>
    obtain ⟨k, hk, rfl⟩ := hrel
    by_cases hlt : k < 7
    · have hlt' : (k : Int) < 7 := by omega
      have hck := HC.out k hlt
      go_wp2
      go_round
      case rel => exact ⟨k + 1, by omega, by go_num⟩
      case measure => simp [intOf]; omega
    · have hge : ¬ (k : Int) < 7 := by omega
      go_wp2
      go_ret
      exact ⟨rfl, rfl⟩
end Go.Proofs.YtadkiildjehdmaaDoor
