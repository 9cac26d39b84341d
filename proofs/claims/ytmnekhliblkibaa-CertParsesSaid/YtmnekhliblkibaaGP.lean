/- Joined of: MadeLen MadeMarks MadeLast Made. -/
import Derived.Test.YtmnekhliblkibaaGO
import Derived.Test.YtmnekhliblkibaaGM
section
/- How long what Made makes may be. -/
namespace Go.Proofs.Ytmnekhliblkibaa
open Go.RowKit
set_option maxRecDepth 100000

theorem name_len (s : List UInt8) (h : s.length ≤ 200) : (Ref.name s).length ≤ 260 := by
  have h1 := write_bound 6 [85, 4, 3] (by simp)
  have h2 := write_bound 12 s (by omega)
  have h3 := seq2_len (Der.write 6 [85, 4, 3]) (Der.write 12 s) 215 (by simp at h1; omega) (by omega)
  have h4 := write_bound 49 (Ref.seq [Der.write 6 [85, 4, 3], Der.write 12 s]) (by omega)
  have h5 := write_bound 48 (Der.write 49 (Ref.seq [Der.write 6 [85, 4, 3], Der.write 12 s])) (by omega)
  unfold Ref.name
  generalize hX : Der.write 49 (Ref.seq [Der.write 6 [85, 4, 3], Der.write 12 s]) = X at h4 h5 ⊢
  unfold Ref.seq
  simp only [List.flatten_cons, List.flatten_nil, List.append_nil]
  omega
theorem rsa_len (nn : List UInt8) (e : Nat) (h : nn.length ≤ 600) : (Ref.rsa nn e).length ≤ 640 := by
  have h1 := putInt_len nn
  have h2 := putInt_len (Ref.five e)
  have h3 : (Ref.five e).length = 5 := rfl
  have h4 := write_bound 2 (Der.putInt nn) (by omega)
  have h5 := write_bound 2 (Der.putInt (Ref.five e)) (by omega)
  have h6 := seq2_len (Der.write 2 (Der.putInt nn)) (Der.write 2 (Der.putInt (Ref.five e))) 619 (by omega) (by omega)
  unfold Ref.rsa
  omega
theorem tbs_len (iss sub ser nn : List UInt8) (a b : Tm) (e : Nat) (f : Fl) (h1 : iss.length ≤ 260) (h2 : sub.length ≤ 260) (h3 : ser.length ≤ 20) (h4 : nn.length ≤ 600) : (Ref.tbs iss sub ser nn a b e f).length ≤ 4000 := by
  have g0 := rsa_len nn e h4
  have g1 := write_bound 2 ser (by omega)
  have g2 := gen_len a
  have g3 := gen_len b
  have g4 := seq2_len (Ref.general a) (Ref.general b) 42 (by omega) (by omega)
  have g5 := write_bound 3 ([0] ++ Ref.rsa nn e) (by rw [List.length_append]; simp; omega)
  rw [List.length_append, List.length_singleton] at g5
  have g6 : Ref.keyAlg.length = 15 := rfl
  have g7 := seq2_len Ref.keyAlg (Der.write 3 ([0] ++ Ref.rsa nn e)) 700 (by omega) (by omega)
  have g8 : Ref.version.length = 5 := rfl
  have g9 : Ref.signAlg.length = 15 := rfl
  have g10 := extra_len f
  have g11 := write_bound 48 ([Ref.version, Der.write 2 ser, Ref.signAlg, iss, Ref.seq [Ref.general a, Ref.general b], sub, Ref.key nn e, Ref.extra f] : List (List UInt8)).flatten (by rw [flat8]; unfold Ref.key; omega)
  unfold Ref.tbs
  rw [show ∀ l, Ref.seq l = Der.write 48 l.flatten from fun _ => rfl]
  rw [flat8] at g11
  unfold Ref.key at g11 ⊢
  omega
end Go.Proofs.Ytmnekhliblkibaa
end

section
/- The steps of Made's great statement. -/
namespace Go.Proofs.Ytmnekhliblkibaa
open Go.RowKit
set_option maxRecDepth 100000
set_option linter.unusedVariables false
set_option linter.unusedSimpArgs false

variable {o : Oper} {a : Act} {w : World} {Q : Exit → Act → World → Prop} {J : Value → World → Prop} {B : Nat}
theorem KR.bc {B : Nat} {w w' : World} {g : Nat} {C : CV} (h : KR B w w') (hb : Bc w g C) : Bc w' g C := by
  rcases h.2.2 g hb.lt with e | ⟨D, t, hD, e1, _⟩
  · exact e.trans hb
  · have : w.heap[g]? = some (.cells C.cells 32 (0, 0)) := hb
    rw [this] at e1
    injection e1 with e1
    injection e1 with e1
    subst e1
    simp [CV.cells] at hD
theorem KR.rdt {B : Nat} {w w' : World} {v : Value} {xs : List UInt8} (h : KR B w w') (hr : RdT w v xs) : RdT w' v xs := by
  obtain ⟨A, n, c, rfl, hr, ht⟩ := hr
  refine ⟨A, n, c, rfl, (hr.keep fun p hp => h.cell p hp).more h.2.1, fun ad e => ?_⟩
  obtain ⟨cs, fr, hg⟩ := ht ad e
  rcases h.2.2 ad.block (Array.getElem?_eq_some_iff.1 hg).1 with e1 | ⟨C, t, _, e1, e2⟩
  · exact ⟨cs, fr, e1.trans hg⟩
  · rw [hg] at e1
    injection e1 with e1
    injection e1 with e1 e3
    subst e1 e3
    exact ⟨_, _, e2⟩
theorem RdT.rd {w : World} {A : Option Addr} {n c : Nat} {xs : List UInt8} (h : RdT w (.slice A n c) xs) : Rd w w.heap.size A n c xs := by
  obtain ⟨A', n', c', e, hr, _⟩ := h
  injection e with e1 e2 e3
  subst e1 e2 e3
  exact hr
/-- A store into a block of certificates leaves rows of bytes alone. -/
theorem RdT.far {w w' : World} {v : Value} {xs : List UInt8} {g : Nat} {C : CV} (h : RdT w v xs) (hg : w.grownBy w' (some g)) (hb : Bc w g C) : RdT w' v xs :=
  h.keep hg.size fun k cs fr hk => hg.block k (Array.getElem?_eq_some_iff.1 hk).1 (fun e => by
    injection e with e
    subst e
    have : w.heap[k]? = some (.cells C.cells 32 (0, 0)) := hb
    rw [this] at hk
    injection hk with hk
    injection hk with h1 h2
    exact absurd h2 (by decide))
/-- []byte of a string. -/
theorem S_str {x : Operand} {xs : List UInt8} (ho : o.op = .convert 9 22 x) (hd : o.dst ≠ none) (hx : a.eval x = .string ⟨xs.toArray⟩) (hn : xs.length ≤ 9223372036854775807) (hB : B ≤ w.heap.size)
    (hJ : ∀ v w', RdV w' w'.heap.size v xs → J v w') : o.wp Try.prog a w (KK a o J (KR B) w) Q :=
  wp_val (w' := strWorld w xs) (by simp only [execOp, ho, hx]; simp [run_str]) ⟨_, rfl, fun h => absurd h hd, hJ _ _ (RdV.mk (str_rd w xs hn)), KR.below (str_below w xs) hB⟩
/-- The string of bytes. -/
theorem S_tostr {x : Operand} {xs : List UInt8} (ho : o.op = .convert 22 9 x) (hd : o.dst ≠ none) (hx : RdV w w.heap.size (a.eval x) xs)
    (hJ : J (.string ⟨xs.toArray⟩) w) : o.wp Try.prog a w (KK a o J (KR B) w) Q := by
  obtain ⟨A, n, c, e, hr⟩ := hx
  have := run_string hr 9 Try.underlying9
  exact S_val (by simp only [execOp, ho, e]; simp [this]) hd hJ
theorem S_short {k : Nat} {x y : Operand} {ts : Array TypeId} {xs : List UInt8} (ho : o.op = .call { callee := .value (.func 51), args := #[x, y], argTypes := ts }) (hd : o.dst ≠ none)
    (hx : RdV w w.heap.size (a.eval x) xs) (hy : a.eval y = .int .i64 (k : Int)) (hk : k ≤ 1000) (hn : xs.length ≤ 9223372036854775807) (hB : B ≤ w.heap.size) (hJ : ∀ v w', OwnB w' w.heap.size w'.heap.size v (xs.take k) → w.heap.size ≤ w'.heap.size → J v w') : o.wp Try.prog a w (KK a o J (KR B) w) Q := by
  obtain ⟨A, n, c, e, hr⟩ := hx
  refine wp_callf ho Try.func51 rfl (by decide) (args := #[.slice A n c, .int .i64 (k : Int)]) (by simp [hy, e]) (short_any k A n c xs w hr hk (by have := hr.len; omega)) ?_
  rintro en w' ⟨A', n', c', rfl, ho', hb'⟩
  exact ⟨_, rfl, _, rfl, fun h => absurd h hd, hJ _ _ ho' hb'.size, KR.below hb' hB⟩
theorem S_name {x : Operand} {ts : Array TypeId} {xs : List UInt8} (ho : o.op = .call { callee := .value (.func 52), args := #[x], argTypes := ts }) (hd : o.dst ≠ none)
    (hx : a.eval x = .string ⟨xs.toArray⟩) (hn : xs.length ≤ 1000) (hB : B ≤ w.heap.size) (hJ : ∀ v w', OwnB w' w.heap.size w'.heap.size v (Ref.name xs) → w.heap.size ≤ w'.heap.size → J v w') : o.wp Try.prog a w (KK a o J (KR B) w) Q := by
  refine wp_callf ho Try.func52 rfl (by decide) (args := #[.string ⟨xs.toArray⟩]) (by simp [hx]) (name_any xs w hn) ?_
  rintro en w' ⟨A', n', c', rfl, ho', hb'⟩
  exact ⟨_, rfl, _, rfl, fun h => absurd h hd, hJ _ _ ho' hb'.size, KR.below hb' hB⟩
theorem S_putint {x : Operand} {ts : Array TypeId} {xs : List UInt8} (ho : o.op = .call { callee := .value (.func 32), args := #[x], argTypes := ts }) (hd : o.dst ≠ none)
    (hx : RdV w w.heap.size (a.eval x) xs) (hn : xs.length ≤ 1099511627) (hB : B ≤ w.heap.size) (hJ : ∀ v w', OwnB w' w.heap.size w'.heap.size v (Der.putInt xs) → w.heap.size ≤ w'.heap.size → J v w') : o.wp Try.prog a w (KK a o J (KR B) w) Q := by
  obtain ⟨A, n, c, e, hr⟩ := hx
  refine wp_callf ho Try.func32 rfl (by decide) (args := #[.slice A n c]) (by simp [e]) (refPutInt_any A n c xs w hr (by have := hr.len; omega)) ?_
  rintro en w' ⟨A', n', c', rfl, ho', hb'⟩
  exact ⟨_, rfl, _, rfl, fun h => absurd h hd, hJ _ _ ho' hb'.size, KR.below hb' hB⟩
theorem S_fldT {t : TypeId} {x : Operand} {k off p : Nat} (ho : o.op = .fieldAddr t x k) (hd : o.dst ≠ none) (hx : a.eval x = .pointer (some ⟨p, 0, none⟩))
    (hr : (Instr.fieldAt t (.pointer (some ⟨p, 0, none⟩)) k).run Try.prog w = .ok (.pointer (some ⟨p, off, none⟩)) w) (hJ : J (.pointer (some ⟨p, off, none⟩)) w) : o.wp Try.prog a w (KK a o J (KR B) w) Q :=
  S_val (by simp only [execOp, ho, hx]; simp [hr]) hd hJ
theorem kfld (w : World) (p : Nat) : (Instr.fieldAt 42 (.pointer (some ⟨p, 0, none⟩)) 2).run Try.prog w = .ok (.pointer (some ⟨p, 2, none⟩)) w ∧ (Instr.fieldAt 42 (.pointer (some ⟨p, 0, none⟩)) 3).run Try.prog w = .ok (.pointer (some ⟨p, 3, none⟩)) w ∧
    (Instr.fieldAt 42 (.pointer (some ⟨p, 0, none⟩)) 4).run Try.prog w = .ok (.pointer (some ⟨p, 4, none⟩)) w ∧ (Instr.fieldAt 42 (.pointer (some ⟨p, 0, none⟩)) 5).run Try.prog w = .ok (.pointer (some ⟨p, 5, none⟩)) w ∧
    (Instr.fieldAt 42 (.pointer (some ⟨p, 0, none⟩)) 6).run Try.prog w = .ok (.pointer (some ⟨p, 11, none⟩)) w ∧ (Instr.fieldAt 42 (.pointer (some ⟨p, 0, none⟩)) 7).run Try.prog w = .ok (.pointer (some ⟨p, 17, none⟩)) w ∧
    (Instr.fieldAt 42 (.pointer (some ⟨p, 0, none⟩)) 8).run Try.prog w = .ok (.pointer (some ⟨p, 18, none⟩)) w ∧ (Instr.fieldAt 42 (.pointer (some ⟨p, 0, none⟩)) 9).run Try.prog w = .ok (.pointer (some ⟨p, 19, none⟩)) w := by
  refine ⟨?_, ?_, ?_, ?_, ?_, ?_, ?_, ?_⟩ <;> simp [go_sem]
theorem load_str {w : World} {ad : Addr} {v : Value} (h : w.cell? ad = some v) : (loadVar 9 ad).run Try.prog w = .ok v w := by simp [go_sem, h]
theorem load_u64 {w : World} {ad : Addr} {v : Value} (h : w.cell? ad = some v) : (loadVar 28 ad).run Try.prog w = .ok v w := by simp [go_sem, h]
theorem load_bool {w : World} {ad : Addr} {v : Value} (h : w.cell? ad = some v) : (loadVar 4 ad).run Try.prog w = .ok v w := by simp [go_sem, h]
theorem eval_const (a : Act) (v : Value) : a.eval (.const v) = v := rfl
theorem S_rem {x y : Operand} {e : Nat} {t2 : TypeId} (ho : o.op = .binOp .rem 28 x y t2) (hd : o.dst ≠ none) (hx : a.eval x = .int .u64 (e : Int)) (hy : a.eval y = .int .u64 8589934592) (hJ : J (.int .u64 ((e % 8589934592 : Nat) : Int)) w) : o.wp Try.prog a w (KK a o J (KR B) w) Q :=
  S_val (by
    simp only [execOp, ho, hx, hy]
    simp [go_sem]
    exact Int.tmod_eq_emod_of_nonneg (by omega)) hd hJ
theorem S_newc (ho : o.op = .alloc 32) (hd : o.dst ≠ none) (hB : B ≤ w.heap.size) (hJ : ∀ g w', B ≤ g → Bc w' g CV.zero → J (.pointer (some ⟨g, 0, none⟩)) w') : o.wp Try.prog a w (KK a o J (KR B) w) Q := by
  have hr : (Instr.alloc 32 true (.tuple #[])).run Try.prog w = .ok (.pointer (some ⟨w.heap.size, 0, none⟩)) (w.alloc (.cells CV.zero.cells 32)) := by
    simp [go_sem]
    try rfl
  exact wp_val (by simp only [execOp, ho]; simp [hr]) ⟨_, rfl, fun h => absurd h hd, hJ _ _ hB (Blk.new w _ _), KR.below ((Below.refl _ _).alloc (Nat.le_refl _) _) hB⟩
theorem run_key (w : World) (A : Option Addr) (n c : Nat) (e : Int) : (Instr.build 30 #[(0, .slice A n c), (1, .int .u64 e)]).run Try.prog w = .ok (.agg #[.slice A n c, .int .u64 e]) w := by
  simp [go_sem]
theorem run_cert (w : World) (A1 A2 A3 A4 A5 : Option Addr) (n1 c1 n2 c2 n3 c3 n4 c4 n5 c5 : Nat) (a b : Tm) (e : Int) (ca code : Bool) :
    (Instr.build 32 #[(2, .slice A1 n1 c1), (3, .slice A2 n2 c2), (4, .slice A3 n3 c3), (5, a.v), (6, b.v), (7, .agg #[.slice A4 n4 c4, .int .u64 e]), (8, .slice A5 n5 c5), (9, .bool ca), (10, .int .i64 (-1)), (11, .int .i64 (-1)), (12, .bool code)]).run Try.prog w =
      .ok (.agg #[.slice none 0 0, .slice none 0 0, .slice A1 n1 c1, .slice A2 n2 c2, .slice A3 n3 c3, .int .u16 (a.y : Int), .int .u8 (a.mo : Int), .int .u8 (a.d : Int), .int .u8 (a.h : Int), .int .u8 (a.mi : Int), .int .u8 (a.s : Int),
        .int .u16 (b.y : Int), .int .u8 (b.mo : Int), .int .u8 (b.d : Int), .int .u8 (b.h : Int), .int .u8 (b.mi : Int), .int .u8 (b.s : Int), .slice A4 n4 c4, .int .u64 e, .slice A5 n5 c5, .bool ca, .int .i64 (-1), .int .i64 (-1), .bool code]) w := by
  unfold Tm.v
  simp [go_sem]
theorem arr_eta (a : Act) (n : Nat) (h : a.tmps.size = n) (hd : a.defers = []) : a = { tmps := ((List.range n).map fun i => a.eval (.tmp i)).toArray, defers := [] } := by
  obtain ⟨t, d⟩ := a
  dsimp only at h hd
  subst hd h
  congr 1
  apply Array.ext
  · simp
  · intro i h1 h2
    simp [Act.eval, Array.getD, h1]
theorem wp_store_cert {op : Oper} {a : Act} {w : World} {K : Act → World → Prop} {Q : Exit → Act → World → Prop} (x y : Operand) (ho : op.op = .store 32 x y)
    (gc : Nat) (C D : CV) (hx : a.eval x = .pointer (some ⟨gc, 0, none⟩)) (hy : a.eval y = .agg D.cells) (hB : Bc w gc C) (hD : ∀ v ∈ D.cells.toList, v.oneCell' = true)
    (h : ∀ w', Bc w' gc D → w.grownBy w' (some gc) → K (a.put op.dst undef) w') : op.wp Try.prog a w K Q := by
  unfold Oper.wp execOp
  simp only [ho, hx, hy, Instr.storeAt, Instr.sureAddr, Sem.run_bind, Sem.run_pure, Result.andThen_ok, run_put_cert hB D hD]
  refine h _ (setRow_heap w gc C.cells D.cells _ _ hB) ?_
  refine ⟨rfl, rfl, rfl, by simp [World.setRow], fun k hk hne => ?_⟩
  unfold World.setRow
  simp only [Array.getElem?_modify]
  rw [if_neg (fun e => hne (by rw [e]))]
end Go.Proofs.Ytmnekhliblkibaa
end

section
/- The last statement of Made. -/
namespace Go.Proofs.Ytmnekhliblkibaa
open Go.RowKit
set_option maxRecDepth 100000
set_option linter.unusedVariables false
set_option linter.unusedSimpArgs false

/-- Memory grows; the result's block stays, or gets what it is to hold. -/
def RR (rs : Nat) (D : CV) (w w' : World) : Prop := w.grownBy w' (some rs) ∧ ∀ C, Bc w rs C → Bc w' rs C ∨ Bc w' rs D
theorem grown_refl (w : World) (r : Option Nat) : w.grownBy w r := grows_ (Below.refl _ w) r
theorem RR.refl (rs : Nat) (D : CV) (w : World) : RR rs D w w := ⟨grown_refl w _, fun C h => .inl h⟩
theorem RR.below {rs : Nat} {D : CV} {w w' : World} (h : Below w.heap.size w w') : RR rs D w w' := ⟨grows_ h _, fun C hC => .inl (hC.below h hC.lt)⟩
def LJ (lo g rs : Nat) (D : CV) (vraw : Value) (xs : List UInt8) : Nat → Value → World → Prop
  | 0, v, _ => v = D.val
  | 1, v, _ => v = .pointer (some ⟨g, 0, none⟩)
  | 2, v, _ => v = vraw
  | 4, _, w => Bc w rs D
  | _, v, w => OwnB w lo w.heap.size v xs
theorem LJ.mono (lo g rs : Nat) (D : CV) (vraw : Value) (xs : List UInt8) (hlo : rs < lo) : ∀ i v w w', RR rs D w w' → LJ lo g rs D vraw xs i v w → LJ lo g rs D vraw xs i v w' := by
  intro i v w w' h hj
  have own : OwnB w lo w.heap.size v xs → OwnB w' lo w'.heap.size v xs := fun ho => (ho.keep fun k h1 h2 => h.1.block k h2 (fun e => by injection e with e; omega)).mono (Nat.le_refl _) h.1.size
  match i, hj with
  | 0, hj | 1, hj | 2, hj => exact hj
  | 3, hj => exact own hj
  | 4, hj => exact (h.2 D hj).elim id id
  | n + 5, hj => exact own hj
def LG (wS : World) (g rs : Nat) (D : CV) (w : World) : Prop := wS.grownBy w (some rs) ∧ (∃ C, Bc w rs C) ∧ Bc w g D
theorem LG.next {wS : World} {g rs : Nat} {D : CV} {w w' : World} (hne : g ≠ rs) (h : LG wS g rs D w) (hR : RR rs D w w') : LG wS g rs D w' := by
  obtain ⟨h1, ⟨C, h2⟩, h3⟩ := h
  refine ⟨h1.trans hR.1, ?_, Blk.grown h3 hR.1 (fun e => by injection e with e; omega)⟩
  rcases hR.2 C h2 with h | h
  · exact ⟨C, h⟩
  · exact ⟨D, h⟩
theorem fld_0 (w : World) (p : Nat) : (Instr.fieldAt 32 (.pointer (some ⟨p, 0, none⟩)) 0).run Try.prog w = .ok (.pointer (some ⟨p, 0, none⟩)) w := by simp [go_sem]
end Go.Proofs.Ytmnekhliblkibaa
end

section
/- The law's Made. -/
namespace Go.Proofs.Ytmnekhliblkibaa
open Go.RowKit
set_option maxRecDepth 100000
set_option linter.unusedVariables false
set_option linter.unusedSimpArgs false

/-- A case, by its parts. -/
structure Kase where
  ser : List UInt8
  n : List UInt8
  sig : List UInt8
  iss : List UInt8
  sub : List UInt8
  from_ : Tm
  to : Tm
  e : Nat
  ca : Bool
  code : Bool
  path : Nat
  usage : Nat
def Kase.start (k : Kase) : Tm := if Stamp.right k.from_ then k.from_ else ⟨2020, 1, 1, 0, 0, 0⟩
theorem start_fits (k : Kase) (h : k.from_.fits) : k.start.fits := by
  unfold Kase.start
  split
  · exact h
  · exact ⟨by decide, by decide, by decide, by decide, by decide, by decide⟩
def Kase.stop (k : Kase) : Tm := if !Stamp.right k.to || Stamp.less k.to k.start then k.start else k.to
def Kase.fl (k : Kase) : Fl := ⟨k.ca, if k.ca && decide (0 < k.path) then (k.path : Int) - 1 else -1, if 0 < k.usage then 2 * (k.usage : Int) + (k.usage % 2 : Nat) else -1, k.code⟩
theorem stop_fits (k : Kase) (h : k.from_.fits) (h2 : k.to.fits) : k.stop.fits := by
  unfold Kase.stop
  split
  · exact start_fits k h
  · exact h2
theorem fl_path (k : Kase) (h : k.path < 256) : k.fl.path < 256 := by
  unfold Kase.fl
  dsimp only
  split <;> omega
theorem fl_usage (k : Kase) (h : k.usage < 256) : k.fl.usage < 512 := by
  unfold Kase.fl
  dsimp only
  split <;> omega
def Kase.nn (k : Kase) : List UInt8 := (Der.int (Der.putInt (k.n.take 600))).getD []
def Kase.serial (k : Kase) : List UInt8 := Der.putInt ([1] ++ k.ser.take 18)
def Kase.tbs (k : Kase) : List UInt8 := Ref.tbs (Ref.name (k.iss.take 200)) (Ref.name (k.sub.take 200)) k.serial k.nn k.start k.stop (k.e % 8589934592) k.fl
def Kase.raw (k : Kase) : List UInt8 := Ref.wr k.tbs (k.sig.take 600)
/-- What the fields hold, as one value. -/
def Kase.val (k : Kase) (v0 v1 v2 : Value) : Value := .agg #[v0, v1, v2, .string ⟨k.iss.toArray⟩, .string ⟨k.sub.toArray⟩,
  .int .u16 (k.from_.y : Int), .int .u8 (k.from_.mo : Int), .int .u8 (k.from_.d : Int), .int .u8 (k.from_.h : Int), .int .u8 (k.from_.mi : Int), .int .u8 (k.from_.s : Int),
  .int .u16 (k.to.y : Int), .int .u8 (k.to.mo : Int), .int .u8 (k.to.d : Int), .int .u8 (k.to.h : Int), .int .u8 (k.to.mi : Int), .int .u8 (k.to.s : Int),
  .int .u64 (k.e : Int), .bool k.ca, .bool k.code, .int .u8 (k.path : Int), .int .u8 (k.usage : Int)]

/-- While Made works: the case, the result's variable, the certificate, its rows. -/
def MS (w W : World) (KC : Array Value) (g : Nat) (D : CV) (ns iss sub ser sig : List UInt8) : Prop :=
  Below w.heap.size w W ∧ Blk W w.heap.size 42 KC ∧ Bc W (w.heap.size + 1) CV.zero ∧ Bc W g D ∧ w.heap.size + 1 < g ∧
    RdT W D.n ns ∧ RdT W D.iss iss ∧ RdT W D.sub sub ∧ RdT W D.ser ser ∧ RdT W D.sig sig
theorem MS.below {w W W' : World} {KC : Array Value} {g : Nat} {D : CV} {ns iss sub ser sig : List UInt8} (h : MS w W KC g D ns iss sub ser sig) (hb : Below W.heap.size W W') : MS w W' KC g D ns iss sub ser sig := by
  obtain ⟨a, b, c, d, e, f1, f2, f3, f4, f5⟩ := h
  exact ⟨a.trans (hb.mono a.size), b.below hb b.lt, c.below hb c.lt, d.below hb d.lt, e, f1.below hb, f2.below hb, f3.below hb, f4.below hb, f5.below hb⟩
theorem MS.grown {w W W' : World} {KC : Array Value} {g : Nat} {D D' : CV} {ns iss sub ser sig : List UInt8} (h : MS w W KC g D ns iss sub ser sig) (hg : W.grownBy W' (some g)) (hD : Bc W' g D')
    (e1 : D'.n = D.n) (e2 : D'.iss = D.iss) (e3 : D'.sub = D.sub) (e4 : D'.ser = D.ser) (e5 : D'.sig = D.sig) : MS w W' KC g D' ns iss sub ser sig := by
  obtain ⟨a, b, c, d, e, f1, f2, f3, f4, f5⟩ := h
  refine ⟨a.grown hg a.size (fun j hj => by cases hj; omega), b.grown hg (fun e => by injection e with e; omega), Blk.grown c hg (fun e => by injection e with e; omega), hD, e, ?_, ?_, ?_, ?_, ?_⟩
  · rw [e1]; exact f1.far hg d
  · rw [e2]; exact f2.far hg d
  · rw [e3]; exact f3.far hg d
  · rw [e4]; exact f4.far hg d
  · rw [e5]; exact f5.far hg d
theorem rdt_one {w : World} {v : Value} {xs : List UInt8} (h : RdT w v xs) : v.oneCell' = true := by
  obtain ⟨A, n, c, rfl, _⟩ := h
  rfl
theorem rdv_one {w : World} {B : Nat} {v : Value} {xs : List UInt8} (h : RdV w B v xs) : v.oneCell' = true := by
  obtain ⟨A, n, c, rfl, _⟩ := h
  rfl
/-- What Made hands back. -/
def MadeR (k : Kase) (w : World) (e : Ending) (w' : World) : Prop := ∃ (D : CV) (A : Option Addr) (n c : Nat), e = .returned (.tuple #[D.val, .slice A n c]) ∧ OwnB w' w.heap.size w'.heap.size (.slice A n c) k.raw ∧
  RdT w' D.raw k.raw ∧ RdT w' D.tbs k.tbs ∧ RdT w' D.iss (Ref.name (k.iss.take 200)) ∧ RdT w' D.sub (Ref.name (k.sub.take 200)) ∧ RdT w' D.ser k.serial ∧ RdT w' D.n k.nn ∧ RdT w' D.sig (k.sig.take 600) ∧
  D.from_ = k.start ∧ D.to = k.stop ∧ D.e = k.e % 8589934592 ∧ D.fl = k.fl ∧ Below w.heap.size w w'
/-- What the operations of the great statement leave. -/
def MJ (B p : Nat) (k : Kase) (vser vn vsig : Value) : Nat → Value → World → Prop
  | 0, v, _ => v = .pointer (some ⟨p, 3, none⟩)
  | 1, v, _ => v = .string ⟨k.iss.toArray⟩
  | 2, v, w => RdV w w.heap.size v k.iss
  | 3, v, w => RdV w w.heap.size v (k.iss.take 200)
  | 4, v, _ => v = .string ⟨(k.iss.take 200).toArray⟩
  | 5, v, w => RdT w v (Ref.name (k.iss.take 200))
  | 6, v, _ => v = .pointer (some ⟨p, 4, none⟩)
  | 7, v, _ => v = .string ⟨k.sub.toArray⟩
  | 8, v, w => RdV w w.heap.size v k.sub
  | 9, v, w => RdV w w.heap.size v (k.sub.take 200)
  | 10, v, _ => v = .string ⟨(k.sub.take 200).toArray⟩
  | 11, v, w => RdT w v (Ref.name (k.sub.take 200))
  | 12, v, _ => v = vser
  | 13, v, w => RdT w v k.serial
  | 14, v, _ => v = .pointer (some ⟨p, 5, none⟩)
  | 15, v, _ => v = k.from_.v
  | 16, v, _ => v = .pointer (some ⟨p, 11, none⟩)
  | 17, v, _ => v = k.to.v
  | 18, v, _ => v = vn
  | 19, v, _ => v = .pointer (some ⟨p, 17, none⟩)
  | 20, v, _ => v = .int .u64 (k.e : Int)
  | 21, v, _ => v = .int .u64 ((k.e % 8589934592 : Nat) : Int)
  | 22, v, _ => v = .agg #[vn, .int .u64 ((k.e % 8589934592 : Nat) : Int)]
  | 23, v, _ => v = .pointer (some ⟨p, 2, none⟩)
  | 24, v, _ => v = vsig
  | 25, v, w => RdT w v (k.sig.take 600)
  | 26, v, _ => v = .pointer (some ⟨p, 18, none⟩)
  | 27, v, _ => v = .bool k.ca
  | 28, v, _ => v = .pointer (some ⟨p, 19, none⟩)
  | 29, v, _ => v = .bool k.code
  | 30, v, w => ∃ vi vs vr vg, v = (⟨.slice none 0 0, .slice none 0 0, vi, vs, vr, k.from_, k.to, vn, k.e % 8589934592, vg, ⟨k.ca, -1, -1, k.code⟩⟩ : CV).val ∧
      RdT w vi (Ref.name (k.iss.take 200)) ∧ RdT w vs (Ref.name (k.sub.take 200)) ∧ RdT w vr k.serial ∧ RdT w vg (k.sig.take 600)
  | _, v, w => ∃ g, v = .pointer (some ⟨g, 0, none⟩) ∧ B ≤ g ∧ Bc w g CV.zero
theorem MJ.mono (B p : Nat) (k : Kase) (vser vn vsig : Value) : ∀ i v w w', KR B w w' → MJ B p k vser vn vsig i v w → MJ B p k vser vn vsig i v w' := by
  intro i v w w' h hj
  match i, hj with
  | 2, hj | 3, hj | 8, hj | 9, hj => exact h.rdv hj
  | 5, hj | 11, hj | 13, hj | 25, hj => exact h.rdt hj
  | 0, hj | 1, hj | 4, hj | 6, hj | 7, hj | 10, hj | 12, hj | 14, hj | 15, hj | 16, hj | 17, hj | 18, hj | 19, hj | 20, hj | 21, hj | 22, hj | 23, hj | 24, hj | 26, hj | 27, hj | 28, hj | 29, hj => exact hj
  | 30, hj =>
    obtain ⟨vi, vs, vr, vg, e, h1, h2, h3, h4⟩ := hj
    exact ⟨vi, vs, vr, vg, e, h.rdt h1, h.rdt h2, h.rdt h3, h.rdt h4⟩
  | n + 31, hj =>
    obtain ⟨g, e, h1, h2⟩ := hj
    exact ⟨g, e, h1, h.bc h2⟩

set_option maxHeartbeats 4000000 in
theorem made_any (k : Kase) (A0 A1 A2 : Option Addr) (n0 c0 n1 c1 n2 c2 : Nat) (w : World) (h0 : Rd w w.heap.size A0 n0 c0 k.ser) (h1 : Rd w w.heap.size A1 n1 c1 k.n) (h2 : Rd w w.heap.size A2 n2 c2 k.sig)
    (hb : n0 ≤ 9223372036854775807 ∧ n1 ≤ 9223372036854775807 ∧ n2 ≤ 9223372036854775807 ∧ k.iss.length ≤ 9223372036854775807 ∧ k.sub.length ≤ 9223372036854775807) (ha : k.from_.fits) (ht : k.to.fits) (he : k.e < 18446744073709551616) (hp : k.path < 256) (hu : k.usage < 256) :
    Calls Try.prog 21 #[k.val (.slice A0 n0 c0) (.slice A1 n1 c1) (.slice A2 n2 c2)] w (MadeR k w) := by
  have H := Lib.hid (And.intro h0 (And.intro h1 h2))
  clear h0 h1 h2
  unfold Kase.val
  have hKB : Blk (((w.alloc (.cells #[.slice A0 n0 c0, .slice A1 n1 c1, .slice A2 n2 c2, .string ⟨k.iss.toArray⟩, .string ⟨k.sub.toArray⟩,
  .int .u16 (k.from_.y : Int), .int .u8 (k.from_.mo : Int), .int .u8 (k.from_.d : Int), .int .u8 (k.from_.h : Int), .int .u8 (k.from_.mi : Int), .int .u8 (k.from_.s : Int),
  .int .u16 (k.to.y : Int), .int .u8 (k.to.mo : Int), .int .u8 (k.to.d : Int), .int .u8 (k.to.h : Int), .int .u8 (k.to.mi : Int), .int .u8 (k.to.s : Int),
  .int .u64 (k.e : Int), .bool k.ca, .bool k.code, .int .u8 (k.path : Int), .int .u8 (k.usage : Int)] 42)).alloc (.cells CV.zero.cells 32)).alloc (.cells #[.int .u8 1] 5)) w.heap.size 42 #[.slice A0 n0 c0, .slice A1 n1 c1, .slice A2 n2 c2, .string ⟨k.iss.toArray⟩, .string ⟨k.sub.toArray⟩,
  .int .u16 (k.from_.y : Int), .int .u8 (k.from_.mo : Int), .int .u8 (k.from_.d : Int), .int .u8 (k.from_.h : Int), .int .u8 (k.from_.mi : Int), .int .u8 (k.from_.s : Int),
  .int .u16 (k.to.y : Int), .int .u8 (k.to.mo : Int), .int .u8 (k.to.d : Int), .int .u8 (k.to.h : Int), .int .u8 (k.to.mi : Int), .int .u8 (k.to.s : Int),
  .int .u64 (k.e : Int), .bool k.ca, .bool k.code, .int .u8 (k.path : Int), .int .u8 (k.usage : Int)] := ((Blk.new w _ _).alloc _).alloc _
  have hRB : Bc (((w.alloc (.cells #[.slice A0 n0 c0, .slice A1 n1 c1, .slice A2 n2 c2, .string ⟨k.iss.toArray⟩, .string ⟨k.sub.toArray⟩,
  .int .u16 (k.from_.y : Int), .int .u8 (k.from_.mo : Int), .int .u8 (k.from_.d : Int), .int .u8 (k.from_.h : Int), .int .u8 (k.from_.mi : Int), .int .u8 (k.from_.s : Int),
  .int .u16 (k.to.y : Int), .int .u8 (k.to.mo : Int), .int .u8 (k.to.d : Int), .int .u8 (k.to.h : Int), .int .u8 (k.to.mi : Int), .int .u8 (k.to.s : Int),
  .int .u64 (k.e : Int), .bool k.ca, .bool k.code, .int .u8 (k.path : Int), .int .u8 (k.usage : Int)] 42)).alloc (.cells CV.zero.cells 32)).alloc (.cells #[.int .u8 1] 5)) (w.heap.size + 1) CV.zero := Blk.alloc (Blk.new' _ _ (by simp)) _
  have hO1 : OwnB (((w.alloc (.cells #[.slice A0 n0 c0, .slice A1 n1 c1, .slice A2 n2 c2, .string ⟨k.iss.toArray⟩, .string ⟨k.sub.toArray⟩,
  .int .u16 (k.from_.y : Int), .int .u8 (k.from_.mo : Int), .int .u8 (k.from_.d : Int), .int .u8 (k.from_.h : Int), .int .u8 (k.from_.mi : Int), .int .u8 (k.from_.s : Int),
  .int .u16 (k.to.y : Int), .int .u8 (k.to.mo : Int), .int .u8 (k.to.d : Int), .int .u8 (k.to.h : Int), .int .u8 (k.to.mi : Int), .int .u8 (k.to.s : Int),
  .int .u64 (k.e : Int), .bool k.ca, .bool k.code, .int .u8 (k.path : Int), .int .u8 (k.usage : Int)] 42)).alloc (.cells CV.zero.cells 32)).alloc (.cells #[.int .u8 1] 5)) ((w.alloc (.cells #[.slice A0 n0 c0, .slice A1 n1 c1, .slice A2 n2 c2, .string ⟨k.iss.toArray⟩, .string ⟨k.sub.toArray⟩,
  .int .u16 (k.from_.y : Int), .int .u8 (k.from_.mo : Int), .int .u8 (k.from_.d : Int), .int .u8 (k.from_.h : Int), .int .u8 (k.from_.mi : Int), .int .u8 (k.from_.s : Int),
  .int .u16 (k.to.y : Int), .int .u8 (k.to.mo : Int), .int .u8 (k.to.d : Int), .int .u8 (k.to.h : Int), .int .u8 (k.to.mi : Int), .int .u8 (k.to.s : Int),
  .int .u64 (k.e : Int), .bool k.ca, .bool k.code, .int .u8 (k.path : Int), .int .u8 (k.usage : Int)] 42)).alloc (.cells CV.zero.cells 32)).heap.size (((w.alloc (.cells #[.slice A0 n0 c0, .slice A1 n1 c1, .slice A2 n2 c2, .string ⟨k.iss.toArray⟩, .string ⟨k.sub.toArray⟩,
  .int .u16 (k.from_.y : Int), .int .u8 (k.from_.mo : Int), .int .u8 (k.from_.d : Int), .int .u8 (k.from_.h : Int), .int .u8 (k.from_.mi : Int), .int .u8 (k.from_.s : Int),
  .int .u16 (k.to.y : Int), .int .u8 (k.to.mo : Int), .int .u8 (k.to.d : Int), .int .u8 (k.to.h : Int), .int .u8 (k.to.mi : Int), .int .u8 (k.to.s : Int),
  .int .u64 (k.e : Int), .bool k.ca, .bool k.code, .int .u8 (k.path : Int), .int .u8 (k.usage : Int)] 42)).alloc (.cells CV.zero.cells 32)).heap.size + 1) (.slice (some ⟨((w.alloc (.cells #[.slice A0 n0 c0, .slice A1 n1 c1, .slice A2 n2 c2, .string ⟨k.iss.toArray⟩, .string ⟨k.sub.toArray⟩,
  .int .u16 (k.from_.y : Int), .int .u8 (k.from_.mo : Int), .int .u8 (k.from_.d : Int), .int .u8 (k.from_.h : Int), .int .u8 (k.from_.mi : Int), .int .u8 (k.from_.s : Int),
  .int .u16 (k.to.y : Int), .int .u8 (k.to.mo : Int), .int .u8 (k.to.d : Int), .int .u8 (k.to.h : Int), .int .u8 (k.to.mi : Int), .int .u8 (k.to.s : Int),
  .int .u64 (k.e : Int), .bool k.ca, .bool k.code, .int .u8 (k.path : Int), .int .u8 (k.usage : Int)] 42)).alloc (.cells CV.zero.cells 32)).heap.size, 0, none⟩) 1 1) [1] := OwnB.lit ((w.alloc (.cells #[.slice A0 n0 c0, .slice A1 n1 c1, .slice A2 n2 c2, .string ⟨k.iss.toArray⟩, .string ⟨k.sub.toArray⟩,
  .int .u16 (k.from_.y : Int), .int .u8 (k.from_.mo : Int), .int .u8 (k.from_.d : Int), .int .u8 (k.from_.h : Int), .int .u8 (k.from_.mi : Int), .int .u8 (k.from_.s : Int),
  .int .u16 (k.to.y : Int), .int .u8 (k.to.mo : Int), .int .u8 (k.to.d : Int), .int .u8 (k.to.h : Int), .int .u8 (k.to.mi : Int), .int .u8 (k.to.s : Int),
  .int .u64 (k.e : Int), .bool k.ca, .bool k.code, .int .u8 (k.path : Int), .int .u8 (k.usage : Int)] 42)).alloc (.cells CV.zero.cells 32)) [1] [.int .u8 1] 1 rfl rfl (by omega)
  simp only [World.size_alloc] at hO1
  have hbw : Below w.heap.size w (((w.alloc (.cells #[.slice A0 n0 c0, .slice A1 n1 c1, .slice A2 n2 c2, .string ⟨k.iss.toArray⟩, .string ⟨k.sub.toArray⟩,
  .int .u16 (k.from_.y : Int), .int .u8 (k.from_.mo : Int), .int .u8 (k.from_.d : Int), .int .u8 (k.from_.h : Int), .int .u8 (k.from_.mi : Int), .int .u8 (k.from_.s : Int),
  .int .u16 (k.to.y : Int), .int .u8 (k.to.mo : Int), .int .u8 (k.to.d : Int), .int .u8 (k.to.h : Int), .int .u8 (k.to.mi : Int), .int .u8 (k.to.s : Int),
  .int .u64 (k.e : Int), .bool k.ca, .bool k.code, .int .u8 (k.path : Int), .int .u8 (k.usage : Int)] 42)).alloc (.cells CV.zero.cells 32)).alloc (.cells #[.int .u8 1] 5)) := ((((Below.refl _ w).alloc (Nat.le_refl _) _).alloc (by simp) _).alloc (by simp; omega) _)
  have hsz : (((w.alloc (.cells #[.slice A0 n0 c0, .slice A1 n1 c1, .slice A2 n2 c2, .string ⟨k.iss.toArray⟩, .string ⟨k.sub.toArray⟩,
  .int .u16 (k.from_.y : Int), .int .u8 (k.from_.mo : Int), .int .u8 (k.from_.d : Int), .int .u8 (k.from_.h : Int), .int .u8 (k.from_.mi : Int), .int .u8 (k.from_.s : Int),
  .int .u16 (k.to.y : Int), .int .u8 (k.to.mo : Int), .int .u8 (k.to.d : Int), .int .u8 (k.to.h : Int), .int .u8 (k.to.mi : Int), .int .u8 (k.to.s : Int),
  .int .u64 (k.e : Int), .bool k.ca, .bool k.code, .int .u8 (k.path : Int), .int .u8 (k.usage : Int)] 42)).alloc (.cells CV.zero.cells 32)).alloc (.cells #[.int .u8 1] 5)).heap.size = w.heap.size + 1 + 1 + 1 := by simp
  have HS := Lib.hid (And.intro hKB (And.intro hRB (And.intro hO1 (And.intro hbw hsz))))
  clear hKB hRB hO1 hbw hsz
  go_enter Try.func21, Try.ntmps21
  go_wp2_with fail
  -- the number
  have hh0 := ((H.out.1.below HS.out.2.2.2.1).more HS.out.2.2.2.1.size)
  refine (short_any 18 A0 n0 c0 k.ser _ hh0 (by omega) (by omega)).mono ?_
  rintro en w1 ⟨S1, s1, q1, rfl, ho1, hb1⟩
  have hs1 : s1 ≤ 18 := by have h : (k.ser.take 18).length = s1 := ownB_len ho1; rw [List.length_take] at h; omega
  have hz1 := hb1.size
  rw [show ((((w.alloc (.cells #[.slice A0 n0 c0, .slice A1 n1 c1, .slice A2 n2 c2, .string ⟨k.iss.toArray⟩, .string ⟨k.sub.toArray⟩,
  .int .u16 (k.from_.y : Int), .int .u8 (k.from_.mo : Int), .int .u8 (k.from_.d : Int), .int .u8 (k.from_.h : Int), .int .u8 (k.from_.mi : Int), .int .u8 (k.from_.s : Int),
  .int .u16 (k.to.y : Int), .int .u8 (k.to.mo : Int), .int .u8 (k.to.d : Int), .int .u8 (k.to.h : Int), .int .u8 (k.to.mi : Int), .int .u8 (k.to.s : Int),
  .int .u64 (k.e : Int), .bool k.ca, .bool k.code, .int .u8 (k.path : Int), .int .u8 (k.usage : Int)] 42)).alloc (.cells CV.zero.cells 32)).alloc (.cells #[.int .u8 1] 5))).heap.size = w.heap.size + 1 + 1 + 1 from HS.out.2.2.2.2] at hz1
  have H1 := Lib.hid (And.intro ho1 (And.intro (HS.out.1.below hb1 (by first | omega | (simp; done) | (simp; omega))) (And.intro (HS.out.2.1.below hb1 (by first | omega | (simp; done) | (simp; omega))) (And.intro (HS.out.2.2.1.below hb1 (by first | omega | (simp; done) | (simp; omega))) (HS.out.2.2.2.1.trans (hb1.mono (by first | omega | (simp; done) | (simp; omega))))))))
  clear ho1 hb1 hh0
  go_wp2_with (first
    | (at_builtin
       refine wpList_app rfl (.tmp 9) (.tmp 12) rfl (w.heap.size + 1 + 1) (w.heap.size + 1 + 1 + 1) _ [1] rfl H1.out.2.2.2.1 (by omega) _ S1 s1 q1 (k.ser.take 18) rfl (H1.out.1.rdx).rds (by simp <;> omega) ?_
       intro v2 w2 ho2 hg2 hat2 hb2
       obtain ⟨S2, s2, q2, rfl, hr2⟩ := ho2.rd
       have H2 := Lib.hid (And.intro ho2 (And.intro (H1.out.2.1.below hb2 (by omega)) (And.intro (H1.out.2.2.1.below hb2 (by omega)) (H1.out.2.2.2.2.trans (hb2.mono (by omega))))))
       have hz2 := hb2.size
       have kN : w2.cell? ⟨w.heap.size, 1, none⟩ = some (.slice A1 n1 c1) := H2.out.2.1.cell 1
       clear ho2 hg2 hat2 hb2 hr2)
    | fail)
  -- the key's number
  have hh1 := ((H.out.2.1.below H2.out.2.2.2).more H2.out.2.2.2.size)
  refine (short_any 600 A1 n1 c1 k.n _ hh1 (by omega) (by omega)).mono ?_
  rintro en w3 ⟨S3, s3, q3, rfl, ho3, hb3⟩
  have hs3 : s3 ≤ 600 := by have h : (k.n.take 600).length = s3 := ownB_len ho3; rw [List.length_take] at h; omega
  have hz3 := hb3.size
  have H3 := Lib.hid (And.intro ho3 hb3)
  clear ho3 hb3 hh1
  go_wp2_with fail
  refine (refPutInt_any S3 s3 q3 (k.n.take 600) _ H3.out.1.rdx (by omega)).mono ?_
  rintro en w4 ⟨S4, s4, q4, rfl, ho4, hb4⟩
  have hs4 : s4 ≤ 601 := by have h : (Der.putInt (k.n.take 600)).length = s4 := ownB_len ho4; have h2 := putInt_len (k.n.take 600); rw [List.length_take] at h2; omega
  have hz4 := hb4.size
  have H4 := Lib.hid (And.intro ho4 hb4)
  clear ho4 hb4
  go_wp2_with fail
  refine (refInt_any S4 s4 q4 _ _ H4.out.1.rdx (by omega)).mono ?_
  rintro en w5 ⟨hb5, ⟨hno, rfl⟩ | ⟨ns, S5, s5, q5, hns, rfl, ho5⟩⟩
  · rw [int_putInt] at hno; cases hno
  rw [int_putInt] at hns
  have hnn : k.nn = ns := by unfold Kase.nn; rw [int_putInt]; exact Option.some.inj hns
  have hs5 : s5 ≤ 600 := by
    have h : ns.length = s5 := ownB_len ho5
    have h2 := trim_len (k.n.take 600)
    rw [← Option.some.inj hns] at h
    rw [List.length_take] at h2
    omega
  have hz5 := hb5.size
  have hb25 : Below w2.heap.size w2 w5 := (H3.out.2.trans (H4.out.2.mono hz3)).trans (hb5.mono (by omega))
  have H5 := Lib.hid (And.intro ho5 (And.intro (H2.out.2.1.below hb25 (by omega)) (And.intro (H2.out.2.2.1.below hb25 (by omega)) (And.intro (H2.out.2.2.2.trans (hb25.mono (by omega))) (And.intro (H2.out.1.rdx.up hb25) hnn)))))
  clear ho5 hb5 hns hnn hb25
  go_upto_region 4 with fail
  have hwz : w.heap.size < w5.heap.size := H5.out.2.1.lt
  have hser : ∀ W : World, Below w5.heap.size w5 W → Rd W W.heap.size S2 s2 q2 ([1] ++ k.ser.take 18) := fun W h => H5.out.2.2.2.2.1.up h
  have hsig : ∀ W : World, Below w5.heap.size w5 W → Rd W W.heap.size A2 n2 c2 k.sig := fun W h => (((H.out.2.2).below H5.out.2.2.2.1).more H5.out.2.2.2.1.size).up h
  refine wp_region_last 32 (MJ w5.heap.size w.heap.size k (.slice S2 s2 q2) (.slice S5 s5 q5) (.slice A2 n2 c2)) (Below w5.heap.size w5) (KR w5.heap.size) rfl (MJ.mono _ _ _ _ _ _) (fun w w' h1 h2 => h1.trans h2.1) (by show dstsOk _ 111 = true; decide +kernel) (by decide +kernel) (by decide +kernel) (by decide +kernel) (Below.refl _ _).drew ⟨?_, ?_, ?_, ?_, ?_, ?_, ?_, ?_, ?_, ?_, ?_, ?_, ?_, ?_, ?_, ?_, ?_, ?_, ?_, ?_, ?_, ?_, ?_, ?_, ?_, ?_, ?_, ?_, ?_, ?_, ?_, ?_, trivial⟩ ?_
  · intro a W hfr hG hdep; exact S_fldT rfl (by simp) (hfr 1 (by decide +kernel)) (kfld _ _).2.1 rfl
  · intro a W hfr hG hdep; have d : a.eval (.tmp 22) = .pointer (some ⟨w.heap.size, 3, none⟩) := hdep 0 (by decide +kernel); exact S_load rfl (by simp) d (load_str ((hG.cell (p := ⟨w.heap.size, 3, none⟩) hwz).trans (H5.out.2.1.cell 3))) rfl
  · intro a W hfr hG hdep; exact S_str (xs := k.iss) rfl (by simp) (hdep 1 (by decide +kernel)) (by omega) hG.size (fun v w' h => h)
  · intro a W hfr hG hdep; exact S_short (k := 200) (xs := k.iss) rfl (by simp) (hdep 2 (by decide +kernel)) rfl (by omega) (by omega) hG.size (fun v w'' ho hs => ho.rd)
  · intro a W hfr hG hdep; exact S_tostr (xs := k.iss.take 200) rfl (by simp) (hdep 3 (by decide +kernel)) rfl
  · intro a W hfr hG hdep; exact S_name (xs := k.iss.take 200) rfl (by simp) (hdep 4 (by decide +kernel)) (by rw [List.length_take]; omega) hG.size (fun v w'' ho hs => RdT.own ho)
  · intro a W hfr hG hdep; exact S_fldT rfl (by simp) (hfr 1 (by decide +kernel)) (kfld _ _).2.2.1 rfl
  · intro a W hfr hG hdep; have d : a.eval (.tmp 28) = .pointer (some ⟨w.heap.size, 4, none⟩) := hdep 6 (by decide +kernel); exact S_load rfl (by simp) d (load_str ((hG.cell (p := ⟨w.heap.size, 4, none⟩) hwz).trans (H5.out.2.1.cell 4))) rfl
  · intro a W hfr hG hdep; exact S_str (xs := k.sub) rfl (by simp) (hdep 7 (by decide +kernel)) (by omega) hG.size (fun v w' h => h)
  · intro a W hfr hG hdep; exact S_short (k := 200) (xs := k.sub) rfl (by simp) (hdep 8 (by decide +kernel)) rfl (by omega) (by omega) hG.size (fun v w'' ho hs => ho.rd)
  · intro a W hfr hG hdep; exact S_tostr (xs := k.sub.take 200) rfl (by simp) (hdep 9 (by decide +kernel)) rfl
  · intro a W hfr hG hdep; exact S_name (xs := k.sub.take 200) rfl (by simp) (hdep 10 (by decide +kernel)) (by rw [List.length_take]; omega) hG.size (fun v w'' ho hs => RdT.own ho)
  · intro a W hfr hG hdep; exact S_move rfl (by simp) (hfr 4 (by decide +kernel))
  · intro a W hfr hG hdep; exact S_putint (xs := [1] ++ k.ser.take 18) rfl (by simp) (by rw [show a.eval (.tmp 34) = .slice S2 s2 q2 from hdep 12 (by decide +kernel)]; exact RdV.mk (hser W hG)) (by rw [List.length_append, List.length_take]; simp; omega) hG.size (fun v w'' ho hs => RdT.own ho)
  · intro a W hfr hG hdep; exact S_fldT rfl (by simp) (hfr 1 (by decide +kernel)) (kfld _ _).2.2.2.1 rfl
  · intro a W hfr hG hdep; have d : a.eval (.tmp 36) = .pointer (some ⟨w.heap.size, 5, none⟩) := hdep 14 (by decide +kernel); exact S_load rfl (by simp) d (load_tm (t := k.from_) (cs := [.int .u16 (k.from_.y : Int), .int .u8 (k.from_.mo : Int), .int .u8 (k.from_.d : Int), .int .u8 (k.from_.h : Int), .int .u8 (k.from_.mi : Int), .int .u8 (k.from_.s : Int)]) rfl (fun j v hv => (hG.cell (p := ⟨w.heap.size, 5 + j, none⟩) hwz).trans ((H5.out.2.1.cell (5 + j)).trans (by match j, hv with | 0, hv | 1, hv | 2, hv | 3, hv | 4, hv | 5, hv => exact hv | j + 6, hv => simp at hv))) rfl) rfl
  · intro a W hfr hG hdep; exact S_fldT rfl (by simp) (hfr 1 (by decide +kernel)) (kfld _ _).2.2.2.2.1 rfl
  · intro a W hfr hG hdep; have d : a.eval (.tmp 38) = .pointer (some ⟨w.heap.size, 11, none⟩) := hdep 16 (by decide +kernel); exact S_load rfl (by simp) d (load_tm (t := k.to) (cs := [.int .u16 (k.to.y : Int), .int .u8 (k.to.mo : Int), .int .u8 (k.to.d : Int), .int .u8 (k.to.h : Int), .int .u8 (k.to.mi : Int), .int .u8 (k.to.s : Int)]) rfl (fun j v hv => (hG.cell (p := ⟨w.heap.size, 11 + j, none⟩) hwz).trans ((H5.out.2.1.cell (11 + j)).trans (by match j, hv with | 0, hv | 1, hv | 2, hv | 3, hv | 4, hv | 5, hv => exact hv | j + 6, hv => simp at hv))) rfl) rfl
  · intro a W hfr hG hdep; exact S_move rfl (by simp) (hfr 5 (by decide +kernel))
  · intro a W hfr hG hdep; exact S_fldT rfl (by simp) (hfr 1 (by decide +kernel)) (kfld _ _).2.2.2.2.2.1 rfl
  · intro a W hfr hG hdep; have d : a.eval (.tmp 41) = .pointer (some ⟨w.heap.size, 17, none⟩) := hdep 19 (by decide +kernel); exact S_load rfl (by simp) d (load_u64 ((hG.cell (p := ⟨w.heap.size, 17, none⟩) hwz).trans (H5.out.2.1.cell 17))) rfl
  · intro a W hfr hG hdep; exact S_rem rfl (by simp) (hdep 20 (by decide +kernel)) rfl rfl
  · intro a W hfr hG hdep; exact S_val (by simp only [execOp, List.map_toArray, List.map_cons, List.map_nil, (show a.eval (.tmp 40) = .slice S5 s5 q5 from hdep 18 (by decide +kernel)), (show a.eval (.tmp 43) = _ from hdep 21 (by decide +kernel))]; simp [run_key]) (by simp) rfl
  · intro a W hfr hG hdep; exact S_fldT rfl (by simp) (hfr 1 (by decide +kernel)) (kfld _ _).1 rfl
  · intro a W hfr hG hdep; have d : a.eval (.tmp 45) = .pointer (some ⟨w.heap.size, 2, none⟩) := hdep 23 (by decide +kernel); exact S_load rfl (by simp) d (load_fld ((hG.cell (p := ⟨w.heap.size, 2, none⟩) hwz).trans (H5.out.2.1.cell 2))) rfl
  · intro a W hfr hG hdep; exact S_short (k := 600) (xs := k.sig) rfl (by simp) (by rw [show a.eval (.tmp 46) = .slice A2 n2 c2 from hdep 24 (by decide +kernel)]; exact RdV.mk (hsig W hG)) rfl (by omega) (by have := H.out.2.2.len; omega) hG.size (fun v w'' ho hs => RdT.own ho)
  · intro a W hfr hG hdep; exact S_fldT rfl (by simp) (hfr 1 (by decide +kernel)) (kfld _ _).2.2.2.2.2.2.1 rfl
  · intro a W hfr hG hdep; have d : a.eval (.tmp 48) = .pointer (some ⟨w.heap.size, 18, none⟩) := hdep 26 (by decide +kernel); exact S_load rfl (by simp) d (load_bool ((hG.cell (p := ⟨w.heap.size, 18, none⟩) hwz).trans (H5.out.2.1.cell 18))) rfl
  · intro a W hfr hG hdep; exact S_fldT rfl (by simp) (hfr 1 (by decide +kernel)) (kfld _ _).2.2.2.2.2.2.2 rfl
  · intro a W hfr hG hdep; have d : a.eval (.tmp 50) = .pointer (some ⟨w.heap.size, 19, none⟩) := hdep 28 (by decide +kernel); exact S_load rfl (by simp) d (load_bool ((hG.cell (p := ⟨w.heap.size, 19, none⟩) hwz).trans (H5.out.2.1.cell 19))) rfl
  · intro a W hfr hG hdep; obtain ⟨R0, x0, y0, e0, r0⟩ : RdT W (a.eval (.tmp 27)) (Ref.name (k.iss.take 200)) := hdep 5 (by decide +kernel); obtain ⟨R1, x1, y1, e1, r1⟩ : RdT W (a.eval (.tmp 33)) (Ref.name (k.sub.take 200)) := hdep 11 (by decide +kernel); obtain ⟨R2, x2, y2, e2, r2⟩ : RdT W (a.eval (.tmp 35)) k.serial := hdep 13 (by decide +kernel); obtain ⟨R3, x3, y3, e3, r3⟩ : RdT W (a.eval (.tmp 47)) (k.sig.take 600) := hdep 25 (by decide +kernel); exact S_val (by simp only [execOp, List.map_toArray, List.map_cons, List.map_nil, e0, e1, e2, e3, (show a.eval (.tmp 37) = k.from_.v from hdep 15 (by decide +kernel)), (show a.eval (.tmp 39) = k.to.v from hdep 17 (by decide +kernel)), (show a.eval (.tmp 44) = .agg #[.slice S5 s5 q5, .int .u64 ((k.e % 8589934592 : Nat) : Int)] from hdep 22 (by decide +kernel)), (show a.eval (.tmp 49) = .bool k.ca from hdep 27 (by decide +kernel)), (show a.eval (.tmp 51) = .bool k.code from hdep 29 (by decide +kernel)), eval_const]; simp [run_cert, CV.val, CV.cells]) (by simp) ⟨_, _, _, _, rfl, ⟨_, _, _, rfl, r0⟩, ⟨_, _, _, rfl, r1⟩, ⟨_, _, _, rfl, r2⟩, ⟨_, _, _, rfl, r3⟩⟩
  · intro a W hfr hG hdep; exact S_newc rfl (by simp) hG.size (fun g w' h1 h2 => ⟨g, rfl, h1, h2⟩)
  · intro o ho a W hd hsz hfr hG hJ
    obtain ⟨g, hg, hBg, hgz⟩ : ∃ g, a.eval (.tmp 7) = .pointer (some ⟨g, 0, none⟩) ∧ w5.heap.size ≤ g ∧ Bc W g CV.zero := hJ 31 (by omega)
    obtain ⟨vi, vs, vr, vg, h52, ri, rs, rr, rg⟩ : ∃ vi vs vr vg, a.eval (.tmp 52) = (⟨.slice none 0 0, .slice none 0 0, vi, vs, vr, k.from_, k.to, .slice S5 s5 q5, k.e % 8589934592, vg, ⟨k.ca, -1, -1, k.code⟩⟩ : CV).val ∧ RdT W vi (Ref.name (k.iss.take 200)) ∧ RdT W vs (Ref.name (k.sub.take 200)) ∧ RdT W vr k.serial ∧ RdT W vg (k.sig.take 600) := hJ 30 (by omega)
    obtain rfl := Option.some.inj ho
    refine wp_store_cert _ _ rfl g CV.zero _ hg h52 hgz (CV.one rfl rfl (rdt_one ri) (rdt_one rs) (rdt_one rr) rfl (rdt_one rg)) ?_
    intro W' hB' hg'
    have e := arr_eta a 111 hsz hd
    rw [show (List.range 111).map (fun i => a.eval (.tmp i)) = [a.eval (.tmp 0), a.eval (.tmp 1), a.eval (.tmp 2), a.eval (.tmp 3), a.eval (.tmp 4), a.eval (.tmp 5), a.eval (.tmp 6), a.eval (.tmp 7), a.eval (.tmp 8), a.eval (.tmp 9), a.eval (.tmp 10), a.eval (.tmp 11), a.eval (.tmp 12), a.eval (.tmp 13), a.eval (.tmp 14), a.eval (.tmp 15), a.eval (.tmp 16), a.eval (.tmp 17), a.eval (.tmp 18), a.eval (.tmp 19), a.eval (.tmp 20), a.eval (.tmp 21), a.eval (.tmp 22), a.eval (.tmp 23), a.eval (.tmp 24), a.eval (.tmp 25), a.eval (.tmp 26), a.eval (.tmp 27), a.eval (.tmp 28), a.eval (.tmp 29), a.eval (.tmp 30), a.eval (.tmp 31), a.eval (.tmp 32), a.eval (.tmp 33), a.eval (.tmp 34), a.eval (.tmp 35), a.eval (.tmp 36), a.eval (.tmp 37), a.eval (.tmp 38), a.eval (.tmp 39), a.eval (.tmp 40), a.eval (.tmp 41), a.eval (.tmp 42), a.eval (.tmp 43), a.eval (.tmp 44), a.eval (.tmp 45), a.eval (.tmp 46), a.eval (.tmp 47), a.eval (.tmp 48), a.eval (.tmp 49), a.eval (.tmp 50), a.eval (.tmp 51), a.eval (.tmp 52), a.eval (.tmp 53), a.eval (.tmp 54), a.eval (.tmp 55), a.eval (.tmp 56), a.eval (.tmp 57), a.eval (.tmp 58), a.eval (.tmp 59), a.eval (.tmp 60), a.eval (.tmp 61), a.eval (.tmp 62), a.eval (.tmp 63), a.eval (.tmp 64), a.eval (.tmp 65), a.eval (.tmp 66), a.eval (.tmp 67), a.eval (.tmp 68), a.eval (.tmp 69), a.eval (.tmp 70), a.eval (.tmp 71), a.eval (.tmp 72), a.eval (.tmp 73), a.eval (.tmp 74), a.eval (.tmp 75), a.eval (.tmp 76), a.eval (.tmp 77), a.eval (.tmp 78), a.eval (.tmp 79), a.eval (.tmp 80), a.eval (.tmp 81), a.eval (.tmp 82), a.eval (.tmp 83), a.eval (.tmp 84), a.eval (.tmp 85), a.eval (.tmp 86), a.eval (.tmp 87), a.eval (.tmp 88), a.eval (.tmp 89), a.eval (.tmp 90), a.eval (.tmp 91), a.eval (.tmp 92), a.eval (.tmp 93), a.eval (.tmp 94), a.eval (.tmp 95), a.eval (.tmp 96), a.eval (.tmp 97), a.eval (.tmp 98), a.eval (.tmp 99), a.eval (.tmp 100), a.eval (.tmp 101), a.eval (.tmp 102), a.eval (.tmp 103), a.eval (.tmp 104), a.eval (.tmp 105), a.eval (.tmp 106), a.eval (.tmp 107), a.eval (.tmp 108), a.eval (.tmp 109), a.eval (.tmp 110)] from rfl] at e
    rw [show a.eval (.tmp 1) = .pointer (some ⟨w.heap.size, 0, none⟩) from hfr 1 (by decide +kernel)] at e
    rw [show a.eval (.tmp 2) = .pointer (some ⟨w.heap.size + 1, 0, none⟩) from hfr 2 (by decide +kernel)] at e
    rw [show a.eval (.tmp 3) = .slice none 0 0 from hfr 3 (by decide +kernel)] at e
    rw [show a.eval (.tmp 4) = .slice S2 s2 q2 from hfr 4 (by decide +kernel)] at e
    rw [show a.eval (.tmp 5) = .slice S5 s5 q5 from hfr 5 (by decide +kernel)] at e
    rw [show a.eval (.tmp 6) = .bool true from hfr 6 (by decide +kernel)] at e
    rw [hg] at e
    generalize a.eval (.tmp 0) = u0 at e
    generalize a.eval (.tmp 8) = u8 at e
    generalize a.eval (.tmp 9) = u9 at e
    generalize a.eval (.tmp 10) = u10 at e
    generalize a.eval (.tmp 11) = u11 at e
    generalize a.eval (.tmp 12) = u12 at e
    generalize a.eval (.tmp 13) = u13 at e
    generalize a.eval (.tmp 14) = u14 at e
    generalize a.eval (.tmp 15) = u15 at e
    generalize a.eval (.tmp 16) = u16 at e
    generalize a.eval (.tmp 17) = u17 at e
    generalize a.eval (.tmp 18) = u18 at e
    generalize a.eval (.tmp 19) = u19 at e
    generalize a.eval (.tmp 20) = u20 at e
    generalize a.eval (.tmp 21) = u21 at e
    generalize a.eval (.tmp 22) = u22 at e
    generalize a.eval (.tmp 23) = u23 at e
    generalize a.eval (.tmp 24) = u24 at e
    generalize a.eval (.tmp 25) = u25 at e
    generalize a.eval (.tmp 26) = u26 at e
    generalize a.eval (.tmp 27) = u27 at e
    generalize a.eval (.tmp 28) = u28 at e
    generalize a.eval (.tmp 29) = u29 at e
    generalize a.eval (.tmp 30) = u30 at e
    generalize a.eval (.tmp 31) = u31 at e
    generalize a.eval (.tmp 32) = u32 at e
    generalize a.eval (.tmp 33) = u33 at e
    generalize a.eval (.tmp 34) = u34 at e
    generalize a.eval (.tmp 35) = u35 at e
    generalize a.eval (.tmp 36) = u36 at e
    generalize a.eval (.tmp 37) = u37 at e
    generalize a.eval (.tmp 38) = u38 at e
    generalize a.eval (.tmp 39) = u39 at e
    generalize a.eval (.tmp 40) = u40 at e
    generalize a.eval (.tmp 41) = u41 at e
    generalize a.eval (.tmp 42) = u42 at e
    generalize a.eval (.tmp 43) = u43 at e
    generalize a.eval (.tmp 44) = u44 at e
    generalize a.eval (.tmp 45) = u45 at e
    generalize a.eval (.tmp 46) = u46 at e
    generalize a.eval (.tmp 47) = u47 at e
    generalize a.eval (.tmp 48) = u48 at e
    generalize a.eval (.tmp 49) = u49 at e
    generalize a.eval (.tmp 50) = u50 at e
    generalize a.eval (.tmp 51) = u51 at e
    generalize a.eval (.tmp 53) = u53 at e
    generalize a.eval (.tmp 54) = u54 at e
    generalize a.eval (.tmp 55) = u55 at e
    generalize a.eval (.tmp 56) = u56 at e
    generalize a.eval (.tmp 57) = u57 at e
    generalize a.eval (.tmp 58) = u58 at e
    generalize a.eval (.tmp 59) = u59 at e
    generalize a.eval (.tmp 60) = u60 at e
    generalize a.eval (.tmp 61) = u61 at e
    generalize a.eval (.tmp 62) = u62 at e
    generalize a.eval (.tmp 63) = u63 at e
    generalize a.eval (.tmp 64) = u64 at e
    generalize a.eval (.tmp 65) = u65 at e
    generalize a.eval (.tmp 66) = u66 at e
    generalize a.eval (.tmp 67) = u67 at e
    generalize a.eval (.tmp 68) = u68 at e
    generalize a.eval (.tmp 69) = u69 at e
    generalize a.eval (.tmp 70) = u70 at e
    generalize a.eval (.tmp 71) = u71 at e
    generalize a.eval (.tmp 72) = u72 at e
    generalize a.eval (.tmp 73) = u73 at e
    generalize a.eval (.tmp 74) = u74 at e
    generalize a.eval (.tmp 75) = u75 at e
    generalize a.eval (.tmp 76) = u76 at e
    generalize a.eval (.tmp 77) = u77 at e
    generalize a.eval (.tmp 78) = u78 at e
    generalize a.eval (.tmp 79) = u79 at e
    generalize a.eval (.tmp 80) = u80 at e
    generalize a.eval (.tmp 81) = u81 at e
    generalize a.eval (.tmp 82) = u82 at e
    generalize a.eval (.tmp 83) = u83 at e
    generalize a.eval (.tmp 84) = u84 at e
    generalize a.eval (.tmp 85) = u85 at e
    generalize a.eval (.tmp 86) = u86 at e
    generalize a.eval (.tmp 87) = u87 at e
    generalize a.eval (.tmp 88) = u88 at e
    generalize a.eval (.tmp 89) = u89 at e
    generalize a.eval (.tmp 90) = u90 at e
    generalize a.eval (.tmp 91) = u91 at e
    generalize a.eval (.tmp 92) = u92 at e
    generalize a.eval (.tmp 93) = u93 at e
    generalize a.eval (.tmp 94) = u94 at e
    generalize a.eval (.tmp 95) = u95 at e
    generalize a.eval (.tmp 96) = u96 at e
    generalize a.eval (.tmp 97) = u97 at e
    generalize a.eval (.tmp 98) = u98 at e
    generalize a.eval (.tmp 99) = u99 at e
    generalize a.eval (.tmp 100) = u100 at e
    generalize a.eval (.tmp 101) = u101 at e
    generalize a.eval (.tmp 102) = u102 at e
    generalize a.eval (.tmp 103) = u103 at e
    generalize a.eval (.tmp 104) = u104 at e
    generalize a.eval (.tmp 105) = u105 at e
    generalize a.eval (.tmp 106) = u106 at e
    generalize a.eval (.tmp 107) = u107 at e
    generalize a.eval (.tmp 108) = u108 at e
    generalize a.eval (.tmp 109) = u109 at e
    generalize a.eval (.tmp 110) = u110 at e
    rw [h52] at e
    dsimp only at e
    show (Exit.then _ _) .normal (a.put none undef) W'
    simp only [Exit.then, Act.put]
    apply_assumption
    rw [e]
    have hn5 : RdT W (.slice S5 s5 q5) k.nn := (RdT.own (H5.out.1.mono (Nat.le_refl _) (Nat.le_refl _))).below hG |> fun h => by rw [H5.out.2.2.2.2.2]; exact h
    have hMS : MS w W' #[.slice A0 n0 c0, .slice A1 n1 c1, .slice A2 n2 c2, .string ⟨k.iss.toArray⟩, .string ⟨k.sub.toArray⟩, .int .u16 (k.from_.y : Int), .int .u8 (k.from_.mo : Int), .int .u8 (k.from_.d : Int), .int .u8 (k.from_.h : Int), .int .u8 (k.from_.mi : Int), .int .u8 (k.from_.s : Int), .int .u16 (k.to.y : Int), .int .u8 (k.to.mo : Int), .int .u8 (k.to.d : Int), .int .u8 (k.to.h : Int), .int .u8 (k.to.mi : Int), .int .u8 (k.to.s : Int), .int .u64 (k.e : Int), .bool k.ca, .bool k.code, .int .u8 (k.path : Int), .int .u8 (k.usage : Int)] g ⟨.slice none 0 0, .slice none 0 0, vi, vs, vr, k.from_, k.to, .slice S5 s5 q5, k.e % 8589934592, vg, ⟨k.ca, -1, -1, k.code⟩⟩ k.nn (Ref.name (k.iss.take 200)) (Ref.name (k.sub.take 200)) k.serial (k.sig.take 600) :=
      ⟨(H5.out.2.2.2.1.trans (hG.mono (by omega))).grown hg' (by have := hg'.size; have := hG.size; omega) (fun j hj => by cases hj; omega), (H5.out.2.1.below hG hwz).grown hg' (fun e => by injection e with e; omega), Blk.grown (H5.out.2.2.1.below hG H5.out.2.2.1.lt) hg' (fun e => by injection e with e; have := H5.out.2.2.1.lt; omega), hB', by have := H5.out.2.2.1.lt; omega,
        hn5.far hg' hgz, ri.far hg' hgz, rs.far hg' hgz, rr.far hg' hgz, rg.far hg' hgz⟩
    have HM := Lib.hid hMS
    clear hMS hn5 ri rs rr rg hB' hg' hgz hG hJ hfr hsz hd H1 H2 H3 H4 H5 hser hsig h52 hg
    obtain ⟨KC, hKC⟩ : ∃ KC : Array Value, #[.slice A0 n0 c0, .slice A1 n1 c1, .slice A2 n2 c2, .string ⟨k.iss.toArray⟩, .string ⟨k.sub.toArray⟩, .int .u16 (k.from_.y : Int), .int .u8 (k.from_.mo : Int), .int .u8 (k.from_.d : Int), .int .u8 (k.from_.h : Int), .int .u8 (k.from_.mi : Int), .int .u8 (k.from_.s : Int), .int .u16 (k.to.y : Int), .int .u8 (k.to.mo : Int), .int .u8 (k.to.d : Int), .int .u8 (k.to.h : Int), .int .u8 (k.to.mi : Int), .int .u8 (k.to.s : Int), .int .u64 (k.e : Int), .bool k.ca, .bool k.code, .int .u8 (k.path : Int), .int .u8 (k.usage : Int)] = KC := ⟨_, rfl⟩
    rw [hKC] at HM
    have HKC := Lib.hid hKC.symm
    clear hKC HS
    -- from
    refine wp_seq_k fun K1 hK1 => ?_
    go_cut [] from 8 (fun wx => MS w wx KC g ({(⟨.slice none 0 0, .slice none 0 0, vi, vs, vr, k.from_, k.to, .slice S5 s5 q5, k.e % 8589934592, vg, ⟨k.ca, -1, -1, k.code⟩⟩ : CV) with from_ := k.start} : CV) k.nn (Ref.name (k.iss.take 200)) (Ref.name (k.sub.take 200)) k.serial (k.sig.take 600))
    case first =>
      have HBc := Lib.hid HM.out.2.2.2.1
      have f0 : W'.cell? ⟨g, 5, none⟩ = some (.int .u16 (k.from_.y : Int)) := HBc.out.at_ 5
      have fz0 := HBc.out.frozen 5
      have f1 : W'.cell? ⟨g, 6, none⟩ = some (.int .u8 (k.from_.mo : Int)) := HBc.out.at_ 6
      have fz1 := HBc.out.frozen 6
      have f2 : W'.cell? ⟨g, 7, none⟩ = some (.int .u8 (k.from_.d : Int)) := HBc.out.at_ 7
      have fz2 := HBc.out.frozen 7
      have f3 : W'.cell? ⟨g, 8, none⟩ = some (.int .u8 (k.from_.h : Int)) := HBc.out.at_ 8
      have fz3 := HBc.out.frozen 8
      have f4 : W'.cell? ⟨g, 9, none⟩ = some (.int .u8 (k.from_.mi : Int)) := HBc.out.at_ 9
      have fz4 := HBc.out.frozen 9
      have f5 : W'.cell? ⟨g, 10, none⟩ = some (.int .u8 (k.from_.s : Int)) := HBc.out.at_ 10
      have fz5 := HBc.out.frozen 10
      go_wp2_with fail
      refine (rright_any k.from_ _ ha).mono ?_
      rintro en w6 ⟨rfl, hb6⟩
      obtain ⟨q, hq⟩ : ∃ q, Stamp.right k.from_ = q := ⟨_, rfl⟩
      rw [hq]
      have HM6 := Lib.hid (HM.out.below hb6)
      have HQ := Lib.hid hq
      clear hb6 hq f0 fz0 f1 fz1 f2 fz2 f3 fz3 f4 fz4 f5 fz5 HBc
      cases q
      · have HBc := Lib.hid HM6.out.2.2.2.1
        have f0 : w6.cell? ⟨g, 5, none⟩ = some (.int .u16 (k.from_.y : Int)) := HBc.out.at_ 5
        have fz0 := HBc.out.frozen 5
        have f1 : w6.cell? ⟨g, 6, none⟩ = some (.int .u8 (k.from_.mo : Int)) := HBc.out.at_ 6
        have fz1 := HBc.out.frozen 6
        have f2 : w6.cell? ⟨g, 7, none⟩ = some (.int .u8 (k.from_.d : Int)) := HBc.out.at_ 7
        have fz2 := HBc.out.frozen 7
        have f3 : w6.cell? ⟨g, 8, none⟩ = some (.int .u8 (k.from_.h : Int)) := HBc.out.at_ 8
        have fz3 := HBc.out.frozen 8
        have f4 : w6.cell? ⟨g, 9, none⟩ = some (.int .u8 (k.from_.mi : Int)) := HBc.out.at_ 9
        have fz4 := HBc.out.frozen 9
        have f5 : w6.cell? ⟨g, 10, none⟩ = some (.int .u8 (k.from_.s : Int)) := HBc.out.at_ 10
        have fz5 := HBc.out.frozen 10
        go_wp2_with fail
        go_meet
        have hst : k.start = ⟨2020, 1, 1, 0, 0, 0⟩ := by unfold Kase.start; rw [HQ.out]; rfl
        rw [hst]
        exact HM6.out.grown ((((((grown_put _ ⟨g, 5, none⟩ _).trans (grown_put _ ⟨g, 6, none⟩ _)).trans (grown_put _ ⟨g, 7, none⟩ _)).trans (grown_put _ ⟨g, 8, none⟩ _)).trans (grown_put _ ⟨g, 9, none⟩ _)).trans (grown_put _ ⟨g, 10, none⟩ _)) (HBc.out.time5 ⟨2020, 1, 1, 0, 0, 0⟩) rfl rfl rfl rfl rfl
      · go_wp2_with fail
        go_meet
        have hst : k.start = k.from_ := by unfold Kase.start; rw [HQ.out]; rfl
        rw [hst]
        exact HM6.out
    obtain ⟨w7, hw7⟩ : ∃ w7, w7 = wc := ⟨_, rfl⟩
    subst hw7
    have HM7 := Lib.hid hcut
    clear hcut HM
    apply_assumption
    -- to
    refine wp_seq_k fun K2 hK2 => ?_
    go_cut [] from 8 (fun wx => MS w wx KC g ({(⟨.slice none 0 0, .slice none 0 0, vi, vs, vr, k.from_, k.to, .slice S5 s5 q5, k.e % 8589934592, vg, ⟨k.ca, -1, -1, k.code⟩⟩ : CV) with from_ := k.start, to := k.stop} : CV) k.nn (Ref.name (k.iss.take 200)) (Ref.name (k.sub.take 200)) k.serial (k.sig.take 600))
    case first =>
      have HBc := Lib.hid HM7.out.2.2.2.1
      have t0 : w7.cell? ⟨g, 11, none⟩ = some (.int .u16 (k.to.y : Int)) := HBc.out.at_ 11
      have tz0 := HBc.out.frozen 11
      have t1 : w7.cell? ⟨g, 12, none⟩ = some (.int .u8 (k.to.mo : Int)) := HBc.out.at_ 12
      have tz1 := HBc.out.frozen 12
      have t2 : w7.cell? ⟨g, 13, none⟩ = some (.int .u8 (k.to.d : Int)) := HBc.out.at_ 13
      have tz2 := HBc.out.frozen 13
      have t3 : w7.cell? ⟨g, 14, none⟩ = some (.int .u8 (k.to.h : Int)) := HBc.out.at_ 14
      have tz3 := HBc.out.frozen 14
      have t4 : w7.cell? ⟨g, 15, none⟩ = some (.int .u8 (k.to.mi : Int)) := HBc.out.at_ 15
      have tz4 := HBc.out.frozen 15
      have t5 : w7.cell? ⟨g, 16, none⟩ = some (.int .u8 (k.to.s : Int)) := HBc.out.at_ 16
      have tz5 := HBc.out.frozen 16
      go_wp2_with fail
      refine (rright_any k.to _ ht).mono ?_
      rintro en w8 ⟨rfl, hb8⟩
      obtain ⟨q, hq⟩ : ∃ q, Stamp.right k.to = q := ⟨_, rfl⟩
      rw [hq]
      have HM8 := Lib.hid (HM7.out.below hb8)
      have HQ := Lib.hid hq
      clear hb8 hq t0 tz0 t1 tz1 t2 tz2 t3 tz3 t4 tz4 t5 tz5 HBc
      cases q
      · have hst : k.stop = k.start := by unfold Kase.stop; rw [HQ.out]; rfl
        have HBc := Lib.hid HM8.out.2.2.2.1
        have f0 : w8.cell? ⟨g, 5, none⟩ = some (.int .u16 (k.start.y : Int)) := HBc.out.at_ 5
        have fz0 := HBc.out.frozen 5
        have f1 : w8.cell? ⟨g, 6, none⟩ = some (.int .u8 (k.start.mo : Int)) := HBc.out.at_ 6
        have fz1 := HBc.out.frozen 6
        have f2 : w8.cell? ⟨g, 7, none⟩ = some (.int .u8 (k.start.d : Int)) := HBc.out.at_ 7
        have fz2 := HBc.out.frozen 7
        have f3 : w8.cell? ⟨g, 8, none⟩ = some (.int .u8 (k.start.h : Int)) := HBc.out.at_ 8
        have fz3 := HBc.out.frozen 8
        have f4 : w8.cell? ⟨g, 9, none⟩ = some (.int .u8 (k.start.mi : Int)) := HBc.out.at_ 9
        have fz4 := HBc.out.frozen 9
        have f5 : w8.cell? ⟨g, 10, none⟩ = some (.int .u8 (k.start.s : Int)) := HBc.out.at_ 10
        have fz5 := HBc.out.frozen 10
        have t0 : w8.cell? ⟨g, 11, none⟩ = some (.int .u16 (k.to.y : Int)) := HBc.out.at_ 11
        have tz0 := HBc.out.frozen 11
        have t1 : w8.cell? ⟨g, 12, none⟩ = some (.int .u8 (k.to.mo : Int)) := HBc.out.at_ 12
        have tz1 := HBc.out.frozen 12
        have t2 : w8.cell? ⟨g, 13, none⟩ = some (.int .u8 (k.to.d : Int)) := HBc.out.at_ 13
        have tz2 := HBc.out.frozen 13
        have t3 : w8.cell? ⟨g, 14, none⟩ = some (.int .u8 (k.to.h : Int)) := HBc.out.at_ 14
        have tz3 := HBc.out.frozen 14
        have t4 : w8.cell? ⟨g, 15, none⟩ = some (.int .u8 (k.to.mi : Int)) := HBc.out.at_ 15
        have tz4 := HBc.out.frozen 15
        have t5 : w8.cell? ⟨g, 16, none⟩ = some (.int .u8 (k.to.s : Int)) := HBc.out.at_ 16
        have tz5 := HBc.out.frozen 16
        go_wp2_with fail
        go_meet
        rw [hst]
        exact HM8.out.grown ((((((grown_put _ ⟨g, 11, none⟩ _).trans (grown_put _ ⟨g, 12, none⟩ _)).trans (grown_put _ ⟨g, 13, none⟩ _)).trans (grown_put _ ⟨g, 14, none⟩ _)).trans (grown_put _ ⟨g, 15, none⟩ _)).trans (grown_put _ ⟨g, 16, none⟩ _)) (HBc.out.time11 k.start) rfl rfl rfl rfl rfl

      · have HBc := Lib.hid HM8.out.2.2.2.1
        have f0 : w8.cell? ⟨g, 5, none⟩ = some (.int .u16 (k.start.y : Int)) := HBc.out.at_ 5
        have fz0 := HBc.out.frozen 5
        have f1 : w8.cell? ⟨g, 6, none⟩ = some (.int .u8 (k.start.mo : Int)) := HBc.out.at_ 6
        have fz1 := HBc.out.frozen 6
        have f2 : w8.cell? ⟨g, 7, none⟩ = some (.int .u8 (k.start.d : Int)) := HBc.out.at_ 7
        have fz2 := HBc.out.frozen 7
        have f3 : w8.cell? ⟨g, 8, none⟩ = some (.int .u8 (k.start.h : Int)) := HBc.out.at_ 8
        have fz3 := HBc.out.frozen 8
        have f4 : w8.cell? ⟨g, 9, none⟩ = some (.int .u8 (k.start.mi : Int)) := HBc.out.at_ 9
        have fz4 := HBc.out.frozen 9
        have f5 : w8.cell? ⟨g, 10, none⟩ = some (.int .u8 (k.start.s : Int)) := HBc.out.at_ 10
        have fz5 := HBc.out.frozen 10
        have t0 : w8.cell? ⟨g, 11, none⟩ = some (.int .u16 (k.to.y : Int)) := HBc.out.at_ 11
        have tz0 := HBc.out.frozen 11
        have t1 : w8.cell? ⟨g, 12, none⟩ = some (.int .u8 (k.to.mo : Int)) := HBc.out.at_ 12
        have tz1 := HBc.out.frozen 12
        have t2 : w8.cell? ⟨g, 13, none⟩ = some (.int .u8 (k.to.d : Int)) := HBc.out.at_ 13
        have tz2 := HBc.out.frozen 13
        have t3 : w8.cell? ⟨g, 14, none⟩ = some (.int .u8 (k.to.h : Int)) := HBc.out.at_ 14
        have tz3 := HBc.out.frozen 14
        have t4 : w8.cell? ⟨g, 15, none⟩ = some (.int .u8 (k.to.mi : Int)) := HBc.out.at_ 15
        have tz4 := HBc.out.frozen 15
        have t5 : w8.cell? ⟨g, 16, none⟩ = some (.int .u8 (k.to.s : Int)) := HBc.out.at_ 16
        have tz5 := HBc.out.frozen 16
        go_wp2_with fail
        refine (rless_any k.to k.start ht (start_fits k ha) _).mono ?_
        rintro en w9 ⟨rfl, hb9⟩
        obtain ⟨q, hq⟩ : ∃ q, Stamp.less k.to k.start = q := ⟨_, rfl⟩
        rw [hq]
        have HM9 := Lib.hid (HM8.out.below hb9)
        have HQ2 := Lib.hid hq
        clear hb9 hq t0 tz0 t1 tz1 t2 tz2 t3 tz3 t4 tz4 t5 tz5 f0 fz0 f1 fz1 f2 fz2 f3 fz3 f4 fz4 f5 fz5 HBc
        cases q
        · have hst : k.stop = k.to := by unfold Kase.stop; rw [HQ.out, HQ2.out]; rfl
          go_wp2_with fail
          go_meet
          rw [hst]
          exact HM9.out
        · have hst : k.stop = k.start := by unfold Kase.stop; rw [HQ.out, HQ2.out]; rfl
          have HBc := Lib.hid HM9.out.2.2.2.1
          have f0 : w9.cell? ⟨g, 5, none⟩ = some (.int .u16 (k.start.y : Int)) := HBc.out.at_ 5
          have fz0 := HBc.out.frozen 5
          have f1 : w9.cell? ⟨g, 6, none⟩ = some (.int .u8 (k.start.mo : Int)) := HBc.out.at_ 6
          have fz1 := HBc.out.frozen 6
          have f2 : w9.cell? ⟨g, 7, none⟩ = some (.int .u8 (k.start.d : Int)) := HBc.out.at_ 7
          have fz2 := HBc.out.frozen 7
          have f3 : w9.cell? ⟨g, 8, none⟩ = some (.int .u8 (k.start.h : Int)) := HBc.out.at_ 8
          have fz3 := HBc.out.frozen 8
          have f4 : w9.cell? ⟨g, 9, none⟩ = some (.int .u8 (k.start.mi : Int)) := HBc.out.at_ 9
          have fz4 := HBc.out.frozen 9
          have f5 : w9.cell? ⟨g, 10, none⟩ = some (.int .u8 (k.start.s : Int)) := HBc.out.at_ 10
          have fz5 := HBc.out.frozen 10
          have t0 : w9.cell? ⟨g, 11, none⟩ = some (.int .u16 (k.to.y : Int)) := HBc.out.at_ 11
          have tz0 := HBc.out.frozen 11
          have t1 : w9.cell? ⟨g, 12, none⟩ = some (.int .u8 (k.to.mo : Int)) := HBc.out.at_ 12
          have tz1 := HBc.out.frozen 12
          have t2 : w9.cell? ⟨g, 13, none⟩ = some (.int .u8 (k.to.d : Int)) := HBc.out.at_ 13
          have tz2 := HBc.out.frozen 13
          have t3 : w9.cell? ⟨g, 14, none⟩ = some (.int .u8 (k.to.h : Int)) := HBc.out.at_ 14
          have tz3 := HBc.out.frozen 14
          have t4 : w9.cell? ⟨g, 15, none⟩ = some (.int .u8 (k.to.mi : Int)) := HBc.out.at_ 15
          have tz4 := HBc.out.frozen 15
          have t5 : w9.cell? ⟨g, 16, none⟩ = some (.int .u8 (k.to.s : Int)) := HBc.out.at_ 16
          have tz5 := HBc.out.frozen 16
          go_wp2_with fail
          go_meet
          rw [hst]
          exact HM9.out.grown ((((((grown_put _ ⟨g, 11, none⟩ _).trans (grown_put _ ⟨g, 12, none⟩ _)).trans (grown_put _ ⟨g, 13, none⟩ _)).trans (grown_put _ ⟨g, 14, none⟩ _)).trans (grown_put _ ⟨g, 15, none⟩ _)).trans (grown_put _ ⟨g, 16, none⟩ _)) (HBc.out.time11 k.start) rfl rfl rfl rfl rfl

    obtain ⟨w10, hw10⟩ : ∃ w10, w10 = wc := ⟨_, rfl⟩
    subst hw10
    have HM10 := Lib.hid hcut
    clear hcut HM7
    apply_assumption
    -- the path
    have HM10' : Hid (MS w w10 KC g (⟨.slice none 0 0, .slice none 0 0, vi, vs, vr, k.start, k.stop, .slice S5 s5 q5, k.e % 8589934592, vg, ⟨k.ca, -1, -1, k.code⟩⟩ : CV) k.nn (Ref.name (k.iss.take 200)) (Ref.name (k.sub.take 200)) k.serial (k.sig.take 600)) := HM10
    clear HM10
    obtain ⟨PP, hPP⟩ : ∃ PP : Int, (if k.ca && decide (0 < k.path) then (k.path : Int) - 1 else -1) = PP := ⟨_, rfl⟩
    have HPP := Lib.hid hPP
    clear hPP
    refine wp_seq_k fun K3 hK3 => ?_
    go_cut [] from 8 (fun wx => MS w wx KC g (⟨.slice none 0 0, .slice none 0 0, vi, vs, vr, k.start, k.stop, .slice S5 s5 q5, k.e % 8589934592, vg, ⟨k.ca, PP, -1, k.code⟩⟩ : CV) k.nn (Ref.name (k.iss.take 200)) (Ref.name (k.sub.take 200)) k.serial (k.sig.take 600))
    case first =>
      obtain ⟨ca, hca⟩ : ∃ ca, k.ca = ca := ⟨_, rfl⟩
      have kc18 : w10.cell? ⟨w.heap.size, 18, none⟩ = some (.bool k.ca) := ((HM10'.out.2.1).cell 18).trans (by rw [HKC.out]; rfl)
      have kc20 : w10.cell? ⟨w.heap.size, 20, none⟩ = some (.int .u8 (k.path : Int)) := ((HM10'.out.2.1).cell 20).trans (by rw [HKC.out]; rfl)
      have c21 : w10.cell? ⟨g, 21, none⟩ = some (.int .i64 (-1)) := HM10'.out.2.2.2.1.at_ 21
      have z21 := HM10'.out.2.2.2.1.frozen 21
      rw [hca] at kc18
      have HCA := Lib.hid hca
      clear hca
      cases ca
      · have hp_ : PP = -1 := by rw [← HPP.out, HCA.out]; rfl
        go_wp2_with fail
        go_meet
        rw [hp_]
        exact HM10'.out
      · by_cases hpos : 0 < k.path
        · have hpos' : (0 : Int) < (k.path : Int) := by omega
          have hp_ : PP = (k.path : Int) - 1 := by rw [← HPP.out, HCA.out]; simp [hpos]
          have HP_ := Lib.hid hp_
          clear hp_
          go_wp2_with fail
          go_meet
          rw [HP_.out]
          exact HM10'.out.grown (grown_put _ ⟨g, 21, none⟩ _) (HM10'.out.2.2.2.1.path _) rfl rfl rfl rfl rfl
        · have hpos' : ¬ (0 : Int) < (k.path : Int) := by omega
          have hp_ : PP = -1 := by rw [← HPP.out]; simp [hpos]
          have HP_ := Lib.hid hp_
          clear hp_
          go_wp2_with fail
          go_meet
          rw [HP_.out]
          exact HM10'.out
    obtain ⟨w11, hw11⟩ : ∃ w11, w11 = wc := ⟨_, rfl⟩
    subst hw11
    have HM11 := Lib.hid hcut
    clear hcut HM10'
    apply_assumption
    -- the usage
    obtain ⟨UU, hUU⟩ : ∃ UU : Int, (if 0 < k.usage then 2 * (k.usage : Int) + (k.usage % 2 : Nat) else -1) = UU := ⟨_, rfl⟩
    have HUU := Lib.hid hUU
    clear hUU
    refine wp_seq_k fun K4 hK4 => ?_
    go_cut [] from 8 (fun wx => MS w wx KC g (⟨.slice none 0 0, .slice none 0 0, vi, vs, vr, k.start, k.stop, .slice S5 s5 q5, k.e % 8589934592, vg, ⟨k.ca, PP, UU, k.code⟩⟩ : CV) k.nn (Ref.name (k.iss.take 200)) (Ref.name (k.sub.take 200)) k.serial (k.sig.take 600))
    case first =>
      have kc21 : w11.cell? ⟨w.heap.size, 21, none⟩ = some (.int .u8 (k.usage : Int)) := ((HM11.out.2.1).cell 21).trans (by rw [HKC.out]; rfl)
      have c22 : w11.cell? ⟨g, 22, none⟩ = some (.int .i64 (-1)) := HM11.out.2.2.2.1.at_ 22
      have z22 := HM11.out.2.2.2.1.frozen 22
      by_cases hpos : 0 < k.usage
      · have hpos' : (0 : Int) < (k.usage : Int) := by omega
        have HU_ : Hid (2 * (k.usage : Int) + (k.usage : Int) % 2 = UU) := Lib.hid (by rw [← HUU.out, if_pos hpos]; omega)
        go_wp2_with fail
        go_meet
        rw [← HU_.out]
        exact HM11.out.grown (grown_put _ ⟨g, 22, none⟩ _) (HM11.out.2.2.2.1.usage _) rfl rfl rfl rfl rfl
      · have hpos' : ¬ (0 : Int) < (k.usage : Int) := by omega
        have HU_ : Hid (UU = -1) := Lib.hid (by rw [← HUU.out, if_neg hpos])
        go_wp2_with fail
        go_meet
        rw [HU_.out]
        exact HM11.out
    obtain ⟨w12, hw12⟩ : ∃ w12, w12 = wc := ⟨_, rfl⟩
    subst hw12
    have hfl : (⟨k.ca, PP, UU, k.code⟩ : Fl) = k.fl := by rw [← HPP.out, ← HUU.out]; rfl
    rw [hfl] at hcut
    have HM12 := Lib.hid hcut
    clear hcut HM11 hfl HPP HUU
    apply_assumption
    -- the signed part
    clear HKC
    obtain ⟨hb12, hk12, hr12, hc12, hg12, rn, ri, rs, rr, rg⟩ := HM12.out
    obtain ⟨Ai, ni, ci, rfl, pi_, _⟩ := ri
    obtain ⟨As, ns, cs, rfl, ps, _⟩ := rs
    obtain ⟨Ar, nr, cr, rfl, pr, _⟩ := rr
    obtain ⟨Ag, ng, cg, rfl, pg, _⟩ := rg
    obtain ⟨An, nn, cn, en_, pn, _⟩ := rn
    injection en_ with en1 en2 en3
    subst en1 en2 en3
    have li := pi_.len
    have ls := ps.len
    have lr := pr.len
    have ln := pn.len
    have lg := pg.len
    have hl1 := name_len (k.iss.take 200) (by rw [List.length_take]; omega)
    have hl2 := name_len (k.sub.take 200) (by rw [List.length_take]; omega)
    have hl3 : k.serial.length ≤ 20 := by
      have h1 := putInt_len ([1] ++ k.ser.take 18)
      rw [List.length_append, List.length_singleton, List.length_take] at h1
      unfold Kase.serial
      omega
    have hl4 : k.nn.length ≤ 600 := by
      unfold Kase.nn
      rw [int_putInt]
      have := trim_len (k.n.take 600)
      rw [List.length_take] at this
      simp only [Option.getD_some]
      omega
    have hl5 : (k.sig.take 600).length ≤ 600 := by rw [List.length_take]; omega
    have htl : k.tbs.length ≤ 4000 := tbs_len _ _ _ _ _ _ _ _ hl1 hl2 hl3 hl4
    have HL := Lib.hid (And.intro htl hl5)
    have hc1 : w12.cell? ⟨g, 1, none⟩ = some (.slice none 0 0) := hc12.at_ 1
    have hT := refTbs_any (.slice none 0 0) (.slice none 0 0) (.slice Ag ng cg) Ai As Ar S5 ni ci ns cs nr cr s5 q5 (Ref.name (k.iss.take 200)) (Ref.name (k.sub.take 200)) k.serial k.nn k.start k.stop (k.e % 8589934592) k.fl w12 rfl rfl rfl pi_ ps pr pn (by omega) (by omega) (by omega) (by omega) (start_fits k ha) (stop_fits k ha ht) (by omega) (fl_path k hp) (fl_usage k hu)
    have HT := Lib.hid (And.intro hc12 hT)
    have HPG := Lib.hid pg
    clear pi_ ps pr pn pg li ls lr ln hl1 hl2 hl3 hl4 hl5 htl hT hc12 hb12 hk12 hr12 hc1
    go_wp2_with (first
      | ((with_reducible refine at_load_cert ?_); refine wpList_load_cert rfl _ rfl g _ rfl HT.out.1 ?_)
      | fail)
    refine HT.out.2.mono ?_
    rintro en w13 ⟨At_, nt, ct, rfl, hot, hbt⟩
    have HM13 := Lib.hid (HM12.out.below hbt)
    have lt_ : (k.tbs).length = nt := ownB_len hot
    have HTB := Lib.hid (And.intro (RdT.own hot) lt_)
    have hc1 : w13.cell? ⟨g, 1, none⟩ = some (.slice none 0 0) := HM13.out.2.2.2.1.at_ 1
    have hz1 := HM13.out.2.2.2.1.frozen 1
    have HM14 := Lib.hid (HM13.out.grown (grown_put _ ⟨g, 1, none⟩ _) (HM13.out.2.2.2.1.tbs (.slice At_ nt ct)) rfl rfl rfl rfl rfl)
    have hrt := HTB.out.1.far (grown_put w13 ⟨g, 1, none⟩ (.slice At_ nt ct)) HM13.out.2.2.2.1
    have HRT := Lib.hid hrt
    have hc19 : (w13.setCell ⟨g, 1, none⟩ (.slice At_ nt ct)).cell? ⟨g, 19, none⟩ = some (.slice Ag ng cg) := HM14.out.2.2.2.1.at_ 19
    have hc1' : (w13.setCell ⟨g, 1, none⟩ (.slice At_ nt ct)).cell? ⟨g, 1, none⟩ = some (.slice At_ nt ct) := HM14.out.2.2.2.1.at_ 1
    clear hot hbt lt_ hrt
    go_wp2_with fail
    have HPS := Lib.hid HM14.out.2.2.2.2.2.2.2.2.2
    refine (refWr_any At_ Ag nt ct ng cg k.tbs (k.sig.take 600) _ HRT.out.rd HPS.out.rd (by have := HTB.out.2; have := HL.out.1; omega) (by have := HPS.out.rd.len; have := HL.out.2; omega)).mono ?_
    rintro en w15 ⟨Aw, nw, cw, rfl, how, hbw⟩
    have HM15 := Lib.hid (HM14.out.below hbw)
    have lw_ : (k.raw).length = nw := ownB_len how
    have HW := Lib.hid (And.intro (RdT.own how) (And.intro lw_ (HRT.out.below hbw)))
    have hc0 : w15.cell? ⟨g, 0, none⟩ = some (.slice none 0 0) := HM15.out.2.2.2.1.at_ 0
    have hz0 := HM15.out.2.2.2.1.frozen 0
    have hD16 : Bc (w15.setCell ⟨g, 0, none⟩ (.slice Aw nw cw)) g ⟨.slice Aw nw cw, .slice At_ nt ct, .slice Ai ni ci, .slice As ns cs, .slice Ar nr cr, k.start, k.stop, .slice S5 s5 q5, k.e % 8589934592, .slice Ag ng cg, k.fl⟩ := Blk.set_ HM15.out.2.2.2.1 0 (.slice Aw nw cw)
    have HM16 := Lib.hid (HM15.out.grown (grown_put w15 ⟨g, 0, none⟩ (.slice Aw nw cw)) hD16 rfl rfl rfl rfl rfl)
    clear hD16
    have HRW := Lib.hid (And.intro (HW.out.1.far (grown_put w15 ⟨g, 0, none⟩ (.slice Aw nw cw)) HM15.out.2.2.2.1) (HW.out.2.2.far (grown_put w15 ⟨g, 0, none⟩ (.slice Aw nw cw)) HM15.out.2.2.2.1))
    clear how hbw lw_ hc19 hc1' hc1 hz1
    go_upto_region 15 with fail
    obtain ⟨wS, hwS⟩ : ∃ wS, w15.setCell ⟨g, 0, none⟩ (.slice Aw nw cw) = wS := ⟨_, rfl⟩
    rw [hwS] at HM16 HRW ⊢
    have HS_ := Lib.hid (And.intro HM16.out.1 (And.intro HM16.out.2.2.1 (And.intro HM16.out.2.2.2.1 HM16.out.2.2.2.2.1)))
    have hsz_ := HS_.out.2.1.lt
    have hnr : nw ≤ 1099511627776 := by
      have h1 := HW.out.2.1
      have h2 := HRW.out.1.rd.len
      have h3 := HTB.out.2
      have h4 := HL.out
      have h5 := HPS.out.rd.len
      have h6 := write_bound 3 ([0] ++ k.sig.take 600) (by rw [List.length_append, List.length_singleton]; omega)
      have h7 := write_bound 48 ([k.tbs, Ref.signAlg, Der.write 3 (0 :: k.sig.take 600)] : List (List UInt8)).flatten (by simp [Ref.signAlg] at h6 ⊢; omega)
      have h8 : k.raw = Der.write 48 ([k.tbs, Ref.signAlg, Der.write 3 (0 :: k.sig.take 600)] : List (List UInt8)).flatten := rfl
      rw [← h8] at h7
      simp [Ref.signAlg] at h6 h7
      omega
    refine wp_region_marked (LJ wS.heap.size g (w.heap.size + 1) (⟨.slice Aw nw cw, .slice At_ nt ct, .slice Ai ni ci, .slice As ns cs, .slice Ar nr cr, k.start, k.stop, .slice S5 s5 q5, k.e % 8589934592, .slice Ag ng cg, k.fl⟩ : CV) (.slice Aw nw cw) k.raw) (LG wS g (w.heap.size + 1) (⟨.slice Aw nw cw, .slice At_ nt ct, .slice Ai ni ci, .slice As ns cs, .slice Ar nr cr, k.start, k.stop, .slice S5 s5 q5, k.e % 8589934592, .slice Ag ng cg, k.fl⟩ : CV)) (RR (w.heap.size + 1) (⟨.slice Aw nw cw, .slice At_ nt ct, .slice Ai ni ci, .slice As ns cs, .slice Ar nr cr, k.start, k.stop, .slice S5 s5 q5, k.e % 8589934592, .slice Ag ng cg, k.fl⟩ : CV)) rfl (LJ.mono _ _ _ _ _ _ hsz_) (fun w w' h1 h2 => h1.next (by have := HS_.out.2.2.2; omega) h2) (by show dstsOk _ 111 = true; decide +kernel) (by decide +kernel) (by decide +kernel) ⟨grows_ (Below.refl _ _).drew _, ⟨CV.zero, HS_.out.2.1⟩, HS_.out.2.2.1⟩ ⟨?_, ?_, ?_, ?_, ?_, ?_, trivial⟩ ?_
    · intro a W hfr hG hdep; exact wp_load rfl (hfr 7 (by decide +kernel)) (load_cert hG.2.2) ⟨_, rfl, (fun h => by cases h), rfl, RR.refl _ _ _⟩
    · intro a W hfr hG hdep; exact wp_val (by simp only [execOp, (show a.eval (.tmp 7) = .pointer (some ⟨g, 0, none⟩) from hfr 7 (by decide +kernel))]; simp [fld_0]) ⟨_, rfl, (fun h => by cases h), rfl, RR.refl _ _ _⟩
    · intro a W hfr hG hdep; exact wp_load rfl (hdep 1 (by decide +kernel)) (load_fld (hG.2.2.at_ 0)) ⟨_, rfl, (fun h => by cases h), rfl, RR.refl _ _ _⟩
    · intro a W hfr hG hdep
      have d : a.eval (.tmp 109) = .slice Aw nw cw := hdep 2 (by decide +kernel)
      refine wp_callf rfl Try.func37 rfl (by decide) (args := #[.slice Aw nw cw]) (by simp [d]) (copy_any Aw nw cw k.raw W (HRW.out.1.far hG.1 HS_.out.2.1).rd hnr) ?_
      rintro en W' ⟨A', n', c', rfl, ho', hb'⟩
      exact ⟨_, rfl, _, rfl, (fun h => by cases h), ho'.mono hG.1.size (Nat.le_refl _), RR.below hb'⟩
    · intro a W hfr hG hdep
      obtain ⟨C, hC⟩ := hG.2.1
      exact wp_store_cert _ _ rfl (w.heap.size + 1) C (⟨.slice Aw nw cw, .slice At_ nt ct, .slice Ai ni ci, .slice As ns cs, .slice Ar nr cr, k.start, k.stop, .slice S5 s5 q5, k.e % 8589934592, .slice Ag ng cg, k.fl⟩ : CV) (hfr 2 (by decide +kernel)) (hdep 0 (by decide +kernel)) hC (CV.one rfl rfl rfl rfl rfl rfl rfl) (fun W' h1 h2 => ⟨undef, rfl, (fun _ => rfl), h1, h2, fun C' h' => .inr h1⟩)
    · intro a W hfr hG hdep; exact wp_assign rfl ⟨_, rfl, (fun h => by cases h), hdep 3 (by decide +kernel), RR.refl _ _ _⟩
    · intro a W hd hsz hfr hG hJ
      have h4 : Bc W (w.heap.size + 1) (⟨.slice Aw nw cw, .slice At_ nt ct, .slice Ai ni ci, .slice As ns cs, .slice Ar nr cr, k.start, k.stop, .slice S5 s5 q5, k.e % 8589934592, .slice Ag ng cg, k.fl⟩ : CV) := hJ 4 (by decide +kernel)
      have h5 : OwnB W wS.heap.size W.heap.size (a.eval (.tmp 3)) k.raw := hJ 5 (by decide +kernel)
      have h2 : a.tmps.getD 2 undef = .pointer (some ⟨w.heap.size + 1, 0, none⟩) := hfr 2 (by decide +kernel)
      obtain ⟨A', n', c', e', _⟩ := h5.rd
      have hrz := HS_.out.2.1
      have hMS := HM16.out
      obtain ⟨b1, b2, b3, b4, b5, rn, ri, rs, rr, rg⟩ := hMS
      simp only [Exit.then]
      apply_assumption
      refine wp_ret ?_
      refine bodyPost_ret (v := .tuple #[((⟨.slice Aw nw cw, .slice At_ nt ct, .slice Ai ni ci, .slice As ns cs, .slice Ar nr cr, k.start, k.stop, .slice S5 s5 q5, k.e % 8589934592, .slice Ag ng cg, k.fl⟩ : CV)).val, a.eval (.tmp 3)]) (results_cell_tmp Try.results21 a.tmps _ W _ _ h2 (load_cert h4)) hd ⟨(⟨.slice Aw nw cw, .slice At_ nt ct, .slice Ai ni ci, .slice As ns cs, .slice Ar nr cr, k.start, k.stop, .slice S5 s5 q5, k.e % 8589934592, .slice Ag ng cg, k.fl⟩ : CV), A', n', c', by rw [e'], ?_, HRW.out.1.far hG.1 hrz, HRW.out.2.far hG.1 hrz, ri.far hG.1 hrz, rs.far hG.1 hrz, rr.far hG.1 hrz, rn.far hG.1 hrz, rg.far hG.1 hrz, rfl, rfl, rfl, rfl, ?_⟩
      · rw [← e']
        exact h5.mono b1.size (Nat.le_refl _)
      · exact b1.grown hG.1 b1.size (fun j hj => by cases hj; omega)
end Go.Proofs.Ytmnekhliblkibaa
end
