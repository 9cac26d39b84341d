/- Joined of: Prefix1 Plain5 Plain6 Plain7 Plain8. -/
import Derived.Test.YtmnekhliblkibaaGA
import Derived.Test.YtmnekhliblkibaaGB
import Derived.Test.YtmnekhliblkibaaGR
import Derived.Test.YtmnekhliblkibaaGP
section
/- Plain laws: what is an element stays the same one, whatever stands behind it; an element that is cut is none. -/
namespace Go.Proofs.Ytmnekhliblkibaa
namespace Der

theorem lenOf_more {xs : List UInt8} {f n : Nat} (h : lenOf xs = some (f, n)) (ys : List UInt8) : lenOf (xs ++ ys) = some (f, n) := by
  match xs, h with
  | [], h => cases h
  | [_], h => cases h
  | t :: l :: r, h =>
    simp only [List.cons_append, lenOf] at h ⊢
    by_cases h1 : l.toNat < 128
    · rw [if_pos h1] at h ⊢
      exact h
    · rw [if_neg h1] at h ⊢
      by_cases h2 : l.toNat = 128 ∨ 132 < l.toNat ∨ r.length < l.toNat - 128 ∨ r.headD 0 = 0
      · rw [if_pos h2] at h; cases h
      · rw [if_neg h2] at h
        have hl : ¬ r.length < l.toNat - 128 := fun e => h2 (.inr (.inr (.inl e)))
        have ht : (r ++ ys).take (l.toNat - 128) = r.take (l.toNat - 128) := by rw [List.take_append_of_le_length (by omega)]
        have hh : (r ++ ys).headD 0 = r.headD 0 := by
          cases r with
          | nil => exfalso; simp at hl; apply h2; left; omega
          | cons a r => rfl
        rw [ht, hh, List.length_append, if_neg (by
          rintro (e | e | e | e)
          · exact h2 (.inl e)
          · exact h2 (.inr (.inl e))
          · omega
          · exact h2 (.inr (.inr (.inr e))))]
        exact h

theorem hdr_more {xs : List UInt8} {f n : Nat} (h : hdr xs = some (f, n)) (ys : List UInt8) : hdr (xs ++ ys) = some (f, n) := by
  unfold hdr at h ⊢
  have hx : xs ≠ [] := by
    rintro rfl
    simp [lenOf] at h
  have ht : tagBad (xs ++ ys) = tagBad xs := by
    cases xs with
    | nil => exact absurd rfl hx
    | cons a r => rfl
  rw [ht]
  split at h
  · cases h
  · rename_i hb
    rw [if_neg hb]
    exact lenOf_more h ys

theorem elem_more {xs : List UInt8} {t : UInt8} {body raw rest : List UInt8} (h : elem xs = some (t, body, raw, rest)) (ys : List UInt8) : elem (xs ++ ys) = some (t, body, raw, rest ++ ys) := by
  unfold elem at h ⊢
  split at h
  · rename_i f n hd
    rw [hdr_more hd ys]
    split at h
    · rename_i hn
      have hb := lenOf_bd (hdr_len hd)
      simp only [Option.some.injEq, Prod.mk.injEq] at h
      obtain ⟨rfl, rfl, rfl, rfl⟩ := h
      have ht : (xs ++ ys).take (f + n) = xs.take (f + n) := by rw [List.take_append_of_le_length (by omega)]
      have hq : (xs ++ ys).drop (f + n) = xs.drop (f + n) ++ ys := by rw [List.drop_append_of_le_length (by omega)]
      have hh : (xs ++ ys).headD 0 = xs.headD 0 := by
        cases xs with
        | nil => simp at hb; omega
        | cons a r => rfl
      simp only [ht, hq, hh]
      rw [List.length_append, if_pos (by omega)]
    · cases h
  · cases h

/-- An element that is cut is none. -/
theorem elem_cut (t : UInt8) (b : List UInt8) (hb : b.length < 4294967296) (k : Nat) (hk : k < (write t b).length) : elem ((write t b).take k) = none := by
  cases he : elem ((write t b).take k) with
  | none => rfl
  | some x =>
    exfalso
    obtain ⟨t', b', r', rest'⟩ := x
    have h1 := elem_more he ((write t b).drop k)
    rw [List.take_append_drop, elem_write' t b hb] at h1
    have h2 := elem_len he
    split at h1
    · cases h1
    · simp only [Option.some.injEq, Prod.mk.injEq] at h1
      have h3 := h2.2.1
      rw [← h1.2.2.1, List.length_take] at h3
      omega

theorem seq_cut (t : UInt8) (b : List UInt8) (hb : b.length < 4294967296) (k : Nat) (hk0 : 0 < k) (hk : k < (write t b).length) : seq ((write t b).take k) = [none] :=
  seq_none (by intro e; have := congrArg List.length e; rw [List.length_take, List.length_nil] at this; omega) (elem_cut t b hb k hk)
end Der
end Go.Proofs.Ytmnekhliblkibaa
end

section
/- What is written is read: elements, depth, numbers, moments. Plain Lean. -/
namespace Go.Proofs.Ytmnekhliblkibaa
open Go.RowKit
set_option maxRecDepth 100000
set_option linter.unusedVariables false
set_option linter.unusedSimpArgs false

def El.mk (t : UInt8) (b : List UInt8) : El := (t, b, Der.write t b)
theorem El.mk_wf {t : UInt8} {b : List UInt8} (ht : t.toNat % 32 ≠ 31) (hb : b.length < 4294967296) : El.wf (El.mk t b) := ⟨rfl, ht, hb⟩
theorem El.wf_mk {x : El} (h : El.wf x) : x = El.mk x.1 x.2.1 := by
  obtain ⟨t, b, r⟩ := x
  obtain ⟨h, _⟩ := h
  simp only at h
  subst h
  rfl
def raws (L : List El) : List UInt8 := (L.map (·.2.2)).flatten
theorem raws_nil : raws [] = [] := rfl
theorem raws_cons (x : El) (L : List El) : raws (x :: L) = x.2.2 ++ raws L := rfl
theorem elem_wf {x : El} (h : El.wf x) (more : List UInt8) : Der.elem (x.2.2 ++ more) = some (x.1, x.2.1, x.2.2, more) := by
  rw [h.1, Der.elem_write _ _ _ h.2.2, if_neg h.2.1]
theorem wf_pos {x : El} (h : El.wf x) : 0 < x.2.2.length := by
  rw [h.1]
  simp [Der.write]
theorem seqF_mk : ∀ (L : List El) (k : Nat), (∀ y ∈ L, El.wf y) → (raws L).length ≤ k → Der.seqF k (raws L) = L.map some
  | [], k, _, _ => by cases k <;> simp [Der.seqF, raws_nil]
  | x :: L, k, h, hk => by
    have hx := h x (by simp)
    have hp := wf_pos hx
    rw [raws_cons] at hk ⊢
    rw [List.length_append] at hk
    obtain ⟨k, rfl⟩ : ∃ m, k = m + 1 := ⟨k - 1, by omega⟩
    rw [Der.seqF, if_neg (by intro e; have := congrArg List.length e; simp at this; rw [this.1] at hp; simp at hp), elem_wf hx]
    simp only [List.map_cons]
    rw [seqF_mk L k (fun y hy => h y (by simp [hy])) (by omega)]
theorem seq_mk {L : List El} (h : ∀ y ∈ L, El.wf y) : Der.seq (raws L) = L.map some := seqF_mk L _ h (Nat.le_refl _)
theorem all_mk {L : List El} (h : ∀ y ∈ L, El.wf y) : Der.all (raws L) = some L := all_some (seq_mk h)
theorem body_mk {u : Int} {x : El} (h : (x.1.toNat : Int) = u) : Cert.body u x = some x.2.1 := by
  unfold Cert.body
  rw [must_t (by simpa using h)]
  rfl
theorem body_no {u : Int} {x : El} (h : (x.1.toNat : Int) ≠ u) : Cert.body u x = none := by
  unfold Cert.body
  rw [must_f (by simpa using h)]
  rfl
theorem parts_mk {u lo hi : Int} {x : El} {L : List El} (ht : (x.1.toNat : Int) = u) (hb : x.2.1 = raws L) (hw : ∀ y ∈ L, El.wf y) (h1 : lo ≤ (L.length : Int)) (h2 : (L.length : Int) ≤ hi) : Cert.parts u lo hi x = some L := by
  unfold Cert.parts
  rw [body_mk ht, hb]
  simp only [Option.bind_some]
  rw [all_mk hw]
  simp only [Option.bind_some]
  rw [must_t (by simp [h1, h2])]
  rfl
theorem only_mk {x : El} (h : El.wf x) : Cert.only x.2.2 = some x := by
  unfold Cert.only
  have := elem_wf h []
  rw [List.append_nil] at this
  rw [this]
  simp
theorem thr_prim (k : Nat) (t : UInt8) (b : List UInt8) (h : t.toNat / 32 % 2 = 0) : Der.thr k t b = 0 := by
  cases k <;> simp [Der.thr, Der.leaf, h]
theorem thr_cons {k : Nat} {t : UInt8} {L : List El} (hw : ∀ y ∈ L, El.wf y) (h : ∀ y ∈ L, Der.thr k y.1 y.2.1 = 0) : Der.thr (k + 1) t (raws L) = 0 := by
  rw [Der.thr, seq_mk hw]
  split
  · rfl
  · rw [if_neg (by simp [List.any_map, Function.comp_def])]
    have key : ∀ (L : List El), (∀ y ∈ L, Der.thr k y.1 y.2.1 = 0) → Der.firstBad (Der.thr k) (L.map some) = 0 := by
      intro L
      induction L with
      | nil => intro _; rfl
      | cons x L ih =>
        intro h
        obtain ⟨t, b, r⟩ := x
        have h0 : Der.thr k t b = 0 := h (t, b, r) (by simp)
        rw [List.map_cons, Der.firstBad, if_pos h0]
        exact ih fun y hy => h y (by simp [hy])
    exact key L h
theorem check_mk {x : El} (h : El.wf x) : Der.check x.2.2 = Der.thr 15 x.1 x.2.1 := by
  unfold Der.check
  have := elem_wf h []
  rw [List.append_nil] at this
  rw [this]
  simp
theorem check_more {x : El} (h : El.wf x) {more : List UInt8} (hm : more ≠ []) : Der.check (x.2.2 ++ more) = 9 := by
  unfold Der.check
  rw [elem_wf h]
  simp [hm]
theorem check_cut {x : El} (h : El.wf x) {k : Nat} (hk : k < x.2.2.length) : Der.check (x.2.2.take k) = 9 := by
  unfold Der.check
  rw [h.1] at hk ⊢
  rw [Der.elem_cut _ _ h.2.2 _ hk]
theorem whole_mk (g : List UInt8) : Cert.whole (El.mk 3 (0 :: g)) = some g := by
  unfold Cert.whole
  rw [body_mk (by rfl)]
  have : Der.bits (0 :: g) = some (g, 0) := by
    simp only [Der.bits]
    rw [if_neg (by simp), if_pos (by simp; omega)]
    rfl
  simp only [Option.bind_some, El.mk]
  rw [this]
  simp only [Option.bind_some]
  rw [show Cert.must ((0 : Nat) == 0) = some () from rfl]
  rfl
theorem number_mk {b m : List UInt8} (h : Der.int b = some m) : Cert.number (El.mk 2 b) = some m := by
  unfold Cert.number
  rw [body_mk (by rfl)]
  exact h
theorem be_zero (xs : List UInt8) : Der.be (0 :: xs) = Der.be xs := by simp [Der.be]
theorem be_trim : ∀ xs : List UInt8, Der.be (Der.trim xs) = Der.be xs
  | [] => rfl
  | x :: xs => by
    by_cases h : x = 0
    · subst h
      rw [trim_cons0, be_zero, be_trim xs]
    · rw [trim_stop xs h]
theorem small_mk {lim : Int} (xs : List UInt8) (h : (Der.be xs : Int) < lim) : Cert.small lim (El.mk 2 (Der.putInt xs)) = some (Der.be xs) := by
  unfold Cert.small
  rw [number_mk (int_putInt xs)]
  simp only [Option.bind_some, be_trim]
  rw [must_t (by simpa using h)]
  rfl
theorem five_be (e : Nat) (h : e < 8589934592) : Der.be (Ref.five e) = e := by
  simp only [Der.be, Ref.five, List.foldl_cons, List.foldl_nil, UInt8.toNat_ofNat']
  omega
theorem two_len (x : Nat) : (Ref.two x).length = 2 := rfl
theorem dig_two (a : Nat) (h : a < 100) : (48 + a / 10 % 10) % 256 - 48 = a / 10 ∧ (48 + a % 10) % 256 - 48 = a % 10 := by omega
theorem moment_24 {x : El} (h : x.1 = 24) : Cert.moment x = Stamp.told 4 id x.2.1 := by
  unfold Cert.moment
  rw [h, if_neg (by decide), if_pos (by decide)]
/-- A moment that there is, written, is read. -/
theorem general_mk {t : Tm} (h : Stamp.right t = true) : Cert.moment (El.mk 24 ((Ref.nums t).flatMap Ref.two ++ [90])) = some t := by
  have hf := right_fits h
  have hr := h
  unfold Stamp.right at hr
  simp only [Bool.and_eq_true, decide_eq_true_eq] at hr
  obtain ⟨⟨⟨⟨⟨⟨h1, h2⟩, h3⟩, h4⟩, h5⟩, h6⟩, h7⟩ := hr
  obtain ⟨y, mo, d, hh, mi, s⟩ := t
  obtain ⟨_, b1, b2, b3, b4, b5⟩ := hf
  have hd := right_md h
  dsimp only at h1 h2 h3 h4 h5 h6 h7 b1 b2 b3 b4 b5 hd
  rw [moment_24 rfl]
  show Stamp.told 4 id ((Ref.nums ⟨y, mo, d, hh, mi, s⟩).flatMap Ref.two ++ [90]) = _
  have htm : Stamp.tm 4 id ((Ref.nums ⟨y, mo, d, hh, mi, s⟩).flatMap Ref.two ++ [90]) = ⟨y, mo, d, hh, mi, s⟩ := by
    simp only [Stamp.tm, Ref.nums, Ref.two, List.flatMap_cons, List.flatMap_nil, List.append_nil, List.cons_append, List.nil_append, Stamp.at2, Stamp.dig, List.drop_zero, List.drop_succ_cons, List.take_succ_cons, List.take_zero, List.foldl_cons, List.foldl_nil, UInt8.toNat_ofNat', id]
    simp only [Tm.mk.injEq]
    omega
  unfold Stamp.told
  rw [if_pos]
  · rw [htm]
  · refine ⟨rfl, rfl, ?_, by rw [htm]; exact h⟩
    have hnd : ∀ a : Nat, ((Ref.two a).any notDig) = false := by
      intro a
      simp only [Ref.two, List.any_cons, List.any_nil, Bool.or_false, notDig, UInt8.toNat_ofNat', Bool.or_eq_false_iff, decide_eq_false_iff_not]
      omega
    have hl : ((Ref.nums ⟨y, mo, d, hh, mi, s⟩).flatMap Ref.two).length = 4 + 10 := rfl
    rw [List.take_left' hl]
    simp only [Ref.nums, List.flatMap_cons, List.flatMap_nil, List.any_append, hnd, List.any_nil, Bool.or_false]
end Go.Proofs.Ytmnekhliblkibaa
end

section
/- A certificate of a case is read as what it says. Plain Lean. -/
namespace Go.Proofs.Ytmnekhliblkibaa
open Go.RowKit
set_option maxRecDepth 100000
set_option linter.unusedVariables false
set_option linter.unusedSimpArgs false

theorem write_ge (t : UInt8) (b : List UInt8) : b.length ≤ (Der.write t b).length := by simp [Der.write]; omega
theorem raws_mem {y : El} : ∀ {L : List El}, y ∈ L → y.2.2.length ≤ (raws L).length
  | x :: L, h => by
    rw [raws_cons, List.length_append]
    rcases List.mem_cons.1 h with rfl | h
    · omega
    · have := raws_mem h
      omega
theorem mk_small {t : UInt8} {b : List UInt8} (ht : t.toNat % 32 ≠ 31) {L : List El} (hm : El.mk t b ∈ L) (hL : (raws L).length < 4294967296) : El.wf (El.mk t b) :=
  El.mk_wf ht (by
    have h1 := raws_mem hm
    have h2 := write_ge t b
    simp only [El.mk] at h1
    omega)
theorem sg_std {f : Fl} {x v0 E0 E1 E2 E3 E4 E5 E6 t0 t1 : El} {M : List El} {m : List UInt8} {a b : Tm} {k : List UInt8 × Nat}
    (h0 : Cert.parts 160 1 1 E0 = some [v0]) (hv : v0.2.2 = [2, 1, 2]) (h1 : Cert.number E1 = some m) (hm : 0 < m.length) (hs : E1.2.1.length ≤ 20) (h2 : Cert.method 11 E2 = some ()) (h3 : (E3.1.toNat : Int) = 48)
    (h4 : Cert.parts 48 2 2 E4 = some [t0, t1]) (h5 : (E5.1.toNat : Int) = 48) (ha : Cert.moment t0 = some a) (hb : Cert.moment t1 = some b) (hle : Stamp.less b a = false) (hk : Cert.key E6 = some k)
    (hp : Cert.parts 48 7 8 x = some (E0 :: E1 :: E2 :: E3 :: E4 :: E5 :: E6 :: M)) :
    Cert.signed f x = Cert.told8 ⟨x.2.2, E3.2.2, E5.2.2, E1.2.1, a, b, k.1, k.2, f⟩ (E0 :: E1 :: E2 :: E3 :: E4 :: E5 :: E6 :: M) := by
  have m1 : Cert.must (v0.2.2 == [2, 1, 2]) = some () := must_t (by rw [hv]; rfl)
  have m2 : Cert.must (decide (0 < m.length) && decide (E1.2.1.length ≤ 20)) = some () := must_t (by simp [hm, hs])
  have m3 : Cert.must (!Stamp.less b a) = some () := must_t (by rw [hle]; rfl)
  unfold Cert.signed
  rw [hp]
  simp only [Option.bind_some, Sg.a, Sg.b, Sg.c, Sg.d, Sg.e_, Sg.f, Sg.g, Sg.h, Sg.i, Sg.j, List.getD_cons_zero, List.getD_cons_succ]
  simp only [h0, Option.bind_some, List.getD_cons_zero, List.getD_cons_succ, m1, h1, m2, h2, body_mk h3, body_mk h5, h4, ha, hb, m3, hk]
/-- The version's element. -/
def E.version : El := El.mk 160 [2, 1, 2]
theorem version_parts : Cert.parts 160 1 1 E.version = some [El.mk 2 [2]] := by decide +kernel
theorem version_raw : E.version.2.2 = Ref.version := by decide +kernel
def E.alg : El := El.mk 48 [6, 9, 42, 134, 72, 134, 247, 13, 1, 1, 11, 5, 0]
theorem alg_method : Cert.method 11 E.alg = some () := by decide +kernel
theorem alg_raw : E.alg.2.2 = Ref.signAlg := by decide +kernel
def E.keyAlg : El := El.mk 48 [6, 9, 42, 134, 72, 134, 247, 13, 1, 1, 1, 5, 0]
theorem keyAlg_method : Cert.method 1 E.keyAlg = some () := by decide +kernel
theorem keyAlg_raw : E.keyAlg.2.2 = Ref.keyAlg := by decide +kernel
def E.moment (t : Tm) : El := El.mk 24 ((Ref.nums t).flatMap Ref.two ++ [90])
def E.validity (a b : Tm) : El := El.mk 48 (raws [E.moment a, E.moment b])
theorem moment_wf (t : Tm) : El.wf (E.moment t) := El.mk_wf (by decide) (by simp [Ref.nums, Ref.two])
theorem validity_parts (a b : Tm) : Cert.parts 48 2 2 (E.validity a b) = some [E.moment a, E.moment b] :=
  parts_mk (by rfl) rfl (fun y hy => by
    simp only [List.mem_cons, List.not_mem_nil, or_false] at hy
    rcases hy with rfl | rfl <;> exact moment_wf _) (by simp) (by simp)
def E.rsa (nn : List UInt8) (e : Nat) : El := El.mk 48 (raws [El.mk 2 (Der.putInt nn), El.mk 2 (Der.putInt (Ref.five e))])
def E.key (nn : List UInt8) (e : Nat) : El := El.mk 48 (raws [E.keyAlg, El.mk 3 (0 :: (E.rsa nn e).2.2)])
theorem key_raw (nn : List UInt8) (e : Nat) : (E.key nn e).2.2 = Ref.key nn e := by
  simp only [E.key, El.mk, Ref.key, Ref.seq, raws, List.map_cons, List.map_nil, ← keyAlg_raw]
  rfl
theorem key_mk (nn : List UInt8) (e : Nat) (he : e < 8589934592) (hl : (E.key nn e).2.2.length < 4294967296) : Cert.key (E.key nn e) = some (Der.trim nn, e) ∧ El.wf (E.key nn e) := by
  have g1 := write_ge 48 (raws [E.keyAlg, El.mk 3 (0 :: (E.rsa nn e).2.2)])
  have hl2 : (raws [E.keyAlg, El.mk 3 (0 :: (E.rsa nn e).2.2)]).length < 4294967296 := by
    simp only [E.key, El.mk] at hl g1 ⊢
    omega
  have w1 : El.wf E.keyAlg := El.mk_wf (by decide) (by decide)
  have w2 : El.wf (El.mk 3 (0 :: (E.rsa nn e).2.2)) := mk_small (by decide) (L := [E.keyAlg, El.mk 3 (0 :: (E.rsa nn e).2.2)]) (by simp) hl2
  have hr : (E.rsa nn e).2.2.length < 4294967296 := by
    have := w2.2.2
    simp only [El.mk, List.length_cons] at this
    omega
  have hr2 : (raws [El.mk 2 (Der.putInt nn), El.mk 2 (Der.putInt (Ref.five e))]).length < 4294967296 := by
    have g2 := write_ge 48 (raws [El.mk 2 (Der.putInt nn), El.mk 2 (Der.putInt (Ref.five e))])
    simp only [E.rsa, El.mk] at hr g2 ⊢
    omega
  have w3 : El.wf (E.rsa nn e) := El.mk_wf (by decide) hr2
  have w4 : ∀ y ∈ [El.mk 2 (Der.putInt nn), El.mk 2 (Der.putInt (Ref.five e))], El.wf y := fun y hy => by
    have hy2 := hy
    simp only [List.mem_cons, List.not_mem_nil, or_false] at hy2
    rcases hy2 with rfl | rfl
    · exact mk_small (by decide) hy hr2
    · exact mk_small (by decide) hy hr2
  refine ⟨?_, El.mk_wf (by decide) hl2⟩
  unfold Cert.key
  rw [parts_mk (L := [E.keyAlg, El.mk 3 (0 :: (E.rsa nn e).2.2)]) (by rfl) rfl (fun y hy => by
    simp only [List.mem_cons, List.not_mem_nil, or_false] at hy
    rcases hy with rfl | rfl
    · exact w1
    · exact w2) (by simp) (by simp)]
  simp only [Option.bind_some, List.getD_cons_zero, List.getD_cons_succ]
  rw [keyAlg_method]
  simp only [Option.bind_some]
  rw [whole_mk]
  simp only [Option.bind_some]
  rw [only_mk w3]
  simp only [Option.bind_some]
  rw [parts_mk (x := E.rsa nn e) (L := [El.mk 2 (Der.putInt nn), El.mk 2 (Der.putInt (Ref.five e))]) (by rfl) rfl w4 (by simp) (by simp)]
  simp only [Option.bind_some, List.getD_cons_zero, List.getD_cons_succ]
  rw [number_mk (int_putInt nn)]
  simp only [Option.bind_some]
  rw [small_mk _ (by rw [five_be e he]; omega), five_be e he]
  rfl
/-- An extension, written. -/
def E.ext (nm body : List UInt8) : El := El.mk 48 (raws [El.mk 6 nm, El.mk 4 body])
theorem ext_raw (nm body : List UInt8) : (E.ext nm body).2.2 = Ref.ext nm body := rfl
theorem ext_mk {f : Fl} {nm body : List UInt8} {o : List Nat} (ho : Der.oid nm = some o) (hl : (E.ext nm body).2.2.length < 4294967296) :
    Cert.extension f (E.ext nm body) = ((Cert.told f o [El.mk 6 nm, El.mk 4 body] 1).bind fun g => some (g, nm)) ∧ El.wf (E.ext nm body) ∧ ∀ y ∈ [El.mk 6 nm, El.mk 4 body], El.wf y := by
  have g2 := write_ge 48 (raws [El.mk 6 nm, El.mk 4 body])
  have hl2 : (raws [El.mk 6 nm, El.mk 4 body]).length < 4294967296 := by
    simp only [E.ext, El.mk] at hl g2 ⊢
    omega
  have w4 : ∀ y ∈ [El.mk 6 nm, El.mk 4 body], El.wf y := fun y hy => by
    have hy2 := hy
    simp only [List.mem_cons, List.not_mem_nil, or_false] at hy2
    rcases hy2 with rfl | rfl
    · exact mk_small (by decide) hy hl2
    · exact mk_small (by decide) hy hl2
  refine ⟨?_, El.mk_wf (by decide) hl2, w4⟩
  unfold Cert.extension
  rw [parts_mk (L := [El.mk 6 nm, El.mk 4 body]) (by rfl) rfl w4 (by simp) (by simp)]
  simp only [Option.bind_some, List.getD_cons_zero]
  have ha : Cert.arcs (El.mk 6 nm) = some o := by
    unfold Cert.arcs
    rw [body_mk (by rfl)]
    exact ho
  rw [ha]
  simp only [Option.bind_some, List.length_cons, List.length_nil]
  rw [show (0 + 1 + 1 - 1 : Nat) = 1 from rfl]
  have hlo : Cert.lastOk [El.mk 6 nm, El.mk 4 body] 1 = true := by
    unfold Cert.lastOk
    simp [El.mk]
  rw [hlo, must_t rfl]
  rfl
def E.yes : El := El.mk 1 [255]
theorem yes_yes : Cert.yes E.yes = true := by decide +kernel
def E.path (p : Int) : List El := if 0 ≤ p then [El.mk 2 (Der.putInt [UInt8.ofNat p.toNat])] else []
def E.basic (p : Int) : El := El.mk 48 (raws (E.yes :: E.path p))
theorem basic_raw (p : Int) : (E.basic p).2.2 = Ref.seq ([1, 1, 255] :: Ref.path p) := by
  unfold E.basic Ref.seq E.path Ref.path
  split <;> rfl
theorem putInt_one (x : UInt8) : (Der.putInt [x]).length ≤ 2 := by
  have := putInt_len [x]
  simpa using this
theorem basic_wf (p : Int) : El.wf (E.basic p) ∧ ∀ y ∈ E.yes :: E.path p, El.wf y := by
  have hp : ∀ y ∈ E.path p, El.wf y ∧ y.2.2.length ≤ 10 := fun y hy => by
    unfold E.path at hy
    split at hy
    · simp only [List.mem_cons, List.not_mem_nil, or_false] at hy
      subst hy
      have h1 := putInt_one (UInt8.ofNat p.toNat)
      refine ⟨El.mk_wf (by decide) (by omega), ?_⟩
      simp only [El.mk, Der.write_len]
      have := Der.lenB_len (Der.putInt [UInt8.ofNat p.toNat]).length (by omega)
      omega
    · simp at hy
  have hl : (raws (E.yes :: E.path p)).length ≤ 20 := by
    rw [raws_cons, List.length_append]
    have h1 : E.yes.2.2.length = 3 := by decide +kernel
    have h2 : (raws (E.path p)).length ≤ 10 := by
      by_cases h : 0 ≤ p
      · have := hp (El.mk 2 (Der.putInt [UInt8.ofNat p.toNat])) (by unfold E.path; rw [if_pos h]; simp)
        unfold E.path
        rw [if_pos h, raws_cons, raws_nil, List.append_nil]
        exact this.2
      · unfold E.path
        rw [if_neg h]
        simp [raws_nil]
    omega
  refine ⟨El.mk_wf (by decide) (by omega), fun y hy => ?_⟩
  rcases List.mem_cons.1 hy with rfl | hy
  · exact El.mk_wf (by decide) (by decide)
  · exact (hp y hy).1
theorem constraints_mk (f : Fl) (p : Int) (hp : p < 256) : Cert.constraints f (E.basic p) = some {f with ca := true, path := if 0 ≤ p then p else f.path} := by
  have hw := (basic_wf p).2
  unfold Cert.constraints
  by_cases h : 0 ≤ p
  · have hE : E.path p = [El.mk 2 (Der.putInt [UInt8.ofNat p.toNat])] := by unfold E.path; rw [if_pos h]
    rw [hE] at hw
    rw [parts_mk (L := [E.yes, El.mk 2 (Der.putInt [UInt8.ofNat p.toNat])]) (by rfl) (by unfold E.basic; rw [hE]; rfl) hw (by simp) (by simp)]
    simp only [Option.bind_some, List.length_cons, List.length_nil, List.getD_cons_zero, List.getD_cons_succ]
    rw [if_neg (by omega), yes_yes, must_t rfl]
    simp only [Option.bind_some]
    rw [if_neg (by omega)]
    have hb : Der.be [UInt8.ofNat p.toNat] = p.toNat := by
      simp only [Der.be, List.foldl_cons, List.foldl_nil, UInt8.toNat_ofNat']
      omega
    rw [small_mk _ (by rw [hb]; omega), hb]
    simp only [Option.bind_some, if_pos h]
    rw [show ((p.toNat : Nat) : Int) = p by omega]
  · have hE : E.path p = [] := by unfold E.path; rw [if_neg h]
    rw [hE] at hw
    rw [parts_mk (L := [E.yes]) (by rfl) (by unfold E.basic; rw [hE]; rfl) hw (by simp) (by simp)]
    simp only [Option.bind_some, List.length_cons, List.length_nil, List.getD_cons_zero]
    rw [if_neg (by omega), yes_yes, must_t rfl]
    simp only [Option.bind_some, if_neg h]
    rfl
/-- The usage that bits tell. -/
def Cert.used (b : List UInt8) : Option Nat := (Der.bits b).bind fun p =>
  (Cert.must (decide (1 ≤ 8 * (p.1.length : Int) - (p.2 : Int)) && decide (8 * (p.1.length : Int) - (p.2 : Int) ≤ 9))).bind fun _ =>
    (Cert.must (Cert.bit p.1 (8 * p.1.length - p.2 - 1) == 1)).bind fun _ => some (Cert.bitsum p.1 (8 * p.1.length - p.2))
theorem usage_used (f : Fl) (b : List UInt8) : Cert.usage f (El.mk 3 b) = (Cert.used b).bind fun u => some {f with usage := (u : Int)} := by
  unfold Cert.usage Cert.used
  rw [body_mk (by rfl)]
  simp only [Option.bind_some, Option.bind_assoc, El.mk]
def E.laid (u : Nat) : List UInt8 := Ref.lay u (Ref.ub0 (Ref.top u 9)) (Ref.top u 9)
theorem laid_used : ∀ p < 256, 0 < p → Cert.used (E.laid (2 * p + p % 2)) = some (2 * p + p % 2) := by decide +kernel
theorem laid_len : ∀ p < 256, (E.laid (2 * p + p % 2)).length ≤ 10 := by decide +kernel
def E.host : El := El.mk 48 (raws [El.mk 6 Ref.forHost])
theorem host_purposes (f : Fl) : Cert.purposes f E.host = some {f with code := false} := by
  have h1 : Der.all (raws [El.mk 6 Ref.forHost]) = some [El.mk 6 Ref.forHost] := by decide +kernel
  have h2 : Cert.mean false [El.mk 6 Ref.forHost] = some false := by decide +kernel
  unfold Cert.purposes
  rw [body_mk (by rfl)]
  simp only [Option.bind_some, E.host, El.mk] at h1 h2 ⊢
  rw [h1]
  simp only [Option.bind_some, List.length_cons, List.length_nil]
  rw [must_t (by decide)]
  simp only [Option.bind_some]
  rw [h2]
  rfl
end Go.Proofs.Ytmnekhliblkibaa
end

section
/- A certificate of a case is read as what it says: extensions, the signed part, the whole. Plain Lean. -/
namespace Go.Proofs.Ytmnekhliblkibaa
open Go.RowKit
set_option maxRecDepth 100000
set_option linter.unusedVariables false
set_option linter.unusedSimpArgs false

def E.exts (f : Fl) : List El :=
  (if f.ca then [E.ext [85, 29, 19] (E.basic f.path).2.2] else []) ++ (if 0 ≤ f.usage then [E.ext [85, 29, 15] (El.mk 3 (E.laid f.usage.toNat)).2.2] else []) ++ (if f.code then [] else [E.ext [85, 29, 37] E.host.2.2])
theorem exts_raw (f : Fl) : (E.exts f).map (·.2.2) = Ref.exts f := by
  unfold E.exts Ref.exts
  rw [List.map_append, List.map_append]
  congr 1
  · congr 1
    · split
      · simp only [List.map_cons, List.map_nil, ext_raw, basic_raw]
      · rfl
    · split
      · rfl
      · rfl
  · split
    · rfl
    · rfl
/-- The flags that a case may have. -/
structure Fl.std (f : Fl) : Prop where
  p1 : -1 ≤ f.path
  p2 : f.path < 256
  cp : f.ca = false → f.path = -1
  u : f.usage = -1 ∨ ∃ p : Nat, p < 256 ∧ 0 < p ∧ f.usage = ((2 * p + p % 2 : Nat) : Int)
theorem told_basic (g : Fl) (nm : List UInt8) (p : Int) : Cert.told g [2, 5, 29, 19] [El.mk 6 nm, El.mk 4 (E.basic p).2.2] 1 = Cert.constraints g (E.basic p) := by
  unfold Cert.told
  rw [if_pos rfl]
  show (Cert.only (E.basic p).2.2).bind _ = _
  rw [only_mk (basic_wf p).1]
  rfl
theorem told_usage (g : Fl) (nm b : List UInt8) (hb : b.length < 4294967296) : Cert.told g [2, 5, 29, 15] [El.mk 6 nm, El.mk 4 (El.mk 3 b).2.2] 1 = Cert.usage g (El.mk 3 b) := by
  unfold Cert.told
  rw [if_neg (by decide), if_pos rfl]
  show (Cert.only (El.mk 3 b).2.2).bind _ = _
  rw [only_mk (El.mk_wf (by decide) hb)]
  rfl
theorem told_purposes (g : Fl) (nm : List UInt8) (y : El) (hy : El.wf y) : Cert.told g [2, 5, 29, 37] [El.mk 6 nm, El.mk 4 y.2.2] 1 = Cert.purposes g y := by
  unfold Cert.told
  rw [if_neg (by decide), if_neg (by decide), if_pos rfl]
  show (Cert.only y.2.2).bind _ = _
  rw [only_mk hy]
  rfl
theorem oid_basic : Der.oid [85, 29, 19] = some [2, 5, 29, 19] := by decide +kernel
theorem oid_usage : Der.oid [85, 29, 15] = some [2, 5, 29, 15] := by decide +kernel
theorem oid_purposes : Der.oid [85, 29, 37] = some [2, 5, 29, 37] := by decide +kernel
theorem host_wf : El.wf E.host := El.mk_wf (by decide) (by decide +kernel)
theorem write_lt (t : UInt8) (b : List UInt8) (k : Nat) (h : b.length ≤ k) (hk : k < 4294967296) : (Der.write t b).length ≤ k + 6 := by
  rw [Der.write_len]
  have := Der.lenB_len b.length (by omega)
  omega
theorem basic_len (p : Int) : (E.basic p).2.2.length ≤ 40 := by
  have hp : (raws (E.path p)).length ≤ 10 := by
    unfold E.path
    split
    · rw [raws_cons, raws_nil, List.append_nil]
      have := write_lt 2 (Der.putInt [UInt8.ofNat p.toNat]) 2 (putInt_one _) (by omega)
      simp only [El.mk]
      omega
    · simp [raws_nil]
  have h1 : E.yes.2.2.length = 3 := by decide +kernel
  have := write_lt 48 (raws (E.yes :: E.path p)) 13 (by rw [raws_cons, List.length_append]; omega) (by omega)
  simp only [E.basic, El.mk] at this ⊢
  omega
theorem extEl_len (nm body : List UInt8) (h1 : nm.length ≤ 1000) (h2 : body.length ≤ 100000) : (E.ext nm body).2.2.length < 4294967296 := by
  have a1 := write_lt 6 nm 1000 h1 (by omega)
  have a2 := write_lt 4 body 100000 h2 (by omega)
  have a3 := write_lt 48 (raws [El.mk 6 nm, El.mk 4 body]) 101012 (by simp only [raws_cons, raws_nil, List.append_nil, List.length_append, El.mk]; omega) (by omega)
  simp only [E.ext, El.mk] at a3 ⊢
  omega
theorem laid_wf (p : Nat) (hp : p < 256) : (E.laid (2 * p + p % 2)).length < 4294967296 ∧ (El.mk 3 (E.laid (2 * p + p % 2))).2.2.length ≤ 100 := by
  have h1 := laid_len p hp
  have := write_lt 3 (E.laid (2 * p + p % 2)) 10 h1 (by omega)
  refine ⟨by omega, ?_⟩
  simp only [El.mk]
  omega
/-- One extension of each kind. -/
theorem one_basic (g : Fl) (p : Int) (hp : p < 256) : Cert.extension g (E.ext [85, 29, 19] (E.basic p).2.2) = some ({g with ca := true, path := if 0 ≤ p then p else g.path}, [85, 29, 19]) ∧ El.wf (E.ext [85, 29, 19] (E.basic p).2.2) := by
  have h := ext_mk (f := g) (body := (E.basic p).2.2) oid_basic (extEl_len _ _ (by simp) (by have := basic_len p; omega))
  refine ⟨?_, h.2.1⟩
  rw [h.1, told_basic, constraints_mk g p hp]
  rfl
theorem one_usage (g : Fl) (p : Nat) (hp : p < 256) (h0 : 0 < p) : Cert.extension g (E.ext [85, 29, 15] (El.mk 3 (E.laid (2 * p + p % 2))).2.2) = some ({g with usage := ((2 * p + p % 2 : Nat) : Int)}, [85, 29, 15]) ∧ El.wf (E.ext [85, 29, 15] (El.mk 3 (E.laid (2 * p + p % 2))).2.2) := by
  have hw := laid_wf p hp
  have h := ext_mk (f := g) (body := (El.mk 3 (E.laid (2 * p + p % 2))).2.2) oid_usage (extEl_len _ _ (by simp) (by omega))
  refine ⟨?_, h.2.1⟩
  rw [h.1, told_usage g _ _ hw.1, usage_used, laid_used p hp h0]
  rfl
theorem one_host (g : Fl) : Cert.extension g (E.ext [85, 29, 37] E.host.2.2) = some ({g with code := false}, [85, 29, 37]) ∧ El.wf (E.ext [85, 29, 37] E.host.2.2) := by
  have h := ext_mk (f := g) (body := E.host.2.2) oid_purposes (extEl_len _ _ (by simp) (by decide +kernel))
  refine ⟨?_, h.2.1⟩
  rw [h.1, told_purposes g _ _ host_wf, host_purposes]
  rfl
theorem exts_wf (f : Fl) (hf : f.std) : ∀ y ∈ E.exts f, El.wf y := by
  intro y hy
  unfold E.exts at hy
  simp only [List.mem_append] at hy
  rcases hy with (hy | hy) | hy
  · split at hy
    · simp only [List.mem_cons, List.not_mem_nil, or_false] at hy
      subst hy
      exact (one_basic f f.path hf.p2).2
    · simp at hy
  · split at hy
    · rename_i h0
      simp only [List.mem_cons, List.not_mem_nil, or_false] at hy
      subst hy
      rcases hf.u with hu | ⟨p, hp, hp0, hu⟩
      · omega
      · rw [hu, Int.toNat_natCast]
        exact (one_usage f p hp hp0).2
    · simp at hy
  · split at hy
    · simp at hy
    · simp only [List.mem_cons, List.not_mem_nil, or_false] at hy
      subst hy
      exact (one_host f).2
def Fl.bare : Fl := ⟨false, -1, -1, true⟩
/-- The extensions of flags are read as these flags. -/
theorem exts_mk (f : Fl) (hf : f.std) : ∃ ns, Cert.exts Fl.bare (E.exts f) = some (f, ns) ∧ distinct ns = true := by
  obtain ⟨ca, path, usage, code⟩ := f
  have c1 := fun g : Fl => (one_basic g path hf.p2).1
  have c3 := fun g : Fl => (one_host g).1
  have hcp := hf.cp
  have hp1 := hf.p1
  simp only at hcp hp1
  have hpath : (if 0 ≤ path then path else Fl.bare.path) = path := by
    split
    · rfl
    · show (-1 : Int) = path
      omega
  rcases hf.u with hu | ⟨p, hp, hp0, hu⟩
  · simp only at hu
    subst hu
    cases ca
    · have := hcp rfl
      subst this
      cases code
      · refine ⟨[[85, 29, 37]], ?_, by decide⟩
        show Cert.exts Fl.bare [E.ext [85, 29, 37] E.host.2.2] = _
        rw [exts_cons (c3 _)]
        rfl
      · exact ⟨[], rfl, rfl⟩
    · cases code
      · refine ⟨[[85, 29, 19], [85, 29, 37]], ?_, by decide⟩
        show Cert.exts Fl.bare [E.ext [85, 29, 19] (E.basic path).2.2, E.ext [85, 29, 37] E.host.2.2] = _
        rw [exts_cons (c1 _), exts_cons (c3 _)]
        simp only [hpath]
        rfl
      · refine ⟨[[85, 29, 19]], ?_, by decide⟩
        show Cert.exts Fl.bare [E.ext [85, 29, 19] (E.basic path).2.2] = _
        rw [exts_cons (c1 _)]
        simp only [hpath]
        rfl
  · simp only at hu
    subst hu
    have c2 := fun g : Fl => (one_usage g p hp hp0).1
    have h0 : (0 : Int) ≤ ((2 * p + p % 2 : Nat) : Int) := by omega
    cases ca
    · have := hcp rfl
      subst this
      cases code
      · refine ⟨[[85, 29, 15], [85, 29, 37]], ?_, by decide⟩
        have e : E.exts ⟨false, -1, ((2 * p + p % 2 : Nat) : Int), false⟩ = [E.ext [85, 29, 15] (El.mk 3 (E.laid (2 * p + p % 2))).2.2, E.ext [85, 29, 37] E.host.2.2] := by
          simp only [E.exts, if_pos h0, Int.toNat_natCast]
          rfl
        rw [e, exts_cons (c2 _), exts_cons (c3 _)]
        rfl
      · refine ⟨[[85, 29, 15]], ?_, by decide⟩
        have e : E.exts ⟨false, -1, ((2 * p + p % 2 : Nat) : Int), true⟩ = [E.ext [85, 29, 15] (El.mk 3 (E.laid (2 * p + p % 2))).2.2] := by
          simp only [E.exts, if_pos h0, Int.toNat_natCast]
          rfl
        rw [e, exts_cons (c2 _)]
        rfl
    · cases code
      · refine ⟨[[85, 29, 19], [85, 29, 15], [85, 29, 37]], ?_, by decide⟩
        have e : E.exts ⟨true, path, ((2 * p + p % 2 : Nat) : Int), false⟩ = [E.ext [85, 29, 19] (E.basic path).2.2, E.ext [85, 29, 15] (El.mk 3 (E.laid (2 * p + p % 2))).2.2, E.ext [85, 29, 37] E.host.2.2] := by
          simp only [E.exts, if_pos h0, Int.toNat_natCast]
          rfl
        rw [e, exts_cons (c1 _), exts_cons (c2 _), exts_cons (c3 _)]
        simp only [hpath]
        rfl
      · refine ⟨[[85, 29, 19], [85, 29, 15]], ?_, by decide⟩
        have e : E.exts ⟨true, path, ((2 * p + p % 2 : Nat) : Int), true⟩ = [E.ext [85, 29, 19] (E.basic path).2.2, E.ext [85, 29, 15] (El.mk 3 (E.laid (2 * p + p % 2))).2.2] := by
          simp only [E.exts, if_pos h0, Int.toNat_natCast]
          rfl
        rw [e, exts_cons (c1 _), exts_cons (c2 _)]
        simp only [hpath]
        rfl
/-- The signed part's last element. -/
def E.extra (l : List El) : List El := if l = [] then [] else [El.mk 163 (El.mk 48 (raws l)).2.2]
theorem extra_raw (f : Fl) : raws (E.extra (E.exts f)) = Ref.extra f := by
  unfold E.extra Ref.extra
  rw [← exts_raw]
  by_cases h : E.exts f = []
  · rw [if_pos h, if_pos (by rw [h]; rfl)]
    rfl
  · rw [if_neg h, if_neg (by simpa using h), raws_cons, raws_nil, List.append_nil]
    rfl
/-- The elements of a signed part. -/
def E.seven (ser : List UInt8) (iss sub : El) (a b : Tm) (nn : List UInt8) (e : Nat) : List El := [E.version, El.mk 2 ser, E.alg, iss, E.validity a b, sub, E.key nn e]
def E.tbs (ser : List UInt8) (iss sub : El) (a b : Tm) (nn : List UInt8) (e : Nat) (xs : List El) : El := El.mk 48 (raws (E.seven ser iss sub a b nn e ++ E.extra xs))
theorem told8_none {s : Sg} {l : List El} (h : l.length = 7) : Cert.told8 s l = some s := by
  unfold Cert.told8
  rw [if_pos h]
theorem told8_some {s : Sg} {E0 E1 E2 E3 E4 E5 E6 : El} {xs : List El} {p : Fl × List (List UInt8)} (hw : ∀ y ∈ xs, El.wf y) (h1 : xs ≠ []) (h2 : xs.length ≤ 8192) (hl : (raws xs).length < 4294967280) (hx : Cert.exts s.fl xs = some p) (hd : distinct p.2 = true) :
    Cert.told8 s [E0, E1, E2, E3, E4, E5, E6, El.mk 163 (El.mk 48 (raws xs)).2.2] = some {s with fl := p.1} := by
  have hw2 : El.wf (El.mk 48 (raws xs)) := El.mk_wf (by decide) (by omega)
  have h3 : 0 < xs.length := List.length_pos_iff.2 h1
  unfold Cert.told8
  rw [if_neg (by simp)]
  simp only [List.getD_cons_zero, List.getD_cons_succ]
  rw [parts_mk (L := [El.mk 48 (raws xs)]) (by rfl) (by rw [raws_cons, raws_nil, List.append_nil]; rfl) (fun y hy => by simp only [List.mem_cons, List.not_mem_nil, or_false] at hy; subst hy; exact hw2) (by simp) (by simp)]
  simp only [Option.bind_some, List.getD_cons_zero]
  rw [parts_mk (x := El.mk 48 (raws xs)) (L := xs) (by rfl) rfl hw (by omega) (by omega)]
  simp only [Option.bind_some]
  rw [hx]
  simp only [Option.bind_some]
  rw [hd, must_t rfl]
  rfl
/-- A signed part, written, is read. xs: its extensions, read as p. -/
theorem tbs_mk {f : Fl} {ser m : List UInt8} {iss sub : El} {a b : Tm} {nn : List UInt8} {e : Nat} {xs : List El} {p : Fl × List (List UInt8)}
    (hm : Der.int ser = some m) (h0 : 0 < m.length) (hs : ser.length ≤ 20) (hi : El.wf iss) (hi2 : iss.1 = 48) (hu : El.wf sub) (hu2 : sub.1 = 48) (ha : Stamp.right a = true) (hb : Stamp.right b = true) (hle : Stamp.less b a = false) (he : e < 8589934592)
    (hw : ∀ y ∈ xs, El.wf y) (h2 : xs.length ≤ 8192) (hx : Cert.exts f xs = some p) (hd : distinct p.2 = true) (hl : (E.tbs ser iss sub a b nn e xs).2.2.length < 4294967280) :
    Cert.signed f (E.tbs ser iss sub a b nn e xs) = some ⟨(E.tbs ser iss sub a b nn e xs).2.2, iss.2.2, sub.2.2, ser, a, b, Der.trim nn, e, p.1⟩ ∧ El.wf (E.tbs ser iss sub a b nn e xs) ∧ ∀ y ∈ E.seven ser iss sub a b nn e ++ E.extra xs, El.wf y := by
  have hl2 : (raws (E.seven ser iss sub a b nn e ++ E.extra xs)).length < 4294967280 := by
    have := write_ge 48 (raws (E.seven ser iss sub a b nn e ++ E.extra xs))
    simp only [E.tbs, El.mk] at hl this ⊢
    omega
  have hk : (E.key nn e).2.2.length < 4294967296 := by
    have := raws_mem (y := E.key nn e) (L := E.seven ser iss sub a b nn e ++ E.extra xs) (by simp [E.seven])
    omega
  have hkey := key_mk nn e he hk
  have hext : ∀ y ∈ E.extra xs, El.wf y := fun y hy => by
    have hm : y ∈ E.seven ser iss sub a b nn e ++ E.extra xs := List.mem_append_right _ hy
    unfold E.extra at hy hm
    split at hy
    · simp at hy
    · rename_i hne
      rw [if_neg hne] at hm
      simp only [List.mem_cons, List.not_mem_nil, or_false] at hy
      subst hy
      refine mk_small (by decide) hm ?_
      have : E.extra xs = [El.mk 163 (El.mk 48 (raws xs)).2.2] := by unfold E.extra; rw [if_neg hne]
      rw [this] at hl2
      omega
  have hall : ∀ y ∈ E.seven ser iss sub a b nn e ++ E.extra xs, El.wf y := fun y hy => by
    rcases List.mem_append.1 hy with hy | hy
    · simp only [E.seven, List.mem_cons, List.not_mem_nil, or_false] at hy
      rcases hy with rfl | rfl | rfl | rfl | rfl | rfl | rfl
      · exact El.mk_wf (by decide) (by decide)
      · exact El.mk_wf (by decide) (by omega)
      · exact El.mk_wf (by decide) (by decide)
      · exact hi
      · exact El.mk_wf (by decide) (by simp [raws, E.moment, El.mk, Der.write, Ref.nums, Ref.two, Der.lenB])
      · exact hu
      · exact hkey.2
    · exact hext y hy
  refine ⟨?_, El.mk_wf (by decide) (by omega), hall⟩
  have hlen : (E.extra xs).length ≤ 1 := by
    unfold E.extra
    split <;> simp
  have hp : Cert.parts 48 7 8 (E.tbs ser iss sub a b nn e xs) = some (E.version :: El.mk 2 ser :: E.alg :: iss :: E.validity a b :: sub :: E.key nn e :: E.extra xs) :=
    parts_mk (by rfl) rfl hall (by simp; omega) (by simp; omega)
  rw [sg_std version_parts (by decide +kernel) (number_mk hm) h0 hs alg_method (by rw [hi2]; rfl) (validity_parts a b) (by rw [hu2]; rfl) (general_mk ha) (general_mk hb) hle hkey.1 hp]
  by_cases hne : xs = []
  · subst hne
    rw [Cert.exts] at hx
    injection hx with hx
    subst hx
    rw [told8_none (by simp [E.extra])]
    rfl
  · have : E.extra xs = [El.mk 163 (El.mk 48 (raws xs)).2.2] := by unfold E.extra; rw [if_neg hne]
    have hxl : (raws xs).length < 4294967280 := by
      have h3 := raws_mem (y := El.mk 163 (El.mk 48 (raws xs)).2.2) (L := E.seven ser iss sub a b nn e ++ E.extra xs) (by rw [this]; simp)
      have h4 := write_ge 163 (El.mk 48 (raws xs)).2.2
      have h5 := write_ge 48 (raws xs)
      simp only [El.mk] at h3 h4 h5
      omega
    rw [this, told8_some hw hne h2 hxl hx hd]
    rfl
end Go.Proofs.Ytmnekhliblkibaa
end

section
/- A certificate of a case is read as what it says; cut, or with something behind it, it is none. Plain Lean. -/
namespace Go.Proofs.Ytmnekhliblkibaa
open Go.RowKit
set_option maxRecDepth 100000
set_option linter.unusedVariables false
set_option linter.unusedSimpArgs false

theorem raws_append (A B : List El) : raws (A ++ B) = raws A ++ raws B := by simp [raws]
theorem thr_leaf (k : Nat) {t : UInt8} {b : List UInt8} (h : t.toNat / 32 % 2 = 0) : Der.thr k (El.mk t b).1 (El.mk t b).2.1 = 0 := thr_prim k t b h
theorem mk_raw (t : UInt8) (b : List UInt8) : (El.mk t b).2.2 = Der.write t b := rfl
theorem moment_raw (t : Tm) : (E.moment t).2.2 = Ref.general t := by
  unfold E.moment Ref.general
  rw [mk_raw]
theorem validity_raw (a b : Tm) : (E.validity a b).2.2 = Ref.seq [Ref.general a, Ref.general b] := by
  unfold E.validity Ref.seq
  rw [mk_raw]
  simp only [raws_cons, raws_nil, moment_raw, List.flatten_cons, List.flatten_nil]
theorem tbs_raw (ser : List UInt8) (iss sub : El) (a b : Tm) (nn : List UInt8) (e : Nat) (f : Fl) : (E.tbs ser iss sub a b nn e (E.exts f)).2.2 = Ref.tbs iss.2.2 sub.2.2 ser nn a b e f := by
  unfold E.tbs Ref.tbs Ref.seq
  refine congrArg (Der.write 48) ?_
  rw [raws_append, extra_raw]
  simp only [E.seven, raws_cons, raws_nil, List.append_nil, List.flatten_cons, List.flatten_nil, version_raw, alg_raw, key_raw, mk_raw, validity_raw, List.append_assoc, Ref.seq]
def E.name (s : List UInt8) : El := El.mk 48 (raws [El.mk 49 (raws [El.mk 48 (raws [El.mk 6 [85, 4, 3], El.mk 12 s])])])
theorem name_raw (s : List UInt8) : (E.name s).2.2 = Ref.name s := by
  unfold E.name Ref.name Ref.seq
  simp only [mk_raw, raws_cons, raws_nil, List.flatten_cons, List.flatten_nil, List.append_nil]
theorem name_wf (s : List UInt8) (h : (E.name s).2.2.length < 4294967296) : El.wf (E.name s) ∧ Der.thr 13 (E.name s).1 (E.name s).2.1 = 0 := by
  have g1 := write_ge 48 (raws [El.mk 49 (raws [El.mk 48 (raws [El.mk 6 [85, 4, 3], El.mk 12 s])])])
  have h1 : (raws [El.mk 49 (raws [El.mk 48 (raws [El.mk 6 [85, 4, 3], El.mk 12 s])])]).length < 4294967296 := by simp only [E.name, El.mk] at h g1 ⊢; omega
  have w1 : El.wf (El.mk 49 (raws [El.mk 48 (raws [El.mk 6 [85, 4, 3], El.mk 12 s])])) := mk_small (by decide) (List.mem_singleton.2 rfl) h1
  have h2 := w1.2.2
  simp only [El.mk] at h2
  have w2 : El.wf (El.mk 48 (raws [El.mk 6 [85, 4, 3], El.mk 12 s])) := mk_small (by decide) (List.mem_singleton.2 rfl) h2
  have h3 := w2.2.2
  simp only [El.mk] at h3
  have w3 : ∀ y ∈ [El.mk 6 [85, 4, 3], El.mk 12 s], El.wf y := fun y hy => by
    have hy2 := hy
    simp only [List.mem_cons, List.not_mem_nil, or_false] at hy2
    rcases hy2 with rfl | rfl
    · exact mk_small (by decide) hy h3
    · exact mk_small (by decide) hy h3
  refine ⟨El.mk_wf (by decide) h1, ?_⟩
  refine thr_cons (k := 12) (fun y hy => ?_) (fun y hy => ?_)
  · rw [List.mem_singleton.1 hy]; exact w1
  rw [List.mem_singleton.1 hy]
  refine thr_cons (k := 11) (fun y hy => ?_) (fun y hy => ?_)
  · rw [List.mem_singleton.1 hy]; exact w2
  rw [List.mem_singleton.1 hy]
  refine thr_cons (k := 10) w3 (fun y hy => ?_)
  simp only [List.mem_cons, List.not_mem_nil, or_false] at hy
  rcases hy with rfl | rfl
  · exact thr_leaf _ rfl
  · exact thr_leaf _ rfl
theorem validity_deep (a b : Tm) : Der.thr 13 (E.validity a b).1 (E.validity a b).2.1 = 0 :=
  thr_cons (k := 12) (fun y hy => by
    simp only [List.mem_cons, List.not_mem_nil, or_false] at hy
    rcases hy with rfl | rfl <;> exact moment_wf _) (fun y hy => by
    simp only [List.mem_cons, List.not_mem_nil, or_false] at hy
    rcases hy with rfl | rfl <;> exact thr_prim _ 24 _ (by decide))
theorem key_deep {nn : List UInt8} {e : Nat} (hw : El.wf (E.key nn e)) : Der.thr 13 (E.key nn e).1 (E.key nn e).2.1 = 0 := by
  have h1 := hw.2.2
  simp only [E.key, El.mk] at h1
  refine thr_cons (k := 12) (fun y hy => ?_) (fun y hy => ?_)
  · have hy2 := hy
    simp only [List.mem_cons, List.not_mem_nil, or_false] at hy2
    rcases hy2 with rfl | rfl
    · exact El.mk_wf (by decide) (by decide)
    · exact mk_small (by decide) hy h1
  · simp only [List.mem_cons, List.not_mem_nil, or_false] at hy
    rcases hy with rfl | rfl
    · decide +kernel
    · exact thr_leaf _ rfl
theorem extra_deep {xs : List El} (hw : ∀ y ∈ xs, El.wf y) (hx : ∀ y ∈ xs, Der.thr 11 y.1 y.2.1 = 0) (he : ∀ y ∈ E.extra xs, El.wf y) : ∀ y ∈ E.extra xs, Der.thr 13 y.1 y.2.1 = 0 := by
  intro y hy
  have hwy := he y hy
  unfold E.extra at hy
  split at hy
  · simp at hy
  · rw [List.mem_singleton.1 hy] at hwy ⊢
    have h1 := hwy.2.2
    have h2 := write_ge 48 (raws xs)
    simp only [El.mk] at h1
    have e : (El.mk 163 (El.mk 48 (raws xs)).2.2).2.1 = raws [El.mk 48 (raws xs)] := by
      rw [raws_cons, raws_nil, List.append_nil]
      rfl
    rw [e]
    refine thr_cons (k := 12) (fun z hz => ?_) (fun z hz => ?_)
    · rw [List.mem_singleton.1 hz]
      exact El.mk_wf (by decide) (by omega)
    · rw [List.mem_singleton.1 hz]
      exact thr_cons (k := 11) hw hx
theorem tbs_deep {ser : List UInt8} {iss sub : El} {a b : Tm} {nn : List UInt8} {e : Nat} {xs : List El} (hall : ∀ y ∈ E.seven ser iss sub a b nn e ++ E.extra xs, El.wf y)
    (h1 : Der.thr 13 iss.1 iss.2.1 = 0) (h2 : Der.thr 13 sub.1 sub.2.1 = 0) (hw : ∀ y ∈ xs, El.wf y) (hx : ∀ y ∈ xs, Der.thr 11 y.1 y.2.1 = 0) : Der.thr 14 (E.tbs ser iss sub a b nn e xs).1 (E.tbs ser iss sub a b nn e xs).2.1 = 0 := by
  refine thr_cons (k := 13) hall (fun y hy => ?_)
  rcases List.mem_append.1 hy with hy | hy
  · have hyw := hall y (List.mem_append_left _ hy)
    simp only [E.seven, List.mem_cons, List.not_mem_nil, or_false] at hy
    rcases hy with rfl | rfl | rfl | rfl | rfl | rfl | rfl
    · decide +kernel
    · exact thr_leaf _ rfl
    · decide +kernel
    · exact h1
    · exact validity_deep a b
    · exact h2
    · exact key_deep hyw
  · exact extra_deep hw hx (fun z hz => hall z (List.mem_append_right _ hz)) y hy
/-- A certificate, written. -/
def E.cert (T : El) (g : List UInt8) : El := El.mk 48 (raws [T, E.alg, El.mk 3 (0 :: g)])
theorem cert_raw (T : El) (g : List UInt8) : (E.cert T g).2.2 = Ref.wr T.2.2 g := by
  unfold E.cert Ref.wr Ref.seq
  refine congrArg (Der.write 48) ?_
  simp only [raws_cons, raws_nil, List.flatten_cons, List.flatten_nil, alg_raw, mk_raw]
theorem cert_wf {T : El} {g : List UInt8} (hT : El.wf T) (hl : (E.cert T g).2.2.length ≤ 8192) : El.wf (E.cert T g) ∧ ∀ y ∈ [T, E.alg, El.mk 3 (0 :: g)], El.wf y := by
  have g1 := write_ge 48 (raws [T, E.alg, El.mk 3 (0 :: g)])
  have h1 : (raws [T, E.alg, El.mk 3 (0 :: g)]).length < 4294967296 := by simp only [E.cert, El.mk] at hl g1 ⊢; omega
  refine ⟨El.mk_wf (by decide) h1, fun y hy => ?_⟩
  have hy2 := hy
  simp only [List.mem_cons, List.not_mem_nil, or_false] at hy2
  rcases hy2 with rfl | rfl | rfl
  · exact hT
  · exact El.mk_wf (by decide) (by decide)
  · exact mk_small (by decide) hy h1
theorem cert_check {T : El} {g : List UInt8} (hT : El.wf T) (hd : Der.thr 14 T.1 T.2.1 = 0) (hl : (E.cert T g).2.2.length ≤ 8192) : Der.check (E.cert T g).2.2 = 0 := by
  have hw := cert_wf hT hl
  rw [check_mk hw.1]
  refine thr_cons (k := 14) hw.2 (fun y hy => ?_)
  simp only [List.mem_cons, List.not_mem_nil, or_false] at hy
  rcases hy with rfl | rfl | rfl
  · exact hd
  · decide +kernel
  · exact thr_leaf _ rfl
/-- What a certificate, written, is read as: what its signed part is. -/
theorem cert_parse {T : El} {g : List UInt8} (hT : El.wf T) (hd : Der.thr 14 T.1 T.2.1 = 0) (hl : (E.cert T g).2.2.length ≤ 8192) :
    Cert.parse (E.cert T g).2.2 = match Cert.signed Fl.bare T with
      | none => .no 9
      | some s => .yes s g := by
  have hw := cert_wf hT hl
  unfold Cert.parse
  rw [if_neg (by omega), cert_check hT hd hl, if_neg (by decide)]
  have hr : Cert.read (E.cert T g).2.2 = (Cert.signed Fl.bare T).bind fun s => some (s, g) := by
    unfold Cert.read
    rw [only_mk hw.1]
    simp only [Option.bind_some]
    rw [parts_mk (L := [T, E.alg, El.mk 3 (0 :: g)]) (by rfl) rfl hw.2 (by simp) (by simp)]
    simp only [Option.bind_some, List.getD_cons_zero, List.getD_cons_succ]
    rw [alg_method, whole_mk]
    rfl
  rw [hr]
  cases Cert.signed Fl.bare T <;> rfl
theorem parse_bad {b : List UInt8} (hl : b.length ≤ 8192) (h : Der.check b = 9) : Cert.parse b = .no 9 := by
  unfold Cert.parse
  rw [if_neg (by omega), h, if_pos (by decide)]
theorem trim_idem (xs : List UInt8) : Der.trim (Der.trim xs) = Der.trim xs := by
  induction xs with
  | nil => rfl
  | cons x xs ih =>
    by_cases h : x = 0
    · subst h
      rw [trim_cons0, ih]
    · rw [trim_stop xs h, trim_stop xs h]
theorem kase_nn (k : Kase) : k.nn = Der.trim (k.n.take 600) := by
  unfold Kase.nn
  rw [int_putInt]
  rfl
theorem kase_serial (k : Kase) : k.serial = 1 :: k.ser.take 18 := by
  unfold Kase.serial Der.putInt
  rw [show ([1] ++ k.ser.take 18 : List UInt8) = 1 :: k.ser.take 18 from rfl, trim_stop _ (by decide), if_neg (by simp)]
theorem kase_fl (k : Kase) (hp : k.path < 256) (hu : k.usage < 256) : k.fl.std := by
  refine ⟨?_, ?_, ?_, ?_⟩
  · unfold Kase.fl
    dsimp only
    split
    · rename_i h
      simp only [Bool.and_eq_true, decide_eq_true_eq] at h
      omega
    · omega
  · have := fl_path k hp
    omega
  · intro h
    unfold Kase.fl at h ⊢
    dsimp only at h ⊢
    rw [h]
    rfl
  · unfold Kase.fl
    dsimp only
    split
    · rename_i h
      exact .inr ⟨k.usage, hu, h, by push_cast; rfl⟩
    · exact .inl rfl
theorem less_irr : ∀ l : List Nat, lexLt l l = false
  | [] => rfl
  | x :: l => by
    rw [lexLt, if_pos rfl]
    exact less_irr l
theorem kase_times (k : Kase) : Stamp.right k.start = true ∧ Stamp.right k.stop = true ∧ Stamp.less k.stop k.start = false := by
  have h1 : Stamp.right k.start = true := by
    unfold Kase.start
    split
    · assumption
    · decide
  refine ⟨h1, ?_, ?_⟩
  · unfold Kase.stop
    split
    · exact h1
    · rename_i h
      simp only [Bool.or_eq_true, Bool.not_eq_true', not_or] at h
      simpa using h.1
  · unfold Kase.stop
    split
    · exact less_irr _
    · rename_i h
      simp only [Bool.or_eq_true, Bool.not_eq_true', not_or] at h
      simpa using h.2
/-- The case's signed part, as an element. -/
def Kase.T (k : Kase) : El := E.tbs k.serial (E.name (k.iss.take 200)) (E.name (k.sub.take 200)) k.start k.stop k.nn (k.e % 8589934592) (E.exts k.fl)
theorem kase_T (k : Kase) : k.T.2.2 = k.tbs := by
  unfold Kase.T Kase.tbs
  rw [tbs_raw, name_raw, name_raw]
def Kase.sg (k : Kase) : Sg := ⟨k.tbs, Ref.name (k.iss.take 200), Ref.name (k.sub.take 200), k.serial, k.start, k.stop, k.nn, k.e % 8589934592, k.fl⟩
theorem kase_nlen (k : Kase) : k.nn.length ≤ 600 := by
  rw [kase_nn]
  have := trim_len (k.n.take 600)
  rw [List.length_take] at this
  omega
theorem kase_tlen (k : Kase) : k.tbs.length ≤ 4000 := by
  refine tbs_len _ _ _ _ _ _ _ _ (name_len _ (by rw [List.length_take]; omega)) (name_len _ (by rw [List.length_take]; omega)) ?_ (kase_nlen k)
  rw [kase_serial, List.length_cons, List.length_take]
  omega
theorem wr_up (t g : List UInt8) (h1 : t.length ≤ 4000) (h2 : g.length ≤ 600) : (Ref.wr t g).length ≤ 4700 := by
  unfold Ref.wr Ref.seq
  have a1 := write_lt 3 (0 :: g) 601 (by simp; omega) (by omega)
  have a2 : Ref.signAlg.length = 15 := rfl
  have a3 := write_lt 48 [t, Ref.signAlg, Der.write 3 (0 :: g)].flatten 4622 (by simp only [List.flatten_cons, List.flatten_nil, List.append_nil, List.length_append]; omega) (by omega)
  omega
theorem kase_rlen (k : Kase) : k.raw.length ≤ 4700 := wr_up _ _ (kase_tlen k) (by rw [List.length_take]; omega)
theorem kase_exts (f : Fl) (hf : f.std) : ∀ y ∈ E.exts f, Der.thr 11 y.1 y.2.1 = 0 := by
  have key : ∀ nm body, (E.ext nm body).2.2.length < 4294967296 → Der.thr 11 (E.ext nm body).1 (E.ext nm body).2.1 = 0 := fun nm body hl => by
    have g2 := write_ge 48 (raws [El.mk 6 nm, El.mk 4 body])
    have hl2 : (raws [El.mk 6 nm, El.mk 4 body]).length < 4294967296 := by
      simp only [E.ext, El.mk] at hl g2 ⊢
      omega
    refine thr_cons (k := 10) (fun y hy => ?_) (fun y hy => ?_)
    · have hy2 := hy
      simp only [List.mem_cons, List.not_mem_nil, or_false] at hy2
      rcases hy2 with rfl | rfl
      · exact mk_small (by decide) hy hl2
      · exact mk_small (by decide) hy hl2
    · simp only [List.mem_cons, List.not_mem_nil, or_false] at hy
      rcases hy with rfl | rfl
      · exact thr_leaf _ rfl
      · exact thr_leaf _ rfl
  intro y hy
  unfold E.exts at hy
  simp only [List.mem_append] at hy
  rcases hy with (hy | hy) | hy
  · split at hy
    · rw [List.mem_singleton.1 hy]
      exact key _ _ (extEl_len _ _ (by simp) (by have := basic_len f.path; omega))
    · simp at hy
  · split at hy
    · rw [List.mem_singleton.1 hy]
      rcases hf.u with hu | ⟨p, hp, hp0, hu⟩
      · omega
      · rw [hu, Int.toNat_natCast]
        exact key _ _ (extEl_len _ _ (by simp) (by have := (laid_wf p hp).2; omega))
    · simp at hy
  · split at hy
    · simp at hy
    · rw [List.mem_singleton.1 hy]
      exact key _ _ (extEl_len _ _ (by simp) (by decide +kernel))
theorem exts_few (f : Fl) : (E.exts f).length ≤ 3 := by
  unfold E.exts
  simp only [List.length_append]
  have h1 : (if f.ca = true then [E.ext [85, 29, 19] (E.basic f.path).2.2] else []).length ≤ 1 := by split <;> simp
  have h2 : (if 0 ≤ f.usage then [E.ext [85, 29, 15] (El.mk 3 (E.laid f.usage.toNat)).2.2] else []).length ≤ 1 := by split <;> simp
  have h3 : (if f.code = true then [] else [E.ext [85, 29, 37] E.host.2.2]).length ≤ 1 := by split <;> simp
  omega
theorem kase_signed (k : Kase) (hp : k.path < 256) (hu : k.usage < 256) : Cert.signed Fl.bare k.T = some k.sg ∧ El.wf k.T ∧ Der.thr 14 k.T.1 k.T.2.1 = 0 := by
  have hf := kase_fl k hp hu
  obtain ⟨ns, hx, hd⟩ := exts_mk k.fl hf
  have ht := kase_times k
  have hnl : ∀ s : List UInt8, (E.name (s.take 200)).2.2.length < 4294967296 := fun s => by
    rw [name_raw]
    have := name_len (s.take 200) (by rw [List.length_take]; omega)
    omega
  have hn1 := name_wf _ (hnl k.iss)
  have hn2 := name_wf _ (hnl k.sub)
  have hser : Der.int k.serial = some (1 :: k.ser.take 18) := by
    unfold Kase.serial
    rw [int_putInt, show ([1] ++ k.ser.take 18 : List UInt8) = 1 :: k.ser.take 18 from rfl, trim_stop _ (by decide)]
  have hm := tbs_mk (f := Fl.bare) (ser := k.serial) (iss := E.name (k.iss.take 200)) (sub := E.name (k.sub.take 200)) (a := k.start) (b := k.stop) (nn := k.nn) (e := k.e % 8589934592) (xs := E.exts k.fl) (p := (k.fl, ns))
    hser (by simp) (by rw [kase_serial, List.length_cons, List.length_take]; omega) hn1.1 rfl hn2.1 rfl ht.1 ht.2.1 ht.2.2 (Nat.mod_lt _ (by decide)) (exts_wf k.fl hf) (by have := exts_few k.fl; omega) hx hd
    (by have h1 := kase_tlen k; rw [← kase_T] at h1; unfold Kase.T at h1; omega)
  refine ⟨?_, hm.2.1, tbs_deep hm.2.2 hn1.2 hn2.2 (exts_wf k.fl hf) (kase_exts k.fl hf)⟩
  refine hm.1.trans ?_
  unfold Kase.sg
  rw [← kase_T, name_raw, name_raw]
  congr 2
  rw [kase_nn, trim_idem]
theorem kase_raw (k : Kase) : k.raw = (E.cert k.T (k.sig.take 600)).2.2 := by
  rw [cert_raw, kase_T]
  rfl
/-- THE CERTIFICATE OF A CASE IS READ AS WHAT IT SAYS. -/
theorem kase_parse (k : Kase) (hp : k.path < 256) (hu : k.usage < 256) : Cert.parse k.raw = .yes k.sg (k.sig.take 600) := by
  obtain ⟨h1, h2, h3⟩ := kase_signed k hp hu
  have hl := kase_rlen k
  rw [kase_raw] at hl ⊢
  rw [cert_parse h2 h3 (by omega), h1]
theorem kase_cut (k : Kase) (hp : k.path < 256) (hu : k.usage < 256) {c : Nat} (hc : c < k.raw.length) : Cert.parse (k.raw.take c) = .no 9 := by
  obtain ⟨h1, h2, h3⟩ := kase_signed k hp hu
  have hl := kase_rlen k
  refine parse_bad (by rw [List.length_take]; omega) ?_
  rw [kase_raw] at hl hc ⊢
  exact check_cut (cert_wf h2 (by omega)).1 hc
theorem kase_more (k : Kase) (hp : k.path < 256) (hu : k.usage < 256) {more : List UInt8} (hm : more ≠ []) (hl : more.length ≤ 100) : Cert.parse (k.raw ++ more) = .no 9 := by
  obtain ⟨h1, h2, h3⟩ := kase_signed k hp hu
  have hl := kase_rlen k
  refine parse_bad (by rw [List.length_append]; omega) ?_
  rw [kase_raw] at hl ⊢
  exact check_more (cert_wf h2 (by omega)).1 hm
end Go.Proofs.Ytmnekhliblkibaa
end
