/- The walk of the law CertParses. -/
import Derived.Test.YtmnekhliblkibaaRC12
import Derived.Test.YtmnekhliblkibaaApart3C
namespace Go.Proofs.Ytmnekhliblkibaa
open Go.RowKit
set_option maxRecDepth 1000000
set_option linter.unusedVariables false
set_option linter.unusedSimpArgs false

theorem wpList_load_certG {ops : Array Oper} {rest : List Oper} {op : Oper} {a : Act} {w : World} {Q : Exit → Act → World → Prop} (hw : Region.wanted op (yielded ops a.tmps) = true) (x : Operand) (ho : op.op = .load 32 x)
    (gc : Nat) (C : CV) (hx : a.eval x = .pointer (some ⟨gc, 0, none⟩)) (hB : Bc w gc C) (h : wpList Try.prog ops Q rest (a.put op.dst C.val) w) : wpList Try.prog ops Q (op :: rest) a w := by
  refine BigFrame.wpList_want hw fun K hK => ?_
  unfold Oper.wp execOp
  simp only [ho, hx, Instr.loadAt, Instr.sureAddr, Sem.run_bind, Sem.run_pure, Result.andThen_ok, load_cert hB]
  exact hK _ _ h

theorem key_small {x : El} {k : List UInt8 × Nat} (h : RC.key x = some k) : k.1.length ≤ x.2.1.length := by
  unfold RC.key at h
  obtain ⟨l, hl, h⟩ := binv h
  obtain ⟨_, h1, h⟩ := binv h
  obtain ⟨b, hb, h⟩ := binv h
  obtain ⟨y, hy, h⟩ := binv h
  obtain ⟨m, hm, h⟩ := binv h
  obtain ⟨_, h2, h⟩ := binv h
  obtain ⟨n, hn, h⟩ := binv h
  obtain ⟨e, he, h⟩ := binv h
  obtain ⟨v, hv, h⟩ := binv h
  injection h with h
  subst h
  obtain ⟨_, hr, hw⟩ := rparts_inv (u := 48) (by decide) hl
  obtain ⟨_, hr2, hw2⟩ := rparts_inv (u := 48) (by decide) hm
  have h1 := must_some.1 h1
  have h2 := must_some.1 h2
  simp only [Bool.and_eq_true, decide_eq_true_eq] at h1 h2
  have a1 := number_len hn
  have a2 := body_of hr2 hw2 (k := 0) (by omega)
  have a3 := (only_len hy).1
  have a4 := whole_len hb
  have a5 := body_of hr hw (k := 1) (by omega)
  dsimp only
  omega
theorem raw_of {l : List El} {x : El} (hb : x.2.1 = raws l) {k : Nat} (hk : k < l.length) : (l.getD k El.none_).2.2.length ≤ x.2.1.length := by
  rw [List.getD_eq_getElem?_getD, List.getElem?_eq_getElem hk, hb]
  exact raws_mem (List.getElem_mem hk)
theorem signed_small {f : Fl} {x : El} {s : Sg} (h : RC.signed f x = some s) : s.tbs = x.2.2 ∧ s.iss.length ≤ x.2.1.length ∧ s.sub.length ≤ x.2.1.length ∧ s.ser.length ≤ x.2.1.length ∧ s.n.length ≤ x.2.1.length := by
  unfold RC.signed at h
  obtain ⟨t, ht, h⟩ := binv h
  obtain ⟨_, h1, h⟩ := binv h
  obtain ⟨n, hn, h⟩ := binv h
  obtain ⟨_, h2, h⟩ := binv h
  obtain ⟨v, hv, h⟩ := binv h
  obtain ⟨_, h3, h⟩ := binv h
  obtain ⟨a, ha, h⟩ := binv h
  obtain ⟨b, hb, h⟩ := binv h
  obtain ⟨k, hk, h⟩ := binv h
  obtain ⟨_, h4, h⟩ := binv h
  obtain ⟨g, hg, h⟩ := binv h
  injection h with h
  subst h
  obtain ⟨_, hr, hw⟩ := rparts_inv (u := 48) (by decide) ht
  have h1 := must_some.1 h1
  unfold RC.first at h1
  simp only [Bool.and_eq_true, decide_eq_true_eq] at h1
  have hl := h1.1.1.1.1.1
  have hks := key_small hk
  have h6 := body_of hr hw (k := 6) (by omega)
  exact ⟨rfl, raw_of hr (by omega), raw_of hr (by omega), body_of hr hw (by omega), Nat.le_trans hks h6⟩
theorem parse_small {b : List UInt8} {s : Sg} {g : List UInt8} (h : Cert.parse b = .yes s g) : b.length ≤ 8192 ∧ s.tbs.length ≤ 8192 ∧ s.iss.length ≤ 8192 ∧ s.sub.length ≤ 8192 ∧ s.ser.length ≤ 8192 ∧ s.n.length ≤ 8192 ∧ g.length ≤ 8192 := by
  rw [rparse_eq] at h
  by_cases h8 : 8192 < b.length
  · rw [if_pos h8] at h; cases h
  · rw [if_neg h8] at h
    split at h
    · cases h
    · cases hr : RC.read b with
      | none => rw [hr] at h; cases h
      | some p =>
        rw [hr] at h
        injection h with e1 e2
        subst e1 e2
        unfold RC.read at hr
        obtain ⟨x, hx, hr⟩ := binv hr
        obtain ⟨l, hl, hr⟩ := binv hr
        obtain ⟨_, h1, hr⟩ := binv hr
        obtain ⟨g, hg, hr⟩ := binv hr
        obtain ⟨s, hs, hr⟩ := binv hr
        injection hr with hr
        subst hr
        obtain ⟨_, hb, hw⟩ := rparts_inv (u := 48) (by decide) hl
        have h1 := must_some.1 h1
        simp only [Bool.and_eq_true, decide_eq_true_eq] at h1
        have a0 := (only_len hx).1
        have a1 := signed_small hs
        have a2 := body_of hb hw (k := 0) (by omega)
        have a3 := raw_of hb (k := 0) (by omega)
        have a4 := body_of hb hw (k := 2) (by omega)
        have a5 := whole_len hg
        dsimp only
        rw [a1.1]
        omega

/-- What cert.Parse tells: rows of its own, apart. -/
def POwn (b : List UInt8) (w : World) (e : Ending) (w' : World) : Prop := Below w.heap.size w w' ∧ ∃ (C : CV) (raw tbs iss sub ser nn sig : List UInt8), e = .returned (.tuple #[C.val, .int .i64 ((Cert.parse b).err : Int)]) ∧ CI w' C raw tbs iss sub ser nn sig ∧
  (∀ p ∈ [(C.raw, raw), (C.tbs, tbs), (C.iss, iss), (C.sub, sub), (C.ser, ser), (C.n, nn), (C.sig, sig)], OwnB w' w.heap.size w'.heap.size p.1 p.2) ∧ Apart' [(C.raw, raw), (C.tbs, tbs), (C.iss, iss), (C.sub, sub), (C.ser, ser), (C.n, nn), (C.sig, sig)] ∧
  (∀ p ∈ [(C.raw, raw), (C.tbs, tbs), (C.iss, iss), (C.sub, sub), (C.ser, ser), (C.n, nn), (C.sig, sig)], p.2.length ≤ 1099511627) ∧
  (∀ (D : CV) (W : World), PC (Cert.parse b) b D W → CI W D raw tbs iss sub ser nn sig ∧ C.from_ = D.from_ ∧ C.to = D.to ∧ C.e = D.e ∧ C.fl = D.fl)
theorem parse_own (A : Option Addr) (n c : Nat) (b : List UInt8) (w : World) (h : Rd w w.heap.size A n c b) : Calls Try.prog 16 #[.slice A n c] w (POwn b w) := by
  refine (parse_cert_any A n c b w h).mono ?_
  rintro e w' ⟨hb, ⟨m, hm, h0, rfl⟩ | ⟨s, g, vr, vt, vi, vs, ve, vn, vg, hyes, rfl, hown, hap⟩⟩
  · refine ⟨hb, CV.zero, [], [], [], [], [], [], [], by rw [hm]; rfl, CI.zero _, ?_, ?_, by simp, ?_⟩
    · intro p hp
      simp only [CV.zero, List.mem_cons, List.not_mem_nil, or_false, or_self] at hp
      subst hp
      exact OwnB.nil_
    · simp [Apart', CV.zero, Value.ownBlock]
    · intro D W hD
      rw [hm] at hD
      obtain ⟨rfl, _⟩ := hD.out
      exact ⟨CI.zero _, rfl, rfl, rfl, rfl⟩
  · refine ⟨hb, s.cv vr vt vi vs ve vn vg, b, s.tbs, s.iss, s.sub, s.ser, s.n, g, by rw [hyes]; rfl, CI.parsed hown, hown, hap, ?_, ?_⟩
    · have hs := parse_small hyes
      intro p hp
      simp only [List.mem_cons, List.not_mem_nil, or_false] at hp
      rcases hp with rfl | rfl | rfl | rfl | rfl | rfl | rfl <;> dsimp only <;> omega
    · intro D W hD
      rw [hyes] at hD
      obtain ⟨h1, h2, h3, h4, h5⟩ := hD.out
      exact ⟨h5, h1.symm, h2.symm, h3.symm, h4.symm⟩

theorem cparses_large (A : Option Addr) (n c : Nat) (w : World) (hn : (16384 : Int) < n) :
    Calls Try.prog 3 #[.slice A n c] w (LawPost w) := by
  go_enter Try.func3, Try.ntmps3
  go_wp2_with fail
  refine (works12_any _).mono ?_
  rintro e w1 ⟨rfl, hb1⟩
  go_wp2
  go_ret
  exact ⟨rfl, hb1⟩

set_option maxHeartbeats 8000000 in
theorem cparses_main (A : Option Addr) (n c : Nat) (b : List UInt8) (w : World) (h : Rd w w.heap.size A n c b) (hn : ¬ (16384 : Int) < n) :
    Calls Try.prog 3 #[.slice A n c] w (LawPost w) := by
  have hl := h.len
  have H := Lib.hid (And.intro h hl)
  clear h hl
  go_enter Try.func3, Try.ntmps3
  go_wp2_with fail
  refine (roomy_any A n c b _ H.out.1 (by omega)).mono ?_
  rintro e w1 ⟨v1, rfl, hR1, hb1⟩
  obtain ⟨A1, n1, c1, rfl, hr1⟩ := hR1.own.rd
  have hn1 : n1 = n := by rw [← hr1.len, H.out.2]
  subst hn1
  have H1 := Lib.hid (And.intro hR1 (And.intro hr1 hb1))
  have hs1 := hb1.size
  clear hR1 hr1 hb1
  go_wp2_with fail
  refine (parse_own A1 n1 c1 b _ H1.out.2.1).mono ?_
  rintro e w2 ⟨hb2, C, raw, tbs, iss, sub, ser, nn, sig, rfl, hCI, hown, hap, hsz, hD⟩
  obtain ⟨er, her⟩ : ∃ er, (Cert.parse b).err = er := ⟨_, rfl⟩
  rw [her]
  have hs2 := hb2.size
  have hone := hCI.one
  have hBn := Blk.new w2 32 CV.zero.cells
  have H2 := Lib.hid (And.intro hCI (And.intro hown (And.intro hap (And.intro hsz (And.intro hD (And.intro hb2 her))))))
  clear hCI hown hap hsz hD hb2 her
  go_upto_region 5 with (first
    | ((with_reducible refine at_store_cert ?_); refine wpList_store_cert rfl _ _ rfl w2.heap.size CV.zero C rfl rfl hBn hone ?_; intro w3 hB3 hg3)
    | fail)
  have hb23 : Below w2.heap.size w2 w3 := below_grow ((Below.refl _ w2).alloc (Nat.le_refl _) _) hg3 (Nat.le_refl _) (Nat.le_refl _)
  have hb13 := H2.out.2.2.2.2.2.1.trans (hb23.mono hs2)
  have H3 := Lib.hid (And.intro hB3 (And.intro hb23 (H1.out.2.2.trans (hb13.mono hs1))))
  have hs3 := hb23.size
  clear hB3 hg3 hb23 hBn hb13
  go_wp2_with fail
  refine (rparse_any A n1 c b _ (H.out.1.up H3.out.2.2) (by omega)).mono ?_
  rintro e w4 ⟨hb4, D, rfl, hPC⟩
  rw [H2.out.2.2.2.2.2.2]
  obtain ⟨hDI, hf, ht, he, hfl⟩ := H2.out.2.2.2.2.1 D w4 hPC
  have hs4 := hb4.size
  have hone4 := hDI.one
  have hBn := Blk.new w4 32 CV.zero.cells
  have H4 := Lib.hid (And.intro hDI (And.intro hf (And.intro ht (And.intro he (And.intro hfl hb4)))))
  clear hDI hf ht he hfl hb4 hPC
  go_upto_region 6 with (first
    | ((with_reducible refine at_store_cert ?_); refine wpList_store_cert rfl _ _ rfl w4.heap.size CV.zero D rfl rfl hBn hone4 ?_; intro w5 hB5 hg5)
    | fail)
  have hb45 : Below w4.heap.size w4 w5 := below_grow ((Below.refl _ w4).alloc (Nat.le_refl _) _) hg5 (Nat.le_refl _) (Nat.le_refl _)
  have hb35 := H4.out.2.2.2.2.2.trans (hb45.mono hs4)
  have hb25 := H3.out.2.1.trans (hb35.mono hs3)
  have hB3 := H3.out.1.below hb35 H3.out.1.lt
  have hs5 := hb45.size
  have H5 := Lib.hid (And.intro hB5 (And.intro hB3 (And.intro (H2.out.1.below hb25) (And.intro (H4.out.1.below hb45) hb25))))
  clear hB5 hg5 hb45 hb35 hB3 hBn
  go_wp2_with (first
    | ((with_reducible refine at_load_cert ?_); (first | (refine wpList_load_certG (by rfl) _ rfl w2.heap.size C rfl H5.out.2.1 ?_) | (refine wpList_load_certG (by rfl) _ rfl w4.heap.size D rfl H5.out.1 ?_)))
    | fail)
  refine (CI.same H5.out.2.2.1 H5.out.2.2.2.1 H4.out.2.1 H4.out.2.2.1 H4.out.2.2.2.1 H4.out.2.2.2.2.1).mono ?_
  rintro e w6 ⟨rfl, hb6⟩
  have hb26 := H5.out.2.2.2.2.trans (hb6.mono (by omega))
  have hb16 := H2.out.2.2.2.2.2.1.trans (hb26.mono hs2)
  have hs6 := hb6.size
  have hR6 := H1.out.1.below hb16 (Nat.le_refl _)
  have hbw6 := H1.out.2.2.trans (hb16.mono hs1)
  have H6 := Lib.hid (And.intro hR6 (And.intro (H.out.1.up hbw6) (And.intro hbw6 (And.intro hb26 (H5.out.2.1.below hb6 (by have := H5.out.2.1.lt; omega))))))
  clear hb6 hb26 hb16 hR6 hbw6
  go_wp2_with fail
  refine (kept_any _ _ _ _ _ _ _ _ _ H6.out.1 H6.out.2.1 (by omega)).mono ?_
  rintro e w7 ⟨rfl, rfl⟩
  have hB7 := H6.out.2.2.2.2
  obtain ⟨Ar, nr, cr, q0, _, _⟩ := H2.out.1.raw
  obtain ⟨At, nt, ct, q1, _, _⟩ := H2.out.1.tbs
  obtain ⟨Ai, ni, ci, q2, _, _⟩ := H2.out.1.iss
  obtain ⟨Au, nu, cu, q3, _, _⟩ := H2.out.1.sub
  obtain ⟨Ae, ne, ce, q4, _, _⟩ := H2.out.1.ser
  obtain ⟨An, nn', cn, q5, _, _⟩ := H2.out.1.n
  obtain ⟨Ag, ng, cg, q6, _, _⟩ := H2.out.1.sig
  have k0 : w7.cell? ⟨w2.heap.size, 0, none⟩ = some (.slice Ar nr cr) := (hB7.at_ 0).trans (by unfold CV.cells; rw [← q0]; rfl)
  have k1 : w7.cell? ⟨w2.heap.size, 1, none⟩ = some (.slice At nt ct) := (hB7.at_ 1).trans (by unfold CV.cells; rw [← q1]; rfl)
  have k2 : w7.cell? ⟨w2.heap.size, 2, none⟩ = some (.slice Ai ni ci) := (hB7.at_ 2).trans (by unfold CV.cells; rw [← q2]; rfl)
  have k3 : w7.cell? ⟨w2.heap.size, 3, none⟩ = some (.slice Au nu cu) := (hB7.at_ 3).trans (by unfold CV.cells; rw [← q3]; rfl)
  have k4 : w7.cell? ⟨w2.heap.size, 4, none⟩ = some (.slice Ae ne ce) := (hB7.at_ 4).trans (by unfold CV.cells; rw [← q4]; rfl)
  have k5 : w7.cell? ⟨w2.heap.size, 17, none⟩ = some (.slice An nn' cn) := (hB7.at_ 17).trans (by unfold CV.cells; rw [← q5]; rfl)
  have k6 : w7.cell? ⟨w2.heap.size, 19, none⟩ = some (.slice Ag ng cg) := (hB7.at_ 19).trans (by unfold CV.cells; rw [← q6]; rfl)
  obtain ⟨rows, hrows⟩ : ∃ rows, rows = [(Value.slice Ar nr cr, raw), (.slice At nt ct, tbs), (.slice Ai ni ci, iss), (.slice Au nu cu, sub), (.slice Ae ne ce, ser), (.slice An nn' cn, nn), (.slice Ag ng cg, sig)] := ⟨_, rfl⟩
  have hown7 : ∀ p ∈ rows, OwnB w7 w1.heap.size w7.heap.size p.1 p.2 := by
    intro p hp
    have h2 := H2.out.2.1
    rw [q0, q1, q2, q3, q4, q5, q6, ← hrows] at h2
    exact ((h2 p hp).below H6.out.2.2.2.1 (Nat.le_refl _)).mono (Nat.le_refl _) (by omega)
  have hap7 : Apart' rows := by
    have h2 := H2.out.2.2.1
    rwa [q0, q1, q2, q3, q4, q5, q6, ← hrows] at h2
  have hsz7 : ∀ p ∈ rows, p.2.length ≤ 1099511627 := by
    have h2 := H2.out.2.2.2.1
    rwa [q0, q1, q2, q3, q4, q5, q6, ← hrows] at h2
  have hap8 := apart_back (l := [(Value.slice A1 n1 c1, b)]) (lo := w.heap.size) (mid := w1.heap.size) (fun p hp => by obtain rfl := List.mem_singleton.1 hp; exact H6.out.1.own) hown7 (by simp [Apart']) hap7
  have hin : ApIn (w7.alloc (.cells #[.slice Ar nr cr, .slice At nt ct, .slice Ai ni ci, .slice Au nu cu, .slice Ae ne ce, .slice An nn' cn, .slice Ag ng cg, .slice A1 n1 c1] 22)) w.heap.size w7.heap.size w7.heap.size 8 #[.slice Ar nr cr, .slice At nt ct, .slice Ai ni ci, .slice Au nu cu, .slice Ae ne ce, .slice An nn' cn, .slice Ag ng cg, .slice A1 n1 c1] (rows ++ [(Value.slice A1 n1 c1, b)]) := {
    blk := Blk.new w7 _ _
    above := Nat.le_refl _
    len := by rw [hrows]; rfl
    cells := by
      intro j p hj
      rw [hrows] at hj
      match j, hj with
      | 0, hj => simp at hj; subst hj; rfl
      | 1, hj => simp at hj; subst hj; rfl
      | 2, hj => simp at hj; subst hj; rfl
      | 3, hj => simp at hj; subst hj; rfl
      | 4, hj => simp at hj; subst hj; rfl
      | 5, hj => simp at hj; subst hj; rfl
      | 6, hj => simp at hj; subst hj; rfl
      | 7, hj => simp at hj; subst hj; rfl
      | j + 8, hj => simp at hj
    rows := by
      intro p hp
      rcases List.mem_append.1 hp with hp | hp
      · exact ((hown7 p hp).alloc (Nat.le_refl _) _).mono (by omega) (Nat.le_refl _)
      · obtain rfl := List.mem_singleton.1 hp
        exact (H6.out.1.own.alloc (by omega) _).mono (Nat.le_refl _) (by omega)
    apart := hap8
    lo_ := H6.out.2.2.1.size
    size := by omega
    sizes := by
      intro p hp
      rcases List.mem_append.1 hp with hp | hp
      · exact hsz7 p hp
      · obtain rfl := List.mem_singleton.1 hp
        have := H.out.2
        dsimp only
        omega }
  have HIN := Lib.hid hin
  clear hin hap8 hsz7 hap7 hown7 hB7 hrows q0 q1 q2 q3 q4 q5 q6
  go_wp2_with fail
  refine (Apart_any w.heap.size w7.heap.size w7.heap.size 8 8 _ _ _ HIN.out).mono ?_
  rintro e w8 ⟨rfl, hb8⟩
  have hbw8 : Below w.heap.size w w8 := (H6.out.2.2.1.alloc H6.out.2.2.1.size _).trans hb8
  go_wp2_with fail
  refine (works12_any _).mono ?_
  rintro e w9 ⟨rfl, hb9⟩
  go_wp2
  go_ret
  exact ⟨rfl, hbw8.trans (hb9.mono hbw8.size)⟩

theorem certParses_walk (w : World) (A : Option Addr) (n c : Nat) (b : List UInt8) (h : Rd w w.heap.size A n c b) :
    Calls Try.prog 3 #[.slice A n c] w (LawPost w) := by
  by_cases hn : (16384 : Int) < n
  · exact cparses_large A n c w hn
  · exact cparses_main A n c b w h hn
end Go.Proofs.Ytmnekhliblkibaa
