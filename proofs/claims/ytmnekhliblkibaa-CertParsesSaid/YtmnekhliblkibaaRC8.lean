/- The contract of the document's key. -/
import Derived.Test.YtmnekhliblkibaaRC7
import Derived.Test.YtmnekhliblkibaaRC5
namespace Go.Proofs.Ytmnekhliblkibaa
open Go.RowKit
set_option maxRecDepth 100000
set_option linter.unusedVariables false
set_option linter.unusedSimpArgs false

/-- A key told, and whether it is right. -/
def KeyQ (w : World) (o : Option (List UInt8 × Nat)) (e : Ending) (w' : World) : Prop :=
  ∃ (q : Bool) (A : Option Addr) (n c : Nat) (ys : List UInt8) (v : Nat), e = .returned (.tuple #[.agg #[.slice A n c, .int .u64 (v : Int)], .bool q]) ∧ Below w.heap.size w w' ∧ RdT w' (.slice A n c) ys ∧ o = if q = true then some (ys, v) else none

/-- A row of bytes is kept by a store into a variable of another kind. -/
theorem RdT.set {w : World} {v : Value} {xs : List UInt8} {g i : Nat} {T : TypeId} {cs : Array Value} (h : RdT w v xs) (hb : Blk w g T cs) (hT : T ≠ 5) (u : Value) : RdT (w.setCell ⟨g, i, none⟩ u) v xs :=
  h.keep (by simp) fun k cs' fr hk => (Below.heap_setCell w ⟨g, i, none⟩ u k (by
    rintro rfl
    unfold Blk at hb
    rw [hb] at hk
    injection hk with hk
    injection hk with _ h2
    exact hT h2))
theorem RdT.nil_ (w : World) : RdT w (.slice none 0 0) [] := ⟨none, 0, 0, rfl, Rd.none_, fun ad e => by cases e⟩
/-- While key works: the result's variable. -/
def K2 (w W : World) : Prop := Blk W (w.heap.size + 1) 30 #[.slice none 0 0, .int .u64 0] ∧ Below w.heap.size w W ∧ w.heap.size + 1 + 1 ≤ W.heap.size
theorem K2.below {w W W' : World} (h : K2 w W) (hb : Below W.heap.size W W') : K2 w W' := ⟨h.1.below hb h.1.lt, h.2.1.trans (hb.mono h.2.1.size), Nat.le_trans h.2.2 hb.size⟩
theorem K2.alloc {w W : World} (h : K2 w W) (o : Obj) : K2 w (W.alloc o) := h.below ((Below.refl _ W).alloc (Nat.le_refl _) o)
theorem load_key (w : World) (b : Nat) (v0 v1 : Value) (h : Blk w b 30 #[v0, v1]) : (loadVar 30 ⟨b, 0, none⟩).run Try.prog w = .ok (.agg #[v0, v1]) w := by
  have hk := h.cell
  have h0 := run_loadVar_mid (P := Try.prog) w b 0 30 [v0, v1] _ (fun j v hv => by rw [Nat.zero_add, hk]; simpa using hv) Try.underlying30 rfl rfl
  exact h0
theorem K2.ret {w W : World} {A : Option Addr} {n c : Nat} {ys : List UInt8} {v : Nat} {o : Option (List UInt8 × Nat)} {q : Bool} {tmps : Array Value} (h : K2 w W) (hr : RdT W (.slice A n c) ys)
    (h2 : tmps.getD 2 undef = .pointer (some ⟨w.heap.size + 1, 0, none⟩)) (h3 : tmps.getD 3 undef = .bool q) (ho : o = if q = true then some (ys, v) else none) :
    bodyPost Try.prog Try.f78 (KeyQ w o) .ret { tmps := tmps, defers := [] } ((W.setCell ⟨w.heap.size + 1, 0, none⟩ (.slice A n c)).setCell ⟨w.heap.size + 1, 1, none⟩ (.int .u64 (v : Int))) := by
  have e4 := (h.1.set_ 0 (.slice A n c)).set_ 1 (.int .u64 (v : Int))
  have hld := load_key _ _ _ _ e4
  refine bodyPost_ret (results_cell_tmp Try.results78 _ _ _ _ _ h2 hld) rfl ?_
  rw [h3]
  refine ⟨q, A, n, c, ys, v, rfl, (h.2.1.setCell (by dsimp only; omega) _).setCell (by dsimp only; omega) _, ?_, ho⟩
  exact (hr.set h.1 (by decide) _).set (h.1.set_ 0 (.slice A n c)) (by decide) _
theorem OwnE.rdt {w : World} {lo hi : Nat} {v : Value} {l : List EI} (h : OwnE w lo hi v l) {k : Nat} {x : EI} (hx : l[k]? = some x) (hh : hi ≤ w.heap.size) : RdT w x.vb x.body ∧ RdT w x.vr x.raw := by
  have hm := List.mem_of_getElem? hx
  exact ⟨RdT.ownx (h.2.1 (x.vb, x.body) (List.mem_flatMap.2 ⟨x, hm, by simp [EI.rows]⟩)) hh, RdT.ownx (h.2.1 (x.vr, x.raw) (List.mem_flatMap.2 ⟨x, hm, by simp [EI.rows]⟩)) hh⟩
theorem len_mem {l : List El} {m : Nat} (h : ∀ y ∈ l, y.2.1.length ≤ m ∧ y.2.2.length ≤ m) {k : Nat} {t : UInt8} {b r : List UInt8} (hk : l.getD k El.none_ = (t, b, r)) : b.length ≤ m ∧ r.length ≤ m := by
  rw [List.getD_eq_getElem?_getD] at hk
  cases hg : l[k]? with
  | none =>
    rw [hg] at hk
    simp only [Option.getD_none, El.none_, Prod.mk.injEq] at hk
    obtain ⟨rfl, rfl, rfl⟩ := hk
    simp
  | some y =>
    rw [hg] at hk
    simp only [Option.getD_some] at hk
    subst hk
    exact h _ (List.mem_of_getElem? hg)

set_option maxHeartbeats 4000000 in
theorem rkey_any (t : UInt8) (A1 A2 : Option Addr) (n1 c1 n2 c2 : Nat) (b r : List UInt8) (w : World) (h1 : Rd w w.heap.size A1 n1 c1 b) (hn : n1 ≤ 1099511627) :
    Calls Try.prog 78 #[.agg #[.int .u8 (t.toNat : Int), .slice A1 n1 c1, .slice A2 n2 c2]] w (KeyQ w (RC.key (t, b, r))) := by
  have hK0 : K2 w ((w.alloc (.cells #[.int .u8 (t.toNat : Int), .slice A1 n1 c1, .slice A2 n2 c2] 50)).alloc (.cells #[.slice none 0 0, .int .u64 0] 30)) := ⟨Blk.new' _ _ (by simp), by (repeat (first | exact Below.refl _ _ | assumption | (refine Below.setCell ?_ (by first | omega | (simp; done) | (simp; omega)) _) | (refine Below.alloc ?_ (by first | omega | (simp; done) | (simp; omega)) _) | (refine below_drewN ?_ _) | (refine Below.drew ?_))), by simp⟩
  have HLB := Lib.hid h1.len
  go_enter Try.func78, Try.ntmps78
  go_wp2_with fail
  refine (rparts_any t A1 A2 n1 c1 n2 c2 48 b r _ (((h1.alloc (Nat.le_refl _) _).alloc (by simp) _).more (by simp; omega)) hn).mono ?_
  rintro e w1 ⟨q, A, n, c, L, rfl, hb1, hE, hnl, hm, ho⟩
  have hK1 := hK0.below hb1
  obtain ⟨l, hl⟩ : ∃ l, l = L.map EI.dat := ⟨_, rfl⟩
  rw [← hl] at hm ho
  have hll : l.length = n := by rw [hl, List.length_map]; exact hnl.symm
  have H1 := Lib.hid (And.intro hK1 (And.intro (hE.mono (lo' := w.heap.size + 1 + 1) (by simp) (Nat.le_refl _)) (And.intro hm (And.intro ho (And.intro hl hll)))))
  have hs1 : w.heap.size + 1 + 1 ≤ w1.heap.size := hK1.2.2
  obtain ⟨r0, r1⟩ := hK1.1.facts
  clear hK0 hK1 hb1 hE hm ho h1 hnl hl hll
  have bad : ∀ (tmps : Array Value), RC.key (t, b, r) = none → tmps.getD 2 undef = .pointer (some ⟨w.heap.size + 1, 0, none⟩) → tmps.getD 3 undef = .bool false → ∀ W, K2 w W →
      bodyPost Try.prog Try.f78 (KeyQ w (RC.key (t, b, r))) .ret { tmps := tmps, defers := [] } ((W.setCell ⟨w.heap.size + 1, 0, none⟩ (.slice none 0 0)).setCell ⟨w.heap.size + 1, 1, none⟩ (.int .u64 0)) :=
    fun tmps hno h2 h3 W hW => K2.ret (v := 0) hW (RdT.nil_ W) h2 h3 (by rw [hno]; rfl)
  have BAD := Lib.hid bad
  clear bad
  cases q with
  | false =>
    go_wp2
    refine BAD.out _ ?_ ?_ ?_ w1 H1.out.1
    · unfold RC.key; rw [H1.out.2.2.2.1]; rfl
    · rfl
    · rfl
  | true =>
    have hsp0 : RC.key (t, b, r) = (Cert.must (decide (n = 2) && ((l.getD 0 El.none_).2.2 == Ref.keyAlg))).bind fun _ => (Cert.whole (l.getD 1 El.none_)).bind fun b => (Cert.only b).bind fun y => (RC.parts 48 y).bind fun m => (Cert.must (decide (m.length = 2))).bind fun _ =>
        (Cert.number (m.getD 0 El.none_)).bind fun n => (Cert.number (m.getD 1 El.none_)).bind fun e => (RC.value e).bind fun v => some (n, v) := by
      unfold RC.key
      rw [H1.out.2.2.2.1]
      simp only [if_true, Option.bind_some, H1.out.2.2.2.2.2]
    have HS0 := Lib.hid hsp0
    clear hsp0
    by_cases h2 : n = 2
    · subst h2
      obtain ⟨g, rfl, hg, hg2⟩ := H1.out.2.1.spot_ (by omega)
      obtain ⟨t0, A3, n3, c3, b0, A4, n4, c4, x0, hx0, p0, p1, p2, R0, R1, _⟩ := H1.out.2.1.el H1.out.2.2.2.2.1 (Below.refl w1.heap.size w1) (Nat.le_refl _) 0 0 (by omega) rfl
      obtain ⟨t1, A5, n5, c5, b1, A6, n6, c6, x1, hx1, s0, s1, s2, S0, S1, _⟩ := H1.out.2.1.el H1.out.2.2.2.2.1 (Below.refl w1.heap.size w1) (Nat.le_refl _) 1 3 (by omega) rfl
      have hstr := run_string R1 9 Try.underlying9
      obtain ⟨y0, hy0⟩ : ∃ y0, (x0 == [48, 13, 6, 9, 42, 134, 72, 134, 247, 13, 1, 1, 1, 5, 0]) = y0 := ⟨_, rfl⟩
      have hl1 := len_mem H1.out.2.2.1 hx1
      have hn5 : n5 ≤ 1099511627 := by have := S0.len; omega
      have hsp1 : RC.key (t, b, r) = (Cert.must y0).bind fun _ => (Cert.whole (t1, b1, x1)).bind fun b => (Cert.only b).bind fun y => (RC.parts 48 y).bind fun m => (Cert.must (decide (m.length = 2))).bind fun _ =>
          (Cert.number (m.getD 0 El.none_)).bind fun n => (Cert.number (m.getD 1 El.none_)).bind fun e => (RC.value e).bind fun v => some (n, v) := by
        rw [HS0.out, hx0, hx1]
        rw [show ((x0 == Ref.keyAlg)) = y0 from hy0]
        simp only [decide_true, Bool.true_and]
      have H2 := Lib.hid (And.intro hsp1 S0)
      clear hsp1 HS0 R0 R1 S0 S1 hx0 hx1 hl1
      cases y0 with
      | false =>
        go_wp2
        refine BAD.out _ ?_ ?_ ?_ w1 H1.out.1
        · rw [H2.out.1]; rfl
        · rfl
        · rfl
      | true =>
        go_wp2_with fail
        refine (rwhole_any t1 A5 A6 n5 c5 n6 c6 b1 x1 _ H2.out.2 (by omega)).mono ?_
        rintro e w2 ⟨q2, A7, n7, c7, yb, rfl, hb2, hO2, hl2, ho2⟩
        have hK2 := H1.out.1.below hb2
        have hl7 := ownB_len hO2
        have H3 := Lib.hid (And.intro hK2 (And.intro (Rd.of_own hO2) ho2))
        clear hb2 hO2 ho2 hK2 p0 p1 p2 s0 s1 s2 hstr r0 r1
        go_wp2_with fail
        refine (ronly_any A7 n7 c7 yb _ H3.out.2.1 (by omega)).mono ?_
        rintro e w3 ⟨q3, t3, b3, x3, A8, n8, c8, A9, n9, c9, rfl, hb3, hO3, hl3, hl3', ho3⟩
        have hK3 := (H3.out.1.below hb3).alloc (.cells #[.int .u8 (t3.toNat : Int), .slice A8 n8 c8, .slice A9 n9 c9] 50)
        have hr3 := hO3.rows
        simp only [List.mem_cons, List.not_mem_nil, or_false, forall_eq_or_imp, forall_eq] at hr3
        have hl8 := ownB_len hr3.1
        have hR3 := (Rd.of_own hr3.1).alloc (Nat.le_refl _) (.cells #[.int .u8 (t3.toNat : Int), .slice A8 n8 c8, .slice A9 n9 c9] 50)
        have H4 := Lib.hid (And.intro hK3 (And.intro hR3 ho3))
        clear hb3 hO3 ho3 hK3 hr3 hR3
        go_wp2_with fail
        refine (rparts_any t3 A8 A9 n8 c8 n9 c9 48 b3 x3 _ (H4.out.2.1.more (by simp)) (by omega)).mono ?_
        rintro e w4 ⟨q4, B1, m1, d1, M, rfl, hb4, hE4, hnl4, hm4, ho4⟩
        have hK4 := H4.out.1.below hb4
        obtain ⟨ml, hml⟩ : ∃ ml, ml = M.map EI.dat := ⟨_, rfl⟩
        rw [← hml] at hm4 ho4
        have hmll : ml.length = m1 := by rw [hml, List.length_map]; exact hnl4.symm
        have hs4 := hK4.2.2
        have H5 := Lib.hid (And.intro hK4 (And.intro (hE4.mono (lo' := w.heap.size + 1 + 1) (by have := H4.out.1.2.2; simpa using this) (Nat.le_refl _)) (And.intro hm4 (And.intro ho4 (And.intro hml hmll)))))
        obtain ⟨r0, r1⟩ := hK4.1.facts
        clear hb4 hE4 hm4 ho4 hK4 hml hmll hnl4
        have hsp2 : q2 = true → q3 = true → q4 = true → RC.key (t, b, r) = (Cert.must (decide (m1 = 2))).bind fun _ =>
            (Cert.number (ml.getD 0 El.none_)).bind fun n => (Cert.number (ml.getD 1 El.none_)).bind fun e => (RC.value e).bind fun v => some (n, v) := by
          rintro rfl rfl rfl
          rw [H2.out.1, H3.out.2.2]
          simp only [if_true, must_t rfl, Option.bind_some]
          rw [H4.out.2.2]
          simp only [if_true, Option.bind_some]
          rw [H5.out.2.2.2.1]
          simp only [if_true, Option.bind_some, H5.out.2.2.2.2.2]
        have hbad2 : (q2 && (q3 && q4)) = false → RC.key (t, b, r) = none := by
          intro hq
          rw [H2.out.1, H3.out.2.2]
          simp only [must_t rfl, Option.bind_some]
          cases q2 with
          | false => rfl
          | true =>
            simp only [if_true, Option.bind_some]
            rw [H4.out.2.2]
            cases q3 with
            | false => rfl
            | true =>
              simp only [if_true, Option.bind_some]
              rw [H5.out.2.2.2.1]
              cases q4 with
              | false => rfl
              | true => cases hq
        have H6 := Lib.hid (And.intro hsp2 hbad2)
        clear hsp2 hbad2
        cases q2 with
        | false =>
          go_wp2
          refine BAD.out _ (H6.out.2 rfl) ?_ ?_ w4 H5.out.1
          · rfl
          · rfl
        | true =>
          cases q3 with
          | false =>
            go_wp2
            refine BAD.out _ (H6.out.2 rfl) ?_ ?_ w4 H5.out.1
            · rfl
            · rfl
          | true =>
            cases q4 with
            | false =>
              go_wp2
              refine BAD.out _ (H6.out.2 rfl) ?_ ?_ w4 H5.out.1
              · rfl
              · rfl
            | true =>
              by_cases hm2 : m1 = 2
              · subst hm2
                have hsp3 : RC.key (t, b, r) = (Cert.number (ml.getD 0 El.none_)).bind fun n => (Cert.number (ml.getD 1 El.none_)).bind fun e => (RC.value e).bind fun v => some (n, v) := by
                  rw [H6.out.1 (by first | rfl | trivial) (by first | rfl | trivial) (by first | rfl | trivial)]; rfl
                obtain ⟨g4, rfl, hg4, hg42⟩ := H5.out.2.1.spot_ (by omega)
                obtain ⟨u0, B3, m3, d3, z0, B4, m4, d4, y0, hz0, p0, p1, p2, R0, R1, _⟩ := H5.out.2.1.el H5.out.2.2.2.2.1 (Below.refl w4.heap.size w4) (Nat.le_refl _) 0 0 (by omega) rfl
                have hlz := len_mem H5.out.2.2.1 hz0
                have hm3 : m3 ≤ 1099511627776 := by have := R0.len; omega
                have H7 := Lib.hid (And.intro hsp3 (And.intro R0 hz0))
                clear hsp3 R0 R1 hz0 hlz H6
                go_wp2_with fail
                refine (rnumber_any u0 B3 B4 m3 d3 m4 d4 z0 y0 _ H7.out.2.1 hm3).mono ?_
                rintro e w5 ⟨q5, B5, m5, d5, yn, rfl, hb5, hO5, hl5, ho5⟩
                have hK5 := H5.out.1.below hb5
                have hE5 := H5.out.2.1.keepRows (KeepRows.below hb5 (Nat.le_refl _))
                obtain ⟨u1, B6, m6, d6, z1, B7, m7, d7, y1, hz1, s0, s1, s2, S0, S1, _⟩ := hE5.el H5.out.2.2.2.2.1 (Below.refl w5.heap.size w5) hb5.size 1 3 (by omega) rfl
                have hlz1 := len_mem H5.out.2.2.1 hz1
                have hm6 : m6 ≤ 1099511627776 := by have := S0.len; omega
                have H8 := Lib.hid (And.intro hK5 (And.intro (RdT.own hO5) (And.intro ho5 (And.intro (S0.more hb5.size) hz1))))
                clear hK5 hE5 hO5 ho5 hb5 S0 S1 hz1 hlz1 p0 p1 p2 r0 r1 hl5
                go_wp2_with fail
                refine (rnumber_any u1 B6 B7 m6 d6 m7 d7 z1 y1 _ H8.out.2.2.2.1 hm6).mono ?_
                rintro e w6 ⟨q6, B8, m8, d8, ye, rfl, hb6, hO6, hl6, ho6⟩
                have hK6 := H8.out.1.below hb6
                have H9 := Lib.hid (And.intro hK6 (And.intro (H8.out.2.1.below hb6) (And.intro ho6 (Rd.of_own hO6))))
                obtain ⟨r0, r1⟩ := hK6.1.facts
                clear hK6 hO6 ho6 hb6 hl6 s0 s1 s2
                go_wp2_with fail
                refine (rvalue_any B8 m8 d8 ye _ H9.out.2.2.2).mono ?_
                rintro e w' ⟨rfl, q7, v, rfl, hv⟩
                have H10 := Lib.hid hv
                clear hv
                have hsp4 : RC.key (t, b, r) = if (q5 && (q6 && q7)) = true then some (yn, v) else none := by
                  rw [H7.out.1, H7.out.2.2, H8.out.2.2.1, H8.out.2.2.2.2, H9.out.2.2.1]
                  cases q5 with
                  | false => rfl
                  | true =>
                    cases q6 with
                    | false => rfl
                    | true =>
                      simp only [if_true, Option.bind_some, Bool.true_and]
                      rw [H10.out]
                      cases q7 <;> rfl
                have H11 := Lib.hid hsp4
                clear hsp4
                cases q5 with
                | false =>
                  go_wp2
                  refine BAD.out _ H11.out ?_ ?_ w' H9.out.1
                  · rfl
                  · rfl
                | true =>
                  cases q6 with
                  | false =>
                    go_wp2
                    refine BAD.out _ H11.out ?_ ?_ w' H9.out.1
                    · rfl
                    · rfl
                  | true =>
                    cases q7 with
                    | false =>
                      go_wp2
                      refine BAD.out _ H11.out ?_ ?_ w' H9.out.1
                      · rfl
                      · rfl
                    | true =>
                      go_wp2
                      refine K2.ret (q := true) H9.out.1 H9.out.2.1 ?_ ?_ H11.out
                      · rfl
                      · rfl
              · have hm2' : ((m1 : Int) != 2) = true := by simp; omega
                have hno : RC.key (t, b, r) = none := by rw [H6.out.1 (by first | rfl | trivial) (by first | rfl | trivial) (by first | rfl | trivial), must_f (by simp [hm2])]; rfl
                have HN := Lib.hid hno
                clear hm2 hno
                go_wp2
                refine BAD.out _ HN.out ?_ ?_ w4 H5.out.1
                · rfl
                · rfl
    · have h2' : ((n : Int) != 2) = true := by simp; omega
      have hno : RC.key (t, b, r) = none := by rw [HS0.out, must_f (by simp [h2])]; rfl
      have HN := Lib.hid hno
      clear h2 hno
      go_wp2
      refine BAD.out _ HN.out ?_ ?_ w1 H1.out.1
      · rfl
      · rfl
end Go.Proofs.Ytmnekhliblkibaa
