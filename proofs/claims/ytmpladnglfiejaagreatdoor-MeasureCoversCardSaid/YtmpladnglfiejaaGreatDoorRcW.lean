/- The walk of the law MeasureCovers. -/
import Derived.Test.YtmpladnglfiejaaGreatDoorMeWorks
import Derived.Test.YtmpladnglfiejaaGreatDoorJh
import Derived.Test.YtmpladnglfiejaaGreatDoorRcP
import Derived.Test.YtmpladnglfiejaaGreatDoorJe
import Derived.BigQuiet
import Derived.Deep.RegionHeld3
namespace Go.Proofs.YtmpladnglfiejaaGreatDoor
open Go.RowKit
set_option maxRecDepth 100000
set_option linter.unusedVariables false
set_option linter.unusedSimpArgs false
/-- One operation of a quiet region, in a class of worlds. -/
theorem wpq_val {P : Program} {ops : Array Oper} {C : World → Prop} {Q : Act → Prop} {o : Oper} {rest : List Oper} {a : Act} (v : Value) (hw : Region.wanted o (yielded ops a.tmps) = true) (h : ∀ w, C w → (execOp a.eval o).run P w = .ok (.value v) w) (k : wpQuiet P ops C Q rest (a.put o.dst v)) : wpQuiet P ops C Q (o :: rest) a := by
  refine wpQuiet_step fun K hK => ?_
  rw [if_pos hw]
  refine ⟨v, fun w hc => ?_, hK _ k⟩
  unfold Oper.quietAt
  rw [h w hc]
  exact ⟨rfl, rfl⟩
theorem wpq_call {P : Program} {ops : Array Oper} {C : World → Prop} {Q : Act → Prop} {o : Oper} {rest : List Oper} {a : Act} {f : FuncId} {fn : Func} {c : Code} {xs : Array Operand} {ts : Array TypeId} {args : Array Value} (v : Value) (hw : Region.wanted o (yielded ops a.tmps) = true) (ho : o.op = .call { callee := .value (.func f), args := xs, argTypes := ts })
    (hf : P.funcs[f]? = some fn) (hb : fn.body = some c) (hnm : fn.name ≠ "runtime.NumGoroutine") (ha : xs.map a.eval = args) (hc : ∀ w, C w → Calls P f args w fun e w'' => e = .returned v ∧ C w'') (k : wpQuiet P ops C Q rest (a.put o.dst v)) : wpQuiet P ops C Q (o :: rest) a := by
  refine wpQuiet_step fun K hK => ?_
  rw [if_pos hw]
  refine ⟨v, fun w hcw => ?_, hK _ k⟩
  have hrun : (execOp a.eval o).run P w = .ok (.enter f args) w := by
    simp [execOp, ho, resolve, invoke, Deferred.ofValue, callFunc, hf, hb, hnm, ha, Act.eval]
  unfold Oper.quietAt
  rw [hrun]
  exact ⟨rfl, hc w hcw⟩
theorem wpq_load {P : Program} {ops : Array Oper} {C : World → Prop} {Q : Act → Prop} {o : Oper} {rest : List Oper} {a : Act} {t : TypeId} {x : Operand} {ad : Addr} (v : Value) (hw : Region.wanted o (yielded ops a.tmps) = true) (ho : o.op = .load t x) (hx : a.eval x = .pointer (some ad)) (hl : ∀ w, C w → (loadVar t ad).run P w = .ok v w) (k : wpQuiet P ops C Q rest (a.put o.dst v)) : wpQuiet P ops C Q (o :: rest) a :=
  wpq_val v hw (fun w h => by simp [execOp, ho, hx, Instr.loadAt, Instr.sureAddr, hl w h]) k
theorem wpq_eql {P : Program} {ops : Array Oper} {C : World → Prop} {Q : Act → Prop} {o : Oper} {rest : List Oper} {a : Act} {t t' : TypeId} {i j : Tmp} {u v : Value} (hw : Region.wanted o (yielded ops a.tmps) = true) (ho : o.op = .binOp .eql t (.tmp i) (.tmp j) t') (hx : a.eval (.tmp i) = u) (hy : a.eval (.tmp j) = v) (hg : ∀ w, (eqGuard .eql t (.tmp i) (.tmp j) u v).run P w = .ok () w) (hl : ∀ w, (binOp .eql t u v).run P w = .ok (.bool true) w) (k : wpQuiet P ops C Q rest (a.put o.dst (.bool true))) : wpQuiet P ops C Q (o :: rest) a :=
  wpq_val (.bool true) hw (fun w h => by simp [execOp, ho, hx, hy, hg, hl]) k
theorem wpq_pick {P : Program} {ops : Array Oper} {C : World → Prop} {Q : Act → Prop} {o : Oper} {rest : List Oper} {a : Act} {c x y : Operand} {v : Value} (hw : Region.wanted o (yielded ops a.tmps) = true) (ho : o.op = .pick c x y) (hc : a.eval c = .bool true) (hx : a.eval x = v) (k : wpQuiet P ops C Q rest (a.put o.dst v)) : wpQuiet P ops C Q (o :: rest) a :=
  wpq_val v hw (fun w h => by simp only [execOp, ho, hc, hx, Sem.run_bind, Sem.run_pure, asBool, Result.andThen_ok]; rfl) k
set_option maxHeartbeats 8000000 in
theorem measureCovers_walk (w : World) (A : Option Addr) (n c : Nat) (xs : List UInt8) (h : Rd w w.heap.size A n c xs) :
    Calls Tryz.prog 4 #[.slice A n c] w fun e w' => e = .returned (.bool true) ∧ Below w.heap.size w w' := by
  have hl := h.len
  have H := Lib.hid (And.intro h hl)
  clear h hl
  by_cases hn : n ≤ 8192
  · have hn' : ¬ (8192 : Int) < n := by omega
    go_enter Tryz.func4, Tryz.ntmps4
    go_wp2_with fail
    refine (ranges_out A n c xs w H.out.1 (by omega)).mono ?_
    rintro e w1 ⟨hb1, R, k, rc, er, rfl, her, hk0, hP⟩
    have H1 := Lib.hid (And.intro hb1 (And.intro her (And.intro hk0 hP)))
    clear hb1 her hk0 hP
    go_wp2_with fail
    refine (digest_any A n c xs w1 (H.out.1.up H1.out.1) (by omega)).mono ?_
    rintro e w2a ⟨hbw2a, S, C, e1, rfl, hSS, herS, hlS, honeC, hzC, hokC⟩
    obtain rfl : er = e1 := H1.out.2.1.symm.trans herS
    have ES := Lib.hid (And.intro hbw2a (And.intro hSS (And.intro herS (And.intro hlS (And.intro honeC (And.intro hzC hokC))))))
    clear hbw2a hSS herS hlS honeC hzC hokC
    go_upto_region 5 with (first
      | ((with_reducible refine at_store_t 25 ?_); refine wpList_store_b32 rfl _ _ rfl w2a.heap.size z32 S rfl ES.out.2.2.2.1 rfl rfl (dW_b w2a) ?_; intro w2b hBw2b hgw2b)
      | ((with_reducible refine at_store_img ?_); refine wpList_store_img rfl _ _ rfl (w2a.heap.size + 1) IV.zero C rfl rfl ((dW_i w2a).grown hgw2b (fun e => by injection e with e; omega)) ES.out.2.2.2.2.1 ?_; intro w2 hBw2 hgw2)
      | fail)
    have Dw2 := digAt (xs := xs) ES.out.1 hgw2b hBw2b hgw2 hBw2
    have Iw2 : er = 0 → ImgOwn xs C w1.heap.size w2 := fun h => (ES.out.2.2.2.2.2.2 h).later (digBelow hgw2b hgw2)
    obtain ⟨db, hdb⟩ : ∃ g, w2a.heap.size = g := ⟨_, rfl⟩
    rw [hdb] at Dw2 ⊢
    obtain ⟨di, hdi⟩ : ∃ g, db + 1 = g := ⟨_, rfl⟩
    rw [hdi] at Dw2 ⊢
    have DS := Lib.hid (And.intro Dw2 Iw2)
    clear hBw2b hgw2b hBw2 hgw2 Dw2 hdb hdi Iw2
    have H2 := Lib.hid (H1.out.1.trans (DS.out.1.below.mono H1.out.1.size))
    by_cases he : er = 0
    · subst he
      have herr : Pe.err xs = 0 := H1.out.2.1
      have hI := DS.out.2 rfl
      obtain ⟨_, nck, ndr, nhd, ntb, nln⟩ := hI.nums
      have hP2 := (H1.out.2.2.2 rfl).below DS.out.1.below
      have hk1 : k ≤ 200 := by
        have h1 := hP2.len
        have h2 := Pe.ranges_len xs
        have h3 := (meB herr (by rw [H.out.2]; omega)).many
        split at h2 <;> omega
      obtain ⟨ck, hck⟩ : ∃ x, C.check = x := ⟨_, rfl⟩
      obtain ⟨dr, hdr⟩ : ∃ x, C.dir = x := ⟨_, rfl⟩
      obtain ⟨ln, hln⟩ : ∃ x, C.length = x := ⟨_, rfl⟩
      obtain ⟨la, hla⟩ : ∃ x, Pe.last xs = x := ⟨_, rfl⟩
      have hL3 := Pe.laid3 herr
      have hall := Pe.wants_all herr
      have hlast := last_eq herr
      rw [hck] at nck
      rw [hdr] at ndr
      rw [hln] at nln
      rw [← nln, hla, H.out.2] at hlast
      have hlan : la ≤ n := by rw [← hla, ← H.out.2]; exact hL3.e
      have hckd : ck + 4 ≤ dr := by have := hL3.a; omega
      have hdn : dr + 8 ≤ n := by have := hL3.b; have := hL3.c; have := hL3.d; have := hL3.e; rw [H.out.2] at this; omega
      rw [← nck, ← ndr, hla] at hall
      have hF : ∀ W, Below w2.heap.size w2 W → W.cell? ⟨di, 1, none⟩ = some (.int .i64 (ck : Int)) ∧ W.cell? ⟨di, 2, none⟩ = some (.int .i64 (dr : Int)) ∧ W.cell? ⟨di, 6, none⟩ = some (.int .u32 (ln : Int)) ∧ Bd W db S := fun W hW => by
        have hB := DS.out.1.img.below hW DS.out.1.il
        exact ⟨by rw [← hck]; exact hB.cell 1, by rw [← hdr]; exact hB.cell 2, by rw [← hln]; exact hB.cell 6, DS.out.1.sum.below hW DS.out.1.gl⟩
      have HI := Lib.hid (And.intro herr (And.intro hP2 (And.intro hF (And.intro hall hlast))))
      clear herr hI nck ndr nhd ntb nln hP2 hck hdr hln hla hL3 hall hlast hF
      go_wp2_with fail
      go_loopw [8, 9, 10] (fun at' p i wr => ∃ j : Nat, j ≤ k ∧ at' = .int .i64 (Pe.atOf (Pe.ranges xs) j : Int) ∧ i = .int .i64 (j : Int) ∧ OwnB wr w2.heap.size wr.heap.size p (Pe.hashedOf xs ((Pe.ranges xs).take j)) ∧ Below w2.heap.size w2 wr) (fun _ _ i _ => k - (intOf i).toNat)
      case atStart => exact ⟨0, Nat.zero_le _, rfl, rfl, OwnB.nil_, Below.refl _ _⟩
      case round =>
        obtain ⟨j, hj, rfl, rfl, ho, hb⟩ := hrel
        have hle := hashedOf_le xs ((Pe.ranges xs).take j)
        rw [List.length_take] at hle
        have hle2 : (Pe.hashedOf xs ((Pe.ranges xs).take j)).length ≤ j * xs.length := Nat.le_trans hle (Nat.mul_le_mul_right _ (Nat.min_le_left _ _))
        have hle3 : j * xs.length ≤ 200 * 8192 := Nat.mul_le_mul (by omega) (by have := H.out.2; omega)
        by_cases hlt : j < k
        · obtain ⟨b, o, x, hR, hbk, hx, hc0, hc1⟩ := HI.out.2.1.get hlt
          subst hR
          obtain ⟨lo, hi⟩ := x
          obtain ⟨hf1, hf2⟩ := ranges_fit HI.out.1 (lo, hi) (List.mem_of_getElem? hx)
          have hri := Pe.ranges_rise HI.out.1 hx
          have hat := Pe.atOf_succ hx
          obtain ⟨av, hav⟩ : ∃ a, Pe.atOf (Pe.ranges xs) j = a := ⟨_, rfl⟩
          rw [hav] at hri ⊢
          dsimp only at hf1 hf2 hc0 hc1 hri hat
          have hln2 := H.out.2
          rw [hln2] at hf2
          have hb1l : b < w2.heap.size := Nat.lt_of_lt_of_le hbk DS.out.1.below.size
          have c0 := (hb.cell (p := ⟨b, o + j * 2, none⟩) hb1l).trans hc0
          have c1 := (hb.cell (p := ⟨b, o + j * 2 + 1, none⟩) hb1l).trans hc1
          obtain ⟨Z, m, cz, hz, hmh, s1, s2⟩ := run_fromto (H.out.1) lo hi hf1 (by have := H.out.1.cap; omega)
          have hsn := hashedOf_snoc (xs := xs) hx
          have hzW : Rd wr w.heap.size Z m cz ((xs.take hi).drop lo) := hz.keep fun p hp => (H2.out.trans (hb.mono H2.out.size)).cell hp
          obtain ⟨Ap, np, cp, rfl, _⟩ := ho.rd
          have hjk : (j : Int) < (k : Int) := by omega
          have q1 : ¬ ((lo : Int) < (av : Int)) := by omega
          have q2 : ¬ ((hi : Int) < (lo : Int)) := by omega
          have q3 : ¬ ((n : Int) < (hi : Int)) := by omega
          have HR := Lib.hid (And.intro ho (And.intro hb (And.intro hsn (And.intro hzW (And.intro hle2 (And.intro hle3 hat))))))
          clear ho hb hsn hzW hz hx hle hle2 hle3 hc0 hc1 hav hat hri hf1 hf2 hln2
          go_upto_region 12 with fail
          go_quiet (fail)
          have ho' := HR.out.1.drewN nq
          have hb' := below_drewN HR.out.2.1 nq
          have c0' : (wr.drewN nq).cell? ⟨b, o + j * 2, none⟩ = some (.int .i64 (lo : Int)) := by simpa using c0
          have c1' : (wr.drewN nq).cell? ⟨b, o + j * 2 + 1, none⟩ = some (.int .i64 (hi : Int)) := by simpa using c1
          have hzX : Rd (wr.drewN nq) w.heap.size Z m cz ((xs.take hi).drop lo) := HR.out.2.2.2.1.keep fun p hp => by simp
          have hsX : (wr.drewN nq).heap.size = wr.heap.size := by simp
          rw [← hsX] at ho'
          obtain ⟨wx, hwx⟩ : ∃ V, wr.drewN nq = V := ⟨_, rfl⟩
          rw [hwx] at ho' hb' c0' c1' hzX ⊢
          clear hsX hwx c0 c1
          have HX := Lib.hid (And.intro ho' (And.intro hb' hzX))
          clear ho' hb' hzX
          go_wp2_with (first
            | (at_builtin
               refine wpList_app rfl (.tmp 92) (.tmp 100) rfl w2.heap.size wx.heap.size _ (Pe.hashedOf xs ((Pe.ranges xs).take j)) rfl HX.out.1 HX.out.2.1.size w.heap.size Z m cz ((xs.take hi).drop lo) rfl HX.out.2.2.rds (by have h1 := HR.out.2.2.2.2.1; have h2 := HR.out.2.2.2.2.2.1; omega) ?_
               intro v6 w6 ho6 hg6 hat6 hb6
               obtain ⟨A6, n6, c6, rfl, _⟩ := ho6.rd
               have H6 := Lib.hid (And.intro ho6 hb6)
               clear ho6 hg6 hat6 hb6)
            | fail)
          go_roundw
          case rel => exact ⟨j + 1, by omega, by rw [HR.out.2.2.2.2.2.2], by go_num, by rw [HR.out.2.2.1]; exact H6.out.1, HX.out.2.1.trans H6.out.2⟩
          case measure => simp [intOf]; omega
        · have hjk : ¬ ((j : Int) < (k : Int)) := by omega
          obtain rfl : j = k := by omega
          have hh : Pe.hashedOf xs ((Pe.ranges xs).take j) = Pe.hashed xs := by
            rw [List.take_of_length_le (Nat.le_of_eq HI.out.2.1.len)]
            rfl
          rw [hh] at ho hle2
          obtain ⟨f1, f2, f6, f5⟩ := HI.out.2.2.1 wr hb
          have j5 : IntKind.i64.wrap (ln : Int) = (ln : Int) := by have := HI.out.2.2.2.2; rw [IntKind.wrap_i64]; omega
          have j7 : IntKind.i64.wrap ((n : Int) - (ln : Int)) = (la : Int) := by rw [HI.out.2.2.2.2, IntKind.wrap_i64]; omega
          obtain ⟨wm, rfl⟩ : ∃ V, V = wr := ⟨_, rfl⟩
          have HZ := Lib.hid (And.intro ho (And.intro hb (show (Pe.hashed xs).length ≤ 1638400 by omega)))
          clear ho hb hh hle hle2 hle3 f1 f2 f5
          go_wp2_with fail
          go_loopw [12, 13] (fun p i wr => ∃ q : Nat, q ≤ la ∧ i = .int .i64 (q : Int) ∧ OwnB wr wm.heap.size wr.heap.size p (Pe.wants ck dr xs q) ∧ Below wm.heap.size wm wr) (fun _ i _ => la - (intOf i).toNat)
          case atStart => exact ⟨0, Nat.zero_le _, rfl, by rw [Pe.wants_zero]; exact OwnB.nil_, Below.refl _ _⟩
          case round =>
            obtain ⟨q, hq, rfl, ho, hb⟩ := hrel
            have hwl := Pe.wants_len ck dr xs q
            rw [H.out.2] at hwl
            have hbz : Below w2.heap.size w2 wr := HZ.out.2.1.trans (hb.mono HZ.out.2.1.size)
            by_cases hlt : q < la
            · obtain ⟨b, o, rfl, hbw, hget⟩ := H.out.1.at_ (by omega)
              obtain ⟨x, hx⟩ : ∃ x, xs[q]? = some x := ⟨xs[q]'(by rw [H.out.2]; omega), by simp⟩
              have cb : wr.cell? ⟨b, o + q, none⟩ = some (.int .u8 (x.toNat : Int)) := ((H2.out.trans (hbz.mono H2.out.size)).cell (p := ⟨b, o + q, none⟩) hbw).trans (hget q x hx)
              obtain ⟨f1, f2, _, _⟩ := HI.out.2.2.1 wr hbz
              have HS := Lib.hid (And.intro (fun h => Pe.wants_snoc (ck := ck) (dr := dr) hckd hx h) (fun h => Pe.wants_skip (ck := ck) (dr := dr) (i := q) (xs := xs) hckd h))
              have hqI : (q : Int) < (la : Int) := by omega
              have hqN : (q : Int) < (n : Int) := by omega
              have hqn : q < n := by omega
              have j8 : IntKind.i64.wrap ((ck : Int) + 4) = (ck : Int) + 4 := by rw [IntKind.wrap_i64]; omega
              have j9 : IntKind.i64.wrap ((dr : Int) + 8) = (dr : Int) + 8 := by rw [IntKind.wrap_i64]; omega
              have HQ := Lib.hid (And.intro ho (And.intro hb hwl))
              clear ho hb hbz hx hwl hget
              obtain ⟨Ap, np, cp, rfl, _⟩ := HQ.out.1.rd
              rcases Nat.lt_or_ge q ck with h1 | h1
              · have a1 : ¬ ((ck : Int) ≤ (q : Int)) := by omega
                have a3 : decide ((dr : Int) ≤ (q : Int)) = false := decide_eq_false (by omega)
                have e1 : (Value.int .u8 (x.toNat : Int)) = bv x := rfl
                have hone : Hid (Reads (wr.alloc (.cells #[.int .u8 (x.toNat : Int)] 5)) (wr.heap.size + 1) 1 (some ⟨wr.heap.size, 0, none⟩) 1 ([x].map bv)) := by
                  exact Reads.one wr 5 _
                clear e1
                go_wp2_with (first
                  | (at_builtin
                     refine wpList_app rfl (.tmp 137) (.tmp 142) rfl wm.heap.size wr.heap.size _ (Pe.wants ck dr xs q) rfl (HQ.out.1.alloc (Nat.le_refl _) _) (by have := HQ.out.2.1.size; simp; omega) _ _ 1 1 [x] rfl hone.out (by have := HQ.out.2.2; omega) ?_
                     intro v6 w6 ho6 hg6 hat6 hb6
                     obtain ⟨A6, n6, c6, rfl, _⟩ := ho6.rd
                     have H6 := Lib.hid (And.intro ho6 hb6)
                     clear ho6 hg6 hat6 hb6)
                  | fail)
                go_roundw
                case rel => exact ⟨q + 1, by omega, by go_num, by rw [HS.out.1 (by omega)]; exact H6.out.1, (HQ.out.2.1.alloc (by have := HQ.out.2.1.size; omega) _).trans H6.out.2⟩
                case measure => simp [intOf]; omega
              · rcases Nat.lt_or_ge q (ck + 4) with h2 | h2
                · have a1 : decide ((ck : Int) ≤ (q : Int)) = true := decide_eq_true (by omega)
                  have a2 : decide ((q : Int) < (ck : Int) + 4) = true := decide_eq_true (by omega)
                  go_wp2_with fail
                  go_roundw
                  case rel => exact ⟨q + 1, by omega, by go_num, by rw [HS.out.2 (by omega)]; exact HQ.out.1, HQ.out.2.1⟩
                  case measure => simp [intOf]; omega
                · rcases Nat.lt_or_ge q dr with h3 | h3
                  · have a1 : decide ((ck : Int) ≤ (q : Int)) = true := decide_eq_true (by omega)
                    have a2 : decide ((q : Int) < (ck : Int) + 4) = false := decide_eq_false (by omega)
                    have a3 : decide ((dr : Int) ≤ (q : Int)) = false := decide_eq_false (by omega)
                    have e1 : (Value.int .u8 (x.toNat : Int)) = bv x := rfl
                    have hone : Hid (Reads (wr.alloc (.cells #[.int .u8 (x.toNat : Int)] 5)) (wr.heap.size + 1) 1 (some ⟨wr.heap.size, 0, none⟩) 1 ([x].map bv)) := by
                      exact Reads.one wr 5 _
                    clear e1
                    go_wp2_with (first
                      | (at_builtin
                         refine wpList_app rfl (.tmp 137) (.tmp 142) rfl wm.heap.size wr.heap.size _ (Pe.wants ck dr xs q) rfl (HQ.out.1.alloc (Nat.le_refl _) _) (by have := HQ.out.2.1.size; simp; omega) _ _ 1 1 [x] rfl hone.out (by have := HQ.out.2.2; omega) ?_
                         intro v6 w6 ho6 hg6 hat6 hb6
                         obtain ⟨A6, n6, c6, rfl, _⟩ := ho6.rd
                         have H6 := Lib.hid (And.intro ho6 hb6)
                         clear ho6 hg6 hat6 hb6)
                      | fail)
                    go_roundw
                    case rel => exact ⟨q + 1, by omega, by go_num, by rw [HS.out.1 (by omega)]; exact H6.out.1, (HQ.out.2.1.alloc (by have := HQ.out.2.1.size; omega) _).trans H6.out.2⟩
                    case measure => simp [intOf]; omega
                  · rcases Nat.lt_or_ge q (dr + 8) with h4 | h4
                    · have a1 : decide ((ck : Int) ≤ (q : Int)) = true := decide_eq_true (by omega)
                      have a2 : decide ((q : Int) < (ck : Int) + 4) = false := decide_eq_false (by omega)
                      have a3 : decide ((dr : Int) ≤ (q : Int)) = true := decide_eq_true (by omega)
                      have a4 : decide ((q : Int) < (dr : Int) + 8) = true := decide_eq_true (by omega)
                      go_wp2_with fail
                      go_roundw
                      case rel => exact ⟨q + 1, by omega, by go_num, by rw [HS.out.2 (by omega)]; exact HQ.out.1, HQ.out.2.1⟩
                      case measure => simp [intOf]; omega
                    · have a1 : decide ((ck : Int) ≤ (q : Int)) = true := decide_eq_true (by omega)
                      have a2 : decide ((q : Int) < (ck : Int) + 4) = false := decide_eq_false (by omega)
                      have a3 : decide ((dr : Int) ≤ (q : Int)) = true := decide_eq_true (by omega)
                      have a4 : decide ((q : Int) < (dr : Int) + 8) = false := decide_eq_false (by omega)
                      have e1 : (Value.int .u8 (x.toNat : Int)) = bv x := rfl
                      have hone : Hid (Reads (wr.alloc (.cells #[.int .u8 (x.toNat : Int)] 5)) (wr.heap.size + 1) 1 (some ⟨wr.heap.size, 0, none⟩) 1 ([x].map bv)) := by
                        exact Reads.one wr 5 _
                      clear e1
                      go_wp2_with (first
                        | (at_builtin
                           refine wpList_app rfl (.tmp 137) (.tmp 142) rfl wm.heap.size wr.heap.size _ (Pe.wants ck dr xs q) rfl (HQ.out.1.alloc (Nat.le_refl _) _) (by have := HQ.out.2.1.size; simp; omega) _ _ 1 1 [x] rfl hone.out (by have := HQ.out.2.2; omega) ?_
                           intro v6 w6 ho6 hg6 hat6 hb6
                           obtain ⟨A6, n6, c6, rfl, _⟩ := ho6.rd
                           have H6 := Lib.hid (And.intro ho6 hb6)
                           clear ho6 hg6 hat6 hb6)
                        | fail)
                      go_roundw
                      case rel => exact ⟨q + 1, by omega, by go_num, by rw [HS.out.1 (by omega)]; exact H6.out.1, (HQ.out.2.1.alloc (by have := HQ.out.2.1.size; omega) _).trans H6.out.2⟩
                      case measure => simp [intOf]; omega
            · have hqI : ¬ ((q : Int) < (la : Int)) := by omega
              obtain rfl : q = la := by omega
              rw [HI.out.2.2.2.1] at ho
              go_upto_region 23 with fail
              obtain ⟨Ap, np, cp, rfl, rP⟩ := HZ.out.1.rd
              obtain ⟨Aq, nq, cq, rfl, rQ⟩ := ho.rd
              have hbz : Below w2.heap.size w2 wr := HZ.out.2.1.trans (hb.mono HZ.out.2.1.size)
              have rP' := rP.up hb
              have hd : Sha.sum (Pe.hashed xs) = S := by
                rw [← ES.out.2.1]
                unfold dig
                rw [HI.out.1, if_pos rfl]
              have hqq := (eqB_iff (Pe.hashed xs) (Pe.hashed xs)).2 rfl
              have heq : ∀ W, (Op.equalIn 10000 25 (.agg (S.map u8v).toArray) (.agg (S.map u8v).toArray)).run Tryz.prog W = .ok true W := fun W => by rw [eq_b32 S S ES.out.2.2.2.1 ES.out.2.2.2.1]; simp
              have hnq : nq ≤ 1099511627 := by have h1 := rQ.len; have h2 := HZ.out.2.2; omega
              have HY := Lib.hid (And.intro rP' (And.intro rQ (And.intro hbz hd)))
              clear rP rP' rQ hbz hd ho hb
              refine wp_region_quiet (C := fun w' => Below wr.heap.size wr w') rfl (by kernel_rfl) ((Below.refl _ _).drew) ?_
              have hB : ∀ w' w'', Below wr.heap.size wr w' → Below w'.heap.size w' w'' → Below wr.heap.size wr w'' := fun w' w'' h1 h2 => h1.trans (h2.mono h1.size)
              refine wpq_val (.slice Ap np cp) rfl (fun _ _ => rfl) ?_
              simp only [Act.put, List.setIfInBounds_toArray, List.set_cons_zero, List.set_cons_succ]
              refine wpq_val (.slice Aq nq cq) rfl (fun _ _ => rfl) ?_
              simp only [Act.put, List.setIfInBounds_toArray, List.set_cons_zero, List.set_cons_succ]
              refine wpq_call (.bool true) rfl rfl Tryz.func13 rfl (by decide) (args := #[.slice Ap np cp, .slice Aq nq cq]) (by simp only [List.map_toArray, List.map_cons, List.map_nil]; rfl) (fun w' h => (eqbytes_any Ap Aq np cp nq cq _ _ _ _ w' (HY.out.1.up h) (HY.out.2.1.up h)).mono fun e w'' ⟨h1, h2⟩ => ⟨by rw [h1, hqq], by rw [h2]; exact h⟩) ?_
              simp only [Act.put, List.setIfInBounds_toArray, List.set_cons_zero, List.set_cons_succ]
              refine wpq_val (.bool true) rfl (fun _ _ => rfl) ?_
              simp only [Act.put, List.setIfInBounds_toArray, List.set_cons_zero, List.set_cons_succ]
              refine wpq_load (ad := ⟨db, 0, none⟩) (.agg (S.map u8v).toArray) rfl rfl rfl (fun w' h => load_b32 ES.out.2.2.2.1 (HI.out.2.2.1 w' (HY.out.2.2.1.trans (h.mono HY.out.2.2.1.size))).2.2.2) ?_
              simp only [Act.put, List.setIfInBounds_toArray, List.set_cons_zero, List.set_cons_succ]
              refine wpq_val (.slice Aq nq cq) rfl (fun _ _ => rfl) ?_
              simp only [Act.put, List.setIfInBounds_toArray, List.set_cons_zero, List.set_cons_succ]
              refine wpq_call (.agg (S.map u8v).toArray) rfl rfl Tryz.func14 rfl (by decide) (args := #[.slice Aq nq cq]) (by simp only [List.map_toArray, List.map_cons, List.map_nil]; rfl) (fun w' h => (rsum_any Aq nq cq _ w' (HY.out.2.1.up h) hnq).mono fun e w'' ⟨h1, h2⟩ => ⟨by rw [h1, HY.out.2.2.2], hB w' w'' h h2⟩) ?_
              simp only [Act.put, List.setIfInBounds_toArray, List.set_cons_zero, List.set_cons_succ]
              refine wpq_eql (u := .agg (S.map u8v).toArray) (v := .agg (S.map u8v).toArray) rfl rfl rfl rfl (fun _ => by simp [eqGuard]) (fun W => by rw [eql_b32 S S ES.out.2.2.2.1 ES.out.2.2.2.1]; simp) ?_
              simp only [Act.put, List.setIfInBounds_toArray, List.set_cons_zero, List.set_cons_succ]
              refine wpq_pick (v := .bool true) rfl rfl rfl rfl ?_
              simp only [Act.put, List.setIfInBounds_toArray, List.set_cons_zero, List.set_cons_succ]
              refine wpq_val (.bool true) rfl (fun _ _ => rfl) ?_
              simp only [Act.put, List.setIfInBounds_toArray, List.set_cons_zero, List.set_cons_succ]
              refine wpq_call (.bool true) rfl rfl Tryz.func5 rfl (by decide) (args := #[]) (by simp) (fun w' h => (meWorks_any w').mono fun e w'' ⟨h1, h2⟩ => ⟨h1, hB w' w'' h h2⟩) ?_
              simp only [Act.put, List.setIfInBounds_toArray, List.set_cons_zero, List.set_cons_succ]
              refine wpq_pick (v := .bool true) rfl rfl rfl rfl ?_
              simp only [Act.put, List.setIfInBounds_toArray, List.set_cons_zero, List.set_cons_succ]
              refine wpq_val (.bool true) rfl (fun _ _ => rfl) ?_
              simp only [Act.put, List.setIfInBounds_toArray, List.set_cons_zero, List.set_cons_succ]
              refine wpQuiet_nil ?_
              intro wz hz
              have hend := H2.out.trans ((HY.out.2.2.1.trans (hz.mono HY.out.2.2.1.size)).mono H2.out.size)
              have HE := Lib.hid hend
              clear hend hz hqq heq hnq hB
              go_wp2_with fail
              go_ret
              exact ⟨rfl, HE.out⟩
    · have g1 : ((er : Int) != 0) = true := by simp; omega
      have g1' : ((er : Int) == 0) = false := by simp; omega
      have hz1 := eq_z32 S (dig_zero ES.out.2.1 (by rw [H1.out.2.1]; exact he))
      obtain rfl : k = 0 := H1.out.2.2.1 he
      have HG := Lib.hid he
      clear he
      go_wp2_with (first | ((with_reducible refine at_load_t 25 ?_); refine wpList_load_b32_g _ rfl db S ES.out.2.2.2.1 rfl DS.out.1.sum (by rfl) ?_) | fail)
      refine (meWorks_any w2).mono ?_
      rintro e wz ⟨rfl, hbwz⟩
      have Hwz := Lib.hid (H2.out.trans (hbwz.mono H2.out.size))
      clear hbwz
      go_wp2_with fail
      go_ret
      exact ⟨rfl, Hwz.out⟩
  · have hn' : (8192 : Int) < n := by omega
    go_enter Tryz.func4, Tryz.ntmps4
    go_wp2_with fail
    refine (meWorks_any w).mono ?_
    rintro e w1 ⟨rfl, hb1⟩
    have H1 := Lib.hid hb1
    clear hb1
    go_wp2_with fail
    go_ret
    exact ⟨rfl, H1.out⟩
end Go.Proofs.YtmpladnglfiejaaGreatDoor
