/- The walk of the law CertOne. -/
import Derived.Test.YtmnekhliblkibaaGQ
import Derived.Test.YtmnekhliblkibaaGR
import Derived.Test.YtmnekhliblkibaaGO
namespace Go.Proofs.Ytmnekhliblkibaa
open Go.RowKit
set_option maxRecDepth 1000000
set_option linter.unusedVariables false
set_option linter.unusedSimpArgs false

theorem one_large (A : Option Addr) (n c : Nat) (w : World) (hn : (16384 : Int) < n) :
    Calls Try.prog 5 #[.slice A n c] w (LawPost w) := by
  go_enter Try.func5, Try.ntmps5
  go_wp2_with fail
  refine (works12_any _).mono ?_
  rintro e w1 ⟨rfl, hb1⟩
  go_wp2
  go_ret
  exact ⟨rfl, hb1⟩

set_option maxHeartbeats 4000000 in
theorem one_main (A : Option Addr) (n c : Nat) (b : List UInt8) (w : World) (h : Rd w w.heap.size A n c b) (hn : ¬ (16384 : Int) < n) :
    Calls Try.prog 5 #[.slice A n c] w (LawPost w) := by
  have hl := h.len
  have H := Lib.hid (And.intro h hl)
  clear h hl
  go_enter Try.func5, Try.ntmps5
  go_wp2_with fail
  refine (parse_cert_any A n c b w H.out.1).mono ?_
  rintro en w1 ⟨hb1, ⟨m, hm, hm0, rfl⟩ | ⟨s, g, vr, vt, vi, vs, ve, vn, vg, hyes, rfl, hown, _⟩⟩
  · have hm0' : ((m : Int) != 0) = true := by simp; omega
    go_wp2_with (first
      | ((with_reducible refine at_store_cert ?_); refine wpList_store_cert rfl _ _ rfl w1.heap.size CV.zero CV.zero rfl rfl (Blk.new w1 _ _) CV.zero_cells ?_; intro w2 hB2 hg2)
      | ((with_reducible refine at_load_cert ?_); refine wpList_load_cert rfl _ rfl w1.heap.size CV.zero rfl hB2 ?_)
      | fail)
    have hg12 : Below w1.heap.size w1 w2 := below_grow ((Below.refl _ w1).alloc (Nat.le_refl _) _) hg2 (Nat.le_refl _) (Nat.le_refl _)
    refine (CI.same (C := CV.zero) (D := CV.zero) (CI.zero _) (CI.zero _) rfl rfl rfl rfl).mono ?_
    rintro e w3 ⟨rfl, hb3⟩
    go_wp2_with fail
    refine (works12_any _).mono ?_
    rintro e w4 ⟨rfl, hb4⟩
    go_wp2
    go_ret
    have h2 := hb1.trans (hg12.mono hb1.size)
    have h3 := h2.trans (hb3.mono h2.size)
    exact ⟨rfl, h3.trans (hb4.mono h3.size)⟩
  · have hci := CI.parsed (s := s) hown
    have hone := hci.one
    simp only [List.mem_cons, List.not_mem_nil, or_false, forall_eq_or_imp, forall_eq] at hown
    obtain ⟨o1, o2, o3, o4, o5, o6, o7⟩ := hown
    obtain ⟨Ar, nr, cr, rfl, hr1⟩ := o1.rd
    obtain ⟨At, nt, ct, rfl, hr2⟩ := o2.rd
    obtain ⟨As, ns, cs, rfl, hr5⟩ := o5.rd
    obtain ⟨Ag, ng, cg, rfl, hr7⟩ := o7.rd
    have hok := parse_ok hyes
    have hm0' : ((0 : Int) != 0) = false := rfl
    have hnt : ((nt : Int) == 0) = false := by
      obtain ⟨bt, _, h2, _⟩ := hok.2.2.tbs
      have := hr2.len
      rw [h2] at this
      simp [Der.write] at this
      simp; omega
    have hs1 := hb1.size
    have hn8 : n ≤ 8192 := by have := hok.2.1; have := H.out.2; omega
    have H1 := Lib.hid (And.intro hci (And.intro hr1 (And.intro hr2 (And.intro hr5 (And.intro hr7 (And.intro hok hb1))))))
    clear o1 o2 o3 o4 o5 o6 o7 hr1 hr2 hr5 hr7 hok hci hb1 hyes
    go_upto_region 4 with (first
      | ((with_reducible refine at_store_cert ?_); refine wpList_store_cert rfl _ _ rfl w1.heap.size CV.zero (s.cv (.slice Ar nr cr) (.slice At nt ct) vi vs (.slice As ns cs) vn (.slice Ag ng cg)) rfl rfl (Blk.new w1 _ _) hone ?_; intro w2 hB2 hg2)
      | fail)
    have hg12 : Below w1.heap.size w1 w2 := below_grow ((Below.refl _ w1).alloc (Nat.le_refl _) _) hg2 (Nat.le_refl _) (Nat.le_refl _)
    have k0 : w2.cell? ⟨w1.heap.size, 0, none⟩ = some (.slice Ar nr cr) := hB2.at_ 0
    have k1 : w2.cell? ⟨w1.heap.size, 1, none⟩ = some (.slice At nt ct) := hB2.at_ 1
    have k4 : w2.cell? ⟨w1.heap.size, 4, none⟩ = some (.slice As ns cs) := hB2.at_ 4
    have k19 : w2.cell? ⟨w1.heap.size, 19, none⟩ = some (.slice Ag ng cg) := hB2.at_ 19
    have H2 := Lib.hid (And.intro hB2 hg12)
    clear hg2 hone hB2 hg12
    go_wp2_with fail
    have hwl := wr_len s.tbs g
    rw [← H1.out.2.2.2.2.2.1.1, H.out.2] at hwl
    refine (refWr_any At Ag nt ct ng cg s.tbs g w2 (H1.out.2.2.1.up H2.out.2) (H1.out.2.2.2.2.1.up H2.out.2) (by have := H1.out.2.2.1.len; omega) (by have := H1.out.2.2.2.2.1.len; omega)).mono ?_
    rintro en w3 ⟨A3, n3, c3, rfl, ho3, hb3⟩
    rw [← H1.out.2.2.2.2.2.1.1] at ho3
    obtain ⟨_, _, _, e3, hr3⟩ := ho3.rd
    injection e3 with e31 e32 e33
    subst e31 e32 e33
    have hbw3 := (H1.out.2.2.2.2.2.2.trans (H2.out.2.mono hs1)).trans (hb3.mono (by have := H2.out.2.size; omega))
    have hB3 := H2.out.1.below hb3 H2.out.1.lt
    have hrr3 := (H1.out.2.1.up H2.out.2).up hb3
    have hrb3 : Rd w3 w3.heap.size A n c b := H.out.1.up hbw3
    have hrt3 := (H1.out.2.2.1.up H2.out.2).up hb3
    have hrs3 := (H1.out.2.2.2.1.up H2.out.2).up hb3
    have hns : ns ≤ 20 := by
      have h1 := H1.out.2.2.2.1.len
      have h2 := H1.out.2.2.2.2.2.1.2.2.few
      omega
    have H3 := Lib.hid (And.intro hr3 (And.intro hB3 (And.intro hbw3 (And.intro hrr3 (And.intro hrb3 (And.intro hrt3 hrs3))))))
    clear hr3 hB3 hbw3 hrr3 hrb3 ho3 hb3 k0 k1 k4 k19 hrt3 hrs3
    have k0 : w3.cell? ⟨w1.heap.size, 0, none⟩ = some (.slice Ar nr cr) := H3.out.2.1.at_ 0
    have k1 : w3.cell? ⟨w1.heap.size, 1, none⟩ = some (.slice At nt ct) := H3.out.2.1.at_ 1
    have k4 : w3.cell? ⟨w1.heap.size, 4, none⟩ = some (.slice As ns cs) := H3.out.2.1.at_ 4
    have hn8' : ¬ (8192 : Int) < n := by omega
    go_wp2_with fail
    refine (eqbytes_same A3 A n3 c3 n c b _ _ w3 H3.out.1 H3.out.2.2.2.2.1).mono ?_
    rintro e w3 ⟨rfl, rfl⟩
    go_wp2_with fail
    refine (eqbytes_same Ar A nr cr n c b _ _ _ H3.out.2.2.2.1 H3.out.2.2.2.2.1).mono ?_
    rintro e w3 ⟨rfl, rfl⟩
    go_wp2_with fail
    refine (refInt_any As ns cs s.ser w3 H3.out.2.2.2.2.2.2 (by omega)).mono ?_
    rintro en w4 ⟨hb4, ⟨hno, _⟩ | ⟨ys, A4, n4, c4, hys, rfl, ho4⟩⟩
    · obtain ⟨m, hm, _⟩ := H1.out.2.2.2.2.2.1.2.2.ser
      rw [hno] at hm
      cases hm
    have hn4 : ((0 : Int) < n4) := by
      obtain ⟨m, hm, hne⟩ := H1.out.2.2.2.2.2.1.2.2.ser
      rw [hys] at hm
      injection hm with hm
      subst hm
      have h1 := ownB_len ho4
      have h2 : 0 < ys.length := List.length_pos_iff.2 hne
      omega
    have hB4 := H3.out.2.1.below hb4 H3.out.2.1.lt
    have hrt4 := H3.out.2.2.2.2.2.1.up hb4
    have hbw4 := H3.out.2.2.1.trans (hb4.mono H3.out.2.2.1.size)
    have k1 : w4.cell? ⟨w1.heap.size, 1, none⟩ = some (.slice At nt ct) := hB4.at_ 1
    have H4 := Lib.hid (And.intro hB4 (And.intro hrt4 hbw4))
    clear hB4 hrt4 hbw4 hb4 ho4 hys
    go_wp2_with fail
    refine (refParse_any At nt ct s.tbs w4 H4.out.2.1 (by have := H4.out.2.1.len; omega)).mono ?_
    rintro en w5 ⟨hb5, ⟨hno, _⟩ | ⟨t0, body, raw, rest, A5, n5, c5, A6, n6, c6, A7, n7, c7, hel, rfl, ho5⟩⟩
    · obtain ⟨bt, h1, _⟩ := H1.out.2.2.2.2.2.1.2.2.tbs
      rw [hno] at h1
      cases h1
    have hx : (t0.toNat : Int) = 48 ∧ n7 = 0 := by
      obtain ⟨bt, h1, _⟩ := H1.out.2.2.2.2.2.1.2.2.tbs
      rw [hel] at h1
      simp only [Option.some.injEq, Prod.mk.injEq] at h1
      obtain ⟨rfl, rfl, rfl, rfl⟩ := h1
      have h2 := ho5.rows
      simp only [List.mem_cons, List.not_mem_nil, or_false, forall_eq_or_imp, forall_eq] at h2
      have h3 := ownB_len h2.2.2
      exact ⟨rfl, h3.symm⟩
    obtain ⟨hx1, rfl⟩ := hx
    rw [hx1]
    have hB5 := H4.out.1.below hb5 H4.out.1.lt
    have hbw5 := H4.out.2.2.trans (hb5.mono H4.out.2.2.size)
    have H5 := Lib.hid (And.intro hB5 hbw5)
    clear hB5 hbw5 hb5 ho5 hel k1 hx1
    go_upto_region 12 with fail
    -- the answer
    obtain ⟨w6, hw6, hx6⟩ : ∃ w6, w6 = w5.alloc (.cells #[.int .u8 48, .slice A5 n5 c5, .slice A6 n6 c6] 50) ∧ Blk w6 w5.heap.size 50 #[.int .u8 48, .slice A5 n5 c5, .slice A6 n6 c6] := ⟨_, rfl, Blk.new w5 _ _⟩
    have hb56 : Below w5.heap.size w5 w6 := by rw [hw6]; exact (Below.refl _ w5).alloc (Nat.le_refl _) _
    rw [← hw6]
    clear hw6
    have hB6 := H5.out.1.below hb56 H5.out.1.lt
    have H6 := Lib.hid (And.intro hB6 (H5.out.2.trans (hb56.mono H5.out.2.size)))
    have hl1 : w1.heap.size < w6.heap.size := hB6.lt
    have hl5 : w5.heap.size < w6.heap.size := hx6.lt
    have kx : w6.cell? ⟨w5.heap.size, 0, none⟩ = some (.int .u8 48) := hx6.cell 0
    have hok := H1.out.2.2.2.2.2.1.2.2
    have k4 : w6.cell? ⟨w1.heap.size, 4, none⟩ = some (.slice As ns cs) := hB6.at_ 4
    have k18 : w6.cell? ⟨w1.heap.size, 18, none⟩ = some (.int .u64 (s.e : Int)) := hB6.at_ 18
    have k22 : w6.cell? ⟨w1.heap.size, 22, none⟩ = some (.int .i64 s.fl.usage) := hB6.at_ 22
    have k21 : w6.cell? ⟨w1.heap.size, 21, none⟩ = some (.int .i64 s.fl.path) := hB6.at_ 21
    have k20 : w6.cell? ⟨w1.heap.size, 20, none⟩ = some (.bool s.fl.ca) := hB6.at_ 20
    have HT1 : ∀ W, Below w6.heap.size w6 W → (loadVar 27 ⟨w1.heap.size, 5, none⟩).run Try.prog W = .ok s.from_.v W := fun W hW =>
      load_tm (t := s.from_) (cs := [.int .u16 (s.from_.y : Int), .int .u8 (s.from_.mo : Int), .int .u8 (s.from_.d : Int), .int .u8 (s.from_.h : Int), .int .u8 (s.from_.mi : Int), .int .u8 (s.from_.s : Int)]) rfl (fun j v hv => (hW.cell (p := ⟨w1.heap.size, 5 + j, none⟩) hl1).trans ((hB6.at_ (5 + j)).trans (by match j, hv with | 0, hv | 1, hv | 2, hv | 3, hv | 4, hv | 5, hv => exact hv | j + 6, hv => simp at hv))) rfl
    have HT2 : ∀ W, Below w6.heap.size w6 W → (loadVar 27 ⟨w1.heap.size, 11, none⟩).run Try.prog W = .ok s.to.v W := fun W hW =>
      load_tm (t := s.to) (cs := [.int .u16 (s.to.y : Int), .int .u8 (s.to.mo : Int), .int .u8 (s.to.d : Int), .int .u8 (s.to.h : Int), .int .u8 (s.to.mi : Int), .int .u8 (s.to.s : Int)]) rfl (fun j v hv => (hW.cell (p := ⟨w1.heap.size, 11 + j, none⟩) hl1).trans ((hB6.at_ (11 + j)).trans (by match j, hv with | 0, hv | 1, hv | 2, hv | 3, hv | 4, hv | 5, hv => exact hv | j + 6, hv => simp at hv))) rfl
    have HLS : ∀ W, Calls Try.prog 26 #[s.to.v, s.from_.v] W fun e w' => e = .returned (.bool false) ∧ Below W.heap.size W w' := fun W => by
      have h := rless_any s.to s.from_ (right_fits hok.r2) (right_fits hok.r1) W
      rwa [hok.less] at h
    have HR1 : ∀ W, Calls Try.prog 27 #[s.from_.v] W fun e w' => e = .returned (.bool true) ∧ Below W.heap.size W w' := fun W => by
      have h := rright_any s.from_ W (right_fits hok.r1)
      rwa [hok.r1] at h
    have HR2 : ∀ W, Calls Try.prog 27 #[s.to.v] W fun e w' => e = .returned (.bool true) ∧ Below W.heap.size W w' := fun W => by
      have h := rright_any s.to W (right_fits hok.r2)
      rwa [hok.r2] at h
    have he : (s.e : Int) < 8589934592 := by have := hok.e; omega
    have p1 := hok.fl.p1
    have p2 := hok.fl.p2
    have u1 := hok.fl.u1
    have u0 := hok.fl.u0
    have u2 := hok.fl.u2
    have hcp := hok.fl.cp
    clear hok hB6 hx6 hb56
    cases hca : s.fl.ca
    · have hp : s.fl.path = -1 := by rw [hca] at hcp; simpa using hcp
      rw [hp] at k21
      rw [hca] at k20
      clear hcp p1 p2 hca
      refine wp_region_seq ?VS (Below w6.heap.size w6) (fun w w' h1 h2 => h1.trans (h2.mono h1.size)) ?hd ?hA (Below.refl _ _) ?hs ?hdone
      case VS => exact fun i => ([.bool true, .bool true, .slice A4 n4 c4, .int .i64 (n4 : Int), .bool true, .bool true, .bool true, .pointer (some ⟨w1.heap.size, 4, none⟩), .slice As ns cs, .int .i64 (ns : Int), .bool true, .bool true, .bool true, .int .i64 0, .bool true, .bool true, .bool true, .pointer (some ⟨w5.heap.size, 0, none⟩), .int .u8 48, .bool true, .bool true, .bool true, .slice A7 0 c7, .int .i64 0, .bool true, .bool true, .bool true, .pointer (some ⟨w1.heap.size, 11, none⟩), s.to.v, .pointer (some ⟨w1.heap.size, 5, none⟩), s.from_.v, .bool false, .bool true, .bool true, .bool true, .pointer (some ⟨w1.heap.size, 5, none⟩), s.from_.v, .bool true, .bool true, .bool true, .pointer (some ⟨w1.heap.size, 11, none⟩), s.to.v, .bool true, .bool true, .bool true, .pointer (some ⟨w1.heap.size, 17, none⟩), .pointer (some ⟨w1.heap.size, 18, none⟩), .int .u64 (s.e : Int), .bool true, .bool true, .bool true, .pointer (some ⟨w1.heap.size, 21, none⟩), .int .i64 (-1), .bool true, .bool true, .bool true, .pointer (some ⟨w1.heap.size, 21, none⟩), .int .i64 (-1), .bool true, .bool true, .bool true, .pointer (some ⟨w1.heap.size, 20, none⟩), .bool false, .bool false, .pointer (some ⟨w1.heap.size, 21, none⟩), .int .i64 (-1), .bool true, .bool true, .bool true, .bool true, .pointer (some ⟨w1.heap.size, 22, none⟩), .int .i64 s.fl.usage, .bool true, .bool true, .bool true, .pointer (some ⟨w1.heap.size, 22, none⟩), .int .i64 s.fl.usage, .bool true, .bool true, .bool true, .pointer (some ⟨w1.heap.size, 22, none⟩), .int .i64 s.fl.usage, .bool true, .bool true, .bool true, .bool true, .bool true, .bool true] : List Value).getD i undef
      case hd => show dstsOk _ 151 = true; decide +kernel
      case hA => decide +kernel
      case hs =>
        refine ⟨?_, ?_, ?_, ?_, ?_, ?_, ?_, ?_, ?_, ?_, ?_, ?_, ?_, ?_, ?_, ?_, ?_, ?_, ?_, ?_, ?_, ?_, ?_, ?_, ?_, ?_, ?_, ?_, ?_, ?_, ?_, ?_, ?_, ?_, ?_, ?_, ?_, ?_, ?_, ?_, ?_, ?_, ?_, ?_, ?_, ?_, ?_, ?_, ?_, ?_, ?_, ?_, ?_, ?_, ?_, ?_, ?_, ?_, ?_, ?_, ?_, ?_, ?_, ?_, ?_, ?_, ?_, ?_, ?_, ?_, ?_, ?_, ?_, ?_, ?_, ?_, ?_, ?_, ?_, ?_, ?_, ?_, ?_, ?_, ?_, ?_, ?_, ?_, trivial⟩
        · exact VStep.run (by simp) rfl (fun a W hfr hdep hG => V_move rfl (hfr 6 (by decide +kernel)))
        · exact VStep.run (by simp) rfl (fun a W hfr hdep hG => V_move rfl (hdep 0 (by decide +kernel)))
        · exact VStep.yes 1 true (by simp) rfl (by decide +kernel) rfl (fun a W hfr hdep hG => V_move rfl (hfr 5 (by decide +kernel)))
        · exact VStep.yes 1 true (by simp) rfl (by decide +kernel) rfl (fun a W hfr hdep hG => V_len rfl (hdep 2 (by decide +kernel)))
        · exact VStep.yes 1 true (by simp) rfl (by decide +kernel) rfl (fun a W hfr hdep hG => V_val (by have e1 : a.eval (.tmp 67) = .int .i64 (n4 : Int) := (hdep 3 (by decide +kernel)); simp only [execOp, e1]; (simp [go_sem]; omega)))
        · exact VStep.run (by simp) rfl (fun a W hfr hdep hG => V_pick rfl (b := true) (hdep 1 (by decide +kernel)) (hdep 4 (by decide +kernel)))
        · exact VStep.run (by simp) rfl (fun a W hfr hdep hG => V_move rfl (hdep 5 (by decide +kernel)))
        · exact VStep.yes 6 true (by simp) rfl (by decide +kernel) rfl (fun a W hfr hdep hG => V_val (by have e1 : a.eval (.tmp 3) = .pointer (some ⟨w1.heap.size, 0, none⟩) := (hfr 3 (by decide +kernel)); simp only [execOp, e1]; simp [go_sem]))
        · exact VStep.yes 6 true (by simp) rfl (by decide +kernel) rfl (fun a W hfr hdep hG => V_load rfl (hdep 7 (by decide +kernel)) (by have h := ((hG.cell (p := ⟨w1.heap.size, 4, none⟩) hl1).trans k4); simp [go_sem, h]))
        · exact VStep.yes 6 true (by simp) rfl (by decide +kernel) rfl (fun a W hfr hdep hG => V_len rfl (hdep 8 (by decide +kernel)))
        · exact VStep.yes 6 true (by simp) rfl (by decide +kernel) rfl (fun a W hfr hdep hG => V_val (by have e1 : a.eval (.tmp 73) = .int .i64 (ns : Int) := (hdep 9 (by decide +kernel)); simp only [execOp, e1]; (simp [go_sem]; omega)))
        · exact VStep.run (by simp) rfl (fun a W hfr hdep hG => V_pick rfl (b := true) (hdep 6 (by decide +kernel)) (hdep 10 (by decide +kernel)))
        · exact VStep.run (by simp) rfl (fun a W hfr hdep hG => V_move rfl (hdep 11 (by decide +kernel)))
        · exact VStep.yes 12 true (by simp) rfl (by decide +kernel) rfl (fun a W hfr hdep hG => V_move rfl (hfr 9 (by decide +kernel)))
        · exact VStep.yes 12 true (by simp) rfl (by decide +kernel) rfl (fun a W hfr hdep hG => V_val (by have e1 : a.eval (.tmp 77) = .int .i64 0 := (hdep 13 (by decide +kernel)); simp only [execOp, e1]; simp [go_sem]))
        · exact VStep.run (by simp) rfl (fun a W hfr hdep hG => V_pick rfl (b := true) (hdep 12 (by decide +kernel)) (hdep 14 (by decide +kernel)))
        · exact VStep.run (by simp) rfl (fun a W hfr hdep hG => V_move rfl (hdep 15 (by decide +kernel)))
        · exact VStep.yes 16 true (by simp) rfl (by decide +kernel) rfl (fun a W hfr hdep hG => V_val (by have e1 : a.eval (.tmp 7) = .pointer (some ⟨w5.heap.size, 0, none⟩) := (hfr 7 (by decide +kernel)); simp only [execOp, e1]; simp [go_sem]))
        · exact VStep.yes 16 true (by simp) rfl (by decide +kernel) rfl (fun a W hfr hdep hG => V_load rfl (hdep 17 (by decide +kernel)) (by have h := ((hG.cell (p := ⟨w5.heap.size, 0, none⟩) hl5).trans kx); simp [go_sem, h]))
        · exact VStep.yes 16 true (by simp) rfl (by decide +kernel) rfl (fun a W hfr hdep hG => V_val (by have e1 : a.eval (.tmp 82) = .int .u8 48 := (hdep 18 (by decide +kernel)); simp only [execOp, e1]; simp [go_sem]))
        · exact VStep.run (by simp) rfl (fun a W hfr hdep hG => V_pick rfl (b := true) (hdep 16 (by decide +kernel)) (hdep 19 (by decide +kernel)))
        · exact VStep.run (by simp) rfl (fun a W hfr hdep hG => V_move rfl (hdep 20 (by decide +kernel)))
        · exact VStep.yes 21 true (by simp) rfl (by decide +kernel) rfl (fun a W hfr hdep hG => V_move rfl (hfr 8 (by decide +kernel)))
        · exact VStep.yes 21 true (by simp) rfl (by decide +kernel) rfl (fun a W hfr hdep hG => V_len rfl (hdep 22 (by decide +kernel)))
        · exact VStep.yes 21 true (by simp) rfl (by decide +kernel) rfl (fun a W hfr hdep hG => V_val (by have e1 : a.eval (.tmp 87) = .int .i64 0 := (hdep 23 (by decide +kernel)); simp only [execOp, e1]; simp [go_sem]))
        · exact VStep.run (by simp) rfl (fun a W hfr hdep hG => V_pick rfl (b := true) (hdep 21 (by decide +kernel)) (hdep 24 (by decide +kernel)))
        · exact VStep.run (by simp) rfl (fun a W hfr hdep hG => V_move rfl (hdep 25 (by decide +kernel)))
        · exact VStep.yes 26 true (by simp) rfl (by decide +kernel) rfl (fun a W hfr hdep hG => V_val (by have e1 : a.eval (.tmp 3) = .pointer (some ⟨w1.heap.size, 0, none⟩) := (hfr 3 (by decide +kernel)); simp only [execOp, e1]; simp [go_sem]))
        · exact VStep.yes 26 true (by simp) rfl (by decide +kernel) rfl (fun a W hfr hdep hG => V_load rfl (hdep 27 (by decide +kernel)) (HT2 W hG))
        · exact VStep.yes 26 true (by simp) rfl (by decide +kernel) rfl (fun a W hfr hdep hG => V_val (by have e1 : a.eval (.tmp 3) = .pointer (some ⟨w1.heap.size, 0, none⟩) := (hfr 3 (by decide +kernel)); simp only [execOp, e1]; simp [go_sem]))
        · exact VStep.yes 26 true (by simp) rfl (by decide +kernel) rfl (fun a W hfr hdep hG => V_load rfl (hdep 29 (by decide +kernel)) (HT1 W hG))
        · exact VStep.yes 26 true (by simp) rfl (by decide +kernel) rfl (fun a W hfr hdep hG => V_call rfl Try.func26 rfl (by decide) (args := #[s.to.v, s.from_.v]) (by have e1 : a.eval (.tmp 92) = s.to.v := (hdep 28 (by decide +kernel)); have e2 : a.eval (.tmp 94) = s.from_.v := (hdep 30 (by decide +kernel)); simp [e1, e2]) (HLS W) (fun e w hR => hR))
        · exact VStep.yes 26 true (by simp) rfl (by decide +kernel) rfl (fun a W hfr hdep hG => V_val (by have e1 : a.eval (.tmp 95) = .bool false := (hdep 31 (by decide +kernel)); simp only [execOp, e1]; simp [go_sem]))
        · exact VStep.run (by simp) rfl (fun a W hfr hdep hG => V_pick rfl (b := true) (hdep 26 (by decide +kernel)) (hdep 32 (by decide +kernel)))
        · exact VStep.run (by simp) rfl (fun a W hfr hdep hG => V_move rfl (hdep 33 (by decide +kernel)))
        · exact VStep.yes 34 true (by simp) rfl (by decide +kernel) rfl (fun a W hfr hdep hG => V_val (by have e1 : a.eval (.tmp 3) = .pointer (some ⟨w1.heap.size, 0, none⟩) := (hfr 3 (by decide +kernel)); simp only [execOp, e1]; simp [go_sem]))
        · exact VStep.yes 34 true (by simp) rfl (by decide +kernel) rfl (fun a W hfr hdep hG => V_load rfl (hdep 35 (by decide +kernel)) (HT1 W hG))
        · exact VStep.yes 34 true (by simp) rfl (by decide +kernel) rfl (fun a W hfr hdep hG => V_call rfl Try.func27 rfl (by decide) (args := #[s.from_.v]) (by have e1 : a.eval (.tmp 100) = s.from_.v := (hdep 36 (by decide +kernel)); simp [e1]) (HR1 W) (fun e w hR => hR))
        · exact VStep.run (by simp) rfl (fun a W hfr hdep hG => V_pick rfl (b := true) (hdep 34 (by decide +kernel)) (hdep 37 (by decide +kernel)))
        · exact VStep.run (by simp) rfl (fun a W hfr hdep hG => V_move rfl (hdep 38 (by decide +kernel)))
        · exact VStep.yes 39 true (by simp) rfl (by decide +kernel) rfl (fun a W hfr hdep hG => V_val (by have e1 : a.eval (.tmp 3) = .pointer (some ⟨w1.heap.size, 0, none⟩) := (hfr 3 (by decide +kernel)); simp only [execOp, e1]; simp [go_sem]))
        · exact VStep.yes 39 true (by simp) rfl (by decide +kernel) rfl (fun a W hfr hdep hG => V_load rfl (hdep 40 (by decide +kernel)) (HT2 W hG))
        · exact VStep.yes 39 true (by simp) rfl (by decide +kernel) rfl (fun a W hfr hdep hG => V_call rfl Try.func27 rfl (by decide) (args := #[s.to.v]) (by have e1 : a.eval (.tmp 105) = s.to.v := (hdep 41 (by decide +kernel)); simp [e1]) (HR2 W) (fun e w hR => hR))
        · exact VStep.run (by simp) rfl (fun a W hfr hdep hG => V_pick rfl (b := true) (hdep 39 (by decide +kernel)) (hdep 42 (by decide +kernel)))
        · exact VStep.run (by simp) rfl (fun a W hfr hdep hG => V_move rfl (hdep 43 (by decide +kernel)))
        · exact VStep.yes 44 true (by simp) rfl (by decide +kernel) rfl (fun a W hfr hdep hG => V_val (by have e1 : a.eval (.tmp 3) = .pointer (some ⟨w1.heap.size, 0, none⟩) := (hfr 3 (by decide +kernel)); simp only [execOp, e1]; simp [go_sem]))
        · exact VStep.yes 44 true (by simp) rfl (by decide +kernel) rfl (fun a W hfr hdep hG => V_val (by have e1 : a.eval (.tmp 109) = .pointer (some ⟨w1.heap.size, 17, none⟩) := (hdep 45 (by decide +kernel)); simp only [execOp, e1]; simp [go_sem]))
        · exact VStep.yes 44 true (by simp) rfl (by decide +kernel) rfl (fun a W hfr hdep hG => V_load rfl (hdep 46 (by decide +kernel)) (by have h := ((hG.cell (p := ⟨w1.heap.size, 18, none⟩) hl1).trans k18); simp [go_sem, h]))
        · exact VStep.yes 44 true (by simp) rfl (by decide +kernel) rfl (fun a W hfr hdep hG => V_val (by have e1 : a.eval (.tmp 111) = .int .u64 (s.e : Int) := (hdep 47 (by decide +kernel)); simp only [execOp, e1]; (simp [go_sem]; omega)))
        · exact VStep.run (by simp) rfl (fun a W hfr hdep hG => V_pick rfl (b := true) (hdep 44 (by decide +kernel)) (hdep 48 (by decide +kernel)))
        · exact VStep.run (by simp) rfl (fun a W hfr hdep hG => V_move rfl (hdep 49 (by decide +kernel)))
        · exact VStep.yes 50 true (by simp) rfl (by decide +kernel) rfl (fun a W hfr hdep hG => V_val (by have e1 : a.eval (.tmp 3) = .pointer (some ⟨w1.heap.size, 0, none⟩) := (hfr 3 (by decide +kernel)); simp only [execOp, e1]; simp [go_sem]))
        · exact VStep.yes 50 true (by simp) rfl (by decide +kernel) rfl (fun a W hfr hdep hG => V_load rfl (hdep 51 (by decide +kernel)) (by have h := ((hG.cell (p := ⟨w1.heap.size, 21, none⟩) hl1).trans k21); simp [go_sem, h]))
        · exact VStep.yes 50 true (by simp) rfl (by decide +kernel) rfl (fun a W hfr hdep hG => V_val (by have e1 : a.eval (.tmp 116) = .int .i64 (-1) := (hdep 52 (by decide +kernel)); simp only [execOp, e1]; simp [go_sem]))
        · exact VStep.run (by simp) rfl (fun a W hfr hdep hG => V_pick rfl (b := true) (hdep 50 (by decide +kernel)) (hdep 53 (by decide +kernel)))
        · exact VStep.run (by simp) rfl (fun a W hfr hdep hG => V_move rfl (hdep 54 (by decide +kernel)))
        · exact VStep.yes 55 true (by simp) rfl (by decide +kernel) rfl (fun a W hfr hdep hG => V_val (by have e1 : a.eval (.tmp 3) = .pointer (some ⟨w1.heap.size, 0, none⟩) := (hfr 3 (by decide +kernel)); simp only [execOp, e1]; simp [go_sem]))
        · exact VStep.yes 55 true (by simp) rfl (by decide +kernel) rfl (fun a W hfr hdep hG => V_load rfl (hdep 56 (by decide +kernel)) (by have h := ((hG.cell (p := ⟨w1.heap.size, 21, none⟩) hl1).trans k21); simp [go_sem, h]))
        · exact VStep.yes 55 true (by simp) rfl (by decide +kernel) rfl (fun a W hfr hdep hG => V_val (by have e1 : a.eval (.tmp 121) = .int .i64 (-1) := (hdep 57 (by decide +kernel)); simp only [execOp, e1]; simp [go_sem]))
        · exact VStep.run (by simp) rfl (fun a W hfr hdep hG => V_pick rfl (b := true) (hdep 55 (by decide +kernel)) (hdep 58 (by decide +kernel)))
        · exact VStep.run (by simp) rfl (fun a W hfr hdep hG => V_move rfl (hdep 59 (by decide +kernel)))
        · exact VStep.yes 60 true (by simp) rfl (by decide +kernel) rfl (fun a W hfr hdep hG => V_val (by have e1 : a.eval (.tmp 3) = .pointer (some ⟨w1.heap.size, 0, none⟩) := (hfr 3 (by decide +kernel)); simp only [execOp, e1]; simp [go_sem]))
        · exact VStep.yes 60 true (by simp) rfl (by decide +kernel) rfl (fun a W hfr hdep hG => V_load rfl (hdep 61 (by decide +kernel)) (by have h := ((hG.cell (p := ⟨w1.heap.size, 20, none⟩) hl1).trans k20); simp [go_sem, h]))
        · exact VStep.yes 60 true (by simp) rfl (by decide +kernel) rfl (fun a W hfr hdep hG => V_move rfl (hdep 62 (by decide +kernel)))
        · exact VStep.yes 63 false (by simp) rfl (by decide +kernel) rfl (fun a W hfr hdep hG => V_val (by have e1 : a.eval (.tmp 3) = .pointer (some ⟨w1.heap.size, 0, none⟩) := (hfr 3 (by decide +kernel)); simp only [execOp, e1]; simp [go_sem]))
        · exact VStep.yes 63 false (by simp) rfl (by decide +kernel) rfl (fun a W hfr hdep hG => V_load rfl (hdep 64 (by decide +kernel)) (by have h := ((hG.cell (p := ⟨w1.heap.size, 21, none⟩) hl1).trans k21); simp [go_sem, h]))
        · exact VStep.yes 63 false (by simp) rfl (by decide +kernel) rfl (fun a W hfr hdep hG => V_val (by have e1 : a.eval (.tmp 129) = .int .i64 (-1) := (hdep 65 (by decide +kernel)); simp only [execOp, e1]; simp [go_sem]))
        · exact VStep.yes 60 true (by simp) rfl (by decide +kernel) rfl (fun a W hfr hdep hG => V_pick rfl (b := false) (hdep 63 (by decide +kernel)) (hdep 66 (by decide +kernel)))
        · exact VStep.run (by simp) rfl (fun a W hfr hdep hG => V_pick rfl (b := true) (hdep 60 (by decide +kernel)) (hdep 67 (by decide +kernel)))
        · exact VStep.run (by simp) rfl (fun a W hfr hdep hG => V_move rfl (hdep 68 (by decide +kernel)))
        · exact VStep.yes 69 true (by simp) rfl (by decide +kernel) rfl (fun a W hfr hdep hG => V_val (by have e1 : a.eval (.tmp 3) = .pointer (some ⟨w1.heap.size, 0, none⟩) := (hfr 3 (by decide +kernel)); simp only [execOp, e1]; simp [go_sem]))
        · exact VStep.yes 69 true (by simp) rfl (by decide +kernel) rfl (fun a W hfr hdep hG => V_load rfl (hdep 70 (by decide +kernel)) (by have h := ((hG.cell (p := ⟨w1.heap.size, 22, none⟩) hl1).trans k22); simp [go_sem, h]))
        · exact VStep.yes 69 true (by simp) rfl (by decide +kernel) rfl (fun a W hfr hdep hG => V_val (by have e1 : a.eval (.tmp 135) = .int .i64 s.fl.usage := (hdep 71 (by decide +kernel)); simp only [execOp, e1]; (simp [go_sem]; omega)))
        · exact VStep.run (by simp) rfl (fun a W hfr hdep hG => V_pick rfl (b := true) (hdep 69 (by decide +kernel)) (hdep 72 (by decide +kernel)))
        · exact VStep.run (by simp) rfl (fun a W hfr hdep hG => V_move rfl (hdep 73 (by decide +kernel)))
        · exact VStep.yes 74 true (by simp) rfl (by decide +kernel) rfl (fun a W hfr hdep hG => V_val (by have e1 : a.eval (.tmp 3) = .pointer (some ⟨w1.heap.size, 0, none⟩) := (hfr 3 (by decide +kernel)); simp only [execOp, e1]; simp [go_sem]))
        · exact VStep.yes 74 true (by simp) rfl (by decide +kernel) rfl (fun a W hfr hdep hG => V_load rfl (hdep 75 (by decide +kernel)) (by have h := ((hG.cell (p := ⟨w1.heap.size, 22, none⟩) hl1).trans k22); simp [go_sem, h]))
        · exact VStep.yes 74 true (by simp) rfl (by decide +kernel) rfl (fun a W hfr hdep hG => V_val (by have e1 : a.eval (.tmp 140) = .int .i64 s.fl.usage := (hdep 76 (by decide +kernel)); simp only [execOp, e1]; (simp [go_sem]; omega)))
        · exact VStep.run (by simp) rfl (fun a W hfr hdep hG => V_pick rfl (b := true) (hdep 74 (by decide +kernel)) (hdep 77 (by decide +kernel)))
        · exact VStep.run (by simp) rfl (fun a W hfr hdep hG => V_move rfl (hdep 78 (by decide +kernel)))
        · exact VStep.yes 79 true (by simp) rfl (by decide +kernel) rfl (fun a W hfr hdep hG => V_val (by have e1 : a.eval (.tmp 3) = .pointer (some ⟨w1.heap.size, 0, none⟩) := (hfr 3 (by decide +kernel)); simp only [execOp, e1]; simp [go_sem]))
        · exact VStep.yes 79 true (by simp) rfl (by decide +kernel) rfl (fun a W hfr hdep hG => V_load rfl (hdep 80 (by decide +kernel)) (by have h := ((hG.cell (p := ⟨w1.heap.size, 22, none⟩) hl1).trans k22); simp [go_sem, h]))
        · exact VStep.yes 79 true (by simp) rfl (by decide +kernel) rfl (fun a W hfr hdep hG => V_val (by have e1 : a.eval (.tmp 145) = .int .i64 s.fl.usage := (hdep 81 (by decide +kernel)); simp only [execOp, e1]; (simp [go_sem]; omega)))
        · exact VStep.run (by simp) rfl (fun a W hfr hdep hG => V_pick rfl (b := true) (hdep 79 (by decide +kernel)) (hdep 82 (by decide +kernel)))
        · exact VStep.run (by simp) rfl (fun a W hfr hdep hG => V_move rfl (hdep 83 (by decide +kernel)))
        · exact VStep.yes 84 true (by simp) rfl (by decide +kernel) rfl (fun a W hfr hdep hG => V_call rfl Try.func14 rfl (by decide) (args := #[]) (by simp) (works12_any W) (fun e w hR => hR))
        · exact VStep.run (by simp) rfl (fun a W hfr hdep hG => V_pick rfl (b := true) (hdep 84 (by decide +kernel)) (hdep 85 (by decide +kernel)))
        · exact VStep.run (by simp) rfl (fun a W hfr hdep hG => V_assign rfl (hdep 86 (by decide +kernel)))
      case hdone =>
        intro a W hdf hsz hfr hG hJ
        have e := arr_eta a 151 hsz hdf
        rw [show (List.range 151).map (fun i => a.eval (.tmp i)) = [a.eval (.tmp 0), a.eval (.tmp 1), a.eval (.tmp 2), a.eval (.tmp 3), a.eval (.tmp 4), a.eval (.tmp 5), a.eval (.tmp 6), a.eval (.tmp 7), a.eval (.tmp 8), a.eval (.tmp 9), a.eval (.tmp 10), a.eval (.tmp 11), a.eval (.tmp 12), a.eval (.tmp 13), a.eval (.tmp 14), a.eval (.tmp 15), a.eval (.tmp 16), a.eval (.tmp 17), a.eval (.tmp 18), a.eval (.tmp 19), a.eval (.tmp 20), a.eval (.tmp 21), a.eval (.tmp 22), a.eval (.tmp 23), a.eval (.tmp 24), a.eval (.tmp 25), a.eval (.tmp 26), a.eval (.tmp 27), a.eval (.tmp 28), a.eval (.tmp 29), a.eval (.tmp 30), a.eval (.tmp 31), a.eval (.tmp 32), a.eval (.tmp 33), a.eval (.tmp 34), a.eval (.tmp 35), a.eval (.tmp 36), a.eval (.tmp 37), a.eval (.tmp 38), a.eval (.tmp 39), a.eval (.tmp 40), a.eval (.tmp 41), a.eval (.tmp 42), a.eval (.tmp 43), a.eval (.tmp 44), a.eval (.tmp 45), a.eval (.tmp 46), a.eval (.tmp 47), a.eval (.tmp 48), a.eval (.tmp 49), a.eval (.tmp 50), a.eval (.tmp 51), a.eval (.tmp 52), a.eval (.tmp 53), a.eval (.tmp 54), a.eval (.tmp 55), a.eval (.tmp 56), a.eval (.tmp 57), a.eval (.tmp 58), a.eval (.tmp 59), a.eval (.tmp 60), a.eval (.tmp 61), a.eval (.tmp 62), a.eval (.tmp 63), a.eval (.tmp 64), a.eval (.tmp 65), a.eval (.tmp 66), a.eval (.tmp 67), a.eval (.tmp 68), a.eval (.tmp 69), a.eval (.tmp 70), a.eval (.tmp 71), a.eval (.tmp 72), a.eval (.tmp 73), a.eval (.tmp 74), a.eval (.tmp 75), a.eval (.tmp 76), a.eval (.tmp 77), a.eval (.tmp 78), a.eval (.tmp 79), a.eval (.tmp 80), a.eval (.tmp 81), a.eval (.tmp 82), a.eval (.tmp 83), a.eval (.tmp 84), a.eval (.tmp 85), a.eval (.tmp 86), a.eval (.tmp 87), a.eval (.tmp 88), a.eval (.tmp 89), a.eval (.tmp 90), a.eval (.tmp 91), a.eval (.tmp 92), a.eval (.tmp 93), a.eval (.tmp 94), a.eval (.tmp 95), a.eval (.tmp 96), a.eval (.tmp 97), a.eval (.tmp 98), a.eval (.tmp 99), a.eval (.tmp 100), a.eval (.tmp 101), a.eval (.tmp 102), a.eval (.tmp 103), a.eval (.tmp 104), a.eval (.tmp 105), a.eval (.tmp 106), a.eval (.tmp 107), a.eval (.tmp 108), a.eval (.tmp 109), a.eval (.tmp 110), a.eval (.tmp 111), a.eval (.tmp 112), a.eval (.tmp 113), a.eval (.tmp 114), a.eval (.tmp 115), a.eval (.tmp 116), a.eval (.tmp 117), a.eval (.tmp 118), a.eval (.tmp 119), a.eval (.tmp 120), a.eval (.tmp 121), a.eval (.tmp 122), a.eval (.tmp 123), a.eval (.tmp 124), a.eval (.tmp 125), a.eval (.tmp 126), a.eval (.tmp 127), a.eval (.tmp 128), a.eval (.tmp 129), a.eval (.tmp 130), a.eval (.tmp 131), a.eval (.tmp 132), a.eval (.tmp 133), a.eval (.tmp 134), a.eval (.tmp 135), a.eval (.tmp 136), a.eval (.tmp 137), a.eval (.tmp 138), a.eval (.tmp 139), a.eval (.tmp 140), a.eval (.tmp 141), a.eval (.tmp 142), a.eval (.tmp 143), a.eval (.tmp 144), a.eval (.tmp 145), a.eval (.tmp 146), a.eval (.tmp 147), a.eval (.tmp 148), a.eval (.tmp 149), a.eval (.tmp 150)] from rfl] at e
        rw [show a.eval (.tmp 2) = .bool true from hJ 87 (by decide)] at e
        generalize a.eval (.tmp 0) = u0 at e
        generalize a.eval (.tmp 1) = u1 at e
        generalize a.eval (.tmp 3) = u3 at e
        generalize a.eval (.tmp 4) = u4 at e
        generalize a.eval (.tmp 5) = u5 at e
        generalize a.eval (.tmp 6) = u6 at e
        generalize a.eval (.tmp 7) = u7 at e
        generalize a.eval (.tmp 8) = u8 at e
        generalize a.eval (.tmp 9) = u9 at e
        generalize a.eval (.tmp 10) = u10 at e
        generalize a.eval (.tmp 11) = u11 at e
        generalize a.eval (.tmp 12) = u12 at e
        generalize a.eval (.tmp 13) = u13 at e
        generalize a.eval (.tmp 14) = u14 at e
        generalize a.eval (.tmp 15) = u15 at e
        generalize a.eval (.tmp 16) = u16 at e
        generalize a.eval (.tmp 17) = u17 at e
        generalize a.eval (.tmp 18) = u18 at e
        generalize a.eval (.tmp 19) = u19 at e
        generalize a.eval (.tmp 20) = u20 at e
        generalize a.eval (.tmp 21) = u21 at e
        generalize a.eval (.tmp 22) = u22 at e
        generalize a.eval (.tmp 23) = u23 at e
        generalize a.eval (.tmp 24) = u24 at e
        generalize a.eval (.tmp 25) = u25 at e
        generalize a.eval (.tmp 26) = u26 at e
        generalize a.eval (.tmp 27) = u27 at e
        generalize a.eval (.tmp 28) = u28 at e
        generalize a.eval (.tmp 29) = u29 at e
        generalize a.eval (.tmp 30) = u30 at e
        generalize a.eval (.tmp 31) = u31 at e
        generalize a.eval (.tmp 32) = u32 at e
        generalize a.eval (.tmp 33) = u33 at e
        generalize a.eval (.tmp 34) = u34 at e
        generalize a.eval (.tmp 35) = u35 at e
        generalize a.eval (.tmp 36) = u36 at e
        generalize a.eval (.tmp 37) = u37 at e
        generalize a.eval (.tmp 38) = u38 at e
        generalize a.eval (.tmp 39) = u39 at e
        generalize a.eval (.tmp 40) = u40 at e
        generalize a.eval (.tmp 41) = u41 at e
        generalize a.eval (.tmp 42) = u42 at e
        generalize a.eval (.tmp 43) = u43 at e
        generalize a.eval (.tmp 44) = u44 at e
        generalize a.eval (.tmp 45) = u45 at e
        generalize a.eval (.tmp 46) = u46 at e
        generalize a.eval (.tmp 47) = u47 at e
        generalize a.eval (.tmp 48) = u48 at e
        generalize a.eval (.tmp 49) = u49 at e
        generalize a.eval (.tmp 50) = u50 at e
        generalize a.eval (.tmp 51) = u51 at e
        generalize a.eval (.tmp 52) = u52 at e
        generalize a.eval (.tmp 53) = u53 at e
        generalize a.eval (.tmp 54) = u54 at e
        generalize a.eval (.tmp 55) = u55 at e
        generalize a.eval (.tmp 56) = u56 at e
        generalize a.eval (.tmp 57) = u57 at e
        generalize a.eval (.tmp 58) = u58 at e
        generalize a.eval (.tmp 59) = u59 at e
        generalize a.eval (.tmp 60) = u60 at e
        generalize a.eval (.tmp 61) = u61 at e
        generalize a.eval (.tmp 62) = u62 at e
        generalize a.eval (.tmp 63) = u63 at e
        generalize a.eval (.tmp 64) = u64 at e
        generalize a.eval (.tmp 65) = u65 at e
        generalize a.eval (.tmp 66) = u66 at e
        generalize a.eval (.tmp 67) = u67 at e
        generalize a.eval (.tmp 68) = u68 at e
        generalize a.eval (.tmp 69) = u69 at e
        generalize a.eval (.tmp 70) = u70 at e
        generalize a.eval (.tmp 71) = u71 at e
        generalize a.eval (.tmp 72) = u72 at e
        generalize a.eval (.tmp 73) = u73 at e
        generalize a.eval (.tmp 74) = u74 at e
        generalize a.eval (.tmp 75) = u75 at e
        generalize a.eval (.tmp 76) = u76 at e
        generalize a.eval (.tmp 77) = u77 at e
        generalize a.eval (.tmp 78) = u78 at e
        generalize a.eval (.tmp 79) = u79 at e
        generalize a.eval (.tmp 80) = u80 at e
        generalize a.eval (.tmp 81) = u81 at e
        generalize a.eval (.tmp 82) = u82 at e
        generalize a.eval (.tmp 83) = u83 at e
        generalize a.eval (.tmp 84) = u84 at e
        generalize a.eval (.tmp 85) = u85 at e
        generalize a.eval (.tmp 86) = u86 at e
        generalize a.eval (.tmp 87) = u87 at e
        generalize a.eval (.tmp 88) = u88 at e
        generalize a.eval (.tmp 89) = u89 at e
        generalize a.eval (.tmp 90) = u90 at e
        generalize a.eval (.tmp 91) = u91 at e
        generalize a.eval (.tmp 92) = u92 at e
        generalize a.eval (.tmp 93) = u93 at e
        generalize a.eval (.tmp 94) = u94 at e
        generalize a.eval (.tmp 95) = u95 at e
        generalize a.eval (.tmp 96) = u96 at e
        generalize a.eval (.tmp 97) = u97 at e
        generalize a.eval (.tmp 98) = u98 at e
        generalize a.eval (.tmp 99) = u99 at e
        generalize a.eval (.tmp 100) = u100 at e
        generalize a.eval (.tmp 101) = u101 at e
        generalize a.eval (.tmp 102) = u102 at e
        generalize a.eval (.tmp 103) = u103 at e
        generalize a.eval (.tmp 104) = u104 at e
        generalize a.eval (.tmp 105) = u105 at e
        generalize a.eval (.tmp 106) = u106 at e
        generalize a.eval (.tmp 107) = u107 at e
        generalize a.eval (.tmp 108) = u108 at e
        generalize a.eval (.tmp 109) = u109 at e
        generalize a.eval (.tmp 110) = u110 at e
        generalize a.eval (.tmp 111) = u111 at e
        generalize a.eval (.tmp 112) = u112 at e
        generalize a.eval (.tmp 113) = u113 at e
        generalize a.eval (.tmp 114) = u114 at e
        generalize a.eval (.tmp 115) = u115 at e
        generalize a.eval (.tmp 116) = u116 at e
        generalize a.eval (.tmp 117) = u117 at e
        generalize a.eval (.tmp 118) = u118 at e
        generalize a.eval (.tmp 119) = u119 at e
        generalize a.eval (.tmp 120) = u120 at e
        generalize a.eval (.tmp 121) = u121 at e
        generalize a.eval (.tmp 122) = u122 at e
        generalize a.eval (.tmp 123) = u123 at e
        generalize a.eval (.tmp 124) = u124 at e
        generalize a.eval (.tmp 125) = u125 at e
        generalize a.eval (.tmp 126) = u126 at e
        generalize a.eval (.tmp 127) = u127 at e
        generalize a.eval (.tmp 128) = u128 at e
        generalize a.eval (.tmp 129) = u129 at e
        generalize a.eval (.tmp 130) = u130 at e
        generalize a.eval (.tmp 131) = u131 at e
        generalize a.eval (.tmp 132) = u132 at e
        generalize a.eval (.tmp 133) = u133 at e
        generalize a.eval (.tmp 134) = u134 at e
        generalize a.eval (.tmp 135) = u135 at e
        generalize a.eval (.tmp 136) = u136 at e
        generalize a.eval (.tmp 137) = u137 at e
        generalize a.eval (.tmp 138) = u138 at e
        generalize a.eval (.tmp 139) = u139 at e
        generalize a.eval (.tmp 140) = u140 at e
        generalize a.eval (.tmp 141) = u141 at e
        generalize a.eval (.tmp 142) = u142 at e
        generalize a.eval (.tmp 143) = u143 at e
        generalize a.eval (.tmp 144) = u144 at e
        generalize a.eval (.tmp 145) = u145 at e
        generalize a.eval (.tmp 146) = u146 at e
        generalize a.eval (.tmp 147) = u147 at e
        generalize a.eval (.tmp 148) = u148 at e
        generalize a.eval (.tmp 149) = u149 at e
        generalize a.eval (.tmp 150) = u150 at e
        subst e
        clear hfr hJ hsz hdf
        go_wp2
        go_ret
        exact ⟨rfl, H6.out.2.trans (hG.mono H6.out.2.size)⟩
    · rw [hca] at k20
      clear hcp hca
      refine wp_region_seq ?VS (Below w6.heap.size w6) (fun w w' h1 h2 => h1.trans (h2.mono h1.size)) ?hd ?hA (Below.refl _ _) ?hs ?hdone
      case VS => exact fun i => ([.bool true, .bool true, .slice A4 n4 c4, .int .i64 (n4 : Int), .bool true, .bool true, .bool true, .pointer (some ⟨w1.heap.size, 4, none⟩), .slice As ns cs, .int .i64 (ns : Int), .bool true, .bool true, .bool true, .int .i64 0, .bool true, .bool true, .bool true, .pointer (some ⟨w5.heap.size, 0, none⟩), .int .u8 48, .bool true, .bool true, .bool true, .slice A7 0 c7, .int .i64 0, .bool true, .bool true, .bool true, .pointer (some ⟨w1.heap.size, 11, none⟩), s.to.v, .pointer (some ⟨w1.heap.size, 5, none⟩), s.from_.v, .bool false, .bool true, .bool true, .bool true, .pointer (some ⟨w1.heap.size, 5, none⟩), s.from_.v, .bool true, .bool true, .bool true, .pointer (some ⟨w1.heap.size, 11, none⟩), s.to.v, .bool true, .bool true, .bool true, .pointer (some ⟨w1.heap.size, 17, none⟩), .pointer (some ⟨w1.heap.size, 18, none⟩), .int .u64 (s.e : Int), .bool true, .bool true, .bool true, .pointer (some ⟨w1.heap.size, 21, none⟩), .int .i64 s.fl.path, .bool true, .bool true, .bool true, .pointer (some ⟨w1.heap.size, 21, none⟩), .int .i64 s.fl.path, .bool true, .bool true, .bool true, .pointer (some ⟨w1.heap.size, 20, none⟩), .bool true, .bool true, undef, undef, undef, .bool true, .bool true, .bool true, .pointer (some ⟨w1.heap.size, 22, none⟩), .int .i64 s.fl.usage, .bool true, .bool true, .bool true, .pointer (some ⟨w1.heap.size, 22, none⟩), .int .i64 s.fl.usage, .bool true, .bool true, .bool true, .pointer (some ⟨w1.heap.size, 22, none⟩), .int .i64 s.fl.usage, .bool true, .bool true, .bool true, .bool true, .bool true, .bool true] : List Value).getD i undef
      case hd => show dstsOk _ 151 = true; decide +kernel
      case hA => decide +kernel
      case hs =>
        refine ⟨?_, ?_, ?_, ?_, ?_, ?_, ?_, ?_, ?_, ?_, ?_, ?_, ?_, ?_, ?_, ?_, ?_, ?_, ?_, ?_, ?_, ?_, ?_, ?_, ?_, ?_, ?_, ?_, ?_, ?_, ?_, ?_, ?_, ?_, ?_, ?_, ?_, ?_, ?_, ?_, ?_, ?_, ?_, ?_, ?_, ?_, ?_, ?_, ?_, ?_, ?_, ?_, ?_, ?_, ?_, ?_, ?_, ?_, ?_, ?_, ?_, ?_, ?_, ?_, ?_, ?_, ?_, ?_, ?_, ?_, ?_, ?_, ?_, ?_, ?_, ?_, ?_, ?_, ?_, ?_, ?_, ?_, ?_, ?_, ?_, ?_, ?_, ?_, trivial⟩
        · exact VStep.run (by simp) rfl (fun a W hfr hdep hG => V_move rfl (hfr 6 (by decide +kernel)))
        · exact VStep.run (by simp) rfl (fun a W hfr hdep hG => V_move rfl (hdep 0 (by decide +kernel)))
        · exact VStep.yes 1 true (by simp) rfl (by decide +kernel) rfl (fun a W hfr hdep hG => V_move rfl (hfr 5 (by decide +kernel)))
        · exact VStep.yes 1 true (by simp) rfl (by decide +kernel) rfl (fun a W hfr hdep hG => V_len rfl (hdep 2 (by decide +kernel)))
        · exact VStep.yes 1 true (by simp) rfl (by decide +kernel) rfl (fun a W hfr hdep hG => V_val (by have e1 : a.eval (.tmp 67) = .int .i64 (n4 : Int) := (hdep 3 (by decide +kernel)); simp only [execOp, e1]; (simp [go_sem]; omega)))
        · exact VStep.run (by simp) rfl (fun a W hfr hdep hG => V_pick rfl (b := true) (hdep 1 (by decide +kernel)) (hdep 4 (by decide +kernel)))
        · exact VStep.run (by simp) rfl (fun a W hfr hdep hG => V_move rfl (hdep 5 (by decide +kernel)))
        · exact VStep.yes 6 true (by simp) rfl (by decide +kernel) rfl (fun a W hfr hdep hG => V_val (by have e1 : a.eval (.tmp 3) = .pointer (some ⟨w1.heap.size, 0, none⟩) := (hfr 3 (by decide +kernel)); simp only [execOp, e1]; simp [go_sem]))
        · exact VStep.yes 6 true (by simp) rfl (by decide +kernel) rfl (fun a W hfr hdep hG => V_load rfl (hdep 7 (by decide +kernel)) (by have h := ((hG.cell (p := ⟨w1.heap.size, 4, none⟩) hl1).trans k4); simp [go_sem, h]))
        · exact VStep.yes 6 true (by simp) rfl (by decide +kernel) rfl (fun a W hfr hdep hG => V_len rfl (hdep 8 (by decide +kernel)))
        · exact VStep.yes 6 true (by simp) rfl (by decide +kernel) rfl (fun a W hfr hdep hG => V_val (by have e1 : a.eval (.tmp 73) = .int .i64 (ns : Int) := (hdep 9 (by decide +kernel)); simp only [execOp, e1]; (simp [go_sem]; omega)))
        · exact VStep.run (by simp) rfl (fun a W hfr hdep hG => V_pick rfl (b := true) (hdep 6 (by decide +kernel)) (hdep 10 (by decide +kernel)))
        · exact VStep.run (by simp) rfl (fun a W hfr hdep hG => V_move rfl (hdep 11 (by decide +kernel)))
        · exact VStep.yes 12 true (by simp) rfl (by decide +kernel) rfl (fun a W hfr hdep hG => V_move rfl (hfr 9 (by decide +kernel)))
        · exact VStep.yes 12 true (by simp) rfl (by decide +kernel) rfl (fun a W hfr hdep hG => V_val (by have e1 : a.eval (.tmp 77) = .int .i64 0 := (hdep 13 (by decide +kernel)); simp only [execOp, e1]; simp [go_sem]))
        · exact VStep.run (by simp) rfl (fun a W hfr hdep hG => V_pick rfl (b := true) (hdep 12 (by decide +kernel)) (hdep 14 (by decide +kernel)))
        · exact VStep.run (by simp) rfl (fun a W hfr hdep hG => V_move rfl (hdep 15 (by decide +kernel)))
        · exact VStep.yes 16 true (by simp) rfl (by decide +kernel) rfl (fun a W hfr hdep hG => V_val (by have e1 : a.eval (.tmp 7) = .pointer (some ⟨w5.heap.size, 0, none⟩) := (hfr 7 (by decide +kernel)); simp only [execOp, e1]; simp [go_sem]))
        · exact VStep.yes 16 true (by simp) rfl (by decide +kernel) rfl (fun a W hfr hdep hG => V_load rfl (hdep 17 (by decide +kernel)) (by have h := ((hG.cell (p := ⟨w5.heap.size, 0, none⟩) hl5).trans kx); simp [go_sem, h]))
        · exact VStep.yes 16 true (by simp) rfl (by decide +kernel) rfl (fun a W hfr hdep hG => V_val (by have e1 : a.eval (.tmp 82) = .int .u8 48 := (hdep 18 (by decide +kernel)); simp only [execOp, e1]; simp [go_sem]))
        · exact VStep.run (by simp) rfl (fun a W hfr hdep hG => V_pick rfl (b := true) (hdep 16 (by decide +kernel)) (hdep 19 (by decide +kernel)))
        · exact VStep.run (by simp) rfl (fun a W hfr hdep hG => V_move rfl (hdep 20 (by decide +kernel)))
        · exact VStep.yes 21 true (by simp) rfl (by decide +kernel) rfl (fun a W hfr hdep hG => V_move rfl (hfr 8 (by decide +kernel)))
        · exact VStep.yes 21 true (by simp) rfl (by decide +kernel) rfl (fun a W hfr hdep hG => V_len rfl (hdep 22 (by decide +kernel)))
        · exact VStep.yes 21 true (by simp) rfl (by decide +kernel) rfl (fun a W hfr hdep hG => V_val (by have e1 : a.eval (.tmp 87) = .int .i64 0 := (hdep 23 (by decide +kernel)); simp only [execOp, e1]; simp [go_sem]))
        · exact VStep.run (by simp) rfl (fun a W hfr hdep hG => V_pick rfl (b := true) (hdep 21 (by decide +kernel)) (hdep 24 (by decide +kernel)))
        · exact VStep.run (by simp) rfl (fun a W hfr hdep hG => V_move rfl (hdep 25 (by decide +kernel)))
        · exact VStep.yes 26 true (by simp) rfl (by decide +kernel) rfl (fun a W hfr hdep hG => V_val (by have e1 : a.eval (.tmp 3) = .pointer (some ⟨w1.heap.size, 0, none⟩) := (hfr 3 (by decide +kernel)); simp only [execOp, e1]; simp [go_sem]))
        · exact VStep.yes 26 true (by simp) rfl (by decide +kernel) rfl (fun a W hfr hdep hG => V_load rfl (hdep 27 (by decide +kernel)) (HT2 W hG))
        · exact VStep.yes 26 true (by simp) rfl (by decide +kernel) rfl (fun a W hfr hdep hG => V_val (by have e1 : a.eval (.tmp 3) = .pointer (some ⟨w1.heap.size, 0, none⟩) := (hfr 3 (by decide +kernel)); simp only [execOp, e1]; simp [go_sem]))
        · exact VStep.yes 26 true (by simp) rfl (by decide +kernel) rfl (fun a W hfr hdep hG => V_load rfl (hdep 29 (by decide +kernel)) (HT1 W hG))
        · exact VStep.yes 26 true (by simp) rfl (by decide +kernel) rfl (fun a W hfr hdep hG => V_call rfl Try.func26 rfl (by decide) (args := #[s.to.v, s.from_.v]) (by have e1 : a.eval (.tmp 92) = s.to.v := (hdep 28 (by decide +kernel)); have e2 : a.eval (.tmp 94) = s.from_.v := (hdep 30 (by decide +kernel)); simp [e1, e2]) (HLS W) (fun e w hR => hR))
        · exact VStep.yes 26 true (by simp) rfl (by decide +kernel) rfl (fun a W hfr hdep hG => V_val (by have e1 : a.eval (.tmp 95) = .bool false := (hdep 31 (by decide +kernel)); simp only [execOp, e1]; simp [go_sem]))
        · exact VStep.run (by simp) rfl (fun a W hfr hdep hG => V_pick rfl (b := true) (hdep 26 (by decide +kernel)) (hdep 32 (by decide +kernel)))
        · exact VStep.run (by simp) rfl (fun a W hfr hdep hG => V_move rfl (hdep 33 (by decide +kernel)))
        · exact VStep.yes 34 true (by simp) rfl (by decide +kernel) rfl (fun a W hfr hdep hG => V_val (by have e1 : a.eval (.tmp 3) = .pointer (some ⟨w1.heap.size, 0, none⟩) := (hfr 3 (by decide +kernel)); simp only [execOp, e1]; simp [go_sem]))
        · exact VStep.yes 34 true (by simp) rfl (by decide +kernel) rfl (fun a W hfr hdep hG => V_load rfl (hdep 35 (by decide +kernel)) (HT1 W hG))
        · exact VStep.yes 34 true (by simp) rfl (by decide +kernel) rfl (fun a W hfr hdep hG => V_call rfl Try.func27 rfl (by decide) (args := #[s.from_.v]) (by have e1 : a.eval (.tmp 100) = s.from_.v := (hdep 36 (by decide +kernel)); simp [e1]) (HR1 W) (fun e w hR => hR))
        · exact VStep.run (by simp) rfl (fun a W hfr hdep hG => V_pick rfl (b := true) (hdep 34 (by decide +kernel)) (hdep 37 (by decide +kernel)))
        · exact VStep.run (by simp) rfl (fun a W hfr hdep hG => V_move rfl (hdep 38 (by decide +kernel)))
        · exact VStep.yes 39 true (by simp) rfl (by decide +kernel) rfl (fun a W hfr hdep hG => V_val (by have e1 : a.eval (.tmp 3) = .pointer (some ⟨w1.heap.size, 0, none⟩) := (hfr 3 (by decide +kernel)); simp only [execOp, e1]; simp [go_sem]))
        · exact VStep.yes 39 true (by simp) rfl (by decide +kernel) rfl (fun a W hfr hdep hG => V_load rfl (hdep 40 (by decide +kernel)) (HT2 W hG))
        · exact VStep.yes 39 true (by simp) rfl (by decide +kernel) rfl (fun a W hfr hdep hG => V_call rfl Try.func27 rfl (by decide) (args := #[s.to.v]) (by have e1 : a.eval (.tmp 105) = s.to.v := (hdep 41 (by decide +kernel)); simp [e1]) (HR2 W) (fun e w hR => hR))
        · exact VStep.run (by simp) rfl (fun a W hfr hdep hG => V_pick rfl (b := true) (hdep 39 (by decide +kernel)) (hdep 42 (by decide +kernel)))
        · exact VStep.run (by simp) rfl (fun a W hfr hdep hG => V_move rfl (hdep 43 (by decide +kernel)))
        · exact VStep.yes 44 true (by simp) rfl (by decide +kernel) rfl (fun a W hfr hdep hG => V_val (by have e1 : a.eval (.tmp 3) = .pointer (some ⟨w1.heap.size, 0, none⟩) := (hfr 3 (by decide +kernel)); simp only [execOp, e1]; simp [go_sem]))
        · exact VStep.yes 44 true (by simp) rfl (by decide +kernel) rfl (fun a W hfr hdep hG => V_val (by have e1 : a.eval (.tmp 109) = .pointer (some ⟨w1.heap.size, 17, none⟩) := (hdep 45 (by decide +kernel)); simp only [execOp, e1]; simp [go_sem]))
        · exact VStep.yes 44 true (by simp) rfl (by decide +kernel) rfl (fun a W hfr hdep hG => V_load rfl (hdep 46 (by decide +kernel)) (by have h := ((hG.cell (p := ⟨w1.heap.size, 18, none⟩) hl1).trans k18); simp [go_sem, h]))
        · exact VStep.yes 44 true (by simp) rfl (by decide +kernel) rfl (fun a W hfr hdep hG => V_val (by have e1 : a.eval (.tmp 111) = .int .u64 (s.e : Int) := (hdep 47 (by decide +kernel)); simp only [execOp, e1]; (simp [go_sem]; omega)))
        · exact VStep.run (by simp) rfl (fun a W hfr hdep hG => V_pick rfl (b := true) (hdep 44 (by decide +kernel)) (hdep 48 (by decide +kernel)))
        · exact VStep.run (by simp) rfl (fun a W hfr hdep hG => V_move rfl (hdep 49 (by decide +kernel)))
        · exact VStep.yes 50 true (by simp) rfl (by decide +kernel) rfl (fun a W hfr hdep hG => V_val (by have e1 : a.eval (.tmp 3) = .pointer (some ⟨w1.heap.size, 0, none⟩) := (hfr 3 (by decide +kernel)); simp only [execOp, e1]; simp [go_sem]))
        · exact VStep.yes 50 true (by simp) rfl (by decide +kernel) rfl (fun a W hfr hdep hG => V_load rfl (hdep 51 (by decide +kernel)) (by have h := ((hG.cell (p := ⟨w1.heap.size, 21, none⟩) hl1).trans k21); simp [go_sem, h]))
        · exact VStep.yes 50 true (by simp) rfl (by decide +kernel) rfl (fun a W hfr hdep hG => V_val (by have e1 : a.eval (.tmp 116) = .int .i64 s.fl.path := (hdep 52 (by decide +kernel)); simp only [execOp, e1]; (simp [go_sem]; omega)))
        · exact VStep.run (by simp) rfl (fun a W hfr hdep hG => V_pick rfl (b := true) (hdep 50 (by decide +kernel)) (hdep 53 (by decide +kernel)))
        · exact VStep.run (by simp) rfl (fun a W hfr hdep hG => V_move rfl (hdep 54 (by decide +kernel)))
        · exact VStep.yes 55 true (by simp) rfl (by decide +kernel) rfl (fun a W hfr hdep hG => V_val (by have e1 : a.eval (.tmp 3) = .pointer (some ⟨w1.heap.size, 0, none⟩) := (hfr 3 (by decide +kernel)); simp only [execOp, e1]; simp [go_sem]))
        · exact VStep.yes 55 true (by simp) rfl (by decide +kernel) rfl (fun a W hfr hdep hG => V_load rfl (hdep 56 (by decide +kernel)) (by have h := ((hG.cell (p := ⟨w1.heap.size, 21, none⟩) hl1).trans k21); simp [go_sem, h]))
        · exact VStep.yes 55 true (by simp) rfl (by decide +kernel) rfl (fun a W hfr hdep hG => V_val (by have e1 : a.eval (.tmp 121) = .int .i64 s.fl.path := (hdep 57 (by decide +kernel)); simp only [execOp, e1]; (simp [go_sem]; omega)))
        · exact VStep.run (by simp) rfl (fun a W hfr hdep hG => V_pick rfl (b := true) (hdep 55 (by decide +kernel)) (hdep 58 (by decide +kernel)))
        · exact VStep.run (by simp) rfl (fun a W hfr hdep hG => V_move rfl (hdep 59 (by decide +kernel)))
        · exact VStep.yes 60 true (by simp) rfl (by decide +kernel) rfl (fun a W hfr hdep hG => V_val (by have e1 : a.eval (.tmp 3) = .pointer (some ⟨w1.heap.size, 0, none⟩) := (hfr 3 (by decide +kernel)); simp only [execOp, e1]; simp [go_sem]))
        · exact VStep.yes 60 true (by simp) rfl (by decide +kernel) rfl (fun a W hfr hdep hG => V_load rfl (hdep 61 (by decide +kernel)) (by have h := ((hG.cell (p := ⟨w1.heap.size, 20, none⟩) hl1).trans k20); simp [go_sem, h]))
        · exact VStep.yes 60 true (by simp) rfl (by decide +kernel) rfl (fun a W hfr hdep hG => V_move rfl (hdep 62 (by decide +kernel)))
        · exact VStep.skip 63 false rfl (by decide +kernel) (by intro h; cases h) rfl
        · exact VStep.skip 63 false rfl (by decide +kernel) (by intro h; cases h) rfl
        · exact VStep.skip 63 false rfl (by decide +kernel) (by intro h; cases h) rfl
        · exact VStep.yes 60 true (by simp) rfl (by decide +kernel) rfl (fun a W hfr hdep hG => V_pick rfl (b := true) (hdep 63 (by decide +kernel)) rfl)
        · exact VStep.run (by simp) rfl (fun a W hfr hdep hG => V_pick rfl (b := true) (hdep 60 (by decide +kernel)) (hdep 67 (by decide +kernel)))
        · exact VStep.run (by simp) rfl (fun a W hfr hdep hG => V_move rfl (hdep 68 (by decide +kernel)))
        · exact VStep.yes 69 true (by simp) rfl (by decide +kernel) rfl (fun a W hfr hdep hG => V_val (by have e1 : a.eval (.tmp 3) = .pointer (some ⟨w1.heap.size, 0, none⟩) := (hfr 3 (by decide +kernel)); simp only [execOp, e1]; simp [go_sem]))
        · exact VStep.yes 69 true (by simp) rfl (by decide +kernel) rfl (fun a W hfr hdep hG => V_load rfl (hdep 70 (by decide +kernel)) (by have h := ((hG.cell (p := ⟨w1.heap.size, 22, none⟩) hl1).trans k22); simp [go_sem, h]))
        · exact VStep.yes 69 true (by simp) rfl (by decide +kernel) rfl (fun a W hfr hdep hG => V_val (by have e1 : a.eval (.tmp 135) = .int .i64 s.fl.usage := (hdep 71 (by decide +kernel)); simp only [execOp, e1]; (simp [go_sem]; omega)))
        · exact VStep.run (by simp) rfl (fun a W hfr hdep hG => V_pick rfl (b := true) (hdep 69 (by decide +kernel)) (hdep 72 (by decide +kernel)))
        · exact VStep.run (by simp) rfl (fun a W hfr hdep hG => V_move rfl (hdep 73 (by decide +kernel)))
        · exact VStep.yes 74 true (by simp) rfl (by decide +kernel) rfl (fun a W hfr hdep hG => V_val (by have e1 : a.eval (.tmp 3) = .pointer (some ⟨w1.heap.size, 0, none⟩) := (hfr 3 (by decide +kernel)); simp only [execOp, e1]; simp [go_sem]))
        · exact VStep.yes 74 true (by simp) rfl (by decide +kernel) rfl (fun a W hfr hdep hG => V_load rfl (hdep 75 (by decide +kernel)) (by have h := ((hG.cell (p := ⟨w1.heap.size, 22, none⟩) hl1).trans k22); simp [go_sem, h]))
        · exact VStep.yes 74 true (by simp) rfl (by decide +kernel) rfl (fun a W hfr hdep hG => V_val (by have e1 : a.eval (.tmp 140) = .int .i64 s.fl.usage := (hdep 76 (by decide +kernel)); simp only [execOp, e1]; (simp [go_sem]; omega)))
        · exact VStep.run (by simp) rfl (fun a W hfr hdep hG => V_pick rfl (b := true) (hdep 74 (by decide +kernel)) (hdep 77 (by decide +kernel)))
        · exact VStep.run (by simp) rfl (fun a W hfr hdep hG => V_move rfl (hdep 78 (by decide +kernel)))
        · exact VStep.yes 79 true (by simp) rfl (by decide +kernel) rfl (fun a W hfr hdep hG => V_val (by have e1 : a.eval (.tmp 3) = .pointer (some ⟨w1.heap.size, 0, none⟩) := (hfr 3 (by decide +kernel)); simp only [execOp, e1]; simp [go_sem]))
        · exact VStep.yes 79 true (by simp) rfl (by decide +kernel) rfl (fun a W hfr hdep hG => V_load rfl (hdep 80 (by decide +kernel)) (by have h := ((hG.cell (p := ⟨w1.heap.size, 22, none⟩) hl1).trans k22); simp [go_sem, h]))
        · exact VStep.yes 79 true (by simp) rfl (by decide +kernel) rfl (fun a W hfr hdep hG => V_val (by have e1 : a.eval (.tmp 145) = .int .i64 s.fl.usage := (hdep 81 (by decide +kernel)); simp only [execOp, e1]; (simp [go_sem]; omega)))
        · exact VStep.run (by simp) rfl (fun a W hfr hdep hG => V_pick rfl (b := true) (hdep 79 (by decide +kernel)) (hdep 82 (by decide +kernel)))
        · exact VStep.run (by simp) rfl (fun a W hfr hdep hG => V_move rfl (hdep 83 (by decide +kernel)))
        · exact VStep.yes 84 true (by simp) rfl (by decide +kernel) rfl (fun a W hfr hdep hG => V_call rfl Try.func14 rfl (by decide) (args := #[]) (by simp) (works12_any W) (fun e w hR => hR))
        · exact VStep.run (by simp) rfl (fun a W hfr hdep hG => V_pick rfl (b := true) (hdep 84 (by decide +kernel)) (hdep 85 (by decide +kernel)))
        · exact VStep.run (by simp) rfl (fun a W hfr hdep hG => V_assign rfl (hdep 86 (by decide +kernel)))
      case hdone =>
        intro a W hdf hsz hfr hG hJ
        have e := arr_eta a 151 hsz hdf
        rw [show (List.range 151).map (fun i => a.eval (.tmp i)) = [a.eval (.tmp 0), a.eval (.tmp 1), a.eval (.tmp 2), a.eval (.tmp 3), a.eval (.tmp 4), a.eval (.tmp 5), a.eval (.tmp 6), a.eval (.tmp 7), a.eval (.tmp 8), a.eval (.tmp 9), a.eval (.tmp 10), a.eval (.tmp 11), a.eval (.tmp 12), a.eval (.tmp 13), a.eval (.tmp 14), a.eval (.tmp 15), a.eval (.tmp 16), a.eval (.tmp 17), a.eval (.tmp 18), a.eval (.tmp 19), a.eval (.tmp 20), a.eval (.tmp 21), a.eval (.tmp 22), a.eval (.tmp 23), a.eval (.tmp 24), a.eval (.tmp 25), a.eval (.tmp 26), a.eval (.tmp 27), a.eval (.tmp 28), a.eval (.tmp 29), a.eval (.tmp 30), a.eval (.tmp 31), a.eval (.tmp 32), a.eval (.tmp 33), a.eval (.tmp 34), a.eval (.tmp 35), a.eval (.tmp 36), a.eval (.tmp 37), a.eval (.tmp 38), a.eval (.tmp 39), a.eval (.tmp 40), a.eval (.tmp 41), a.eval (.tmp 42), a.eval (.tmp 43), a.eval (.tmp 44), a.eval (.tmp 45), a.eval (.tmp 46), a.eval (.tmp 47), a.eval (.tmp 48), a.eval (.tmp 49), a.eval (.tmp 50), a.eval (.tmp 51), a.eval (.tmp 52), a.eval (.tmp 53), a.eval (.tmp 54), a.eval (.tmp 55), a.eval (.tmp 56), a.eval (.tmp 57), a.eval (.tmp 58), a.eval (.tmp 59), a.eval (.tmp 60), a.eval (.tmp 61), a.eval (.tmp 62), a.eval (.tmp 63), a.eval (.tmp 64), a.eval (.tmp 65), a.eval (.tmp 66), a.eval (.tmp 67), a.eval (.tmp 68), a.eval (.tmp 69), a.eval (.tmp 70), a.eval (.tmp 71), a.eval (.tmp 72), a.eval (.tmp 73), a.eval (.tmp 74), a.eval (.tmp 75), a.eval (.tmp 76), a.eval (.tmp 77), a.eval (.tmp 78), a.eval (.tmp 79), a.eval (.tmp 80), a.eval (.tmp 81), a.eval (.tmp 82), a.eval (.tmp 83), a.eval (.tmp 84), a.eval (.tmp 85), a.eval (.tmp 86), a.eval (.tmp 87), a.eval (.tmp 88), a.eval (.tmp 89), a.eval (.tmp 90), a.eval (.tmp 91), a.eval (.tmp 92), a.eval (.tmp 93), a.eval (.tmp 94), a.eval (.tmp 95), a.eval (.tmp 96), a.eval (.tmp 97), a.eval (.tmp 98), a.eval (.tmp 99), a.eval (.tmp 100), a.eval (.tmp 101), a.eval (.tmp 102), a.eval (.tmp 103), a.eval (.tmp 104), a.eval (.tmp 105), a.eval (.tmp 106), a.eval (.tmp 107), a.eval (.tmp 108), a.eval (.tmp 109), a.eval (.tmp 110), a.eval (.tmp 111), a.eval (.tmp 112), a.eval (.tmp 113), a.eval (.tmp 114), a.eval (.tmp 115), a.eval (.tmp 116), a.eval (.tmp 117), a.eval (.tmp 118), a.eval (.tmp 119), a.eval (.tmp 120), a.eval (.tmp 121), a.eval (.tmp 122), a.eval (.tmp 123), a.eval (.tmp 124), a.eval (.tmp 125), a.eval (.tmp 126), a.eval (.tmp 127), a.eval (.tmp 128), a.eval (.tmp 129), a.eval (.tmp 130), a.eval (.tmp 131), a.eval (.tmp 132), a.eval (.tmp 133), a.eval (.tmp 134), a.eval (.tmp 135), a.eval (.tmp 136), a.eval (.tmp 137), a.eval (.tmp 138), a.eval (.tmp 139), a.eval (.tmp 140), a.eval (.tmp 141), a.eval (.tmp 142), a.eval (.tmp 143), a.eval (.tmp 144), a.eval (.tmp 145), a.eval (.tmp 146), a.eval (.tmp 147), a.eval (.tmp 148), a.eval (.tmp 149), a.eval (.tmp 150)] from rfl] at e
        rw [show a.eval (.tmp 2) = .bool true from hJ 87 (by decide)] at e
        generalize a.eval (.tmp 0) = u0 at e
        generalize a.eval (.tmp 1) = u1 at e
        generalize a.eval (.tmp 3) = u3 at e
        generalize a.eval (.tmp 4) = u4 at e
        generalize a.eval (.tmp 5) = u5 at e
        generalize a.eval (.tmp 6) = u6 at e
        generalize a.eval (.tmp 7) = u7 at e
        generalize a.eval (.tmp 8) = u8 at e
        generalize a.eval (.tmp 9) = u9 at e
        generalize a.eval (.tmp 10) = u10 at e
        generalize a.eval (.tmp 11) = u11 at e
        generalize a.eval (.tmp 12) = u12 at e
        generalize a.eval (.tmp 13) = u13 at e
        generalize a.eval (.tmp 14) = u14 at e
        generalize a.eval (.tmp 15) = u15 at e
        generalize a.eval (.tmp 16) = u16 at e
        generalize a.eval (.tmp 17) = u17 at e
        generalize a.eval (.tmp 18) = u18 at e
        generalize a.eval (.tmp 19) = u19 at e
        generalize a.eval (.tmp 20) = u20 at e
        generalize a.eval (.tmp 21) = u21 at e
        generalize a.eval (.tmp 22) = u22 at e
        generalize a.eval (.tmp 23) = u23 at e
        generalize a.eval (.tmp 24) = u24 at e
        generalize a.eval (.tmp 25) = u25 at e
        generalize a.eval (.tmp 26) = u26 at e
        generalize a.eval (.tmp 27) = u27 at e
        generalize a.eval (.tmp 28) = u28 at e
        generalize a.eval (.tmp 29) = u29 at e
        generalize a.eval (.tmp 30) = u30 at e
        generalize a.eval (.tmp 31) = u31 at e
        generalize a.eval (.tmp 32) = u32 at e
        generalize a.eval (.tmp 33) = u33 at e
        generalize a.eval (.tmp 34) = u34 at e
        generalize a.eval (.tmp 35) = u35 at e
        generalize a.eval (.tmp 36) = u36 at e
        generalize a.eval (.tmp 37) = u37 at e
        generalize a.eval (.tmp 38) = u38 at e
        generalize a.eval (.tmp 39) = u39 at e
        generalize a.eval (.tmp 40) = u40 at e
        generalize a.eval (.tmp 41) = u41 at e
        generalize a.eval (.tmp 42) = u42 at e
        generalize a.eval (.tmp 43) = u43 at e
        generalize a.eval (.tmp 44) = u44 at e
        generalize a.eval (.tmp 45) = u45 at e
        generalize a.eval (.tmp 46) = u46 at e
        generalize a.eval (.tmp 47) = u47 at e
        generalize a.eval (.tmp 48) = u48 at e
        generalize a.eval (.tmp 49) = u49 at e
        generalize a.eval (.tmp 50) = u50 at e
        generalize a.eval (.tmp 51) = u51 at e
        generalize a.eval (.tmp 52) = u52 at e
        generalize a.eval (.tmp 53) = u53 at e
        generalize a.eval (.tmp 54) = u54 at e
        generalize a.eval (.tmp 55) = u55 at e
        generalize a.eval (.tmp 56) = u56 at e
        generalize a.eval (.tmp 57) = u57 at e
        generalize a.eval (.tmp 58) = u58 at e
        generalize a.eval (.tmp 59) = u59 at e
        generalize a.eval (.tmp 60) = u60 at e
        generalize a.eval (.tmp 61) = u61 at e
        generalize a.eval (.tmp 62) = u62 at e
        generalize a.eval (.tmp 63) = u63 at e
        generalize a.eval (.tmp 64) = u64 at e
        generalize a.eval (.tmp 65) = u65 at e
        generalize a.eval (.tmp 66) = u66 at e
        generalize a.eval (.tmp 67) = u67 at e
        generalize a.eval (.tmp 68) = u68 at e
        generalize a.eval (.tmp 69) = u69 at e
        generalize a.eval (.tmp 70) = u70 at e
        generalize a.eval (.tmp 71) = u71 at e
        generalize a.eval (.tmp 72) = u72 at e
        generalize a.eval (.tmp 73) = u73 at e
        generalize a.eval (.tmp 74) = u74 at e
        generalize a.eval (.tmp 75) = u75 at e
        generalize a.eval (.tmp 76) = u76 at e
        generalize a.eval (.tmp 77) = u77 at e
        generalize a.eval (.tmp 78) = u78 at e
        generalize a.eval (.tmp 79) = u79 at e
        generalize a.eval (.tmp 80) = u80 at e
        generalize a.eval (.tmp 81) = u81 at e
        generalize a.eval (.tmp 82) = u82 at e
        generalize a.eval (.tmp 83) = u83 at e
        generalize a.eval (.tmp 84) = u84 at e
        generalize a.eval (.tmp 85) = u85 at e
        generalize a.eval (.tmp 86) = u86 at e
        generalize a.eval (.tmp 87) = u87 at e
        generalize a.eval (.tmp 88) = u88 at e
        generalize a.eval (.tmp 89) = u89 at e
        generalize a.eval (.tmp 90) = u90 at e
        generalize a.eval (.tmp 91) = u91 at e
        generalize a.eval (.tmp 92) = u92 at e
        generalize a.eval (.tmp 93) = u93 at e
        generalize a.eval (.tmp 94) = u94 at e
        generalize a.eval (.tmp 95) = u95 at e
        generalize a.eval (.tmp 96) = u96 at e
        generalize a.eval (.tmp 97) = u97 at e
        generalize a.eval (.tmp 98) = u98 at e
        generalize a.eval (.tmp 99) = u99 at e
        generalize a.eval (.tmp 100) = u100 at e
        generalize a.eval (.tmp 101) = u101 at e
        generalize a.eval (.tmp 102) = u102 at e
        generalize a.eval (.tmp 103) = u103 at e
        generalize a.eval (.tmp 104) = u104 at e
        generalize a.eval (.tmp 105) = u105 at e
        generalize a.eval (.tmp 106) = u106 at e
        generalize a.eval (.tmp 107) = u107 at e
        generalize a.eval (.tmp 108) = u108 at e
        generalize a.eval (.tmp 109) = u109 at e
        generalize a.eval (.tmp 110) = u110 at e
        generalize a.eval (.tmp 111) = u111 at e
        generalize a.eval (.tmp 112) = u112 at e
        generalize a.eval (.tmp 113) = u113 at e
        generalize a.eval (.tmp 114) = u114 at e
        generalize a.eval (.tmp 115) = u115 at e
        generalize a.eval (.tmp 116) = u116 at e
        generalize a.eval (.tmp 117) = u117 at e
        generalize a.eval (.tmp 118) = u118 at e
        generalize a.eval (.tmp 119) = u119 at e
        generalize a.eval (.tmp 120) = u120 at e
        generalize a.eval (.tmp 121) = u121 at e
        generalize a.eval (.tmp 122) = u122 at e
        generalize a.eval (.tmp 123) = u123 at e
        generalize a.eval (.tmp 124) = u124 at e
        generalize a.eval (.tmp 125) = u125 at e
        generalize a.eval (.tmp 126) = u126 at e
        generalize a.eval (.tmp 127) = u127 at e
        generalize a.eval (.tmp 128) = u128 at e
        generalize a.eval (.tmp 129) = u129 at e
        generalize a.eval (.tmp 130) = u130 at e
        generalize a.eval (.tmp 131) = u131 at e
        generalize a.eval (.tmp 132) = u132 at e
        generalize a.eval (.tmp 133) = u133 at e
        generalize a.eval (.tmp 134) = u134 at e
        generalize a.eval (.tmp 135) = u135 at e
        generalize a.eval (.tmp 136) = u136 at e
        generalize a.eval (.tmp 137) = u137 at e
        generalize a.eval (.tmp 138) = u138 at e
        generalize a.eval (.tmp 139) = u139 at e
        generalize a.eval (.tmp 140) = u140 at e
        generalize a.eval (.tmp 141) = u141 at e
        generalize a.eval (.tmp 142) = u142 at e
        generalize a.eval (.tmp 143) = u143 at e
        generalize a.eval (.tmp 144) = u144 at e
        generalize a.eval (.tmp 145) = u145 at e
        generalize a.eval (.tmp 146) = u146 at e
        generalize a.eval (.tmp 147) = u147 at e
        generalize a.eval (.tmp 148) = u148 at e
        generalize a.eval (.tmp 149) = u149 at e
        generalize a.eval (.tmp 150) = u150 at e
        subst e
        clear hfr hJ hsz hdf
        go_wp2
        go_ret
        exact ⟨rfl, H6.out.2.trans (hG.mono H6.out.2.size)⟩

theorem certOne_walk (w : World) (A : Option Addr) (n c : Nat) (b : List UInt8) (h : Rd w w.heap.size A n c b) :
    Calls Try.prog 5 #[.slice A n c] w fun e w' => e = .returned (.bool true) ∧ Below w.heap.size w w' := by
  by_cases hn : (16384 : Int) < n
  · exact one_large A n c w hn
  · exact one_main A n c b w h hn
end Go.Proofs.Ytmnekhliblkibaa
