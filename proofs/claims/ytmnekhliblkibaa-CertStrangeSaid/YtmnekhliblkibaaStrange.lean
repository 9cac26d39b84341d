/- The walk of the law CertStrange. -/
import Derived.Test.YtmnekhliblkibaaStrangeA
namespace Go.Proofs.Ytmnekhliblkibaa
open Go.RowKit
set_option maxRecDepth 1000000
set_option linter.unusedVariables false
set_option linter.unusedSimpArgs false
set_option maxHeartbeats 8000000

section
variable {o : Oper} {a : Act} {w : World} {Q : Exit → Act → World → Prop}
theorem N_with0 {x y : Operand} {ts : Array TypeId} {k : Kase} {A0 A1 A2 : Option Addr} {n0 c0 n1 c1 n2 c2 : Nat} (ho : o.op = .call { callee := .value (.func 29), args := #[x, y], argTypes := ts }) (hd : o.dst ≠ none)
    (hx : a.eval x = k.val (.slice A0 n0 c0) (.slice A1 n1 c1) (.slice A2 n2 c2)) (hy : a.eval y = .slice none 0 0) (hk : k.come w A0 A1 A2 n0 c0 n1 c1 n2 c2) :
    o.wp Try.prog a w (KN a o (fun v w' => RdT w' v (Ref.wr (Ref.seq (k.els.map (·.2.2) ++ X.tail [])) (k.sig.take 100))) w) Q :=
  N_call ho hd Try.func29 rfl (by decide) (args := #[k.val (.slice A0 n0 c0) (.slice A1 n1 c1) (.slice A2 n2 c2), .slice none 0 0]) (by simp [hx, hy])
    (with_any k A0 A1 A2 n0 c0 n1 c1 n2 c2 w hk none 0 0 [] ⟨rfl, Nat.le_refl _, by omega, Reads.none_, fun v xs h => by cases h⟩ (by omega) (by simp [cat])) fun e w' h => h.rdt
end
theorem grown_set (w : World) (g i : Nat) (v : Value) : w.grownBy (w.setCell ⟨g, i, none⟩ v) (some g) :=
  ⟨rfl, rfl, rfl, by simp, fun k hk hne => Below.heap_setCell w ⟨g, i, none⟩ v k (fun e => hne (by rw [e]))⟩
theorem CI.turned {w : World} {C E : CV} {v0 v1 : Value} {raw tbs iss sub ser n sig raw2 tbs2 : List UInt8} (h : CI w C raw tbs iss sub ser n sig) (h2 : CI w E raw2 tbs2 iss sub ser n sig) (er : C.raw = v0) (et : C.tbs = v1) : CI w {E with raw := v0, tbs := v1} raw tbs iss sub ser n sig := by
  subst er et
  exact ⟨h.raw, h.tbs, h2.iss, h2.sub, h2.ser, h2.n, h2.sig⟩
theorem strange_main (k : Kase) (A0 A1 A2 : Option Addr) (n0 c0 n1 c1 n2 c2 : Nat) (A3 : Option Addr) (n3 c3 : Nat) (zs : List Nat) (A4 : Option Addr) (n4 c4 : Nat) (oct : List UInt8) (w : World) (hk : k.come w A0 A1 A2 n0 c0 n1 c1 n2 c2)
    (h3 : RdU w w.heap.size A3 n3 c3 zs) (h4 : Rd w w.heap.size A4 n4 c4 oct) :
    Calls Try.prog 6 #[k.val (.slice A0 n0 c0) (.slice A1 n1 c1) (.slice A2 n2 c2), .slice A3 n3 c3, .slice A4 n4 c4] w (LawPost w) := by
  obtain ⟨w0, hw0, hKB0⟩ : ∃ w0, w0 = w.alloc (.cells (k.row (.slice A0 n0 c0) (.slice A1 n1 c1) (.slice A2 n2 c2)) 42) ∧ Blk w0 w.heap.size 42 (k.row (.slice A0 n0 c0) (.slice A1 n1 c1) (.slice A2 n2 c2)) := ⟨_, rfl, Blk.new w _ _⟩
  have hb0 : Below w.heap.size w w0 := by rw [hw0]; exact (Below.refl _ w).alloc (Nat.le_refl _) _
  have HK := Lib.hid (And.intro hKB0 (And.intro (h3.up hb0) (And.intro (h4.up hb0) (And.intro (hk.up hb0) hb0))))
  clear hk h3 h4 hKB0 hb0
  obtain ⟨KV, hKV⟩ : ∃ KV, KV = k.val (.slice A0 n0 c0) (.slice A1 n1 c1) (.slice A2 n2 c2) := ⟨_, rfl⟩
  have hKV2 : KV = Value.agg (k.row (.slice A0 n0 c0) (.slice A1 n1 c1) (.slice A2 n2 c2)) := hKV
  rw [← hKV]
  clear hKV
  subst hKV2
  go_enter Try.func6, Try.ntmps6
  go_upto_region 1 with fail
  rw [← hw0]
  clear hw0
  go_wp2_with fail
  refine (strange_any A3 n3 c3 zs w0 HK.out.2.1).mono ?_
  rintro en w1 ⟨B, m, d, rfl, ho1, hb1⟩
  have hS := strange_is zs HK.out.2.1.small
  obtain ⟨b, hb⟩ : ∃ b, X.strange zs = b := ⟨_, rfl⟩
  rw [hb] at hS ho1
  have H1 := Lib.hid (And.intro (HK.out.1.below hb1 HK.out.1.lt) (And.intro (ho1.mono (Nat.le_refl _) (Nat.le_refl _)).rdx (And.intro (HK.out.2.2.1.up hb1) (And.intro (HK.out.2.2.2.1.up hb1) (And.intro (HK.out.2.2.2.2.trans (hb1.mono HK.out.2.2.2.2.size)) hS)))))
  clear hb ho1 hb1 hS HK
  by_cases hn : (500 : Int) < n4
  · go_wp2_with fail
    refine (works12_any _).mono ?_
    rintro e wz ⟨rfl, hbz⟩
    go_wp2
    go_ret
    exact ⟨rfl, H1.out.2.2.2.2.1.trans (hbz.mono H1.out.2.2.2.2.1.size)⟩
  have hol : oct.length ≤ 500 := by have := H1.out.2.2.1.len; omega
  have hbl := H1.out.2.2.2.2.2.1
  obtain ⟨t0, ht0⟩ := plain_parse k H1.out.2.2.2.1.path
  obtain ⟨⟨t1, ht1⟩, ht2, ht3⟩ := strange_parse k H1.out.2.2.2.1.path H1.out.2.2.2.2.2 hol
  have hP := Lib.hid (And.intro ht0 (And.intro ht1 (And.intro ht2 ht3)))
  clear ht0 ht1 ht2 ht3
  have hx1 : ∀ q, (X.ext b q oct).length ≤ 1000 := fun q => by
    have := extq_len b q oct hbl hol
    rw [extq_raw] at this
    omega
  have hx2 : (X.ext b false []).length ≤ 1000 := by
    have := extq_len b false [] hbl (by simp)
    rw [extq_raw] at this
    simp only [List.length_nil] at this
    omega
  have hxf := hx1 false
  have hxt := hx1 true
  have HWN := Lib.hid (show Calls Try.prog 29 #[k.val (.slice A0 n0 c0) (.slice A1 n1 c1) (.slice A2 n2 c2), .slice none 0 0] w1 (RetOwn (Ref.wr (Ref.seq (k.els.map (·.2.2) ++ X.tail [])) (k.sig.take 100)) w1) from with_any k A0 A1 A2 n0 c0 n1 c1 n2 c2 w1 H1.out.2.2.2.1 none 0 0 [] ⟨rfl, Nat.le_refl _, by omega, Reads.none_, fun v xs h => by cases h⟩ (by omega) (by simp [cat]))
  · go_upto_region 5 with (first
    | ((with_reducible refine at_load_case ?_); refine wpList_load_case rfl _ rfl w.heap.size k (.slice A0 n0 c0) (.slice A1 n1 c1) (.slice A2 n2 c2) rfl H1.out.1 ?_)
    | (go_at_call 29; refine HWN.out.mono ?_; rintro en w2 ⟨Aw, nw, cw, rfl, how, hbw⟩)
    | (go_at_call 16; refine (parse_pc Aw nw cw _ w2 (how.mono (Nat.le_refl _) (Nat.le_refl _)).rdx).mono ?_; rintro en w3 ⟨hb3, Cva, rfl, hPv3⟩; have hone := hPv3.one)
    | ((with_reducible refine at_store_cert ?_); refine wpList_store_cert rfl _ _ rfl w3.heap.size CV.zero Cva rfl rfl (Blk.new w3 _ _) hone ?_; intro Wa hBva hga)
    | fail)
    have hg3 : Below w3.heap.size w3 Wa := below_grow ((Below.refl _ w3).alloc (Nat.le_refl _) _) hga (Nat.le_refl _) (Nat.le_refl _)
    have hPva := hPv3.rn hg3
    have hGa : Below w1.heap.size w1 Wa := (hbw.trans (hb3.mono hbw.size)).trans (hg3.mono (by have := hbw.size; have := hb3.size; omega))
    have hgBa : w1.heap.size ≤ w3.heap.size := by have := hbw.size; have := hb3.size; omega
    obtain ⟨gva, hgva⟩ : ∃ g, g = w3.heap.size := ⟨_, rfl⟩
    rw [← hgva] at hBva hgBa
    rw [← hgva]
    clear hgva hg3 hone hga hb3 hPv3 how hbw
    have herr : ((Cert.parse (Ref.wr (Ref.seq (k.els.map (·.2.2) ++ X.tail [])) (k.sig.take 100))).err : Int) = 0 := by rw [hP.out.1]; rfl
    rw [herr]
    rw [hP.out.1] at hPva
    have Ha := Lib.hid (And.intro (H1.out.1.below hGa H1.out.1.lt) (And.intro (H1.out.2.1.up hGa) (And.intro (H1.out.2.2.1.up hGa) (And.intro (H1.out.2.2.2.1.up hGa) (And.intro (H1.out.2.2.2.2.1.trans (hGa.mono H1.out.2.2.2.2.1.size)) (And.intro (hBva) (And.intro (hPva) (Nat.le_trans H1.out.2.2.2.2.1.size hgBa))))))))
    clear herr hBva hPva hgBa hGa H1
    refine wp_region_two 11 10 (JL [(fun v _ => v = k.val (.slice A0 n0 c0) (.slice A1 n1 c1) (.slice A2 n2 c2)), (fun v _ => v = .slice B m d), (fun v _ => v = .slice A4 n4 c4), (fun v w => RdT w v (X.ext b false oct)), (RX [X.ext b false oct]), (fun v w => RdT w v (Ref.wr (Ref.seq (k.els.map (·.2.2) ++ X.tail [X.ext b false oct])) (k.sig.take 100))), (JP (Wa.heap.size) (Ref.wr (Ref.seq (k.els.map (·.2.2) ++ X.tail [X.ext b false oct])) (k.sig.take 100)) 0), (JP (Wa.heap.size) (Ref.wr (Ref.seq (k.els.map (·.2.2) ++ X.tail [X.ext b false oct])) (k.sig.take 100)) 0), (JP (Wa.heap.size) (Ref.wr (Ref.seq (k.els.map (·.2.2) ++ X.tail [X.ext b false oct])) (k.sig.take 100)) 1), (JP (Wa.heap.size) (Ref.wr (Ref.seq (k.els.map (·.2.2) ++ X.tail [X.ext b false oct])) (k.sig.take 100)) 2), (JP (Wa.heap.size) (Ref.wr (Ref.seq (k.els.map (·.2.2) ++ X.tail [X.ext b false oct])) (k.sig.take 100)) 3), (fun _ _ => True), (JP (Wa.heap.size) (Ref.wr (Ref.seq (k.els.map (·.2.2) ++ X.tail [X.ext b false oct])) (k.sig.take 100)) 2)]) (JV (Wa.heap.size) (Ref.wr (Ref.seq (k.els.map (·.2.2) ++ X.tail [X.ext b false oct])) (k.sig.take 100))) (Below Wa.heap.size Wa) RN (SN (Wa.heap.size)) ?hm ?hmono ?hmonoS JV.rn ?hGR ?hGS ?hd ?hg ?hA ?hW ((Below.refl _ _).drew) ?hs ?hdone
    case hm => rfl
    case hmono => exact JL.rn (B := Wa.heap.size) (Sta.cons (Sta.eq _ _) (Sta.cons (Sta.eq _ _) (Sta.cons (Sta.eq _ _) (Sta.cons (Sta.rdt _ _) (Sta.cons (Sta.rx _ _) (Sta.cons (Sta.rdt _ _) (Sta.cons (Sta.jp _ _ _) (Sta.cons (Sta.jp _ _ _) (Sta.cons (Sta.jp _ _ _) (Sta.cons (Sta.jp _ _ _) (Sta.cons (Sta.jp _ _ _) (Sta.cons (Sta.true _) (Sta.cons (Sta.jp _ _ _) (Sta.nil))))))))))))))
    case hmonoS => exact JL.sn (B := Wa.heap.size) (Sta.cons (Sta.eq _ _) (Sta.cons (Sta.eq _ _) (Sta.cons (Sta.eq _ _) (Sta.cons (Sta.rdt _ _) (Sta.cons (Sta.rx _ _) (Sta.cons (Sta.rdt _ _) (Sta.cons (Sta.jp _ _ _) (Sta.cons (Sta.jp _ _ _) (Sta.cons (Sta.jp _ _ _) (Sta.cons (Sta.jp _ _ _) (Sta.cons (Sta.jp _ _ _) (Sta.cons (Sta.true _) (Sta.cons (Sta.jp _ _ _) (Sta.nil))))))))))))))
    case hGR => exact fun w w' h1 h2 => h1.trans (Below.mono h2 h1.size)
    case hGS => exact fun w w' h1 h2 => h1.trans h2.1
    case hd => show dstsOk _ 86 = true; decide +kernel
    case hg => decide +kernel
    case hA => decide +kernel
    case hW => decide +kernel
    case hs =>
      refine ⟨two_else (by decide) ?_, two_else (by decide) ?_, two_else (by decide) ?_, two_else (by decide) ?_, two_else (by decide) ?_, two_else (by decide) ?_, two_else (by decide) ?_, two_else (by decide) ?_, two_else (by decide) ?_, two_else (by decide) ?_, two_else (by decide) ?_, two_then ?_, two_else (by decide) ?_, trivial⟩
      · intro a W hfr hG hdep; exact N_case rfl (by simp) (hfr 3 (by decide +kernel)) (Ha.out.1.below hG Ha.out.1.lt)
      · intro a W hfr hG hdep; exact N_move rfl (by simp) (hfr 7 (by decide +kernel))
      · intro a W hfr hG hdep; exact N_move rfl (by simp) (hfr 2 (by decide +kernel))
      · intro a W hfr hG hdep; exact N_ext rfl (by simp) (hdep 1 (by decide +kernel)) rfl (hdep 2 (by decide +kernel)) (Ha.out.2.1.up hG) (Ha.out.2.2.1.up hG) (by omega) (by omega)
      · intro a W hfr hG hdep; exact N_row1 rfl (by simp) (hdep 3 (by decide +kernel))
      · intro a W hfr hG hdep; exact N_with rfl (by simp) (hdep 0 (by decide +kernel)) (hdep 4 (by decide +kernel)) (by simp only [List.flatten_cons, List.flatten_nil, List.append_nil, List.length_append]; omega) (Ha.out.2.2.2.1.up hG)
      · intro a W hfr hG hdep; exact N_parse (B := Wa.heap.size) rfl (by simp) (hdep 5 (by decide +kernel))
      · intro a W hfr hG hdep; exact N_move rfl (by simp) (hdep 6 (by decide +kernel))
      · intro a W hfr hG hdep; exact N_ext0 (B := Wa.heap.size) rfl (by simp) (hdep 7 (by decide +kernel))
      · intro a W hfr hG hdep; exact N_ext1 (B := Wa.heap.size) rfl (by simp) (hdep 7 (by decide +kernel))
      · intro a W hfr hG hdep; exact N_newc (B := Wa.heap.size) (b := Ref.wr (Ref.seq (k.els.map (·.2.2) ++ X.tail [X.ext b false oct])) (k.sig.take 100)) rfl (by simp) hG.size
      · intro a W hfr hG hdep; exact N_store (p := 10) (fun _ _ => trivial) rfl rfl hG.size (hdep 10 (by decide +kernel)) rfl (hdep 8 (by decide +kernel))
      · intro a W hfr hG hdep; exact N_assign rfl (by simp) (hdep 9 (by decide +kernel))
    case hdone =>
      intro a Wb hdf hsz hfr hGb hJ hV
      have hV : JV (Wa.heap.size) (Ref.wr (Ref.seq (k.els.map (·.2.2) ++ X.tail [X.ext b false oct])) (k.sig.take 100)) (a.eval (.tmp 10)) Wb := hV
      obtain ⟨gvb, Cvb, hgvb, hgBb, hBvb, hPvb⟩ := hV
      have e := arr_eta a 86 hsz hdf
      rw [show (List.range 86).map (fun i => a.eval (.tmp i)) = a.eval (.tmp 0) :: a.eval (.tmp 1) :: a.eval (.tmp 2) :: a.eval (.tmp 3) :: a.eval (.tmp 4) :: a.eval (.tmp 5) :: a.eval (.tmp 6) :: a.eval (.tmp 7) :: a.eval (.tmp 8) :: a.eval (.tmp 9) :: a.eval (.tmp 10) :: a.eval (.tmp 11) :: a.eval (.tmp 12) :: a.eval (.tmp 13) :: a.eval (.tmp 14) :: a.eval (.tmp 15) :: a.eval (.tmp 16) :: a.eval (.tmp 17) :: a.eval (.tmp 18) :: a.eval (.tmp 19) :: a.eval (.tmp 20) :: a.eval (.tmp 21) :: a.eval (.tmp 22) :: a.eval (.tmp 23) :: a.eval (.tmp 24) :: a.eval (.tmp 25) :: a.eval (.tmp 26) :: a.eval (.tmp 27) :: a.eval (.tmp 28) :: a.eval (.tmp 29) :: a.eval (.tmp 30) :: a.eval (.tmp 31) :: a.eval (.tmp 32) :: a.eval (.tmp 33) :: a.eval (.tmp 34) :: a.eval (.tmp 35) :: a.eval (.tmp 36) :: a.eval (.tmp 37) :: a.eval (.tmp 38) :: a.eval (.tmp 39) :: a.eval (.tmp 40) :: a.eval (.tmp 41) :: a.eval (.tmp 42) :: a.eval (.tmp 43) :: a.eval (.tmp 44) :: a.eval (.tmp 45) :: a.eval (.tmp 46) :: a.eval (.tmp 47) :: a.eval (.tmp 48) :: a.eval (.tmp 49) :: a.eval (.tmp 50) :: a.eval (.tmp 51) :: a.eval (.tmp 52) :: a.eval (.tmp 53) :: a.eval (.tmp 54) :: a.eval (.tmp 55) :: a.eval (.tmp 56) :: a.eval (.tmp 57) :: a.eval (.tmp 58) :: a.eval (.tmp 59) :: a.eval (.tmp 60) :: a.eval (.tmp 61) :: a.eval (.tmp 62) :: a.eval (.tmp 63) :: a.eval (.tmp 64) :: a.eval (.tmp 65) :: a.eval (.tmp 66) :: a.eval (.tmp 67) :: a.eval (.tmp 68) :: a.eval (.tmp 69) :: a.eval (.tmp 70) :: a.eval (.tmp 71) :: a.eval (.tmp 72) :: a.eval (.tmp 73) :: a.eval (.tmp 74) :: a.eval (.tmp 75) :: a.eval (.tmp 76) :: a.eval (.tmp 77) :: a.eval (.tmp 78) :: a.eval (.tmp 79) :: a.eval (.tmp 80) :: a.eval (.tmp 81) :: a.eval (.tmp 82) :: a.eval (.tmp 83) :: a.eval (.tmp 84) :: a.eval (.tmp 85) :: [] from rfl] at e
      rw [hgvb] at e
      rw [show a.eval (.tmp 11) = .int .i64 ((Cert.parse (Ref.wr (Ref.seq (k.els.map (·.2.2) ++ X.tail [X.ext b false oct])) (k.sig.take 100))).err : Int) from hJ 12 (by decide)] at e
      rw [show a.eval (.tmp 1) = .slice A3 n3 c3 from hfr 1 (by decide +kernel)] at e
      rw [show a.eval (.tmp 2) = .slice A4 n4 c4 from hfr 2 (by decide +kernel)] at e
      rw [show a.eval (.tmp 3) = .pointer (some ⟨w.heap.size, 0, none⟩) from hfr 3 (by decide +kernel)] at e
      rw [show a.eval (.tmp 6) = .bool false from hfr 6 (by decide +kernel)] at e
      rw [show a.eval (.tmp 7) = .slice B m d from hfr 7 (by decide +kernel)] at e
      rw [show a.eval (.tmp 8) = .pointer (some ⟨gva, 0, none⟩) from hfr 8 (by decide +kernel)] at e
      rw [show a.eval (.tmp 9) = .int .i64 0 from hfr 9 (by decide +kernel)] at e
      clear hgvb
      generalize a.eval (.tmp 0) = u0 at e
      generalize a.eval (.tmp 4) = u4 at e
      generalize a.eval (.tmp 5) = u5 at e
      generalize a.eval (.tmp 12) = u12 at e
      generalize a.eval (.tmp 13) = u13 at e
      generalize a.eval (.tmp 14) = u14 at e
      generalize a.eval (.tmp 15) = u15 at e
      generalize a.eval (.tmp 16) = u16 at e
      generalize a.eval (.tmp 17) = u17 at e
      generalize a.eval (.tmp 18) = u18 at e
      generalize a.eval (.tmp 19) = u19 at e
      generalize a.eval (.tmp 20) = u20 at e
      generalize a.eval (.tmp 21) = u21 at e
      generalize a.eval (.tmp 22) = u22 at e
      generalize a.eval (.tmp 23) = u23 at e
      generalize a.eval (.tmp 24) = u24 at e
      generalize a.eval (.tmp 25) = u25 at e
      generalize a.eval (.tmp 26) = u26 at e
      generalize a.eval (.tmp 27) = u27 at e
      generalize a.eval (.tmp 28) = u28 at e
      generalize a.eval (.tmp 29) = u29 at e
      generalize a.eval (.tmp 30) = u30 at e
      generalize a.eval (.tmp 31) = u31 at e
      generalize a.eval (.tmp 32) = u32 at e
      generalize a.eval (.tmp 33) = u33 at e
      generalize a.eval (.tmp 34) = u34 at e
      generalize a.eval (.tmp 35) = u35 at e
      generalize a.eval (.tmp 36) = u36 at e
      generalize a.eval (.tmp 37) = u37 at e
      generalize a.eval (.tmp 38) = u38 at e
      generalize a.eval (.tmp 39) = u39 at e
      generalize a.eval (.tmp 40) = u40 at e
      generalize a.eval (.tmp 41) = u41 at e
      generalize a.eval (.tmp 42) = u42 at e
      generalize a.eval (.tmp 43) = u43 at e
      generalize a.eval (.tmp 44) = u44 at e
      generalize a.eval (.tmp 45) = u45 at e
      generalize a.eval (.tmp 46) = u46 at e
      generalize a.eval (.tmp 47) = u47 at e
      generalize a.eval (.tmp 48) = u48 at e
      generalize a.eval (.tmp 49) = u49 at e
      generalize a.eval (.tmp 50) = u50 at e
      generalize a.eval (.tmp 51) = u51 at e
      generalize a.eval (.tmp 52) = u52 at e
      generalize a.eval (.tmp 53) = u53 at e
      generalize a.eval (.tmp 54) = u54 at e
      generalize a.eval (.tmp 55) = u55 at e
      generalize a.eval (.tmp 56) = u56 at e
      generalize a.eval (.tmp 57) = u57 at e
      generalize a.eval (.tmp 58) = u58 at e
      generalize a.eval (.tmp 59) = u59 at e
      generalize a.eval (.tmp 60) = u60 at e
      generalize a.eval (.tmp 61) = u61 at e
      generalize a.eval (.tmp 62) = u62 at e
      generalize a.eval (.tmp 63) = u63 at e
      generalize a.eval (.tmp 64) = u64 at e
      generalize a.eval (.tmp 65) = u65 at e
      generalize a.eval (.tmp 66) = u66 at e
      generalize a.eval (.tmp 67) = u67 at e
      generalize a.eval (.tmp 68) = u68 at e
      generalize a.eval (.tmp 69) = u69 at e
      generalize a.eval (.tmp 70) = u70 at e
      generalize a.eval (.tmp 71) = u71 at e
      generalize a.eval (.tmp 72) = u72 at e
      generalize a.eval (.tmp 73) = u73 at e
      generalize a.eval (.tmp 74) = u74 at e
      generalize a.eval (.tmp 75) = u75 at e
      generalize a.eval (.tmp 76) = u76 at e
      generalize a.eval (.tmp 77) = u77 at e
      generalize a.eval (.tmp 78) = u78 at e
      generalize a.eval (.tmp 79) = u79 at e
      generalize a.eval (.tmp 80) = u80 at e
      generalize a.eval (.tmp 81) = u81 at e
      generalize a.eval (.tmp 82) = u82 at e
      generalize a.eval (.tmp 83) = u83 at e
      generalize a.eval (.tmp 84) = u84 at e
      generalize a.eval (.tmp 85) = u85 at e
      subst e
      clear hfr hJ hsz hdf
      have herr : ((Cert.parse (Ref.wr (Ref.seq (k.els.map (·.2.2) ++ X.tail [X.ext b false oct])) (k.sig.take 100))).err : Int) = 0 := by rw [hP.out.2.1]; rfl
      rw [herr]
      rw [hP.out.2.1] at hPvb
      have Hb := Lib.hid (And.intro (Ha.out.1.below hGb Ha.out.1.lt) (And.intro (Ha.out.2.1.up hGb) (And.intro (Ha.out.2.2.1.up hGb) (And.intro (Ha.out.2.2.2.1.up hGb) (And.intro (Ha.out.2.2.2.2.1.trans (hGb.mono Ha.out.2.2.2.2.1.size)) (And.intro (Ha.out.2.2.2.2.2.1.below hGb Ha.out.2.2.2.2.2.1.lt) (And.intro (Ha.out.2.2.2.2.2.2.1.rn hGb) (And.intro (hBvb) (And.intro (hPvb) (And.intro (Nat.le_trans Ha.out.2.2.2.2.1.size hgBb) (Nat.lt_of_lt_of_le Ha.out.2.2.2.2.2.1.lt hgBb)))))))))))
      clear herr hBvb hPvb hgBb hGb Ha
      go_upto_region 6 with fail
      refine wp_region_two 11 10 (JL [(fun v _ => v = k.val (.slice A0 n0 c0) (.slice A1 n1 c1) (.slice A2 n2 c2)), (fun v _ => v = .slice B m d), (fun v _ => v = .slice A4 n4 c4), (fun v w => RdT w v (X.ext b true oct)), (RX [X.ext b true oct]), (fun v w => RdT w v (Ref.wr (Ref.seq (k.els.map (·.2.2) ++ X.tail [X.ext b true oct])) (k.sig.take 100))), (JP (Wb.heap.size) (Ref.wr (Ref.seq (k.els.map (·.2.2) ++ X.tail [X.ext b true oct])) (k.sig.take 100)) 0), (JP (Wb.heap.size) (Ref.wr (Ref.seq (k.els.map (·.2.2) ++ X.tail [X.ext b true oct])) (k.sig.take 100)) 0), (JP (Wb.heap.size) (Ref.wr (Ref.seq (k.els.map (·.2.2) ++ X.tail [X.ext b true oct])) (k.sig.take 100)) 1), (JP (Wb.heap.size) (Ref.wr (Ref.seq (k.els.map (·.2.2) ++ X.tail [X.ext b true oct])) (k.sig.take 100)) 2), (JP (Wb.heap.size) (Ref.wr (Ref.seq (k.els.map (·.2.2) ++ X.tail [X.ext b true oct])) (k.sig.take 100)) 3), (fun _ _ => True), (JP (Wb.heap.size) (Ref.wr (Ref.seq (k.els.map (·.2.2) ++ X.tail [X.ext b true oct])) (k.sig.take 100)) 2)]) (JV (Wb.heap.size) (Ref.wr (Ref.seq (k.els.map (·.2.2) ++ X.tail [X.ext b true oct])) (k.sig.take 100))) (Below Wb.heap.size Wb) RN (SN (Wb.heap.size)) ?hm ?hmono ?hmonoS JV.rn ?hGR ?hGS ?hd ?hg ?hA ?hW ((Below.refl _ _).drew) ?hs ?hdone
      case hm => rfl
      case hmono => exact JL.rn (B := Wb.heap.size) (Sta.cons (Sta.eq _ _) (Sta.cons (Sta.eq _ _) (Sta.cons (Sta.eq _ _) (Sta.cons (Sta.rdt _ _) (Sta.cons (Sta.rx _ _) (Sta.cons (Sta.rdt _ _) (Sta.cons (Sta.jp _ _ _) (Sta.cons (Sta.jp _ _ _) (Sta.cons (Sta.jp _ _ _) (Sta.cons (Sta.jp _ _ _) (Sta.cons (Sta.jp _ _ _) (Sta.cons (Sta.true _) (Sta.cons (Sta.jp _ _ _) (Sta.nil))))))))))))))
      case hmonoS => exact JL.sn (B := Wb.heap.size) (Sta.cons (Sta.eq _ _) (Sta.cons (Sta.eq _ _) (Sta.cons (Sta.eq _ _) (Sta.cons (Sta.rdt _ _) (Sta.cons (Sta.rx _ _) (Sta.cons (Sta.rdt _ _) (Sta.cons (Sta.jp _ _ _) (Sta.cons (Sta.jp _ _ _) (Sta.cons (Sta.jp _ _ _) (Sta.cons (Sta.jp _ _ _) (Sta.cons (Sta.jp _ _ _) (Sta.cons (Sta.true _) (Sta.cons (Sta.jp _ _ _) (Sta.nil))))))))))))))
      case hGR => exact fun w w' h1 h2 => h1.trans (Below.mono h2 h1.size)
      case hGS => exact fun w w' h1 h2 => h1.trans h2.1
      case hd => show dstsOk _ 86 = true; decide +kernel
      case hg => decide +kernel
      case hA => decide +kernel
      case hW => decide +kernel
      case hs =>
        refine ⟨two_else (by decide) ?_, two_else (by decide) ?_, two_else (by decide) ?_, two_else (by decide) ?_, two_else (by decide) ?_, two_else (by decide) ?_, two_else (by decide) ?_, two_else (by decide) ?_, two_else (by decide) ?_, two_else (by decide) ?_, two_else (by decide) ?_, two_then ?_, two_else (by decide) ?_, trivial⟩
        · intro a W hfr hG hdep; exact N_case rfl (by simp) (hfr 3 (by decide +kernel)) (Hb.out.1.below hG Hb.out.1.lt)
        · intro a W hfr hG hdep; exact N_move rfl (by simp) (hfr 7 (by decide +kernel))
        · intro a W hfr hG hdep; exact N_move rfl (by simp) (hfr 2 (by decide +kernel))
        · intro a W hfr hG hdep; exact N_ext rfl (by simp) (hdep 1 (by decide +kernel)) rfl (hdep 2 (by decide +kernel)) (Hb.out.2.1.up hG) (Hb.out.2.2.1.up hG) (by omega) (by omega)
        · intro a W hfr hG hdep; exact N_row1 rfl (by simp) (hdep 3 (by decide +kernel))
        · intro a W hfr hG hdep; exact N_with rfl (by simp) (hdep 0 (by decide +kernel)) (hdep 4 (by decide +kernel)) (by simp only [List.flatten_cons, List.flatten_nil, List.append_nil, List.length_append]; omega) (Hb.out.2.2.2.1.up hG)
        · intro a W hfr hG hdep; exact N_parse (B := Wb.heap.size) rfl (by simp) (hdep 5 (by decide +kernel))
        · intro a W hfr hG hdep; exact N_move rfl (by simp) (hdep 6 (by decide +kernel))
        · intro a W hfr hG hdep; exact N_ext0 (B := Wb.heap.size) rfl (by simp) (hdep 7 (by decide +kernel))
        · intro a W hfr hG hdep; exact N_ext1 (B := Wb.heap.size) rfl (by simp) (hdep 7 (by decide +kernel))
        · intro a W hfr hG hdep; exact N_newc (B := Wb.heap.size) (b := Ref.wr (Ref.seq (k.els.map (·.2.2) ++ X.tail [X.ext b true oct])) (k.sig.take 100)) rfl (by simp) hG.size
        · intro a W hfr hG hdep; exact N_store (p := 10) (fun _ _ => trivial) rfl rfl hG.size (hdep 10 (by decide +kernel)) rfl (hdep 8 (by decide +kernel))
        · intro a W hfr hG hdep; exact N_assign rfl (by simp) (hdep 9 (by decide +kernel))
      case hdone =>
        intro a Wc hdf hsz hfr hGc hJ hV
        have hV : JV (Wb.heap.size) (Ref.wr (Ref.seq (k.els.map (·.2.2) ++ X.tail [X.ext b true oct])) (k.sig.take 100)) (a.eval (.tmp 12)) Wc := hV
        obtain ⟨gvc, Cvc, hgvc, hgBc, hBvc, hPvc⟩ := hV
        have e := arr_eta a 86 hsz hdf
        rw [show (List.range 86).map (fun i => a.eval (.tmp i)) = a.eval (.tmp 0) :: a.eval (.tmp 1) :: a.eval (.tmp 2) :: a.eval (.tmp 3) :: a.eval (.tmp 4) :: a.eval (.tmp 5) :: a.eval (.tmp 6) :: a.eval (.tmp 7) :: a.eval (.tmp 8) :: a.eval (.tmp 9) :: a.eval (.tmp 10) :: a.eval (.tmp 11) :: a.eval (.tmp 12) :: a.eval (.tmp 13) :: a.eval (.tmp 14) :: a.eval (.tmp 15) :: a.eval (.tmp 16) :: a.eval (.tmp 17) :: a.eval (.tmp 18) :: a.eval (.tmp 19) :: a.eval (.tmp 20) :: a.eval (.tmp 21) :: a.eval (.tmp 22) :: a.eval (.tmp 23) :: a.eval (.tmp 24) :: a.eval (.tmp 25) :: a.eval (.tmp 26) :: a.eval (.tmp 27) :: a.eval (.tmp 28) :: a.eval (.tmp 29) :: a.eval (.tmp 30) :: a.eval (.tmp 31) :: a.eval (.tmp 32) :: a.eval (.tmp 33) :: a.eval (.tmp 34) :: a.eval (.tmp 35) :: a.eval (.tmp 36) :: a.eval (.tmp 37) :: a.eval (.tmp 38) :: a.eval (.tmp 39) :: a.eval (.tmp 40) :: a.eval (.tmp 41) :: a.eval (.tmp 42) :: a.eval (.tmp 43) :: a.eval (.tmp 44) :: a.eval (.tmp 45) :: a.eval (.tmp 46) :: a.eval (.tmp 47) :: a.eval (.tmp 48) :: a.eval (.tmp 49) :: a.eval (.tmp 50) :: a.eval (.tmp 51) :: a.eval (.tmp 52) :: a.eval (.tmp 53) :: a.eval (.tmp 54) :: a.eval (.tmp 55) :: a.eval (.tmp 56) :: a.eval (.tmp 57) :: a.eval (.tmp 58) :: a.eval (.tmp 59) :: a.eval (.tmp 60) :: a.eval (.tmp 61) :: a.eval (.tmp 62) :: a.eval (.tmp 63) :: a.eval (.tmp 64) :: a.eval (.tmp 65) :: a.eval (.tmp 66) :: a.eval (.tmp 67) :: a.eval (.tmp 68) :: a.eval (.tmp 69) :: a.eval (.tmp 70) :: a.eval (.tmp 71) :: a.eval (.tmp 72) :: a.eval (.tmp 73) :: a.eval (.tmp 74) :: a.eval (.tmp 75) :: a.eval (.tmp 76) :: a.eval (.tmp 77) :: a.eval (.tmp 78) :: a.eval (.tmp 79) :: a.eval (.tmp 80) :: a.eval (.tmp 81) :: a.eval (.tmp 82) :: a.eval (.tmp 83) :: a.eval (.tmp 84) :: a.eval (.tmp 85) :: [] from rfl] at e
        rw [hgvc] at e
        rw [show a.eval (.tmp 13) = .int .i64 ((Cert.parse (Ref.wr (Ref.seq (k.els.map (·.2.2) ++ X.tail [X.ext b true oct])) (k.sig.take 100))).err : Int) from hJ 12 (by decide)] at e
        rw [show a.eval (.tmp 1) = .slice A3 n3 c3 from hfr 1 (by decide +kernel)] at e
        rw [show a.eval (.tmp 2) = .slice A4 n4 c4 from hfr 2 (by decide +kernel)] at e
        rw [show a.eval (.tmp 3) = .pointer (some ⟨w.heap.size, 0, none⟩) from hfr 3 (by decide +kernel)] at e
        rw [show a.eval (.tmp 6) = .bool false from hfr 6 (by decide +kernel)] at e
        rw [show a.eval (.tmp 7) = .slice B m d from hfr 7 (by decide +kernel)] at e
        rw [show a.eval (.tmp 8) = .pointer (some ⟨gva, 0, none⟩) from hfr 8 (by decide +kernel)] at e
        rw [show a.eval (.tmp 9) = .int .i64 0 from hfr 9 (by decide +kernel)] at e
        rw [show a.eval (.tmp 10) = .pointer (some ⟨gvb, 0, none⟩) from hfr 10 (by decide +kernel)] at e
        rw [show a.eval (.tmp 11) = .int .i64 0 from hfr 11 (by decide +kernel)] at e
        clear hgvc
        generalize a.eval (.tmp 0) = u0 at e
        generalize a.eval (.tmp 4) = u4 at e
        generalize a.eval (.tmp 5) = u5 at e
        generalize a.eval (.tmp 14) = u14 at e
        generalize a.eval (.tmp 15) = u15 at e
        generalize a.eval (.tmp 16) = u16 at e
        generalize a.eval (.tmp 17) = u17 at e
        generalize a.eval (.tmp 18) = u18 at e
        generalize a.eval (.tmp 19) = u19 at e
        generalize a.eval (.tmp 20) = u20 at e
        generalize a.eval (.tmp 21) = u21 at e
        generalize a.eval (.tmp 22) = u22 at e
        generalize a.eval (.tmp 23) = u23 at e
        generalize a.eval (.tmp 24) = u24 at e
        generalize a.eval (.tmp 25) = u25 at e
        generalize a.eval (.tmp 26) = u26 at e
        generalize a.eval (.tmp 27) = u27 at e
        generalize a.eval (.tmp 28) = u28 at e
        generalize a.eval (.tmp 29) = u29 at e
        generalize a.eval (.tmp 30) = u30 at e
        generalize a.eval (.tmp 31) = u31 at e
        generalize a.eval (.tmp 32) = u32 at e
        generalize a.eval (.tmp 33) = u33 at e
        generalize a.eval (.tmp 34) = u34 at e
        generalize a.eval (.tmp 35) = u35 at e
        generalize a.eval (.tmp 36) = u36 at e
        generalize a.eval (.tmp 37) = u37 at e
        generalize a.eval (.tmp 38) = u38 at e
        generalize a.eval (.tmp 39) = u39 at e
        generalize a.eval (.tmp 40) = u40 at e
        generalize a.eval (.tmp 41) = u41 at e
        generalize a.eval (.tmp 42) = u42 at e
        generalize a.eval (.tmp 43) = u43 at e
        generalize a.eval (.tmp 44) = u44 at e
        generalize a.eval (.tmp 45) = u45 at e
        generalize a.eval (.tmp 46) = u46 at e
        generalize a.eval (.tmp 47) = u47 at e
        generalize a.eval (.tmp 48) = u48 at e
        generalize a.eval (.tmp 49) = u49 at e
        generalize a.eval (.tmp 50) = u50 at e
        generalize a.eval (.tmp 51) = u51 at e
        generalize a.eval (.tmp 52) = u52 at e
        generalize a.eval (.tmp 53) = u53 at e
        generalize a.eval (.tmp 54) = u54 at e
        generalize a.eval (.tmp 55) = u55 at e
        generalize a.eval (.tmp 56) = u56 at e
        generalize a.eval (.tmp 57) = u57 at e
        generalize a.eval (.tmp 58) = u58 at e
        generalize a.eval (.tmp 59) = u59 at e
        generalize a.eval (.tmp 60) = u60 at e
        generalize a.eval (.tmp 61) = u61 at e
        generalize a.eval (.tmp 62) = u62 at e
        generalize a.eval (.tmp 63) = u63 at e
        generalize a.eval (.tmp 64) = u64 at e
        generalize a.eval (.tmp 65) = u65 at e
        generalize a.eval (.tmp 66) = u66 at e
        generalize a.eval (.tmp 67) = u67 at e
        generalize a.eval (.tmp 68) = u68 at e
        generalize a.eval (.tmp 69) = u69 at e
        generalize a.eval (.tmp 70) = u70 at e
        generalize a.eval (.tmp 71) = u71 at e
        generalize a.eval (.tmp 72) = u72 at e
        generalize a.eval (.tmp 73) = u73 at e
        generalize a.eval (.tmp 74) = u74 at e
        generalize a.eval (.tmp 75) = u75 at e
        generalize a.eval (.tmp 76) = u76 at e
        generalize a.eval (.tmp 77) = u77 at e
        generalize a.eval (.tmp 78) = u78 at e
        generalize a.eval (.tmp 79) = u79 at e
        generalize a.eval (.tmp 80) = u80 at e
        generalize a.eval (.tmp 81) = u81 at e
        generalize a.eval (.tmp 82) = u82 at e
        generalize a.eval (.tmp 83) = u83 at e
        generalize a.eval (.tmp 84) = u84 at e
        generalize a.eval (.tmp 85) = u85 at e
        subst e
        clear hfr hJ hsz hdf
        have herr : ((Cert.parse (Ref.wr (Ref.seq (k.els.map (·.2.2) ++ X.tail [X.ext b true oct])) (k.sig.take 100))).err : Int) = 9 := by rw [hP.out.2.2.1]; rfl
        rw [herr]
        have Hc := Lib.hid (And.intro (Hb.out.1.below hGc Hb.out.1.lt) (And.intro (Hb.out.2.1.up hGc) (And.intro (Hb.out.2.2.1.up hGc) (And.intro (Hb.out.2.2.2.1.up hGc) (And.intro (Hb.out.2.2.2.2.1.trans (hGc.mono Hb.out.2.2.2.2.1.size)) (And.intro (Hb.out.2.2.2.2.2.1.below hGc Hb.out.2.2.2.2.2.1.lt) (And.intro (Hb.out.2.2.2.2.2.2.1.rn hGc) (And.intro (Hb.out.2.2.2.2.2.2.2.1.below hGc Hb.out.2.2.2.2.2.2.2.1.lt) (And.intro (Hb.out.2.2.2.2.2.2.2.2.1.rn hGc) (Hb.out.2.2.2.2.2.2.2.2.2))))))))))
        clear herr hBvc hPvc hgBc hGc Hb
        go_upto_region 7 with fail
        refine wp_region_two 13 12 (JL [(fun v _ => v = k.val (.slice A0 n0 c0) (.slice A1 n1 c1) (.slice A2 n2 c2)), (fun v _ => v = .slice B m d), (fun v _ => v = .slice A4 n4 c4), (fun v w => RdT w v (X.ext b false oct)), (fun v _ => v = .slice B m d), (fun v w => RdT w v (X.ext b false [])), (RX [X.ext b false oct, X.ext b false []]), (fun v w => RdT w v (Ref.wr (Ref.seq (k.els.map (·.2.2) ++ X.tail [X.ext b false oct, X.ext b false []])) (k.sig.take 100))), (JP (Wc.heap.size) (Ref.wr (Ref.seq (k.els.map (·.2.2) ++ X.tail [X.ext b false oct, X.ext b false []])) (k.sig.take 100)) 0), (JP (Wc.heap.size) (Ref.wr (Ref.seq (k.els.map (·.2.2) ++ X.tail [X.ext b false oct, X.ext b false []])) (k.sig.take 100)) 0), (JP (Wc.heap.size) (Ref.wr (Ref.seq (k.els.map (·.2.2) ++ X.tail [X.ext b false oct, X.ext b false []])) (k.sig.take 100)) 1), (JP (Wc.heap.size) (Ref.wr (Ref.seq (k.els.map (·.2.2) ++ X.tail [X.ext b false oct, X.ext b false []])) (k.sig.take 100)) 2), (JP (Wc.heap.size) (Ref.wr (Ref.seq (k.els.map (·.2.2) ++ X.tail [X.ext b false oct, X.ext b false []])) (k.sig.take 100)) 3), (fun _ _ => True), (JP (Wc.heap.size) (Ref.wr (Ref.seq (k.els.map (·.2.2) ++ X.tail [X.ext b false oct, X.ext b false []])) (k.sig.take 100)) 2)]) (JV (Wc.heap.size) (Ref.wr (Ref.seq (k.els.map (·.2.2) ++ X.tail [X.ext b false oct, X.ext b false []])) (k.sig.take 100))) (Below Wc.heap.size Wc) RN (SN (Wc.heap.size)) ?hm ?hmono ?hmonoS JV.rn ?hGR ?hGS ?hd ?hg ?hA ?hW ((Below.refl _ _).drew) ?hs ?hdone
        case hm => rfl
        case hmono => exact JL.rn (B := Wc.heap.size) (Sta.cons (Sta.eq _ _) (Sta.cons (Sta.eq _ _) (Sta.cons (Sta.eq _ _) (Sta.cons (Sta.rdt _ _) (Sta.cons (Sta.eq _ _) (Sta.cons (Sta.rdt _ _) (Sta.cons (Sta.rx _ _) (Sta.cons (Sta.rdt _ _) (Sta.cons (Sta.jp _ _ _) (Sta.cons (Sta.jp _ _ _) (Sta.cons (Sta.jp _ _ _) (Sta.cons (Sta.jp _ _ _) (Sta.cons (Sta.jp _ _ _) (Sta.cons (Sta.true _) (Sta.cons (Sta.jp _ _ _) (Sta.nil))))))))))))))))
        case hmonoS => exact JL.sn (B := Wc.heap.size) (Sta.cons (Sta.eq _ _) (Sta.cons (Sta.eq _ _) (Sta.cons (Sta.eq _ _) (Sta.cons (Sta.rdt _ _) (Sta.cons (Sta.eq _ _) (Sta.cons (Sta.rdt _ _) (Sta.cons (Sta.rx _ _) (Sta.cons (Sta.rdt _ _) (Sta.cons (Sta.jp _ _ _) (Sta.cons (Sta.jp _ _ _) (Sta.cons (Sta.jp _ _ _) (Sta.cons (Sta.jp _ _ _) (Sta.cons (Sta.jp _ _ _) (Sta.cons (Sta.true _) (Sta.cons (Sta.jp _ _ _) (Sta.nil))))))))))))))))
        case hGR => exact fun w w' h1 h2 => h1.trans (Below.mono h2 h1.size)
        case hGS => exact fun w w' h1 h2 => h1.trans h2.1
        case hd => show dstsOk _ 86 = true; decide +kernel
        case hg => decide +kernel
        case hA => decide +kernel
        case hW => decide +kernel
        case hs =>
          refine ⟨two_else (by decide) ?_, two_else (by decide) ?_, two_else (by decide) ?_, two_else (by decide) ?_, two_else (by decide) ?_, two_else (by decide) ?_, two_else (by decide) ?_, two_else (by decide) ?_, two_else (by decide) ?_, two_else (by decide) ?_, two_else (by decide) ?_, two_else (by decide) ?_, two_else (by decide) ?_, two_then ?_, two_else (by decide) ?_, trivial⟩
          · intro a W hfr hG hdep; exact N_case rfl (by simp) (hfr 3 (by decide +kernel)) (Hc.out.1.below hG Hc.out.1.lt)
          · intro a W hfr hG hdep; exact N_move rfl (by simp) (hfr 7 (by decide +kernel))
          · intro a W hfr hG hdep; exact N_move rfl (by simp) (hfr 2 (by decide +kernel))
          · intro a W hfr hG hdep; exact N_ext rfl (by simp) (hdep 1 (by decide +kernel)) rfl (hdep 2 (by decide +kernel)) (Hc.out.2.1.up hG) (Hc.out.2.2.1.up hG) (by omega) (by omega)
          · intro a W hfr hG hdep; exact N_move rfl (by simp) (hfr 7 (by decide +kernel))
          · intro a W hfr hG hdep; exact N_ext rfl (by simp) (hdep 4 (by decide +kernel)) rfl rfl (Hc.out.2.1.up hG) Rd.none_ (by omega) (by simp)
          · intro a W hfr hG hdep; exact N_row2 rfl (by simp) (hdep 3 (by decide +kernel)) (hdep 5 (by decide +kernel))
          · intro a W hfr hG hdep; exact N_with rfl (by simp) (hdep 0 (by decide +kernel)) (hdep 6 (by decide +kernel)) (by simp only [List.flatten_cons, List.flatten_nil, List.append_nil, List.length_append]; omega) (Hc.out.2.2.2.1.up hG)
          · intro a W hfr hG hdep; exact N_parse (B := Wc.heap.size) rfl (by simp) (hdep 7 (by decide +kernel))
          · intro a W hfr hG hdep; exact N_move rfl (by simp) (hdep 8 (by decide +kernel))
          · intro a W hfr hG hdep; exact N_ext0 (B := Wc.heap.size) rfl (by simp) (hdep 9 (by decide +kernel))
          · intro a W hfr hG hdep; exact N_ext1 (B := Wc.heap.size) rfl (by simp) (hdep 9 (by decide +kernel))
          · intro a W hfr hG hdep; exact N_newc (B := Wc.heap.size) (b := Ref.wr (Ref.seq (k.els.map (·.2.2) ++ X.tail [X.ext b false oct, X.ext b false []])) (k.sig.take 100)) rfl (by simp) hG.size
          · intro a W hfr hG hdep; exact N_store (p := 12) (fun _ _ => trivial) rfl rfl hG.size (hdep 12 (by decide +kernel)) rfl (hdep 10 (by decide +kernel))
          · intro a W hfr hG hdep; exact N_assign rfl (by simp) (hdep 11 (by decide +kernel))
        case hdone =>
          intro a Wd hdf hsz hfr hGd hJ hV
          have hV : JV (Wc.heap.size) (Ref.wr (Ref.seq (k.els.map (·.2.2) ++ X.tail [X.ext b false oct, X.ext b false []])) (k.sig.take 100)) (a.eval (.tmp 14)) Wd := hV
          obtain ⟨gvd, Cvd, hgvd, hgBd, hBvd, hPvd⟩ := hV
          have e := arr_eta a 86 hsz hdf
          rw [show (List.range 86).map (fun i => a.eval (.tmp i)) = a.eval (.tmp 0) :: a.eval (.tmp 1) :: a.eval (.tmp 2) :: a.eval (.tmp 3) :: a.eval (.tmp 4) :: a.eval (.tmp 5) :: a.eval (.tmp 6) :: a.eval (.tmp 7) :: a.eval (.tmp 8) :: a.eval (.tmp 9) :: a.eval (.tmp 10) :: a.eval (.tmp 11) :: a.eval (.tmp 12) :: a.eval (.tmp 13) :: a.eval (.tmp 14) :: a.eval (.tmp 15) :: a.eval (.tmp 16) :: a.eval (.tmp 17) :: a.eval (.tmp 18) :: a.eval (.tmp 19) :: a.eval (.tmp 20) :: a.eval (.tmp 21) :: a.eval (.tmp 22) :: a.eval (.tmp 23) :: a.eval (.tmp 24) :: a.eval (.tmp 25) :: a.eval (.tmp 26) :: a.eval (.tmp 27) :: a.eval (.tmp 28) :: a.eval (.tmp 29) :: a.eval (.tmp 30) :: a.eval (.tmp 31) :: a.eval (.tmp 32) :: a.eval (.tmp 33) :: a.eval (.tmp 34) :: a.eval (.tmp 35) :: a.eval (.tmp 36) :: a.eval (.tmp 37) :: a.eval (.tmp 38) :: a.eval (.tmp 39) :: a.eval (.tmp 40) :: a.eval (.tmp 41) :: a.eval (.tmp 42) :: a.eval (.tmp 43) :: a.eval (.tmp 44) :: a.eval (.tmp 45) :: a.eval (.tmp 46) :: a.eval (.tmp 47) :: a.eval (.tmp 48) :: a.eval (.tmp 49) :: a.eval (.tmp 50) :: a.eval (.tmp 51) :: a.eval (.tmp 52) :: a.eval (.tmp 53) :: a.eval (.tmp 54) :: a.eval (.tmp 55) :: a.eval (.tmp 56) :: a.eval (.tmp 57) :: a.eval (.tmp 58) :: a.eval (.tmp 59) :: a.eval (.tmp 60) :: a.eval (.tmp 61) :: a.eval (.tmp 62) :: a.eval (.tmp 63) :: a.eval (.tmp 64) :: a.eval (.tmp 65) :: a.eval (.tmp 66) :: a.eval (.tmp 67) :: a.eval (.tmp 68) :: a.eval (.tmp 69) :: a.eval (.tmp 70) :: a.eval (.tmp 71) :: a.eval (.tmp 72) :: a.eval (.tmp 73) :: a.eval (.tmp 74) :: a.eval (.tmp 75) :: a.eval (.tmp 76) :: a.eval (.tmp 77) :: a.eval (.tmp 78) :: a.eval (.tmp 79) :: a.eval (.tmp 80) :: a.eval (.tmp 81) :: a.eval (.tmp 82) :: a.eval (.tmp 83) :: a.eval (.tmp 84) :: a.eval (.tmp 85) :: [] from rfl] at e
          rw [hgvd] at e
          rw [show a.eval (.tmp 15) = .int .i64 ((Cert.parse (Ref.wr (Ref.seq (k.els.map (·.2.2) ++ X.tail [X.ext b false oct, X.ext b false []])) (k.sig.take 100))).err : Int) from hJ 14 (by decide)] at e
          rw [show a.eval (.tmp 1) = .slice A3 n3 c3 from hfr 1 (by decide +kernel)] at e
          rw [show a.eval (.tmp 2) = .slice A4 n4 c4 from hfr 2 (by decide +kernel)] at e
          rw [show a.eval (.tmp 3) = .pointer (some ⟨w.heap.size, 0, none⟩) from hfr 3 (by decide +kernel)] at e
          rw [show a.eval (.tmp 6) = .bool false from hfr 6 (by decide +kernel)] at e
          rw [show a.eval (.tmp 7) = .slice B m d from hfr 7 (by decide +kernel)] at e
          rw [show a.eval (.tmp 8) = .pointer (some ⟨gva, 0, none⟩) from hfr 8 (by decide +kernel)] at e
          rw [show a.eval (.tmp 9) = .int .i64 0 from hfr 9 (by decide +kernel)] at e
          rw [show a.eval (.tmp 10) = .pointer (some ⟨gvb, 0, none⟩) from hfr 10 (by decide +kernel)] at e
          rw [show a.eval (.tmp 11) = .int .i64 0 from hfr 11 (by decide +kernel)] at e
          rw [show a.eval (.tmp 12) = .pointer (some ⟨gvc, 0, none⟩) from hfr 12 (by decide +kernel)] at e
          rw [show a.eval (.tmp 13) = .int .i64 9 from hfr 13 (by decide +kernel)] at e
          clear hgvd
          generalize a.eval (.tmp 0) = u0 at e
          generalize a.eval (.tmp 4) = u4 at e
          generalize a.eval (.tmp 5) = u5 at e
          generalize a.eval (.tmp 16) = u16 at e
          generalize a.eval (.tmp 17) = u17 at e
          generalize a.eval (.tmp 18) = u18 at e
          generalize a.eval (.tmp 19) = u19 at e
          generalize a.eval (.tmp 20) = u20 at e
          generalize a.eval (.tmp 21) = u21 at e
          generalize a.eval (.tmp 22) = u22 at e
          generalize a.eval (.tmp 23) = u23 at e
          generalize a.eval (.tmp 24) = u24 at e
          generalize a.eval (.tmp 25) = u25 at e
          generalize a.eval (.tmp 26) = u26 at e
          generalize a.eval (.tmp 27) = u27 at e
          generalize a.eval (.tmp 28) = u28 at e
          generalize a.eval (.tmp 29) = u29 at e
          generalize a.eval (.tmp 30) = u30 at e
          generalize a.eval (.tmp 31) = u31 at e
          generalize a.eval (.tmp 32) = u32 at e
          generalize a.eval (.tmp 33) = u33 at e
          generalize a.eval (.tmp 34) = u34 at e
          generalize a.eval (.tmp 35) = u35 at e
          generalize a.eval (.tmp 36) = u36 at e
          generalize a.eval (.tmp 37) = u37 at e
          generalize a.eval (.tmp 38) = u38 at e
          generalize a.eval (.tmp 39) = u39 at e
          generalize a.eval (.tmp 40) = u40 at e
          generalize a.eval (.tmp 41) = u41 at e
          generalize a.eval (.tmp 42) = u42 at e
          generalize a.eval (.tmp 43) = u43 at e
          generalize a.eval (.tmp 44) = u44 at e
          generalize a.eval (.tmp 45) = u45 at e
          generalize a.eval (.tmp 46) = u46 at e
          generalize a.eval (.tmp 47) = u47 at e
          generalize a.eval (.tmp 48) = u48 at e
          generalize a.eval (.tmp 49) = u49 at e
          generalize a.eval (.tmp 50) = u50 at e
          generalize a.eval (.tmp 51) = u51 at e
          generalize a.eval (.tmp 52) = u52 at e
          generalize a.eval (.tmp 53) = u53 at e
          generalize a.eval (.tmp 54) = u54 at e
          generalize a.eval (.tmp 55) = u55 at e
          generalize a.eval (.tmp 56) = u56 at e
          generalize a.eval (.tmp 57) = u57 at e
          generalize a.eval (.tmp 58) = u58 at e
          generalize a.eval (.tmp 59) = u59 at e
          generalize a.eval (.tmp 60) = u60 at e
          generalize a.eval (.tmp 61) = u61 at e
          generalize a.eval (.tmp 62) = u62 at e
          generalize a.eval (.tmp 63) = u63 at e
          generalize a.eval (.tmp 64) = u64 at e
          generalize a.eval (.tmp 65) = u65 at e
          generalize a.eval (.tmp 66) = u66 at e
          generalize a.eval (.tmp 67) = u67 at e
          generalize a.eval (.tmp 68) = u68 at e
          generalize a.eval (.tmp 69) = u69 at e
          generalize a.eval (.tmp 70) = u70 at e
          generalize a.eval (.tmp 71) = u71 at e
          generalize a.eval (.tmp 72) = u72 at e
          generalize a.eval (.tmp 73) = u73 at e
          generalize a.eval (.tmp 74) = u74 at e
          generalize a.eval (.tmp 75) = u75 at e
          generalize a.eval (.tmp 76) = u76 at e
          generalize a.eval (.tmp 77) = u77 at e
          generalize a.eval (.tmp 78) = u78 at e
          generalize a.eval (.tmp 79) = u79 at e
          generalize a.eval (.tmp 80) = u80 at e
          generalize a.eval (.tmp 81) = u81 at e
          generalize a.eval (.tmp 82) = u82 at e
          generalize a.eval (.tmp 83) = u83 at e
          generalize a.eval (.tmp 84) = u84 at e
          generalize a.eval (.tmp 85) = u85 at e
          subst e
          clear hfr hJ hsz hdf
          have herr : ((Cert.parse (Ref.wr (Ref.seq (k.els.map (·.2.2) ++ X.tail [X.ext b false oct, X.ext b false []])) (k.sig.take 100))).err : Int) = 9 := by rw [hP.out.2.2.2]; rfl
          rw [herr]
          have Hd := Lib.hid (And.intro (Hc.out.1.below hGd Hc.out.1.lt) (And.intro (Hc.out.2.1.up hGd) (And.intro (Hc.out.2.2.1.up hGd) (And.intro (Hc.out.2.2.2.1.up hGd) (And.intro (Hc.out.2.2.2.2.1.trans (hGd.mono Hc.out.2.2.2.2.1.size)) (And.intro (Hc.out.2.2.2.2.2.1.below hGd Hc.out.2.2.2.2.2.1.lt) (And.intro (Hc.out.2.2.2.2.2.2.1.rn hGd) (And.intro (Hc.out.2.2.2.2.2.2.2.1.below hGd Hc.out.2.2.2.2.2.2.2.1.lt) (And.intro (Hc.out.2.2.2.2.2.2.2.2.1.rn hGd) (Hc.out.2.2.2.2.2.2.2.2.2))))))))))
          clear herr hBvd hPvd hgBd hGd Hc
          have hx := Hd.out.2.2.2.2.2
          have hBa := hx.1
          have hBb := hx.2.2.1
          obtain ⟨fa, ta, ea, fla, cia⟩ := hx.2.1.out
          obtain ⟨fb, tb, eb, flb, cib⟩ := hx.2.2.2.1.out
          have hne : gva ≠ gvb := by have := hx.2.2.2.2.2; omega
          have hge : w.heap.size ≤ gvb := hx.2.2.2.2.1
          obtain ⟨Ar, nr, cr, er, _⟩ := cia.raw
          obtain ⟨At, nt, ct, et, _⟩ := cia.tbs
          have k1 : Wd.cell? ⟨gva, 0, none⟩ = some (.slice Ar nr cr) := (hBa.at_ 0).trans (by rw [← er]; rfl)
          have kb0 : Wd.cell? ⟨gvb, 0, none⟩ = some Cvb.raw := hBb.at_ 0
          have kf0 : Wd.frozen? ⟨gvb, 0, none⟩ = false := hBb.frozen 0
          obtain ⟨w10, hw10⟩ : ∃ w10, w10 = Wd.setCell ⟨gvb, 0, none⟩ (.slice Ar nr cr) := ⟨_, rfl⟩
          have hBa1 : Bc w10 gva Cva := by rw [hw10]; exact Blk.far hBa hne _
          have hBb1 : Bc w10 gvb {Cvb with raw := .slice Ar nr cr} := by rw [hw10]; exact Blk.set_ hBb 0 (.slice Ar nr cr)
          have hg1 : Wd.grownBy w10 (some gvb) := by rw [hw10]; exact grown_set _ _ _ _
          have k2 : w10.cell? ⟨gva, 1, none⟩ = some (.slice At nt ct) := (hBa1.at_ 1).trans (by rw [← et]; rfl)
          have kb1 : w10.cell? ⟨gvb, 1, none⟩ = some Cvb.tbs := hBb1.at_ 1
          have kf1 : w10.frozen? ⟨gvb, 1, none⟩ = false := hBb1.frozen 1
          obtain ⟨w11, hw11⟩ : ∃ w11, w11 = w10.setCell ⟨gvb, 1, none⟩ (.slice At nt ct) := ⟨_, rfl⟩
          obtain ⟨D, hD⟩ : ∃ D : CV, D = {Cvb with raw := .slice Ar nr cr, tbs := .slice At nt ct} := ⟨_, rfl⟩
          have hBa2 : Bc w11 gva Cva := by rw [hw11]; exact Blk.far hBa1 hne _
          have hBb2 : Bc w11 gvb D := by rw [hw11, hD]; exact Blk.set_ hBb1 1 (.slice At nt ct)
          have hg2 : w10.grownBy w11 (some gvb) := by rw [hw11]; exact grown_set _ _ _ _
          have cia2 := (cia.far hg1 hBb).far hg2 hBb1
          have cib2 := (cib.far hg1 hBb).far hg2 hBb1
          have cid := CI.turned cia2 cib2 er et
          rw [← hD] at cid
          have hbw : Below w.heap.size w w11 := by rw [hw11, hw10]; exact (Hd.out.2.2.2.2.1.setCell (show w.heap.size ≤ gvb from hge) _).setCell (show w.heap.size ≤ gvb from hge) _
          have HS := CI.same cia2 cid (by rw [hD]; exact fa.trans fb.symm) (by rw [hD]; exact ta.trans tb.symm) (by rw [hD]; exact ea.trans eb.symm) (by rw [hD]; exact fla.trans flb.symm)
          have HF := Lib.hid (And.intro HS (And.intro hbw (And.intro hBa2 hBb2)))
          clear HS hbw hBa2 hBb2 cia2 cib2 cid hg1 hg2 hBa1 hBb1 hBa hBb fa ta ea fla cia fb tb eb flb cib hx er et hD Hd hP
          go_upto_region 11 with fail
          rw [← hw10]
          clear hw10 k1 kf0 kb0
          go_upto_region 12 with fail
          rw [← hw11]
          clear hw11 k2 kf1 kb1
          go_wp2_with (first
            | ((with_reducible refine at_load_cert ?_); first
                | (refine wpList_load_cert rfl _ rfl gva Cva rfl HF.out.2.2.1 ?_)
                | (refine wpList_load_cert rfl _ rfl gvb D rfl HF.out.2.2.2 ?_))
            | fail)
          refine (HF.out.1).mono ?_
          rintro e wy ⟨rfl, hby⟩
          have HY := Lib.hid hby
          clear hby
          go_wp2_with fail
          refine (works12_any _).mono ?_
          rintro e wz ⟨rfl, hbz⟩
          go_wp2
          go_ret
          exact ⟨rfl, (HF.out.2.1.trans (HY.out.mono HF.out.2.1.size)).trans (hbz.mono (by have h1 := HF.out.2.1.size; have h2 := HY.out.size; omega))⟩
theorem certStrange_walk (w : World) (k : Kase) (A0 A1 A2 : Option Addr) (n0 c0 n1 c1 n2 c2 : Nat) (hk : k.come w A0 A1 A2 n0 c0 n1 c1 n2 c2) (A3 : Option Addr) (n3 c3 : Nat) (zs : List Nat) (h3 : RdU w w.heap.size A3 n3 c3 zs) (A4 : Option Addr) (n4 c4 : Nat) (oct : List UInt8) (h4 : Rd w w.heap.size A4 n4 c4 oct) :
    Calls Try.prog 6 #[k.val (.slice A0 n0 c0) (.slice A1 n1 c1) (.slice A2 n2 c2), .slice A3 n3 c3, .slice A4 n4 c4] w fun e w' => e = .returned (.bool true) ∧ Below w.heap.size w w' :=
  strange_main k A0 A1 A2 n0 c0 n1 c1 n2 c2 A3 n3 c3 zs A4 n4 c4 oct w hk h3 h4
end Go.Proofs.Ytmnekhliblkibaa
