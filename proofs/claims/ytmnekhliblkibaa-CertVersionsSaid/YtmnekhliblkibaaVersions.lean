/- The walk of the law CertVersions. -/
import Derived.Test.YtmnekhliblkibaaLawOps
import Derived.Test.YtmnekhliblkibaaPlainV
namespace Go.Proofs.Ytmnekhliblkibaa
open Go.RowKit
set_option maxRecDepth 1000000
set_option linter.unusedVariables false
set_option linter.unusedSimpArgs false

theorem RdL.drop1 {w : World} {B b o n c : Nat} {l : List (Value × List UInt8)} (h : RdL w B (some ⟨b, o, none⟩) n c l) (hn : 0 < n) : RdL w B (some ⟨b, o + 1, none⟩) (n - 1) (c - 1) (l.drop 1) := by
  have h1 := h.cap
  have h2 := h.capm
  have h3 := h.len
  refine ⟨by rw [List.length_drop]; omega, by omega, by omega, ⟨by rw [List.length_map, List.length_drop]; omega, fun h0 => ?_⟩, fun v xs hm => h.each v xs (List.mem_of_mem_drop hm)⟩
  obtain ⟨ad, e, hb, hc⟩ := h.rds.2 (by omega)
  injection e with e
  subst e
  refine ⟨_, rfl, hb, fun j u hu => ?_⟩
  rw [List.map_drop, List.getElem?_drop] at hu
  have := hc (1 + j) u hu
  rw [Addr.add_lit] at this ⊢
  rw [show o + 1 + j = o + (1 + j) by omega]
  exact this
set_option maxHeartbeats 8000000
theorem versions_main (k : Kase) (A0 A1 A2 : Option Addr) (n0 c0 n1 c1 n2 c2 : Nat) (v : Nat) (hv : v < 18446744073709551616) (w : World) (hk : k.come w A0 A1 A2 n0 c0 n1 c1 n2 c2) :
    Calls Try.prog 10 #[k.val (.slice A0 n0 c0) (.slice A1 n1 c1) (.slice A2 n2 c2), .int .u64 (v : Int)] w (LawPost w) := by
  have hfour : (Ref.four v).map bv = [.int .u8 ((v : Int) / 16777216 % 256), .int .u8 ((v : Int) / 65536 % 256), .int .u8 ((v : Int) / 256 % 256), .int .u8 ((v : Int) % 256)] := by
    unfold Ref.four
    simp only [List.map_cons, List.map_nil, bv, UInt8.toNat_ofNat']
    congr 1 <;> first | (congr 1; omega) | skip
    all_goals (congr 1 <;> first | (congr 1; omega) | skip)
    all_goals (congr 1 <;> first | (congr 1; omega) | skip)
    all_goals (congr 1 <;> first | (congr 1; omega) | skip)
  obtain ⟨w0, hw0, hKB0⟩ : ∃ w0, w0 = w.alloc (.cells (k.row (.slice A0 n0 c0) (.slice A1 n1 c1) (.slice A2 n2 c2)) 42) ∧ Blk w0 w.heap.size 42 (k.row (.slice A0 n0 c0) (.slice A1 n1 c1) (.slice A2 n2 c2)) := ⟨_, rfl, Blk.new w _ _⟩
  have hb0 : Below w.heap.size w w0 := by rw [hw0]; exact (Below.refl _ w).alloc (Nat.le_refl _) _
  have hs0 : w0.heap.size = w.heap.size + 1 := by rw [hw0]; simp
  have hr1 := Rd.lit w0 5 (Ref.four v) _ _ 4 rfl hfour.symm rfl (by omega)
  have hb1 : Below w.heap.size w (w0.alloc (.cells #[.int .u8 ((v : Int) / 16777216 % 256), .int .u8 ((v : Int) / 65536 % 256), .int .u8 ((v : Int) / 256 % 256), .int .u8 ((v : Int) % 256)] 5)) := hb0.alloc (by omega) _
  have HK := Lib.hid (And.intro (hk.up hb1) (And.intro hr1 (And.intro hb1 (hKB0.alloc (.cells #[.int .u8 ((v : Int) / 16777216 % 256), .int .u8 ((v : Int) / 65536 % 256), .int .u8 ((v : Int) / 256 % 256), .int .u8 ((v : Int) % 256)] 5)))))
  rw [hs0] at HK
  clear hk hKB0 hb0 hr1 hb1 hfour
  have HW := Lib.hid hw0
  subst hw0
  obtain ⟨KV, hKV⟩ : ∃ KV, KV = k.val (.slice A0 n0 c0) (.slice A1 n1 c1) (.slice A2 n2 c2) := ⟨_, rfl⟩
  have hKV2 : KV = Value.agg (k.row (.slice A0 n0 c0) (.slice A1 n1 c1) (.slice A2 n2 c2)) := hKV
  rw [← hKV]
  clear hKV
  subst hKV2
  go_enter Try.func10, Try.ntmps10
  go_wp2_with fail
  refine (refPutInt_any _ 4 4 (Ref.four v) _ HK.out.2.1 (by omega)).mono ?_
  rintro en w1 ⟨A5, n5, c5, rfl, ho1, hb1⟩
  have hbw1 := HK.out.2.2.1.trans (hb1.mono HK.out.2.2.1.size)
  have H1 := Lib.hid (And.intro (HK.out.2.2.2.below hb1 HK.out.2.2.2.lt) (And.intro ho1.rdx (And.intro (HK.out.1.up hb1) hbw1)))
  clear ho1 hb1 hbw1 HK HW hs0
  go_upto_region 2 with fail
  refine wp_region_two 10 9 (JL [(fun v _ => v = k.val (.slice A0 n0 c0) (.slice A1 n1 c1) (.slice A2 n2 c2)), (fun v _ => v = .slice A5 n5 c5), (fun v' w => RdT w v' (Der.write 2 (Der.putInt (Ref.four v)))), (fun v' w => RdT w v' (Der.write 160 (Der.write 2 (Der.putInt (Ref.four v))))), (fun v' w => RdT w v' (Ref.wr (Ref.seq ((k.els.map (·.2.2)).set 0 (Der.write 160 (Der.write 2 (Der.putInt (Ref.four v)))))) (k.sig.take 100))), (JP (w1.heap.size) (Ref.wr (Ref.seq ((k.els.map (·.2.2)).set 0 (Der.write 160 (Der.write 2 (Der.putInt (Ref.four v)))))) (k.sig.take 100)) 0), (JP (w1.heap.size) (Ref.wr (Ref.seq ((k.els.map (·.2.2)).set 0 (Der.write 160 (Der.write 2 (Der.putInt (Ref.four v)))))) (k.sig.take 100)) 0), (JP (w1.heap.size) (Ref.wr (Ref.seq ((k.els.map (·.2.2)).set 0 (Der.write 160 (Der.write 2 (Der.putInt (Ref.four v)))))) (k.sig.take 100)) 1), (JP (w1.heap.size) (Ref.wr (Ref.seq ((k.els.map (·.2.2)).set 0 (Der.write 160 (Der.write 2 (Der.putInt (Ref.four v)))))) (k.sig.take 100)) 2), (JP (w1.heap.size) (Ref.wr (Ref.seq ((k.els.map (·.2.2)).set 0 (Der.write 160 (Der.write 2 (Der.putInt (Ref.four v)))))) (k.sig.take 100)) 3), (fun _ _ => True), (JP (w1.heap.size) (Ref.wr (Ref.seq ((k.els.map (·.2.2)).set 0 (Der.write 160 (Der.write 2 (Der.putInt (Ref.four v)))))) (k.sig.take 100)) 2)]) (JV (w1.heap.size) (Ref.wr (Ref.seq ((k.els.map (·.2.2)).set 0 (Der.write 160 (Der.write 2 (Der.putInt (Ref.four v)))))) (k.sig.take 100))) (Below w1.heap.size w1) RN (SN (w1.heap.size)) ?hm ?hmono ?hmonoS JV.rn ?hGR ?hGS ?hd ?hg ?hA ?hW ((Below.refl _ _).drew) ?hs ?hdone
  case hm => rfl
  case hmono => exact JL.rn (B := w1.heap.size) (Sta.cons (Sta.eq _ _) (Sta.cons (Sta.eq _ _) (Sta.cons (Sta.rdt _ _) (Sta.cons (Sta.rdt _ _) (Sta.cons (Sta.rdt _ _) (Sta.cons (Sta.jp _ _ _) (Sta.cons (Sta.jp _ _ _) (Sta.cons (Sta.jp _ _ _) (Sta.cons (Sta.jp _ _ _) (Sta.cons (Sta.jp _ _ _) (Sta.cons (Sta.true _) (Sta.cons (Sta.jp _ _ _) (Sta.nil)))))))))))))
  case hmonoS => exact JL.sn (B := w1.heap.size) (Sta.cons (Sta.eq _ _) (Sta.cons (Sta.eq _ _) (Sta.cons (Sta.rdt _ _) (Sta.cons (Sta.rdt _ _) (Sta.cons (Sta.rdt _ _) (Sta.cons (Sta.jp _ _ _) (Sta.cons (Sta.jp _ _ _) (Sta.cons (Sta.jp _ _ _) (Sta.cons (Sta.jp _ _ _) (Sta.cons (Sta.jp _ _ _) (Sta.cons (Sta.true _) (Sta.cons (Sta.jp _ _ _) (Sta.nil)))))))))))))
  case hGR => exact fun w w' h1 h2 => h1.trans (Below.mono h2 h1.size)
  case hGS => exact fun w w' h1 h2 => h1.trans h2.1
  case hd => show dstsOk _ 54 = true; decide +kernel
  case hg => decide +kernel
  case hA => decide +kernel
  case hW => decide +kernel
  case hs =>
    refine ⟨two_else (by decide) ?_, two_else (by decide) ?_, two_else (by decide) ?_, two_else (by decide) ?_, two_else (by decide) ?_, two_else (by decide) ?_, two_else (by decide) ?_, two_else (by decide) ?_, two_else (by decide) ?_, two_else (by decide) ?_, two_then ?_, two_else (by decide) ?_, trivial⟩
    · intro a W hfr hG hdep; exact N_case rfl (by simp) (hfr 2 (by decide +kernel)) (H1.out.1.below hG H1.out.1.lt)
    · intro a W hfr hG hdep; exact N_move rfl (by simp) (hfr 5 (by decide +kernel))
    · intro a W hfr hG hdep; exact N_write rfl (by simp) (by decide) rfl (hdep 1 (by decide +kernel)) (H1.out.2.1.up hG) (by have := putInt_small v; omega)
    · intro a W hfr hG hdep; exact N_writeT rfl (by simp) (by decide) rfl (hdep 2 (by decide +kernel)) (by have := write_lt 2 (Der.putInt (Ref.four v)) 5 (putInt_small v) (by omega); omega)
    · intro a W hfr hG hdep; exact N_put (i := 0) rfl (by simp) (hdep 0 (by decide +kernel)) rfl (by omega) (hdep 3 (by decide +kernel)) (by have := (ver_wf v).2.2.1; rw [ver_raw] at this; omega) (H1.out.2.2.1.up hG)
    · intro a W hfr hG hdep; exact N_parse (B := w1.heap.size) rfl (by simp) (hdep 4 (by decide +kernel))
    · intro a W hfr hG hdep; exact N_move rfl (by simp) (hdep 5 (by decide +kernel))
    · intro a W hfr hG hdep; exact N_ext0 (B := w1.heap.size) rfl (by simp) (hdep 6 (by decide +kernel))
    · intro a W hfr hG hdep; exact N_ext1 (B := w1.heap.size) rfl (by simp) (hdep 6 (by decide +kernel))
    · intro a W hfr hG hdep; exact N_newc (B := w1.heap.size) (b := Ref.wr (Ref.seq ((k.els.map (·.2.2)).set 0 (Der.write 160 (Der.write 2 (Der.putInt (Ref.four v)))))) (k.sig.take 100)) rfl (by simp) hG.size
    · intro a W hfr hG hdep; exact N_store (p := 9) (fun _ _ => trivial) rfl rfl hG.size (hdep 9 (by decide +kernel)) rfl (hdep 7 (by decide +kernel))
    · intro a W hfr hG hdep; exact N_assign rfl (by simp) (hdep 8 (by decide +kernel))
  case hdone =>
    intro a W hdf hsz hfr hG hJ hV
    have hV : JV (w1.heap.size) (Ref.wr (Ref.seq ((k.els.map (·.2.2)).set 0 (Der.write 160 (Der.write 2 (Der.putInt (Ref.four v)))))) (k.sig.take 100)) (a.eval (.tmp 6)) W := hV
    obtain ⟨gv, Cv, hgv, hgB, hBv, hPv⟩ := hV
    have e := arr_eta a 54 hsz hdf
    rw [show (List.range 54).map (fun i => a.eval (.tmp i)) = a.eval (.tmp 0) :: a.eval (.tmp 1) :: a.eval (.tmp 2) :: a.eval (.tmp 3) :: a.eval (.tmp 4) :: a.eval (.tmp 5) :: a.eval (.tmp 6) :: a.eval (.tmp 7) :: a.eval (.tmp 8) :: a.eval (.tmp 9) :: a.eval (.tmp 10) :: a.eval (.tmp 11) :: a.eval (.tmp 12) :: a.eval (.tmp 13) :: a.eval (.tmp 14) :: a.eval (.tmp 15) :: a.eval (.tmp 16) :: a.eval (.tmp 17) :: a.eval (.tmp 18) :: a.eval (.tmp 19) :: a.eval (.tmp 20) :: a.eval (.tmp 21) :: a.eval (.tmp 22) :: a.eval (.tmp 23) :: a.eval (.tmp 24) :: a.eval (.tmp 25) :: a.eval (.tmp 26) :: a.eval (.tmp 27) :: a.eval (.tmp 28) :: a.eval (.tmp 29) :: a.eval (.tmp 30) :: a.eval (.tmp 31) :: a.eval (.tmp 32) :: a.eval (.tmp 33) :: a.eval (.tmp 34) :: a.eval (.tmp 35) :: a.eval (.tmp 36) :: a.eval (.tmp 37) :: a.eval (.tmp 38) :: a.eval (.tmp 39) :: a.eval (.tmp 40) :: a.eval (.tmp 41) :: a.eval (.tmp 42) :: a.eval (.tmp 43) :: a.eval (.tmp 44) :: a.eval (.tmp 45) :: a.eval (.tmp 46) :: a.eval (.tmp 47) :: a.eval (.tmp 48) :: a.eval (.tmp 49) :: a.eval (.tmp 50) :: a.eval (.tmp 51) :: a.eval (.tmp 52) :: a.eval (.tmp 53) :: [] from rfl] at e
    rw [hgv] at e
    rw [show a.eval (.tmp 7) = .int .i64 ((Cert.parse (Ref.wr (Ref.seq ((k.els.map (·.2.2)).set 0 (Der.write 160 (Der.write 2 (Der.putInt (Ref.four v)))))) (k.sig.take 100))).err : Int) from hJ 11 (by decide)] at e
    rw [show a.eval (.tmp 1) = .int .u64 (v : Int) from hfr 1 (by decide +kernel)] at e
    rw [show a.eval (.tmp 2) = .pointer (some ⟨w.heap.size, 0, none⟩) from hfr 2 (by decide +kernel)] at e
    rw [show a.eval (.tmp 4) = .bool false from hfr 4 (by decide +kernel)] at e
    clear hgv
    generalize a.eval (.tmp 0) = u0 at e
    generalize a.eval (.tmp 3) = u3 at e
    generalize a.eval (.tmp 5) = u5 at e
    generalize a.eval (.tmp 8) = u8 at e
    generalize a.eval (.tmp 9) = u9 at e
    generalize a.eval (.tmp 10) = u10 at e
    generalize a.eval (.tmp 11) = u11 at e
    generalize a.eval (.tmp 12) = u12 at e
    generalize a.eval (.tmp 13) = u13 at e
    generalize a.eval (.tmp 14) = u14 at e
    generalize a.eval (.tmp 15) = u15 at e
    generalize a.eval (.tmp 16) = u16 at e
    generalize a.eval (.tmp 17) = u17 at e
    generalize a.eval (.tmp 18) = u18 at e
    generalize a.eval (.tmp 19) = u19 at e
    generalize a.eval (.tmp 20) = u20 at e
    generalize a.eval (.tmp 21) = u21 at e
    generalize a.eval (.tmp 22) = u22 at e
    generalize a.eval (.tmp 23) = u23 at e
    generalize a.eval (.tmp 24) = u24 at e
    generalize a.eval (.tmp 25) = u25 at e
    generalize a.eval (.tmp 26) = u26 at e
    generalize a.eval (.tmp 27) = u27 at e
    generalize a.eval (.tmp 28) = u28 at e
    generalize a.eval (.tmp 29) = u29 at e
    generalize a.eval (.tmp 30) = u30 at e
    generalize a.eval (.tmp 31) = u31 at e
    generalize a.eval (.tmp 32) = u32 at e
    generalize a.eval (.tmp 33) = u33 at e
    generalize a.eval (.tmp 34) = u34 at e
    generalize a.eval (.tmp 35) = u35 at e
    generalize a.eval (.tmp 36) = u36 at e
    generalize a.eval (.tmp 37) = u37 at e
    generalize a.eval (.tmp 38) = u38 at e
    generalize a.eval (.tmp 39) = u39 at e
    generalize a.eval (.tmp 40) = u40 at e
    generalize a.eval (.tmp 41) = u41 at e
    generalize a.eval (.tmp 42) = u42 at e
    generalize a.eval (.tmp 43) = u43 at e
    generalize a.eval (.tmp 44) = u44 at e
    generalize a.eval (.tmp 45) = u45 at e
    generalize a.eval (.tmp 46) = u46 at e
    generalize a.eval (.tmp 47) = u47 at e
    generalize a.eval (.tmp 48) = u48 at e
    generalize a.eval (.tmp 49) = u49 at e
    generalize a.eval (.tmp 50) = u50 at e
    generalize a.eval (.tmp 51) = u51 at e
    generalize a.eval (.tmp 52) = u52 at e
    generalize a.eval (.tmp 53) = u53 at e
    subst e
    clear hfr hJ hsz hdf
    clear hPv hBv hgB
    have hcase : (((Cert.parse (Ref.wr (Ref.seq ((k.els.map (·.2.2)).set 0 (Der.write 160 (Der.write 2 (Der.putInt (Ref.four v)))))) (k.sig.take 100))).err : Int) = 9 ∧ v % 4294967296 ≠ 2) ∨ (((Cert.parse (Ref.wr (Ref.seq ((k.els.map (·.2.2)).set 0 (Der.write 160 (Der.write 2 (Der.putInt (Ref.four v)))))) (k.sig.take 100))).err : Int) = 0 ∧ v % 4294967296 = 2) := by
      rcases versions_parse k H1.out.2.2.1.path v with ⟨hp, hne⟩ | ⟨⟨s, hp⟩, heq⟩
      · exact .inl ⟨by rw [hp]; rfl, hne⟩
      · exact .inr ⟨by rw [hp]; rfl, heq⟩
    generalize ((Cert.parse (Ref.wr (Ref.seq ((k.els.map (·.2.2)).set 0 (Der.write 160 (Der.write 2 (Der.putInt (Ref.four v)))))) (k.sig.take 100))).err : Int) = er at hcase ⊢
    have hkW := H1.out.2.2.1.up hG
    have hKBW := H1.out.1.below hG H1.out.1.lt
    have hbW := H1.out.2.2.2.trans (hG.mono H1.out.2.2.2.size)
    have H2 := Lib.hid (And.intro hkW hbW)
    clear hkW hbW hG
    go_wp2_with (first
      | ((with_reducible refine at_load_case ?_); refine wpList_load_case rfl _ rfl w.heap.size k (.slice A0 n0 c0) (.slice A1 n1 c1) (.slice A2 n2 c2) rfl hKBW ?_)
      | fail)
    refine (elements_any k A0 A1 A2 n0 c0 n1 c1 n2 c2 W H2.out.1).mono ?_
    rintro en w4 ⟨A8, c8, l, rfl, hX, hlm, hb4⟩
    dsimp only
    obtain ⟨g8, rfl, hgl, hgw, hll, _⟩ := hX.spot (by omega)
    obtain ⟨Av, cv, e9, hrdl⟩ := hX.rdl
    injection e9 with e91 e92 e93
    subst e91 e93
    rw [hll] at hrdl
    clear e92
    have hr8 := hrdl.drop1 (by omega)
    have hc8 := hrdl.cap
    have hcm8 := hrdl.capm
    have hbw4 := H2.out.2.trans (hb4.mono H2.out.2.size)
    have hl8 : (l.drop 1).map (·.2) = (k.els.drop 1).map (·.2.2) := by rw [List.map_drop, hlm, List.map_drop]
    have H4 := Lib.hid (And.intro hr8 (And.intro hl8 (And.intro hbw4 hll)))
    clear hX hrdl hr8 hbw4 hl8 hlm hb4 hll hgl
    go_wp2_with fail
    have hcat : ((k.els.drop 1).map (·.2.2)).flatten.length ≤ 4000 := by
      have h1 := els_cat k H2.out.1.path
      have h2 : (k.els.map (·.2.2)).flatten = E.version.2.2 ++ ((k.els.drop 1).map (·.2.2)).flatten := rfl
      rw [h2, List.length_append] at h1
      omega
    have hsl : (Ref.seq ((k.els.drop 1).map (·.2.2))).length ≤ 10000 := by
      unfold Ref.seq
      have h3 := write_lt 48 ((k.els.drop 1).map (·.2.2)).flatten 4000 hcat (by omega)
      omega
    refine (refSeq_any (some ⟨g8, 1, none⟩) 6 (c8 - 1) (l.drop 1) w4 H4.out.1 (by omega) (by unfold cat; rw [H4.out.2.1]; omega)).mono ?_
    rw [H4.out.2.1]
    rintro en w5 ⟨A9, n9, c9, rfl, ho9, hb9⟩
    have hl9 := ownB_len ho9
    have hbw5 := H4.out.2.2.1.trans (hb9.mono H4.out.2.2.1.size)
    have hr9 := ho9.rdx
    have H5 := Lib.hid (And.intro hr9 hbw5)
    clear ho9 hb9 hbw5 hr9
    go_wp2_with fail
    refine (refWr_any A9 none n9 c9 0 0 (Ref.seq ((k.els.drop 1).map (·.2.2))) [] w5 H5.out.1 Rd.none_ (by omega) (by omega)).mono ?_
    rintro en w6 ⟨A10, n10, c10, rfl, ho10, hb10⟩
    have hbw6 := H5.out.2.trans (hb10.mono H5.out.2.size)
    have hr10 := ho10.rdx
    have H6 := Lib.hid (And.intro hr10 hbw6)
    clear ho10 hb10 hbw6 hr10 H5
    go_wp2_with fail
    have hno := noversion_parse k H2.out.1.path
    refine (parse_cert_any A10 n10 c10 _ w6 H6.out.1).mono ?_
    rintro en w7 ⟨hb7, ⟨m, hm, _, rfl⟩ | ⟨s', g', _, _, _, _, _, _, _, hyes, _⟩⟩
    rotate_left
    · rw [hno] at hyes; cases hyes
    rw [hno] at hm
    injection hm with hm
    subst hm
    have H7 := Lib.hid (H6.out.2.trans (hb7.mono H6.out.2.size))
    clear hb7 hno hcat hsl
    have hkm : ((v : Int) % 4294967296) = ((v % 4294967296 : Nat) : Int) := by omega
    have hkt : (v : Int).tmod 4294967296 = ((v % 4294967296 : Nat) : Int) := by
      rw [Int.tmod_eq_emod_of_nonneg (by omega)]
      exact hkm
    rcases hcase with ⟨rfl, hne⟩ | ⟨rfl, heq⟩
    · have hq : (((v % 4294967296 : Nat) : Int) == 2) = false := by simp; omega
      have hq2 : ((v : Int) % 4294967296 == 2) = false := by rw [hkm]; exact hq
      have hq3 : ¬ (v : Int) % 4294967296 = 2 := by omega
      clear hkm hkt hq hne
      go_wp2_with (first
        | ((with_reducible refine at_store_cert ?_); refine wpList_store_cert rfl _ _ rfl w7.heap.size CV.zero CV.zero rfl rfl (Blk.new w7 _ _) CV.zero_cells ?_; intro w8 hB8 hg8)
        | fail)
      have hg78 : Below w7.heap.size w7 w8 := below_grow ((Below.refl _ w7).alloc (Nat.le_refl _) _) hg8 (Nat.le_refl _) (Nat.le_refl _)
      have H8 := Lib.hid (H7.out.trans (hg78.mono H7.out.size))
      clear hg78 hg8 hB8
      refine (works12_any _).mono ?_
      rintro e w9 ⟨rfl, hb9⟩
      go_wp2
      go_ret
      exact ⟨rfl, H8.out.trans (hb9.mono H8.out.size)⟩
    · have hq : (((v % 4294967296 : Nat) : Int) == 2) = true := by rw [heq]; rfl
      have hq2 : ((v : Int) % 4294967296 == 2) = true := by rw [hkm]; exact hq
      have hq3 : (v : Int) % 4294967296 = 2 := by omega
      clear hkm hkt hq heq
      go_wp2_with (first
        | ((with_reducible refine at_store_cert ?_); refine wpList_store_cert rfl _ _ rfl w7.heap.size CV.zero CV.zero rfl rfl (Blk.new w7 _ _) CV.zero_cells ?_; intro w8 hB8 hg8)
        | fail)
      have hg78 : Below w7.heap.size w7 w8 := below_grow ((Below.refl _ w7).alloc (Nat.le_refl _) _) hg8 (Nat.le_refl _) (Nat.le_refl _)
      have H8 := Lib.hid (H7.out.trans (hg78.mono H7.out.size))
      clear hg78 hg8 hB8
      refine (works12_any _).mono ?_
      rintro e w9 ⟨rfl, hb9⟩
      go_wp2
      go_ret
      exact ⟨rfl, H8.out.trans (hb9.mono H8.out.size)⟩

theorem certVersions_walk (w : World) (k : Kase) (A0 A1 A2 : Option Addr) (n0 c0 n1 c1 n2 c2 : Nat) (hk : k.come w A0 A1 A2 n0 c0 n1 c1 n2 c2) (v : Int) (hw : (Lit.int .u64 v).wf = true) :
    Calls Try.prog 10 #[k.val (.slice A0 n0 c0) (.slice A1 n1 c1) (.slice A2 n2 c2), .int .u64 v] w fun e w' => e = .returned (.bool true) ∧ Below w.heap.size w w' := by
  have h1 := nat_of_wf hw rfl
  have hmy : IntKind.u64.max = 18446744073709551615 := rfl
  rw [h1.1]
  exact versions_main k A0 A1 A2 n0 c0 n1 c1 n2 c2 v.toNat (by omega) w hk
end Go.Proofs.Ytmnekhliblkibaa
