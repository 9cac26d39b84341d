/- The walk of the law CertSerials. -/
import Derived.Test.YtmnekhliblkibaaLawOps
namespace Go.Proofs.Ytmnekhliblkibaa
open Go.RowKit
set_option maxRecDepth 1000000
set_option linter.unusedVariables false
set_option linter.unusedSimpArgs false

theorem serials_large (KV : Value) (A : Option Addr) (n c : Nat) (w : World) (hn : (100 : Int) < n) (k : Kase) (v0 v1 v2 : Value) (hk : KV = k.val v0 v1 v2) :
    Calls Try.prog 12 #[KV, .slice A n c] w (LawPost w) := by
  subst hk
  unfold Kase.val
  go_enter Try.func12, Try.ntmps12
  go_wp2_with fail
  refine (works12_any _).mono ?_
  rintro e w1 ⟨rfl, hb1⟩
  go_wp2
  go_ret
  exact ⟨rfl, (((Below.refl _ w).alloc (Nat.le_refl _) _).trans (hb1.mono (by simp)))⟩
set_option maxHeartbeats 8000000 in
theorem serials_main (k : Kase) (A0 A1 A2 : Option Addr) (n0 c0 n1 c1 n2 c2 : Nat) (A3 : Option Addr) (n3 c3 : Nat) (body : List UInt8) (w : World) (hk : k.come w A0 A1 A2 n0 c0 n1 c1 n2 c2)
    (h3 : Rd w w.heap.size A3 n3 c3 body) (hn : ¬ (100 : Int) < n3) :
    Calls Try.prog 12 #[k.val (.slice A0 n0 c0) (.slice A1 n1 c1) (.slice A2 n2 c2), .slice A3 n3 c3] w (LawPost w) := by
  obtain ⟨w0, hw0, hKB0⟩ : ∃ w0, w0 = w.alloc (.cells (k.row (.slice A0 n0 c0) (.slice A1 n1 c1) (.slice A2 n2 c2)) 42) ∧ Blk w0 w.heap.size 42 (k.row (.slice A0 n0 c0) (.slice A1 n1 c1) (.slice A2 n2 c2)) := ⟨_, rfl, Blk.new w _ _⟩
  have hb0 : Below w.heap.size w w0 := by rw [hw0]; exact (Below.refl _ w).alloc (Nat.le_refl _) _
  have hKB := Lib.hid hKB0
  have HK := Lib.hid (And.intro (hk.up hb0) (And.intro (h3.up hb0) hb0))
  clear hk h3 hKB0 hb0
  obtain ⟨KV, hKV⟩ : ∃ KV, KV = k.val (.slice A0 n0 c0) (.slice A1 n1 c1) (.slice A2 n2 c2) := ⟨_, rfl⟩
  have hKV2 : KV = Value.agg (k.row (.slice A0 n0 c0) (.slice A1 n1 c1) (.slice A2 n2 c2)) := hKV
  rw [← hKV]
  clear hKV
  subst hKV2
  go_enter Try.func12, Try.ntmps12
  go_upto_region 3 with fail
  rw [← hw0]
  clear hw0
  refine wp_region_two 9 8 (JL [(fun v _ => v = k.val (.slice A0 n0 c0) (.slice A1 n1 c1) (.slice A2 n2 c2)), (fun v _ => v = .slice A3 n3 c3), (fun v w => RdT w v (Der.write 2 body)), (fun v w => RdT w v (Ref.wr (Ref.seq ((k.els.map (·.2.2)).set 1 (Der.write 2 body))) (k.sig.take 100))), (JP (w0.heap.size) (Ref.wr (Ref.seq ((k.els.map (·.2.2)).set 1 (Der.write 2 body))) (k.sig.take 100)) 0), (JP (w0.heap.size) (Ref.wr (Ref.seq ((k.els.map (·.2.2)).set 1 (Der.write 2 body))) (k.sig.take 100)) 0), (JP (w0.heap.size) (Ref.wr (Ref.seq ((k.els.map (·.2.2)).set 1 (Der.write 2 body))) (k.sig.take 100)) 1), (JP (w0.heap.size) (Ref.wr (Ref.seq ((k.els.map (·.2.2)).set 1 (Der.write 2 body))) (k.sig.take 100)) 2), (JP (w0.heap.size) (Ref.wr (Ref.seq ((k.els.map (·.2.2)).set 1 (Der.write 2 body))) (k.sig.take 100)) 3), (fun _ _ => True), (JP (w0.heap.size) (Ref.wr (Ref.seq ((k.els.map (·.2.2)).set 1 (Der.write 2 body))) (k.sig.take 100)) 2)]) (JV (w0.heap.size) (Ref.wr (Ref.seq ((k.els.map (·.2.2)).set 1 (Der.write 2 body))) (k.sig.take 100))) (Below w0.heap.size w0) RN (SN (w0.heap.size)) ?hm ?hmono ?hmonoS JV.rn ?hGR ?hGS ?hd ?hg ?hA ?hW ((Below.refl _ _).drew) ?hs ?hdone
  case hm => rfl
  case hmono => exact JL.rn (B := w0.heap.size) (Sta.cons (Sta.eq _ _) (Sta.cons (Sta.eq _ _) (Sta.cons (Sta.rdt _ _) (Sta.cons (Sta.rdt _ _) (Sta.cons (Sta.jp _ _ _) (Sta.cons (Sta.jp _ _ _) (Sta.cons (Sta.jp _ _ _) (Sta.cons (Sta.jp _ _ _) (Sta.cons (Sta.jp _ _ _) (Sta.cons (Sta.true _) (Sta.cons (Sta.jp _ _ _) (Sta.nil))))))))))))
  case hmonoS => exact JL.sn (B := w0.heap.size) (Sta.cons (Sta.eq _ _) (Sta.cons (Sta.eq _ _) (Sta.cons (Sta.rdt _ _) (Sta.cons (Sta.rdt _ _) (Sta.cons (Sta.jp _ _ _) (Sta.cons (Sta.jp _ _ _) (Sta.cons (Sta.jp _ _ _) (Sta.cons (Sta.jp _ _ _) (Sta.cons (Sta.jp _ _ _) (Sta.cons (Sta.true _) (Sta.cons (Sta.jp _ _ _) (Sta.nil))))))))))))
  case hGR => exact fun w w' h1 h2 => h1.trans (Below.mono h2 h1.size)
  case hGS => exact fun w w' h1 h2 => h1.trans h2.1
  case hd => show dstsOk _ 56 = true; decide +kernel
  case hg => decide +kernel
  case hA => decide +kernel
  case hW => decide +kernel
  case hs =>
    refine ⟨two_else (by decide) ?_, two_else (by decide) ?_, two_else (by decide) ?_, two_else (by decide) ?_, two_else (by decide) ?_, two_else (by decide) ?_, two_else (by decide) ?_, two_else (by decide) ?_, two_else (by decide) ?_, two_then ?_, two_else (by decide) ?_, trivial⟩
    · intro a W hfr hG hdep; exact N_case rfl (by simp) (hfr 2 (by decide +kernel)) (hKB.out.below hG hKB.out.lt)
    · intro a W hfr hG hdep; exact N_move rfl (by simp) (hfr 1 (by decide +kernel))
    · intro a W hfr hG hdep; exact N_write rfl (by simp) (by decide) rfl (hdep 1 (by decide +kernel)) (HK.out.2.1.up hG) (by have := HK.out.2.1.len; omega)
    · intro a W hfr hG hdep; exact N_put (i := 1) rfl (by simp) (hdep 0 (by decide +kernel)) rfl (by omega) (hdep 2 (by decide +kernel)) (by have := HK.out.2.1.len; have := write_lt 2 body 100 (by omega) (by omega); omega) (HK.out.1.up hG)
    · intro a W hfr hG hdep; exact N_parse (B := w0.heap.size) rfl (by simp) (hdep 3 (by decide +kernel))
    · intro a W hfr hG hdep; exact N_move rfl (by simp) (hdep 4 (by decide +kernel))
    · intro a W hfr hG hdep; exact N_ext0 (B := w0.heap.size) rfl (by simp) (hdep 5 (by decide +kernel))
    · intro a W hfr hG hdep; exact N_ext1 (B := w0.heap.size) rfl (by simp) (hdep 5 (by decide +kernel))
    · intro a W hfr hG hdep; exact N_newc (B := w0.heap.size) (b := Ref.wr (Ref.seq ((k.els.map (·.2.2)).set 1 (Der.write 2 body))) (k.sig.take 100)) rfl (by simp) hG.size
    · intro a W hfr hG hdep; exact N_store (p := 8) (fun _ _ => trivial) rfl rfl hG.size (hdep 8 (by decide +kernel)) rfl (hdep 6 (by decide +kernel))
    · intro a W hfr hG hdep; exact N_assign rfl (by simp) (hdep 7 (by decide +kernel))
  case hdone =>
    intro a W hdf hsz hfr hG hJ hV
    have hV : JV (w0.heap.size) (Ref.wr (Ref.seq ((k.els.map (·.2.2)).set 1 (Der.write 2 body))) (k.sig.take 100)) (a.eval (.tmp 5)) W := hV
    obtain ⟨gv, Cv, hgv, hgB, hBv, hPv⟩ := hV
    have e := arr_eta a 56 hsz hdf
    rw [show (List.range 56).map (fun i => a.eval (.tmp i)) = a.eval (.tmp 0) :: a.eval (.tmp 1) :: a.eval (.tmp 2) :: a.eval (.tmp 3) :: a.eval (.tmp 4) :: a.eval (.tmp 5) :: a.eval (.tmp 6) :: a.eval (.tmp 7) :: a.eval (.tmp 8) :: a.eval (.tmp 9) :: a.eval (.tmp 10) :: a.eval (.tmp 11) :: a.eval (.tmp 12) :: a.eval (.tmp 13) :: a.eval (.tmp 14) :: a.eval (.tmp 15) :: a.eval (.tmp 16) :: a.eval (.tmp 17) :: a.eval (.tmp 18) :: a.eval (.tmp 19) :: a.eval (.tmp 20) :: a.eval (.tmp 21) :: a.eval (.tmp 22) :: a.eval (.tmp 23) :: a.eval (.tmp 24) :: a.eval (.tmp 25) :: a.eval (.tmp 26) :: a.eval (.tmp 27) :: a.eval (.tmp 28) :: a.eval (.tmp 29) :: a.eval (.tmp 30) :: a.eval (.tmp 31) :: a.eval (.tmp 32) :: a.eval (.tmp 33) :: a.eval (.tmp 34) :: a.eval (.tmp 35) :: a.eval (.tmp 36) :: a.eval (.tmp 37) :: a.eval (.tmp 38) :: a.eval (.tmp 39) :: a.eval (.tmp 40) :: a.eval (.tmp 41) :: a.eval (.tmp 42) :: a.eval (.tmp 43) :: a.eval (.tmp 44) :: a.eval (.tmp 45) :: a.eval (.tmp 46) :: a.eval (.tmp 47) :: a.eval (.tmp 48) :: a.eval (.tmp 49) :: a.eval (.tmp 50) :: a.eval (.tmp 51) :: a.eval (.tmp 52) :: a.eval (.tmp 53) :: a.eval (.tmp 54) :: a.eval (.tmp 55) :: [] from rfl] at e
    rw [hgv] at e
    rw [show a.eval (.tmp 6) = .int .i64 ((Cert.parse (Ref.wr (Ref.seq ((k.els.map (·.2.2)).set 1 (Der.write 2 body))) (k.sig.take 100))).err : Int) from hJ 10 (by decide)] at e
    rw [show a.eval (.tmp 1) = .slice A3 n3 c3 from hfr 1 (by decide +kernel)] at e
    rw [show a.eval (.tmp 2) = .pointer (some ⟨w.heap.size, 0, none⟩) from hfr 2 (by decide +kernel)] at e
    rw [show a.eval (.tmp 4) = .bool false from hfr 4 (by decide +kernel)] at e
    clear hgv
    generalize a.eval (.tmp 0) = u0 at e
    generalize a.eval (.tmp 3) = u3 at e
    generalize a.eval (.tmp 7) = u7 at e
    generalize a.eval (.tmp 8) = u8 at e
    generalize a.eval (.tmp 9) = u9 at e
    generalize a.eval (.tmp 10) = u10 at e
    generalize a.eval (.tmp 11) = u11 at e
    generalize a.eval (.tmp 12) = u12 at e
    generalize a.eval (.tmp 13) = u13 at e
    generalize a.eval (.tmp 14) = u14 at e
    generalize a.eval (.tmp 15) = u15 at e
    generalize a.eval (.tmp 16) = u16 at e
    generalize a.eval (.tmp 17) = u17 at e
    generalize a.eval (.tmp 18) = u18 at e
    generalize a.eval (.tmp 19) = u19 at e
    generalize a.eval (.tmp 20) = u20 at e
    generalize a.eval (.tmp 21) = u21 at e
    generalize a.eval (.tmp 22) = u22 at e
    generalize a.eval (.tmp 23) = u23 at e
    generalize a.eval (.tmp 24) = u24 at e
    generalize a.eval (.tmp 25) = u25 at e
    generalize a.eval (.tmp 26) = u26 at e
    generalize a.eval (.tmp 27) = u27 at e
    generalize a.eval (.tmp 28) = u28 at e
    generalize a.eval (.tmp 29) = u29 at e
    generalize a.eval (.tmp 30) = u30 at e
    generalize a.eval (.tmp 31) = u31 at e
    generalize a.eval (.tmp 32) = u32 at e
    generalize a.eval (.tmp 33) = u33 at e
    generalize a.eval (.tmp 34) = u34 at e
    generalize a.eval (.tmp 35) = u35 at e
    generalize a.eval (.tmp 36) = u36 at e
    generalize a.eval (.tmp 37) = u37 at e
    generalize a.eval (.tmp 38) = u38 at e
    generalize a.eval (.tmp 39) = u39 at e
    generalize a.eval (.tmp 40) = u40 at e
    generalize a.eval (.tmp 41) = u41 at e
    generalize a.eval (.tmp 42) = u42 at e
    generalize a.eval (.tmp 43) = u43 at e
    generalize a.eval (.tmp 44) = u44 at e
    generalize a.eval (.tmp 45) = u45 at e
    generalize a.eval (.tmp 46) = u46 at e
    generalize a.eval (.tmp 47) = u47 at e
    generalize a.eval (.tmp 48) = u48 at e
    generalize a.eval (.tmp 49) = u49 at e
    generalize a.eval (.tmp 50) = u50 at e
    generalize a.eval (.tmp 51) = u51 at e
    generalize a.eval (.tmp 52) = u52 at e
    generalize a.eval (.tmp 53) = u53 at e
    generalize a.eval (.tmp 54) = u54 at e
    generalize a.eval (.tmp 55) = u55 at e
    subst e
    clear hfr hJ hsz hdf
    have hlb := HK.out.2.1.len
    have hb3 := HK.out.2.1.up hG
    have hbw := HK.out.2.2.trans (hG.mono HK.out.2.2.size)
    rcases serial_parse k HK.out.1.path body (by omega) with ⟨hok, hp⟩ | ⟨hok, s, hp, hser⟩
    · have herr : ((Cert.parse (Ref.wr (Ref.seq ((k.els.map (·.2.2)).set 1 (Der.write 2 body))) (k.sig.take 100))).err : Int) = 9 := by rw [hp]; rfl
      rw [herr]
      clear herr hp hPv hBv hgB
      have H1 := Lib.hid (And.intro hb3 hbw)
      clear hb3 hbw hG
      go_wp2_with fail
      refine (refInt_any A3 n3 c3 body W H1.out.1 (by omega)).mono ?_
      rintro en w4 ⟨hb4, ⟨hno, rfl⟩ | ⟨ys, A4, n4, c4, hys, rfl, ho4⟩⟩
      · have H4 := Lib.hid (H1.out.2.trans (hb4.mono H1.out.2.size))
        clear hb4 hno hok
        go_wp2_with fail
        refine (works12_any _).mono ?_
        rintro e w5 ⟨rfl, hb5⟩
        go_wp2
        go_ret
        exact ⟨rfl, H4.out.trans (hb5.mono H4.out.size)⟩
      · have H4 := Lib.hid (H1.out.2.trans (hb4.mono H1.out.2.size))
        have hl4 := ownB_len ho4
        unfold Serial.ok at hok
        rw [hys] at hok
        simp only [Bool.and_eq_false_iff, decide_eq_false_iff_not] at hok
        by_cases hz : n4 = 0
        · subst hz
          clear hb4 ho4 hok hl4 hys
          go_wp2_with fail
          refine (works12_any _).mono ?_
          rintro e w5 ⟨rfl, hb5⟩
          go_wp2
          go_ret
          exact ⟨rfl, H4.out.trans (hb5.mono H4.out.size)⟩
        · have hz' : ((n4 : Int) == 0) = false := by simp; omega
          have h20 : (20 : Int) < n3 := by omega
          clear hb4 ho4 hok hl4 hys hz
          go_wp2_with fail
          refine (works12_any _).mono ?_
          rintro e w5 ⟨rfl, hb5⟩
          go_wp2
          go_ret
          exact ⟨rfl, H4.out.trans (hb5.mono H4.out.size)⟩
    · have herr : ((Cert.parse (Ref.wr (Ref.seq ((k.els.map (·.2.2)).set 1 (Der.write 2 body))) (k.sig.take 100))).err : Int) = 0 := by rw [hp]; rfl
      rw [herr]
      rw [hp] at hPv
      obtain ⟨_, _, _, _, hci⟩ := hPv
      obtain ⟨As, ns, cs, hes, hrs, _⟩ := hci.ser
      rw [hser] at hrs
      have H1 := Lib.hid (And.intro hb3 (And.intro hbw (And.intro hBv (And.intro hes hrs))))
      clear herr hp hci hBv hgB hb3 hbw hG hes hrs
      go_wp2_with fail
      refine (refInt_any A3 n3 c3 body W H1.out.1 (by omega)).mono ?_
      rintro en w4 ⟨hb4, ⟨hno, rfl⟩ | ⟨ys, A4, n4, c4, hys, rfl, ho4⟩⟩
      · unfold Serial.ok at hok
        rw [hno] at hok
        cases hok
      · have H4 := Lib.hid (H1.out.2.1.trans (hb4.mono H1.out.2.1.size))
        have hl4 := ownB_len ho4
        unfold Serial.ok at hok
        rw [hys] at hok
        simp only [Bool.and_eq_true, decide_eq_true_eq] at hok
        have hz' : ((n4 : Int) == 0) = false := by simp; omega
        have h20 : ¬ (20 : Int) < n3 := by omega
        have k4 : w4.cell? ⟨gv, 4, none⟩ = some (.slice As ns cs) := ((H1.out.2.2.1.below hb4 H1.out.2.2.1.lt).at_ 4).trans (by rw [← H1.out.2.2.2.1]; rfl)
        have ks1 := run_string (H1.out.1.up hb4) 9 Try.underlying9
        have ks2 := run_string (H1.out.2.2.2.2.up hb4) 9 Try.underlying9
        clear hb4 ho4 hok hl4 hys
        go_wp2_with fail
        refine (works12_any _).mono ?_
        rintro e w5 ⟨rfl, hb5⟩
        go_wp2
        go_ret
        exact ⟨rfl, H4.out.trans (hb5.mono H4.out.size)⟩

theorem certSerials_walk (w : World) (k : Kase) (A0 A1 A2 : Option Addr) (n0 c0 n1 c1 n2 c2 : Nat) (hk : k.come w A0 A1 A2 n0 c0 n1 c1 n2 c2) (A3 : Option Addr) (n3 c3 : Nat) (body : List UInt8) (h3 : Rd w w.heap.size A3 n3 c3 body) :
    Calls Try.prog 12 #[k.val (.slice A0 n0 c0) (.slice A1 n1 c1) (.slice A2 n2 c2), .slice A3 n3 c3] w fun e w' => e = .returned (.bool true) ∧ Below w.heap.size w w' := by
  by_cases hn : (100 : Int) < n3
  · exact serials_large _ A3 n3 c3 w hn k _ _ _ rfl
  · exact serials_main k A0 A1 A2 n0 c0 n1 c1 n2 c2 A3 n3 c3 body w hk h3 hn
end Go.Proofs.Ytmnekhliblkibaa
