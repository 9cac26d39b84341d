/- The walk of the law CertPaths. -/
import Derived.Test.YtmnekhliblkibaaCase2
import Derived.Test.YtmnekhliblkibaaPlainPath
namespace Go.Proofs.Ytmnekhliblkibaa
open Go.RowKit
set_option maxRecDepth 1000000
set_option linter.unusedVariables false
set_option linter.unusedSimpArgs false
set_option maxHeartbeats 8000000

theorem rd_of_blk {w : World} {g n : Nat} {cs : Array Value} {xs : List UInt8} (h : Blk w g 5 cs) (hc : cs = (xs.map bv).toArray) (hl : xs.length = n) (hn : n ≤ 1000 := by decide) : Rd w w.heap.size (some ⟨g, 0, none⟩) n n xs := by
  have hr := reads_of_blk h
  subst hc
  refine ⟨hl, Nat.le_refl _, by omega, (fun e => by cases e), fun _ => ⟨_, _, rfl, h.lt⟩, ?_⟩
  have h2 := hr.more (B' := w.heap.size) (by have := h.lt; omega)
  simpa [hl] using h2
/-- The cells of a case with a limit. -/
def Kase.lrow (k : Kase) (v0 v1 v2 : Value) (ca told : Bool) (p : Nat) : Array Value := (k.row v0 v1 v2) ++ #[.bool ca, .bool told, .int .u16 (p : Int)]
theorem paths_ff (k : Kase) (A0 A1 A2 : Option Addr) (n0 c0 n1 c1 n2 c2 p : Nat) (hp : p < 65536) (w : World) (hk : k.come w A0 A1 A2 n0 c0 n1 c1 n2 c2) :
    Calls Try.prog 8 #[.agg (k.lrow (.slice A0 n0 c0) (.slice A1 n1 c1) (.slice A2 n2 c2) false false p)] w (LawPost w) := by
  obtain ⟨N, hN⟩ : ∃ N, N = k.lrow (.slice A0 n0 c0) (.slice A1 n1 c1) (.slice A2 n2 c2) false false p := ⟨_, rfl⟩
  rw [← hN]
  have hBN := Blk.new w 65 N
  have hb0 : Below w.heap.size w (w.alloc (.cells N 65)) := (Below.refl _ w).alloc (Nat.le_refl _) _
  have HK := Lib.hid (And.intro (hk.up hb0) hb0)
  have hcase : ∀ j v, (k.row (.slice A0 n0 c0) (.slice A1 n1 c1) (.slice A2 n2 c2)).toList[j]? = some v → (w.alloc (.cells N 65)).cell? ⟨w.heap.size, 0 + j, none⟩ = some v := fun j v hv => by
    rw [Nat.zero_add, hBN.cell j, hN]
    unfold Kase.lrow
    have hj : j < (k.row (.slice A0 n0 c0) (.slice A1 n1 c1) (.slice A2 n2 c2)).size := by
      have := (List.getElem?_eq_some_iff.1 hv).1
      simpa using this
    rw [Array.getElem?_append_left hj]
    simpa using hv
  have q22 : N[22]? = some (.bool false) := by rw [hN]; rfl
  have q23 : N[23]? = some (.bool false) := by rw [hN]; rfl
  have q24 : N[24]? = some (.int .u16 (p : Int)) := by rw [hN]; rfl
  have HC := Lib.hid (And.intro hcase (And.intro q22 (And.intro q23 (And.intro q24 hBN))))
  clear q22 q23 q24 hBN hcase hk hb0 hN
  go_enter Try.func8, Try.ntmps8
  go_upto_region 2 with (first
    | ((with_reducible refine at_load_case ?_); refine wpList_load_case2 rfl _ rfl w.heap.size k (.slice A0 n0 c0) (.slice A1 n1 c1) (.slice A2 n2 c2) rfl HC.out.1 ?_)
    | ((with_reducible refine at_store_case ?_); refine wpList_store_case rfl _ _ rfl (w.heap.size + 1) zrow k A0 A1 A2 n0 c0 n1 c1 n2 c2 rfl rfl rfl (Blk.new' _ _ (by simp)) ?_; intro w1 hB1 hg1)
    | fail)
  have hb01 : Below (w.heap.size + 1) (w.alloc (.cells N 65)) w1 := by
    refine Below.grown (((Below.refl _ _).alloc (by simp) _)) hg1 (by simp) (fun j hj => by cases hj; exact Nat.le_refl _)
  have hb1 : Below w.heap.size w w1 := HK.out.2.trans (hb01.mono (by omega))
  have hb01' : Below (w.alloc (.cells N 65)).heap.size (w.alloc (.cells N 65)) w1 := by simpa using hb01
  have hBN1 := HC.out.2.2.2.2.below hb01 (by omega)
  have q22 : w1.cell? ⟨w.heap.size, 22, none⟩ = some (.bool false) := (hBN1.cell 22).trans HC.out.2.1
  have q23 : w1.cell? ⟨w.heap.size, 23, none⟩ = some (.bool false) := (hBN1.cell 23).trans HC.out.2.2.1
  have q24 : w1.cell? ⟨w.heap.size, 24, none⟩ = some (.int .u16 (p : Int)) := (hBN1.cell 24).trans HC.out.2.2.2.1
  have H1 := Lib.hid (And.intro (HK.out.1.up hb01') (And.intro hb1 hB1))
  clear hb01 hb1 hb01' hBN1 hB1 hg1 HC HK
  go_wp2_with fail
  refine (refSeq_any none 0 0 [] w1 ⟨rfl, Nat.le_refl _, by omega, Reads.none_, fun v xs h => by cases h⟩ (by omega) (by simp [cat])).mono ?_
  rintro en w2 ⟨B2, m2, d2, rfl, ho2, hbs⟩
  have hsz1 : w.heap.size + 1 < w1.heap.size := H1.out.2.2.lt
  obtain ⟨lo, hlo⟩ : ∃ lo, lo = w1.heap.size := ⟨_, rfl⟩
  rw [← hlo] at ho2
  have ho2 : OwnB w2 lo w2.heap.size (.slice B2 m2 d2) (Ref.seq (X.lim false false p)) := ho2
  have hlo1 : w1.heap.size ≤ lo ∧ lo ≤ w1.heap.size := by omega
  · skip
    dsimp only
    have hlm : (Ref.seq (X.lim false false p)).length ≤ 40 := by rw [← limb_raw]; exact (limb_wf false false p).2
    have hlb : (Ref.seq (X.lim false false p)).length ≤ 1000 := by omega
    have hl2 := ownB_len ho2
    have hs2 := hbs.size
    have hro := Rd.lit w2 5 [85, 29, 19] [.int .u8 85, .int .u8 29, .int .u8 19] _ 3 rfl rfl rfl (by omega)
    obtain ⟨w3, hw3⟩ : ∃ w3, w3 = w2.alloc (.cells #[.int .u8 85, .int .u8 29, .int .u8 19] 5) := ⟨_, rfl⟩
    have hb23 : Below w2.heap.size w2 w3 := by rw [hw3]; exact (Below.refl _ w2).alloc (Nat.le_refl _) _
    have hro3 : Rd w3 w3.heap.size (some ⟨w2.heap.size, 0, none⟩) 3 3 [85, 29, 19] := by rw [hw3]; exact hro
    obtain ⟨go, hgo⟩ : ∃ go, go = w2.heap.size := ⟨_, rfl⟩
    rw [← hgo] at hro3
    have hb13 : Below w1.heap.size w1 w3 := hbs.trans (hb23.mono hs2)
    have ho3 : OwnB w3 lo w3.heap.size (.slice B2 m2 d2) (Ref.seq (X.lim false false p)) := (ho2.below hb23 (Nat.le_refl _)).mono (Nat.le_refl _) hb23.size
    have hBo3 : Blk w3 go 5 #[.int .u8 85, .int .u8 29, .int .u8 19] := by rw [hw3, hgo]; exact Blk.new w2 _ _
    have hng3 : (∀ g, (Value.slice B2 m2 d2).ownBlock = some g → g < go) ∧ go < w3.heap.size := ⟨fun g e => by rw [hgo]; exact (ho2.lt_ e).2, hBo3.lt⟩
    have H3 := Lib.hid (And.intro (H1.out.2.2.below hb13 H1.out.2.2.lt) (And.intro hro3 (And.intro ho3.rdx (And.intro (H1.out.1.up hb13) (And.intro ho3 (And.intro hb13 (And.intro hng3 hBo3)))))))
    clear hro hro3 ho3 ho2 hb13 hb23 hBo3 hng3
    have hxl : (X.ext [85, 29, 19] true (Ref.seq (X.lim false false p))).length ≤ 2000 := by
      have h1 := (extq_mk (f := Fl.bare) (q := true) (body := (E.limb false false p).2.2) oid_basic (by simp) (by have := (limb_wf false false p).2; omega)).2.2.2
      rw [extq_raw, limb_raw] at h1
      omega
    have hxl2 : (X.ext [85, 29, 19] true (Ref.seq (X.lim false false p) ++ [5, 0])).length ≤ 2000 := by
      have h1 := (extq_mk (f := Fl.bare) (q := true) (body := (E.limb false false p).2.2 ++ [5, 0]) oid_basic (by simp) (by have := (limb_wf false false p).2; rw [List.length_append]; simp; omega)).2.2.2
      rw [extq_raw, limb_raw] at h1
      omega
    go_upto_region 12 with fail
    rw [← hw3, ← hgo]
    clear hw3 hgo
    refine wp_region_two 11 10 (JL [(fun v _ => v = k.val (.slice A0 n0 c0) (.slice A1 n1 c1) (.slice A2 n2 c2)), (fun v _ => v = .slice (some ⟨go, 0, none⟩) 3 3), (fun v _ => v = .slice B2 m2 d2), (fun v w => RdT w v (X.ext [85, 29, 19] true (Ref.seq (X.lim false false p)))), (RX [X.ext [85, 29, 19] true (Ref.seq (X.lim false false p))]), (fun v w => RdT w v (Ref.wr (Ref.seq (k.els.map (·.2.2) ++ X.tail [X.ext [85, 29, 19] true (Ref.seq (X.lim false false p))])) (k.sig.take 100))), (JP (w3.heap.size) (Ref.wr (Ref.seq (k.els.map (·.2.2) ++ X.tail [X.ext [85, 29, 19] true (Ref.seq (X.lim false false p))])) (k.sig.take 100)) 0), (JP (w3.heap.size) (Ref.wr (Ref.seq (k.els.map (·.2.2) ++ X.tail [X.ext [85, 29, 19] true (Ref.seq (X.lim false false p))])) (k.sig.take 100)) 0), (JP (w3.heap.size) (Ref.wr (Ref.seq (k.els.map (·.2.2) ++ X.tail [X.ext [85, 29, 19] true (Ref.seq (X.lim false false p))])) (k.sig.take 100)) 1), (JP (w3.heap.size) (Ref.wr (Ref.seq (k.els.map (·.2.2) ++ X.tail [X.ext [85, 29, 19] true (Ref.seq (X.lim false false p))])) (k.sig.take 100)) 2), (JP (w3.heap.size) (Ref.wr (Ref.seq (k.els.map (·.2.2) ++ X.tail [X.ext [85, 29, 19] true (Ref.seq (X.lim false false p))])) (k.sig.take 100)) 3), (fun _ _ => True), (JP (w3.heap.size) (Ref.wr (Ref.seq (k.els.map (·.2.2) ++ X.tail [X.ext [85, 29, 19] true (Ref.seq (X.lim false false p))])) (k.sig.take 100)) 2)]) (JV (w3.heap.size) (Ref.wr (Ref.seq (k.els.map (·.2.2) ++ X.tail [X.ext [85, 29, 19] true (Ref.seq (X.lim false false p))])) (k.sig.take 100))) (Below w3.heap.size w3) RN (SN (w3.heap.size)) ?hm ?hmono ?hmonoS JV.rn ?hGR ?hGS ?hd ?hg ?hA ?hW ((Below.refl _ _).drew) ?hs ?hdone
    case hm => rfl
    case hmono => exact JL.rn (B := w3.heap.size) (Sta.cons (Sta.eq _ _) (Sta.cons (Sta.eq _ _) (Sta.cons (Sta.eq _ _) (Sta.cons (Sta.rdt _ _) (Sta.cons (Sta.rx _ _) (Sta.cons (Sta.rdt _ _) (Sta.cons (Sta.jp _ _ _) (Sta.cons (Sta.jp _ _ _) (Sta.cons (Sta.jp _ _ _) (Sta.cons (Sta.jp _ _ _) (Sta.cons (Sta.jp _ _ _) (Sta.cons (Sta.true _) (Sta.cons (Sta.jp _ _ _) (Sta.nil))))))))))))))
    case hmonoS => exact JL.sn (B := w3.heap.size) (Sta.cons (Sta.eq _ _) (Sta.cons (Sta.eq _ _) (Sta.cons (Sta.eq _ _) (Sta.cons (Sta.rdt _ _) (Sta.cons (Sta.rx _ _) (Sta.cons (Sta.rdt _ _) (Sta.cons (Sta.jp _ _ _) (Sta.cons (Sta.jp _ _ _) (Sta.cons (Sta.jp _ _ _) (Sta.cons (Sta.jp _ _ _) (Sta.cons (Sta.jp _ _ _) (Sta.cons (Sta.true _) (Sta.cons (Sta.jp _ _ _) (Sta.nil))))))))))))))
    case hGR => exact fun w w' h1 h2 => h1.trans (Below.mono h2 h1.size)
    case hGS => exact fun w w' h1 h2 => h1.trans h2.1
    case hd => show dstsOk _ 102 = true; decide +kernel
    case hg => decide +kernel
    case hA => decide +kernel
    case hW => decide +kernel
    case hs =>
      refine ⟨two_else (by decide) ?_, two_else (by decide) ?_, two_else (by decide) ?_, two_else (by decide) ?_, two_else (by decide) ?_, two_else (by decide) ?_, two_else (by decide) ?_, two_else (by decide) ?_, two_else (by decide) ?_, two_else (by decide) ?_, two_else (by decide) ?_, two_then ?_, two_else (by decide) ?_, trivial⟩
      · intro a W hfr hG hdep; exact N_case rfl (by simp) (hfr 3 (by decide +kernel)) (H3.out.1.below hG H3.out.1.lt)
      · intro a W hfr hG hdep; exact N_move rfl (by simp) (hfr 9 (by decide +kernel))
      · intro a W hfr hG hdep; exact N_move rfl (by simp) (hfr 8 (by decide +kernel))
      · intro a W hfr hG hdep; exact N_ext rfl (by simp) (hdep 1 (by decide +kernel)) rfl (hdep 2 (by decide +kernel)) (H3.out.2.1.up hG) (H3.out.2.2.1.up hG) (by simp) (by first | omega | (simp only [List.length_append, List.length_cons, List.length_nil]; omega))
      · intro a W hfr hG hdep; exact N_row1 rfl (by simp) (hdep 3 (by decide +kernel))
      · intro a W hfr hG hdep; exact N_with rfl (by simp) (hdep 0 (by decide +kernel)) (hdep 4 (by decide +kernel)) (by simp only [List.flatten_cons, List.flatten_nil, List.append_nil]; omega) (H3.out.2.2.2.1.up hG)
      · intro a W hfr hG hdep; exact N_parse (B := w3.heap.size) rfl (by simp) (hdep 5 (by decide +kernel))
      · intro a W hfr hG hdep; exact N_move rfl (by simp) (hdep 6 (by decide +kernel))
      · intro a W hfr hG hdep; exact N_ext0 (B := w3.heap.size) rfl (by simp) (hdep 7 (by decide +kernel))
      · intro a W hfr hG hdep; exact N_ext1 (B := w3.heap.size) rfl (by simp) (hdep 7 (by decide +kernel))
      · intro a W hfr hG hdep; exact N_newc (B := w3.heap.size) (b := Ref.wr (Ref.seq (k.els.map (·.2.2) ++ X.tail [X.ext [85, 29, 19] true (Ref.seq (X.lim false false p))])) (k.sig.take 100)) rfl (by simp) hG.size
      · intro a W hfr hG hdep; exact N_store (p := 10) (fun _ _ => trivial) rfl rfl hG.size (hdep 10 (by decide +kernel)) rfl (hdep 8 (by decide +kernel))
      · intro a W hfr hG hdep; exact N_assign rfl (by simp) (hdep 9 (by decide +kernel))
    case hdone =>
      intro a W hdf hsz hfr hG hJ hV
      have hV : JV (w3.heap.size) (Ref.wr (Ref.seq (k.els.map (·.2.2) ++ X.tail [X.ext [85, 29, 19] true (Ref.seq (X.lim false false p))])) (k.sig.take 100)) (a.eval (.tmp 10)) W := hV
      obtain ⟨gv, Cv, hgv, hgB, hBv, hPv⟩ := hV
      have e := arr_eta a 102 hsz hdf
      rw [show (List.range 102).map (fun i => a.eval (.tmp i)) = a.eval (.tmp 0) :: a.eval (.tmp 1) :: a.eval (.tmp 2) :: a.eval (.tmp 3) :: a.eval (.tmp 4) :: a.eval (.tmp 5) :: a.eval (.tmp 6) :: a.eval (.tmp 7) :: a.eval (.tmp 8) :: a.eval (.tmp 9) :: a.eval (.tmp 10) :: a.eval (.tmp 11) :: a.eval (.tmp 12) :: a.eval (.tmp 13) :: a.eval (.tmp 14) :: a.eval (.tmp 15) :: a.eval (.tmp 16) :: a.eval (.tmp 17) :: a.eval (.tmp 18) :: a.eval (.tmp 19) :: a.eval (.tmp 20) :: a.eval (.tmp 21) :: a.eval (.tmp 22) :: a.eval (.tmp 23) :: a.eval (.tmp 24) :: a.eval (.tmp 25) :: a.eval (.tmp 26) :: a.eval (.tmp 27) :: a.eval (.tmp 28) :: a.eval (.tmp 29) :: a.eval (.tmp 30) :: a.eval (.tmp 31) :: a.eval (.tmp 32) :: a.eval (.tmp 33) :: a.eval (.tmp 34) :: a.eval (.tmp 35) :: a.eval (.tmp 36) :: a.eval (.tmp 37) :: a.eval (.tmp 38) :: a.eval (.tmp 39) :: a.eval (.tmp 40) :: a.eval (.tmp 41) :: a.eval (.tmp 42) :: a.eval (.tmp 43) :: a.eval (.tmp 44) :: a.eval (.tmp 45) :: a.eval (.tmp 46) :: a.eval (.tmp 47) :: a.eval (.tmp 48) :: a.eval (.tmp 49) :: a.eval (.tmp 50) :: a.eval (.tmp 51) :: a.eval (.tmp 52) :: a.eval (.tmp 53) :: a.eval (.tmp 54) :: a.eval (.tmp 55) :: a.eval (.tmp 56) :: a.eval (.tmp 57) :: a.eval (.tmp 58) :: a.eval (.tmp 59) :: a.eval (.tmp 60) :: a.eval (.tmp 61) :: a.eval (.tmp 62) :: a.eval (.tmp 63) :: a.eval (.tmp 64) :: a.eval (.tmp 65) :: a.eval (.tmp 66) :: a.eval (.tmp 67) :: a.eval (.tmp 68) :: a.eval (.tmp 69) :: a.eval (.tmp 70) :: a.eval (.tmp 71) :: a.eval (.tmp 72) :: a.eval (.tmp 73) :: a.eval (.tmp 74) :: a.eval (.tmp 75) :: a.eval (.tmp 76) :: a.eval (.tmp 77) :: a.eval (.tmp 78) :: a.eval (.tmp 79) :: a.eval (.tmp 80) :: a.eval (.tmp 81) :: a.eval (.tmp 82) :: a.eval (.tmp 83) :: a.eval (.tmp 84) :: a.eval (.tmp 85) :: a.eval (.tmp 86) :: a.eval (.tmp 87) :: a.eval (.tmp 88) :: a.eval (.tmp 89) :: a.eval (.tmp 90) :: a.eval (.tmp 91) :: a.eval (.tmp 92) :: a.eval (.tmp 93) :: a.eval (.tmp 94) :: a.eval (.tmp 95) :: a.eval (.tmp 96) :: a.eval (.tmp 97) :: a.eval (.tmp 98) :: a.eval (.tmp 99) :: a.eval (.tmp 100) :: a.eval (.tmp 101) :: [] from rfl] at e
      rw [hgv] at e
      rw [show a.eval (.tmp 11) = .int .i64 ((Cert.parse (Ref.wr (Ref.seq (k.els.map (·.2.2) ++ X.tail [X.ext [85, 29, 19] true (Ref.seq (X.lim false false p))])) (k.sig.take 100))).err : Int) from hJ 12 (by decide)] at e
      rw [show a.eval (.tmp 2) = .bool false from hfr 2 (by decide +kernel)] at e
      rw [show a.eval (.tmp 3) = .pointer (some ⟨w.heap.size + 1, 0, none⟩) from hfr 3 (by decide +kernel)] at e
      rw [show a.eval (.tmp 4) = .bool false from hfr 4 (by decide +kernel)] at e
      rw [show a.eval (.tmp 5) = .bool false from hfr 5 (by decide +kernel)] at e
      rw [show a.eval (.tmp 6) = .int .u16 (p : Int) from hfr 6 (by decide +kernel)] at e
      rw [show a.eval (.tmp 8) = .slice B2 m2 d2 from hfr 8 (by decide +kernel)] at e
      rw [show a.eval (.tmp 9) = .slice (some ⟨go, 0, none⟩) 3 3 from hfr 9 (by decide +kernel)] at e
      clear hgv
      generalize a.eval (.tmp 0) = u0 at e
      generalize a.eval (.tmp 1) = u1 at e
      generalize a.eval (.tmp 7) = u7 at e
      generalize a.eval (.tmp 12) = u12 at e
      generalize a.eval (.tmp 13) = u13 at e
      generalize a.eval (.tmp 14) = u14 at e
      generalize a.eval (.tmp 15) = u15 at e
      generalize a.eval (.tmp 16) = u16 at e
      generalize a.eval (.tmp 17) = u17 at e
      generalize a.eval (.tmp 18) = u18 at e
      generalize a.eval (.tmp 19) = u19 at e
      generalize a.eval (.tmp 20) = u20 at e
      generalize a.eval (.tmp 21) = u21 at e
      generalize a.eval (.tmp 22) = u22 at e
      generalize a.eval (.tmp 23) = u23 at e
      generalize a.eval (.tmp 24) = u24 at e
      generalize a.eval (.tmp 25) = u25 at e
      generalize a.eval (.tmp 26) = u26 at e
      generalize a.eval (.tmp 27) = u27 at e
      generalize a.eval (.tmp 28) = u28 at e
      generalize a.eval (.tmp 29) = u29 at e
      generalize a.eval (.tmp 30) = u30 at e
      generalize a.eval (.tmp 31) = u31 at e
      generalize a.eval (.tmp 32) = u32 at e
      generalize a.eval (.tmp 33) = u33 at e
      generalize a.eval (.tmp 34) = u34 at e
      generalize a.eval (.tmp 35) = u35 at e
      generalize a.eval (.tmp 36) = u36 at e
      generalize a.eval (.tmp 37) = u37 at e
      generalize a.eval (.tmp 38) = u38 at e
      generalize a.eval (.tmp 39) = u39 at e
      generalize a.eval (.tmp 40) = u40 at e
      generalize a.eval (.tmp 41) = u41 at e
      generalize a.eval (.tmp 42) = u42 at e
      generalize a.eval (.tmp 43) = u43 at e
      generalize a.eval (.tmp 44) = u44 at e
      generalize a.eval (.tmp 45) = u45 at e
      generalize a.eval (.tmp 46) = u46 at e
      generalize a.eval (.tmp 47) = u47 at e
      generalize a.eval (.tmp 48) = u48 at e
      generalize a.eval (.tmp 49) = u49 at e
      generalize a.eval (.tmp 50) = u50 at e
      generalize a.eval (.tmp 51) = u51 at e
      generalize a.eval (.tmp 52) = u52 at e
      generalize a.eval (.tmp 53) = u53 at e
      generalize a.eval (.tmp 54) = u54 at e
      generalize a.eval (.tmp 55) = u55 at e
      generalize a.eval (.tmp 56) = u56 at e
      generalize a.eval (.tmp 57) = u57 at e
      generalize a.eval (.tmp 58) = u58 at e
      generalize a.eval (.tmp 59) = u59 at e
      generalize a.eval (.tmp 60) = u60 at e
      generalize a.eval (.tmp 61) = u61 at e
      generalize a.eval (.tmp 62) = u62 at e
      generalize a.eval (.tmp 63) = u63 at e
      generalize a.eval (.tmp 64) = u64 at e
      generalize a.eval (.tmp 65) = u65 at e
      generalize a.eval (.tmp 66) = u66 at e
      generalize a.eval (.tmp 67) = u67 at e
      generalize a.eval (.tmp 68) = u68 at e
      generalize a.eval (.tmp 69) = u69 at e
      generalize a.eval (.tmp 70) = u70 at e
      generalize a.eval (.tmp 71) = u71 at e
      generalize a.eval (.tmp 72) = u72 at e
      generalize a.eval (.tmp 73) = u73 at e
      generalize a.eval (.tmp 74) = u74 at e
      generalize a.eval (.tmp 75) = u75 at e
      generalize a.eval (.tmp 76) = u76 at e
      generalize a.eval (.tmp 77) = u77 at e
      generalize a.eval (.tmp 78) = u78 at e
      generalize a.eval (.tmp 79) = u79 at e
      generalize a.eval (.tmp 80) = u80 at e
      generalize a.eval (.tmp 81) = u81 at e
      generalize a.eval (.tmp 82) = u82 at e
      generalize a.eval (.tmp 83) = u83 at e
      generalize a.eval (.tmp 84) = u84 at e
      generalize a.eval (.tmp 85) = u85 at e
      generalize a.eval (.tmp 86) = u86 at e
      generalize a.eval (.tmp 87) = u87 at e
      generalize a.eval (.tmp 88) = u88 at e
      generalize a.eval (.tmp 89) = u89 at e
      generalize a.eval (.tmp 90) = u90 at e
      generalize a.eval (.tmp 91) = u91 at e
      generalize a.eval (.tmp 92) = u92 at e
      generalize a.eval (.tmp 93) = u93 at e
      generalize a.eval (.tmp 94) = u94 at e
      generalize a.eval (.tmp 95) = u95 at e
      generalize a.eval (.tmp 96) = u96 at e
      generalize a.eval (.tmp 97) = u97 at e
      generalize a.eval (.tmp 98) = u98 at e
      generalize a.eval (.tmp 99) = u99 at e
      generalize a.eval (.tmp 100) = u100 at e
      generalize a.eval (.tmp 101) = u101 at e
      subst e
      clear hfr hJ hsz hdf
      have hoW : OwnB W lo W.heap.size (.slice B2 m2 d2) (Ref.seq (X.lim false false p)) := (H3.out.2.2.2.2.1.below hG (Nat.le_refl _)).mono (Nat.le_refl _) hG.size
      have hr5 := Rd.lit W 5 [5, 0] [.int .u8 5, .int .u8 0] _ 2 rfl rfl rfl (by omega)
      have hbW : Below w1.heap.size w1 W := H3.out.2.2.2.2.2.1.trans (hG.mono H3.out.2.2.2.2.2.1.size)
      have hloW : lo ≤ W.heap.size := by have := hbW.size; omega
      have hfl : (Lim.bad false false p = true ∧ ((Cert.parse (Ref.wr (Ref.seq (k.els.map (·.2.2) ++ X.tail [X.ext [85, 29, 19] true (Ref.seq (X.lim false false p))])) (k.sig.take 100))).err : Int) = 9) ∨ (Lim.bad false false p = false ∧ ((Cert.parse (Ref.wr (Ref.seq (k.els.map (·.2.2) ++ X.tail [X.ext [85, 29, 19] true (Ref.seq (X.lim false false p))])) (k.sig.take 100))).err : Int) = 0 ∧ Cv.fl.ca = false ∧ Cv.fl.path = if false then (p : Int) else -1) := by
        rcases paths_parse k H1.out.1.path false false p hp with ⟨h1, h2⟩ | ⟨h1, s, h2, h3, h4⟩
        · exact .inl ⟨h1, by rw [h2]; rfl⟩
        · rw [h2] at hPv
          obtain ⟨_, _, _, hf, _⟩ := hPv.out
          exact .inr ⟨h1, by rw [h2]; rfl, by rw [hf]; exact h3, by rw [hf]; exact h4⟩
      clear hPv
      generalize ((Cert.parse (Ref.wr (Ref.seq (k.els.map (·.2.2) ++ X.tail [X.ext [85, 29, 19] true (Ref.seq (X.lim false false p))])) (k.sig.take 100))).err : Int) = er at hfl ⊢
      have hBo := H3.out.2.2.2.2.2.2.2.below hG H3.out.2.2.2.2.2.2.1.2
      have hng : ∀ g, (Value.slice B2 m2 d2).ownBlock = some g → g < w3.heap.size := fun g e => (H3.out.2.2.2.2.1.lt_ e).2
      have hng2 : ∀ g, (Value.slice B2 m2 d2).ownBlock = some g → g < go := fun g e => H3.out.2.2.2.2.2.2.1.1 g e
      have H35 := Lib.hid (And.intro (hoW.alloc (Nat.le_refl _) (.cells #[.int .u8 5, .int .u8 0] 5)) (And.intro hr5 (And.intro hbW (And.intro (Blk.alloc hBv (.cells #[.int .u8 5, .int .u8 0] 5)) (And.intro (hBo.alloc (.cells #[.int .u8 5, .int .u8 0] 5)) (And.intro hng (And.intro hng2 hfl)))))))
      clear hoW hr5 hbW hBv hG hBo hng hng2 hfl
      go_upto_region 14 with (first
        | (at_builtin; refine wpList_app rfl (.tmp 53) (.tmp 54) rfl lo W.heap.size _ (Ref.seq (X.lim false false p)) rfl H35.out.1 (by simp; omega) _ (some ⟨W.heap.size, 0, none⟩) 2 2 [5, 0] rfl H35.out.2.1.rds (by omega) ?_; intro v4 w4 ho4 hg4 hor4 hb4; obtain ⟨B4, m4, d4, rfl, hr4⟩ := ho4.rd)
        | fail)
      have hb14 : Below w1.heap.size w1 w4 := (H35.out.2.2.1.alloc (H35.out.2.2.1.size) _).trans (hb4.mono (by omega))
      have hB4v : Bc w4 gv Cv := Blk.grown H35.out.2.2.2.1 hg4 (fun e => by have := H35.out.2.2.2.2.2.1 gv e.symm; omega)
      have hB4o : Blk w4 go 5 #[.int .u8 85, .int .u8 29, .int .u8 19] := Blk.grown H35.out.2.2.2.2.1 hg4 (fun e => by have := H35.out.2.2.2.2.2.2.1 go e.symm; omega)
      have hro4 : Rd w4 w4.heap.size (some ⟨go, 0, none⟩) 3 3 [85, 29, 19] := rd_of_blk hB4o rfl rfl
      have H4 := Lib.hid (And.intro (H1.out.2.2.below hb14 H1.out.2.2.lt) (And.intro hro4 (And.intro hr4 (And.intro (H1.out.1.up hb14) (And.intro hB4v (H1.out.2.1.trans (hb14.mono H1.out.2.1.size)))))))
      have hfl := H35.out.2.2.2.2.2.2.2
      clear hb14 hB4v hB4o hro4 hr4 ho4 hg4 hor4 hb4 H35 hgB
      refine wp_region_two 11 10 (JL [(fun v _ => v = k.val (.slice A0 n0 c0) (.slice A1 n1 c1) (.slice A2 n2 c2)), (fun v _ => v = .slice (some ⟨go, 0, none⟩) 3 3), (fun v _ => v = .slice B4 m4 d4), (fun v w => RdT w v (X.ext [85, 29, 19] true (Ref.seq (X.lim false false p) ++ [5, 0]))), (RX [X.ext [85, 29, 19] true (Ref.seq (X.lim false false p) ++ [5, 0])]), (fun v w => RdT w v (Ref.wr (Ref.seq (k.els.map (·.2.2) ++ X.tail [X.ext [85, 29, 19] true (Ref.seq (X.lim false false p) ++ [5, 0])])) (k.sig.take 100))), (JP (w4.heap.size) (Ref.wr (Ref.seq (k.els.map (·.2.2) ++ X.tail [X.ext [85, 29, 19] true (Ref.seq (X.lim false false p) ++ [5, 0])])) (k.sig.take 100)) 0), (JP (w4.heap.size) (Ref.wr (Ref.seq (k.els.map (·.2.2) ++ X.tail [X.ext [85, 29, 19] true (Ref.seq (X.lim false false p) ++ [5, 0])])) (k.sig.take 100)) 0), (JP (w4.heap.size) (Ref.wr (Ref.seq (k.els.map (·.2.2) ++ X.tail [X.ext [85, 29, 19] true (Ref.seq (X.lim false false p) ++ [5, 0])])) (k.sig.take 100)) 1), (JP (w4.heap.size) (Ref.wr (Ref.seq (k.els.map (·.2.2) ++ X.tail [X.ext [85, 29, 19] true (Ref.seq (X.lim false false p) ++ [5, 0])])) (k.sig.take 100)) 2), (JP (w4.heap.size) (Ref.wr (Ref.seq (k.els.map (·.2.2) ++ X.tail [X.ext [85, 29, 19] true (Ref.seq (X.lim false false p) ++ [5, 0])])) (k.sig.take 100)) 3), (fun _ _ => True), (JP (w4.heap.size) (Ref.wr (Ref.seq (k.els.map (·.2.2) ++ X.tail [X.ext [85, 29, 19] true (Ref.seq (X.lim false false p) ++ [5, 0])])) (k.sig.take 100)) 2)]) (JV (w4.heap.size) (Ref.wr (Ref.seq (k.els.map (·.2.2) ++ X.tail [X.ext [85, 29, 19] true (Ref.seq (X.lim false false p) ++ [5, 0])])) (k.sig.take 100))) (Below w4.heap.size w4) RN (SN (w4.heap.size)) ?hm ?hmono ?hmonoS JV.rn ?hGR ?hGS ?hd ?hg ?hA ?hW ((Below.refl _ _).drew) ?hs ?hdone
      case hm => rfl
      case hmono => exact JL.rn (B := w4.heap.size) (Sta.cons (Sta.eq _ _) (Sta.cons (Sta.eq _ _) (Sta.cons (Sta.eq _ _) (Sta.cons (Sta.rdt _ _) (Sta.cons (Sta.rx _ _) (Sta.cons (Sta.rdt _ _) (Sta.cons (Sta.jp _ _ _) (Sta.cons (Sta.jp _ _ _) (Sta.cons (Sta.jp _ _ _) (Sta.cons (Sta.jp _ _ _) (Sta.cons (Sta.jp _ _ _) (Sta.cons (Sta.true _) (Sta.cons (Sta.jp _ _ _) (Sta.nil))))))))))))))
      case hmonoS => exact JL.sn (B := w4.heap.size) (Sta.cons (Sta.eq _ _) (Sta.cons (Sta.eq _ _) (Sta.cons (Sta.eq _ _) (Sta.cons (Sta.rdt _ _) (Sta.cons (Sta.rx _ _) (Sta.cons (Sta.rdt _ _) (Sta.cons (Sta.jp _ _ _) (Sta.cons (Sta.jp _ _ _) (Sta.cons (Sta.jp _ _ _) (Sta.cons (Sta.jp _ _ _) (Sta.cons (Sta.jp _ _ _) (Sta.cons (Sta.true _) (Sta.cons (Sta.jp _ _ _) (Sta.nil))))))))))))))
      case hGR => exact fun w w' h1 h2 => h1.trans (Below.mono h2 h1.size)
      case hGS => exact fun w w' h1 h2 => h1.trans h2.1
      case hd => show dstsOk _ 102 = true; decide +kernel
      case hg => decide +kernel
      case hA => decide +kernel
      case hW => decide +kernel
      case hs =>
        refine ⟨two_else (by decide) ?_, two_else (by decide) ?_, two_else (by decide) ?_, two_else (by decide) ?_, two_else (by decide) ?_, two_else (by decide) ?_, two_else (by decide) ?_, two_else (by decide) ?_, two_else (by decide) ?_, two_else (by decide) ?_, two_else (by decide) ?_, two_then ?_, two_else (by decide) ?_, trivial⟩
        · intro a W hfr hG hdep; exact N_case rfl (by simp) (hfr 3 (by decide +kernel)) (H4.out.1.below hG H4.out.1.lt)
        · intro a W hfr hG hdep; exact N_move rfl (by simp) (hfr 9 (by decide +kernel))
        · intro a W hfr hG hdep; exact N_move rfl (by simp) (hfr 8 (by decide +kernel))
        · intro a W hfr hG hdep; exact N_ext rfl (by simp) (hdep 1 (by decide +kernel)) rfl (hdep 2 (by decide +kernel)) (H4.out.2.1.up hG) (H4.out.2.2.1.up hG) (by simp) (by first | omega | (simp only [List.length_append, List.length_cons, List.length_nil]; omega))
        · intro a W hfr hG hdep; exact N_row1 rfl (by simp) (hdep 3 (by decide +kernel))
        · intro a W hfr hG hdep; exact N_with rfl (by simp) (hdep 0 (by decide +kernel)) (hdep 4 (by decide +kernel)) (by simp only [List.flatten_cons, List.flatten_nil, List.append_nil]; omega) (H4.out.2.2.2.1.up hG)
        · intro a W hfr hG hdep; exact N_parse (B := w4.heap.size) rfl (by simp) (hdep 5 (by decide +kernel))
        · intro a W hfr hG hdep; exact N_move rfl (by simp) (hdep 6 (by decide +kernel))
        · intro a W hfr hG hdep; exact N_ext0 (B := w4.heap.size) rfl (by simp) (hdep 7 (by decide +kernel))
        · intro a W hfr hG hdep; exact N_ext1 (B := w4.heap.size) rfl (by simp) (hdep 7 (by decide +kernel))
        · intro a W hfr hG hdep; exact N_newc (B := w4.heap.size) (b := Ref.wr (Ref.seq (k.els.map (·.2.2) ++ X.tail [X.ext [85, 29, 19] true (Ref.seq (X.lim false false p) ++ [5, 0])])) (k.sig.take 100)) rfl (by simp) hG.size
        · intro a W hfr hG hdep; exact N_store (p := 10) (fun _ _ => trivial) rfl rfl hG.size (hdep 10 (by decide +kernel)) rfl (hdep 8 (by decide +kernel))
        · intro a W hfr hG hdep; exact N_assign rfl (by simp) (hdep 9 (by decide +kernel))
      case hdone =>
        intro a Wx hdf hsz hfr hGx hJ hV
        have hV : JV (w4.heap.size) (Ref.wr (Ref.seq (k.els.map (·.2.2) ++ X.tail [X.ext [85, 29, 19] true (Ref.seq (X.lim false false p) ++ [5, 0])])) (k.sig.take 100)) (a.eval (.tmp 12)) Wx := hV
        obtain ⟨gvx, Cvx, hgvx, hgBx, hBvx, hPvx⟩ := hV
        have e := arr_eta a 102 hsz hdf
        rw [show (List.range 102).map (fun i => a.eval (.tmp i)) = a.eval (.tmp 0) :: a.eval (.tmp 1) :: a.eval (.tmp 2) :: a.eval (.tmp 3) :: a.eval (.tmp 4) :: a.eval (.tmp 5) :: a.eval (.tmp 6) :: a.eval (.tmp 7) :: a.eval (.tmp 8) :: a.eval (.tmp 9) :: a.eval (.tmp 10) :: a.eval (.tmp 11) :: a.eval (.tmp 12) :: a.eval (.tmp 13) :: a.eval (.tmp 14) :: a.eval (.tmp 15) :: a.eval (.tmp 16) :: a.eval (.tmp 17) :: a.eval (.tmp 18) :: a.eval (.tmp 19) :: a.eval (.tmp 20) :: a.eval (.tmp 21) :: a.eval (.tmp 22) :: a.eval (.tmp 23) :: a.eval (.tmp 24) :: a.eval (.tmp 25) :: a.eval (.tmp 26) :: a.eval (.tmp 27) :: a.eval (.tmp 28) :: a.eval (.tmp 29) :: a.eval (.tmp 30) :: a.eval (.tmp 31) :: a.eval (.tmp 32) :: a.eval (.tmp 33) :: a.eval (.tmp 34) :: a.eval (.tmp 35) :: a.eval (.tmp 36) :: a.eval (.tmp 37) :: a.eval (.tmp 38) :: a.eval (.tmp 39) :: a.eval (.tmp 40) :: a.eval (.tmp 41) :: a.eval (.tmp 42) :: a.eval (.tmp 43) :: a.eval (.tmp 44) :: a.eval (.tmp 45) :: a.eval (.tmp 46) :: a.eval (.tmp 47) :: a.eval (.tmp 48) :: a.eval (.tmp 49) :: a.eval (.tmp 50) :: a.eval (.tmp 51) :: a.eval (.tmp 52) :: a.eval (.tmp 53) :: a.eval (.tmp 54) :: a.eval (.tmp 55) :: a.eval (.tmp 56) :: a.eval (.tmp 57) :: a.eval (.tmp 58) :: a.eval (.tmp 59) :: a.eval (.tmp 60) :: a.eval (.tmp 61) :: a.eval (.tmp 62) :: a.eval (.tmp 63) :: a.eval (.tmp 64) :: a.eval (.tmp 65) :: a.eval (.tmp 66) :: a.eval (.tmp 67) :: a.eval (.tmp 68) :: a.eval (.tmp 69) :: a.eval (.tmp 70) :: a.eval (.tmp 71) :: a.eval (.tmp 72) :: a.eval (.tmp 73) :: a.eval (.tmp 74) :: a.eval (.tmp 75) :: a.eval (.tmp 76) :: a.eval (.tmp 77) :: a.eval (.tmp 78) :: a.eval (.tmp 79) :: a.eval (.tmp 80) :: a.eval (.tmp 81) :: a.eval (.tmp 82) :: a.eval (.tmp 83) :: a.eval (.tmp 84) :: a.eval (.tmp 85) :: a.eval (.tmp 86) :: a.eval (.tmp 87) :: a.eval (.tmp 88) :: a.eval (.tmp 89) :: a.eval (.tmp 90) :: a.eval (.tmp 91) :: a.eval (.tmp 92) :: a.eval (.tmp 93) :: a.eval (.tmp 94) :: a.eval (.tmp 95) :: a.eval (.tmp 96) :: a.eval (.tmp 97) :: a.eval (.tmp 98) :: a.eval (.tmp 99) :: a.eval (.tmp 100) :: a.eval (.tmp 101) :: [] from rfl] at e
        rw [hgvx] at e
        rw [show a.eval (.tmp 13) = .int .i64 ((Cert.parse (Ref.wr (Ref.seq (k.els.map (·.2.2) ++ X.tail [X.ext [85, 29, 19] true (Ref.seq (X.lim false false p) ++ [5, 0])])) (k.sig.take 100))).err : Int) from hJ 12 (by decide)] at e
        rw [show a.eval (.tmp 2) = .bool false from hfr 2 (by decide +kernel)] at e
        rw [show a.eval (.tmp 4) = .bool false from hfr 4 (by decide +kernel)] at e
        rw [show a.eval (.tmp 5) = .bool false from hfr 5 (by decide +kernel)] at e
        rw [show a.eval (.tmp 6) = .int .u16 (p : Int) from hfr 6 (by decide +kernel)] at e
        rw [show a.eval (.tmp 10) = .pointer (some ⟨gv, 0, none⟩) from hfr 10 (by decide +kernel)] at e
        rw [show a.eval (.tmp 11) = .int .i64 er from hfr 11 (by decide +kernel)] at e
        clear hgvx
        generalize a.eval (.tmp 0) = u0 at e
        generalize a.eval (.tmp 1) = u1 at e
        generalize a.eval (.tmp 3) = u3 at e
        generalize a.eval (.tmp 7) = u7 at e
        generalize a.eval (.tmp 8) = u8 at e
        generalize a.eval (.tmp 9) = u9 at e
        generalize a.eval (.tmp 14) = u14 at e
        generalize a.eval (.tmp 15) = u15 at e
        generalize a.eval (.tmp 16) = u16 at e
        generalize a.eval (.tmp 17) = u17 at e
        generalize a.eval (.tmp 18) = u18 at e
        generalize a.eval (.tmp 19) = u19 at e
        generalize a.eval (.tmp 20) = u20 at e
        generalize a.eval (.tmp 21) = u21 at e
        generalize a.eval (.tmp 22) = u22 at e
        generalize a.eval (.tmp 23) = u23 at e
        generalize a.eval (.tmp 24) = u24 at e
        generalize a.eval (.tmp 25) = u25 at e
        generalize a.eval (.tmp 26) = u26 at e
        generalize a.eval (.tmp 27) = u27 at e
        generalize a.eval (.tmp 28) = u28 at e
        generalize a.eval (.tmp 29) = u29 at e
        generalize a.eval (.tmp 30) = u30 at e
        generalize a.eval (.tmp 31) = u31 at e
        generalize a.eval (.tmp 32) = u32 at e
        generalize a.eval (.tmp 33) = u33 at e
        generalize a.eval (.tmp 34) = u34 at e
        generalize a.eval (.tmp 35) = u35 at e
        generalize a.eval (.tmp 36) = u36 at e
        generalize a.eval (.tmp 37) = u37 at e
        generalize a.eval (.tmp 38) = u38 at e
        generalize a.eval (.tmp 39) = u39 at e
        generalize a.eval (.tmp 40) = u40 at e
        generalize a.eval (.tmp 41) = u41 at e
        generalize a.eval (.tmp 42) = u42 at e
        generalize a.eval (.tmp 43) = u43 at e
        generalize a.eval (.tmp 44) = u44 at e
        generalize a.eval (.tmp 45) = u45 at e
        generalize a.eval (.tmp 46) = u46 at e
        generalize a.eval (.tmp 47) = u47 at e
        generalize a.eval (.tmp 48) = u48 at e
        generalize a.eval (.tmp 49) = u49 at e
        generalize a.eval (.tmp 50) = u50 at e
        generalize a.eval (.tmp 51) = u51 at e
        generalize a.eval (.tmp 52) = u52 at e
        generalize a.eval (.tmp 53) = u53 at e
        generalize a.eval (.tmp 54) = u54 at e
        generalize a.eval (.tmp 55) = u55 at e
        generalize a.eval (.tmp 56) = u56 at e
        generalize a.eval (.tmp 57) = u57 at e
        generalize a.eval (.tmp 58) = u58 at e
        generalize a.eval (.tmp 59) = u59 at e
        generalize a.eval (.tmp 60) = u60 at e
        generalize a.eval (.tmp 61) = u61 at e
        generalize a.eval (.tmp 62) = u62 at e
        generalize a.eval (.tmp 63) = u63 at e
        generalize a.eval (.tmp 64) = u64 at e
        generalize a.eval (.tmp 65) = u65 at e
        generalize a.eval (.tmp 66) = u66 at e
        generalize a.eval (.tmp 67) = u67 at e
        generalize a.eval (.tmp 68) = u68 at e
        generalize a.eval (.tmp 69) = u69 at e
        generalize a.eval (.tmp 70) = u70 at e
        generalize a.eval (.tmp 71) = u71 at e
        generalize a.eval (.tmp 72) = u72 at e
        generalize a.eval (.tmp 73) = u73 at e
        generalize a.eval (.tmp 74) = u74 at e
        generalize a.eval (.tmp 75) = u75 at e
        generalize a.eval (.tmp 76) = u76 at e
        generalize a.eval (.tmp 77) = u77 at e
        generalize a.eval (.tmp 78) = u78 at e
        generalize a.eval (.tmp 79) = u79 at e
        generalize a.eval (.tmp 80) = u80 at e
        generalize a.eval (.tmp 81) = u81 at e
        generalize a.eval (.tmp 82) = u82 at e
        generalize a.eval (.tmp 83) = u83 at e
        generalize a.eval (.tmp 84) = u84 at e
        generalize a.eval (.tmp 85) = u85 at e
        generalize a.eval (.tmp 86) = u86 at e
        generalize a.eval (.tmp 87) = u87 at e
        generalize a.eval (.tmp 88) = u88 at e
        generalize a.eval (.tmp 89) = u89 at e
        generalize a.eval (.tmp 90) = u90 at e
        generalize a.eval (.tmp 91) = u91 at e
        generalize a.eval (.tmp 92) = u92 at e
        generalize a.eval (.tmp 93) = u93 at e
        generalize a.eval (.tmp 94) = u94 at e
        generalize a.eval (.tmp 95) = u95 at e
        generalize a.eval (.tmp 96) = u96 at e
        generalize a.eval (.tmp 97) = u97 at e
        generalize a.eval (.tmp 98) = u98 at e
        generalize a.eval (.tmp 99) = u99 at e
        generalize a.eval (.tmp 100) = u100 at e
        generalize a.eval (.tmp 101) = u101 at e
        subst e
        clear hfr hJ hsz hdf
        have herr : ((Cert.parse (Ref.wr (Ref.seq (k.els.map (·.2.2) ++ X.tail [X.ext [85, 29, 19] true (Ref.seq (X.lim false false p) ++ [5, 0])])) (k.sig.take 100))).err : Int) = 9 := by rw [paths_more k H1.out.1.path false false p]; rfl
        rw [herr]
        clear herr hPvx hBvx hgBx
        have hBW := H4.out.2.2.2.2.1.below hGx H4.out.2.2.2.2.1.lt
        have hbwW := H4.out.2.2.2.2.2.trans (hGx.mono H4.out.2.2.2.2.2.size)
        have HW := Lib.hid hbwW
        have kca : Wx.cell? ⟨gv, 20, none⟩ = some (.bool Cv.fl.ca) := hBW.at_ 20
        have kpa : Wx.cell? ⟨gv, 21, none⟩ = some (.int .i64 Cv.fl.path) := hBW.at_ 21
        clear hbwW hBW hGx H4 hxl hxl2 hlm hlb
        rcases hfl with ⟨hb, rfl⟩ | ⟨hb, rfl, hca, hpa⟩
        · simp [Lim.bad] at hb
        · skip
          rw [hca] at kca
          rw [hpa] at kpa
          simp only [Bool.false_eq_true, if_false, if_true] at kpa
          clear hb hca hpa
          go_wp2_with fail
          refine (works12_any _).mono ?_
          rintro e wz ⟨rfl, hbz⟩
          go_wp2
          go_ret
          exact ⟨rfl, HW.out.trans (hbz.mono HW.out.size)⟩

theorem paths_tf (k : Kase) (A0 A1 A2 : Option Addr) (n0 c0 n1 c1 n2 c2 p : Nat) (hp : p < 65536) (w : World) (hk : k.come w A0 A1 A2 n0 c0 n1 c1 n2 c2) :
    Calls Try.prog 8 #[.agg (k.lrow (.slice A0 n0 c0) (.slice A1 n1 c1) (.slice A2 n2 c2) true false p)] w (LawPost w) := by
  obtain ⟨N, hN⟩ : ∃ N, N = k.lrow (.slice A0 n0 c0) (.slice A1 n1 c1) (.slice A2 n2 c2) true false p := ⟨_, rfl⟩
  rw [← hN]
  have hBN := Blk.new w 65 N
  have hb0 : Below w.heap.size w (w.alloc (.cells N 65)) := (Below.refl _ w).alloc (Nat.le_refl _) _
  have HK := Lib.hid (And.intro (hk.up hb0) hb0)
  have hcase : ∀ j v, (k.row (.slice A0 n0 c0) (.slice A1 n1 c1) (.slice A2 n2 c2)).toList[j]? = some v → (w.alloc (.cells N 65)).cell? ⟨w.heap.size, 0 + j, none⟩ = some v := fun j v hv => by
    rw [Nat.zero_add, hBN.cell j, hN]
    unfold Kase.lrow
    have hj : j < (k.row (.slice A0 n0 c0) (.slice A1 n1 c1) (.slice A2 n2 c2)).size := by
      have := (List.getElem?_eq_some_iff.1 hv).1
      simpa using this
    rw [Array.getElem?_append_left hj]
    simpa using hv
  have q22 : N[22]? = some (.bool true) := by rw [hN]; rfl
  have q23 : N[23]? = some (.bool false) := by rw [hN]; rfl
  have q24 : N[24]? = some (.int .u16 (p : Int)) := by rw [hN]; rfl
  have HC := Lib.hid (And.intro hcase (And.intro q22 (And.intro q23 (And.intro q24 hBN))))
  clear q22 q23 q24 hBN hcase hk hb0 hN
  go_enter Try.func8, Try.ntmps8
  go_upto_region 2 with (first
    | ((with_reducible refine at_load_case ?_); refine wpList_load_case2 rfl _ rfl w.heap.size k (.slice A0 n0 c0) (.slice A1 n1 c1) (.slice A2 n2 c2) rfl HC.out.1 ?_)
    | ((with_reducible refine at_store_case ?_); refine wpList_store_case rfl _ _ rfl (w.heap.size + 1) zrow k A0 A1 A2 n0 c0 n1 c1 n2 c2 rfl rfl rfl (Blk.new' _ _ (by simp)) ?_; intro w1 hB1 hg1)
    | fail)
  have hb01 : Below (w.heap.size + 1) (w.alloc (.cells N 65)) w1 := by
    refine Below.grown (((Below.refl _ _).alloc (by simp) _)) hg1 (by simp) (fun j hj => by cases hj; exact Nat.le_refl _)
  have hb1 : Below w.heap.size w w1 := HK.out.2.trans (hb01.mono (by omega))
  have hb01' : Below (w.alloc (.cells N 65)).heap.size (w.alloc (.cells N 65)) w1 := by simpa using hb01
  have hBN1 := HC.out.2.2.2.2.below hb01 (by omega)
  have q22 : w1.cell? ⟨w.heap.size, 22, none⟩ = some (.bool true) := (hBN1.cell 22).trans HC.out.2.1
  have q23 : w1.cell? ⟨w.heap.size, 23, none⟩ = some (.bool false) := (hBN1.cell 23).trans HC.out.2.2.1
  have q24 : w1.cell? ⟨w.heap.size, 24, none⟩ = some (.int .u16 (p : Int)) := (hBN1.cell 24).trans HC.out.2.2.2.1
  have H1 := Lib.hid (And.intro (HK.out.1.up hb01') (And.intro hb1 hB1))
  clear hb01 hb1 hb01' hBN1 hB1 hg1 HC HK
  have hsz1 : w.heap.size + 1 < w1.heap.size := H1.out.2.2.lt
  have hry : Rd (w1.alloc (.cells #[.int .u8 1, .int .u8 1, .int .u8 255] 5)) _ (some ⟨w1.heap.size, 0, none⟩) 3 3 [1, 1, 255] := Rd.lit w1 5 [1, 1, 255] [.int .u8 1, .int .u8 1, .int .u8 255] _ 3 rfl rfl rfl (by omega)
  have hty : RdT (w1.alloc (.cells #[.int .u8 1, .int .u8 1, .int .u8 255] 5)) (.slice (some ⟨w1.heap.size, 0, none⟩) 3 3) [1, 1, 255] := RdT.blk (heap_alloc_new w1 _) hry
  have hty2 := hty.alloc (.cells #[.slice (some ⟨w1.heap.size, 0, none⟩) 3 3] 22)
  have hgc : w1.heap.size + 1 = (w1.alloc (.cells #[.int .u8 1, .int .u8 1, .int .u8 255] 5)).heap.size := by simp
  have hcell : ((w1.alloc (.cells #[.int .u8 1, .int .u8 1, .int .u8 255] 5)).alloc (.cells #[.slice (some ⟨w1.heap.size, 0, none⟩) 3 3] 22)).cell? ⟨w1.heap.size + 1, 0, none⟩ = some (.slice (some ⟨w1.heap.size, 0, none⟩) 3 3) := by
    have h := Blk.cell (Blk.new (w1.alloc (.cells #[.int .u8 1, .int .u8 1, .int .u8 255] 5)) 22 #[.slice (some ⟨w1.heap.size, 0, none⟩) 3 3]) 0
    rw [← hgc] at h
    exact h
  have hby : Below w1.heap.size w1 ((w1.alloc (.cells #[.int .u8 1, .int .u8 1, .int .u8 255] 5)).alloc (.cells #[.slice (some ⟨w1.heap.size, 0, none⟩) 3 3] 22)) := ((Below.refl _ w1).alloc (Nat.le_refl _) _).alloc (by simp) _
  have HY := Lib.hid (And.intro hty2 (And.intro hcell hby))
  clear hry hty hty2 hgc hcell hby
  go_upto_region 8 with (first
    | (at_builtin; refine wpList_xs rfl (.tmp 24) (.tmp 26) rfl w1.heap.size _ [] rfl XS.nil_ (by simp; omega) (w1.heap.size + 1) _ [1, 1, 255] rfl HY.out.2.1 (by simp) HY.out.1 (by simp) ?_; intro vy wy hXy hBy; obtain ⟨Ay, cy, rfl, hrdly⟩ := hXy.rdl)
    | fail)
  have hb1y : Below w1.heap.size w1 wy := HY.out.2.2.trans hBy
  have q23 : wy.cell? ⟨w.heap.size, 23, none⟩ = some (.bool false) := (hb1y.cell (p := ⟨w.heap.size, 23, none⟩) (show w.heap.size < w1.heap.size by omega)).trans q23
  have HX := Lib.hid (And.intro hXy (And.intro hb1y hrdly))
  clear hXy hb1y hBy HY hrdly
  go_wp2_with fail
  refine (refSeq_any _ _ _ _ wy HX.out.2.2 (by simp) (by unfold cat; simp; try omega)).mono ?_
  rintro en w2 ⟨B2, m2, d2, rfl, ho2, hbs0⟩
  have hbz1 := HX.out.2.1
  have hszz := hbz1.size
  have hbs : Below w1.heap.size w1 w2 := hbz1.trans (hbs0.mono hszz)
  obtain ⟨lo, hlo⟩ : ∃ lo, lo = w1.heap.size := ⟨_, rfl⟩
  have ho2 : OwnB w2 lo w2.heap.size (.slice B2 m2 d2) (Ref.seq (X.lim true false p)) := ho2.mono (by omega) (Nat.le_refl _)
  have hlo1 : w1.heap.size ≤ lo ∧ lo ≤ w1.heap.size := by omega
  clear hbs0 hbz1 hszz HX
  · skip
    dsimp only
    have hlm : (Ref.seq (X.lim true false p)).length ≤ 40 := by rw [← limb_raw]; exact (limb_wf true false p).2
    have hlb : (Ref.seq (X.lim true false p)).length ≤ 1000 := by omega
    have hl2 := ownB_len ho2
    have hs2 := hbs.size
    have hro := Rd.lit w2 5 [85, 29, 19] [.int .u8 85, .int .u8 29, .int .u8 19] _ 3 rfl rfl rfl (by omega)
    obtain ⟨w3, hw3⟩ : ∃ w3, w3 = w2.alloc (.cells #[.int .u8 85, .int .u8 29, .int .u8 19] 5) := ⟨_, rfl⟩
    have hb23 : Below w2.heap.size w2 w3 := by rw [hw3]; exact (Below.refl _ w2).alloc (Nat.le_refl _) _
    have hro3 : Rd w3 w3.heap.size (some ⟨w2.heap.size, 0, none⟩) 3 3 [85, 29, 19] := by rw [hw3]; exact hro
    obtain ⟨go, hgo⟩ : ∃ go, go = w2.heap.size := ⟨_, rfl⟩
    rw [← hgo] at hro3
    have hb13 : Below w1.heap.size w1 w3 := hbs.trans (hb23.mono hs2)
    have ho3 : OwnB w3 lo w3.heap.size (.slice B2 m2 d2) (Ref.seq (X.lim true false p)) := (ho2.below hb23 (Nat.le_refl _)).mono (Nat.le_refl _) hb23.size
    have hBo3 : Blk w3 go 5 #[.int .u8 85, .int .u8 29, .int .u8 19] := by rw [hw3, hgo]; exact Blk.new w2 _ _
    have hng3 : (∀ g, (Value.slice B2 m2 d2).ownBlock = some g → g < go) ∧ go < w3.heap.size := ⟨fun g e => by rw [hgo]; exact (ho2.lt_ e).2, hBo3.lt⟩
    have H3 := Lib.hid (And.intro (H1.out.2.2.below hb13 H1.out.2.2.lt) (And.intro hro3 (And.intro ho3.rdx (And.intro (H1.out.1.up hb13) (And.intro ho3 (And.intro hb13 (And.intro hng3 hBo3)))))))
    clear hro hro3 ho3 ho2 hb13 hb23 hBo3 hng3
    have hxl : (X.ext [85, 29, 19] true (Ref.seq (X.lim true false p))).length ≤ 2000 := by
      have h1 := (extq_mk (f := Fl.bare) (q := true) (body := (E.limb true false p).2.2) oid_basic (by simp) (by have := (limb_wf true false p).2; omega)).2.2.2
      rw [extq_raw, limb_raw] at h1
      omega
    have hxl2 : (X.ext [85, 29, 19] true (Ref.seq (X.lim true false p) ++ [5, 0])).length ≤ 2000 := by
      have h1 := (extq_mk (f := Fl.bare) (q := true) (body := (E.limb true false p).2.2 ++ [5, 0]) oid_basic (by simp) (by have := (limb_wf true false p).2; rw [List.length_append]; simp; omega)).2.2.2
      rw [extq_raw, limb_raw] at h1
      omega
    go_upto_region 12 with fail
    rw [← hw3, ← hgo]
    clear hw3 hgo
    refine wp_region_two 11 10 (JL [(fun v _ => v = k.val (.slice A0 n0 c0) (.slice A1 n1 c1) (.slice A2 n2 c2)), (fun v _ => v = .slice (some ⟨go, 0, none⟩) 3 3), (fun v _ => v = .slice B2 m2 d2), (fun v w => RdT w v (X.ext [85, 29, 19] true (Ref.seq (X.lim true false p)))), (RX [X.ext [85, 29, 19] true (Ref.seq (X.lim true false p))]), (fun v w => RdT w v (Ref.wr (Ref.seq (k.els.map (·.2.2) ++ X.tail [X.ext [85, 29, 19] true (Ref.seq (X.lim true false p))])) (k.sig.take 100))), (JP (w3.heap.size) (Ref.wr (Ref.seq (k.els.map (·.2.2) ++ X.tail [X.ext [85, 29, 19] true (Ref.seq (X.lim true false p))])) (k.sig.take 100)) 0), (JP (w3.heap.size) (Ref.wr (Ref.seq (k.els.map (·.2.2) ++ X.tail [X.ext [85, 29, 19] true (Ref.seq (X.lim true false p))])) (k.sig.take 100)) 0), (JP (w3.heap.size) (Ref.wr (Ref.seq (k.els.map (·.2.2) ++ X.tail [X.ext [85, 29, 19] true (Ref.seq (X.lim true false p))])) (k.sig.take 100)) 1), (JP (w3.heap.size) (Ref.wr (Ref.seq (k.els.map (·.2.2) ++ X.tail [X.ext [85, 29, 19] true (Ref.seq (X.lim true false p))])) (k.sig.take 100)) 2), (JP (w3.heap.size) (Ref.wr (Ref.seq (k.els.map (·.2.2) ++ X.tail [X.ext [85, 29, 19] true (Ref.seq (X.lim true false p))])) (k.sig.take 100)) 3), (fun _ _ => True), (JP (w3.heap.size) (Ref.wr (Ref.seq (k.els.map (·.2.2) ++ X.tail [X.ext [85, 29, 19] true (Ref.seq (X.lim true false p))])) (k.sig.take 100)) 2)]) (JV (w3.heap.size) (Ref.wr (Ref.seq (k.els.map (·.2.2) ++ X.tail [X.ext [85, 29, 19] true (Ref.seq (X.lim true false p))])) (k.sig.take 100))) (Below w3.heap.size w3) RN (SN (w3.heap.size)) ?hm ?hmono ?hmonoS JV.rn ?hGR ?hGS ?hd ?hg ?hA ?hW ((Below.refl _ _).drew) ?hs ?hdone
    case hm => rfl
    case hmono => exact JL.rn (B := w3.heap.size) (Sta.cons (Sta.eq _ _) (Sta.cons (Sta.eq _ _) (Sta.cons (Sta.eq _ _) (Sta.cons (Sta.rdt _ _) (Sta.cons (Sta.rx _ _) (Sta.cons (Sta.rdt _ _) (Sta.cons (Sta.jp _ _ _) (Sta.cons (Sta.jp _ _ _) (Sta.cons (Sta.jp _ _ _) (Sta.cons (Sta.jp _ _ _) (Sta.cons (Sta.jp _ _ _) (Sta.cons (Sta.true _) (Sta.cons (Sta.jp _ _ _) (Sta.nil))))))))))))))
    case hmonoS => exact JL.sn (B := w3.heap.size) (Sta.cons (Sta.eq _ _) (Sta.cons (Sta.eq _ _) (Sta.cons (Sta.eq _ _) (Sta.cons (Sta.rdt _ _) (Sta.cons (Sta.rx _ _) (Sta.cons (Sta.rdt _ _) (Sta.cons (Sta.jp _ _ _) (Sta.cons (Sta.jp _ _ _) (Sta.cons (Sta.jp _ _ _) (Sta.cons (Sta.jp _ _ _) (Sta.cons (Sta.jp _ _ _) (Sta.cons (Sta.true _) (Sta.cons (Sta.jp _ _ _) (Sta.nil))))))))))))))
    case hGR => exact fun w w' h1 h2 => h1.trans (Below.mono h2 h1.size)
    case hGS => exact fun w w' h1 h2 => h1.trans h2.1
    case hd => show dstsOk _ 102 = true; decide +kernel
    case hg => decide +kernel
    case hA => decide +kernel
    case hW => decide +kernel
    case hs =>
      refine ⟨two_else (by decide) ?_, two_else (by decide) ?_, two_else (by decide) ?_, two_else (by decide) ?_, two_else (by decide) ?_, two_else (by decide) ?_, two_else (by decide) ?_, two_else (by decide) ?_, two_else (by decide) ?_, two_else (by decide) ?_, two_else (by decide) ?_, two_then ?_, two_else (by decide) ?_, trivial⟩
      · intro a W hfr hG hdep; exact N_case rfl (by simp) (hfr 3 (by decide +kernel)) (H3.out.1.below hG H3.out.1.lt)
      · intro a W hfr hG hdep; exact N_move rfl (by simp) (hfr 9 (by decide +kernel))
      · intro a W hfr hG hdep; exact N_move rfl (by simp) (hfr 8 (by decide +kernel))
      · intro a W hfr hG hdep; exact N_ext rfl (by simp) (hdep 1 (by decide +kernel)) rfl (hdep 2 (by decide +kernel)) (H3.out.2.1.up hG) (H3.out.2.2.1.up hG) (by simp) (by first | omega | (simp only [List.length_append, List.length_cons, List.length_nil]; omega))
      · intro a W hfr hG hdep; exact N_row1 rfl (by simp) (hdep 3 (by decide +kernel))
      · intro a W hfr hG hdep; exact N_with rfl (by simp) (hdep 0 (by decide +kernel)) (hdep 4 (by decide +kernel)) (by simp only [List.flatten_cons, List.flatten_nil, List.append_nil]; omega) (H3.out.2.2.2.1.up hG)
      · intro a W hfr hG hdep; exact N_parse (B := w3.heap.size) rfl (by simp) (hdep 5 (by decide +kernel))
      · intro a W hfr hG hdep; exact N_move rfl (by simp) (hdep 6 (by decide +kernel))
      · intro a W hfr hG hdep; exact N_ext0 (B := w3.heap.size) rfl (by simp) (hdep 7 (by decide +kernel))
      · intro a W hfr hG hdep; exact N_ext1 (B := w3.heap.size) rfl (by simp) (hdep 7 (by decide +kernel))
      · intro a W hfr hG hdep; exact N_newc (B := w3.heap.size) (b := Ref.wr (Ref.seq (k.els.map (·.2.2) ++ X.tail [X.ext [85, 29, 19] true (Ref.seq (X.lim true false p))])) (k.sig.take 100)) rfl (by simp) hG.size
      · intro a W hfr hG hdep; exact N_store (p := 10) (fun _ _ => trivial) rfl rfl hG.size (hdep 10 (by decide +kernel)) rfl (hdep 8 (by decide +kernel))
      · intro a W hfr hG hdep; exact N_assign rfl (by simp) (hdep 9 (by decide +kernel))
    case hdone =>
      intro a W hdf hsz hfr hG hJ hV
      have hV : JV (w3.heap.size) (Ref.wr (Ref.seq (k.els.map (·.2.2) ++ X.tail [X.ext [85, 29, 19] true (Ref.seq (X.lim true false p))])) (k.sig.take 100)) (a.eval (.tmp 10)) W := hV
      obtain ⟨gv, Cv, hgv, hgB, hBv, hPv⟩ := hV
      have e := arr_eta a 102 hsz hdf
      rw [show (List.range 102).map (fun i => a.eval (.tmp i)) = a.eval (.tmp 0) :: a.eval (.tmp 1) :: a.eval (.tmp 2) :: a.eval (.tmp 3) :: a.eval (.tmp 4) :: a.eval (.tmp 5) :: a.eval (.tmp 6) :: a.eval (.tmp 7) :: a.eval (.tmp 8) :: a.eval (.tmp 9) :: a.eval (.tmp 10) :: a.eval (.tmp 11) :: a.eval (.tmp 12) :: a.eval (.tmp 13) :: a.eval (.tmp 14) :: a.eval (.tmp 15) :: a.eval (.tmp 16) :: a.eval (.tmp 17) :: a.eval (.tmp 18) :: a.eval (.tmp 19) :: a.eval (.tmp 20) :: a.eval (.tmp 21) :: a.eval (.tmp 22) :: a.eval (.tmp 23) :: a.eval (.tmp 24) :: a.eval (.tmp 25) :: a.eval (.tmp 26) :: a.eval (.tmp 27) :: a.eval (.tmp 28) :: a.eval (.tmp 29) :: a.eval (.tmp 30) :: a.eval (.tmp 31) :: a.eval (.tmp 32) :: a.eval (.tmp 33) :: a.eval (.tmp 34) :: a.eval (.tmp 35) :: a.eval (.tmp 36) :: a.eval (.tmp 37) :: a.eval (.tmp 38) :: a.eval (.tmp 39) :: a.eval (.tmp 40) :: a.eval (.tmp 41) :: a.eval (.tmp 42) :: a.eval (.tmp 43) :: a.eval (.tmp 44) :: a.eval (.tmp 45) :: a.eval (.tmp 46) :: a.eval (.tmp 47) :: a.eval (.tmp 48) :: a.eval (.tmp 49) :: a.eval (.tmp 50) :: a.eval (.tmp 51) :: a.eval (.tmp 52) :: a.eval (.tmp 53) :: a.eval (.tmp 54) :: a.eval (.tmp 55) :: a.eval (.tmp 56) :: a.eval (.tmp 57) :: a.eval (.tmp 58) :: a.eval (.tmp 59) :: a.eval (.tmp 60) :: a.eval (.tmp 61) :: a.eval (.tmp 62) :: a.eval (.tmp 63) :: a.eval (.tmp 64) :: a.eval (.tmp 65) :: a.eval (.tmp 66) :: a.eval (.tmp 67) :: a.eval (.tmp 68) :: a.eval (.tmp 69) :: a.eval (.tmp 70) :: a.eval (.tmp 71) :: a.eval (.tmp 72) :: a.eval (.tmp 73) :: a.eval (.tmp 74) :: a.eval (.tmp 75) :: a.eval (.tmp 76) :: a.eval (.tmp 77) :: a.eval (.tmp 78) :: a.eval (.tmp 79) :: a.eval (.tmp 80) :: a.eval (.tmp 81) :: a.eval (.tmp 82) :: a.eval (.tmp 83) :: a.eval (.tmp 84) :: a.eval (.tmp 85) :: a.eval (.tmp 86) :: a.eval (.tmp 87) :: a.eval (.tmp 88) :: a.eval (.tmp 89) :: a.eval (.tmp 90) :: a.eval (.tmp 91) :: a.eval (.tmp 92) :: a.eval (.tmp 93) :: a.eval (.tmp 94) :: a.eval (.tmp 95) :: a.eval (.tmp 96) :: a.eval (.tmp 97) :: a.eval (.tmp 98) :: a.eval (.tmp 99) :: a.eval (.tmp 100) :: a.eval (.tmp 101) :: [] from rfl] at e
      rw [hgv] at e
      rw [show a.eval (.tmp 11) = .int .i64 ((Cert.parse (Ref.wr (Ref.seq (k.els.map (·.2.2) ++ X.tail [X.ext [85, 29, 19] true (Ref.seq (X.lim true false p))])) (k.sig.take 100))).err : Int) from hJ 12 (by decide)] at e
      rw [show a.eval (.tmp 2) = .bool false from hfr 2 (by decide +kernel)] at e
      rw [show a.eval (.tmp 3) = .pointer (some ⟨w.heap.size + 1, 0, none⟩) from hfr 3 (by decide +kernel)] at e
      rw [show a.eval (.tmp 4) = .bool true from hfr 4 (by decide +kernel)] at e
      rw [show a.eval (.tmp 5) = .bool false from hfr 5 (by decide +kernel)] at e
      rw [show a.eval (.tmp 6) = .int .u16 (p : Int) from hfr 6 (by decide +kernel)] at e
      rw [show a.eval (.tmp 8) = .slice B2 m2 d2 from hfr 8 (by decide +kernel)] at e
      rw [show a.eval (.tmp 9) = .slice (some ⟨go, 0, none⟩) 3 3 from hfr 9 (by decide +kernel)] at e
      clear hgv
      generalize a.eval (.tmp 0) = u0 at e
      generalize a.eval (.tmp 1) = u1 at e
      generalize a.eval (.tmp 7) = u7 at e
      generalize a.eval (.tmp 12) = u12 at e
      generalize a.eval (.tmp 13) = u13 at e
      generalize a.eval (.tmp 14) = u14 at e
      generalize a.eval (.tmp 15) = u15 at e
      generalize a.eval (.tmp 16) = u16 at e
      generalize a.eval (.tmp 17) = u17 at e
      generalize a.eval (.tmp 18) = u18 at e
      generalize a.eval (.tmp 19) = u19 at e
      generalize a.eval (.tmp 20) = u20 at e
      generalize a.eval (.tmp 21) = u21 at e
      generalize a.eval (.tmp 22) = u22 at e
      generalize a.eval (.tmp 23) = u23 at e
      generalize a.eval (.tmp 24) = u24 at e
      generalize a.eval (.tmp 25) = u25 at e
      generalize a.eval (.tmp 26) = u26 at e
      generalize a.eval (.tmp 27) = u27 at e
      generalize a.eval (.tmp 28) = u28 at e
      generalize a.eval (.tmp 29) = u29 at e
      generalize a.eval (.tmp 30) = u30 at e
      generalize a.eval (.tmp 31) = u31 at e
      generalize a.eval (.tmp 32) = u32 at e
      generalize a.eval (.tmp 33) = u33 at e
      generalize a.eval (.tmp 34) = u34 at e
      generalize a.eval (.tmp 35) = u35 at e
      generalize a.eval (.tmp 36) = u36 at e
      generalize a.eval (.tmp 37) = u37 at e
      generalize a.eval (.tmp 38) = u38 at e
      generalize a.eval (.tmp 39) = u39 at e
      generalize a.eval (.tmp 40) = u40 at e
      generalize a.eval (.tmp 41) = u41 at e
      generalize a.eval (.tmp 42) = u42 at e
      generalize a.eval (.tmp 43) = u43 at e
      generalize a.eval (.tmp 44) = u44 at e
      generalize a.eval (.tmp 45) = u45 at e
      generalize a.eval (.tmp 46) = u46 at e
      generalize a.eval (.tmp 47) = u47 at e
      generalize a.eval (.tmp 48) = u48 at e
      generalize a.eval (.tmp 49) = u49 at e
      generalize a.eval (.tmp 50) = u50 at e
      generalize a.eval (.tmp 51) = u51 at e
      generalize a.eval (.tmp 52) = u52 at e
      generalize a.eval (.tmp 53) = u53 at e
      generalize a.eval (.tmp 54) = u54 at e
      generalize a.eval (.tmp 55) = u55 at e
      generalize a.eval (.tmp 56) = u56 at e
      generalize a.eval (.tmp 57) = u57 at e
      generalize a.eval (.tmp 58) = u58 at e
      generalize a.eval (.tmp 59) = u59 at e
      generalize a.eval (.tmp 60) = u60 at e
      generalize a.eval (.tmp 61) = u61 at e
      generalize a.eval (.tmp 62) = u62 at e
      generalize a.eval (.tmp 63) = u63 at e
      generalize a.eval (.tmp 64) = u64 at e
      generalize a.eval (.tmp 65) = u65 at e
      generalize a.eval (.tmp 66) = u66 at e
      generalize a.eval (.tmp 67) = u67 at e
      generalize a.eval (.tmp 68) = u68 at e
      generalize a.eval (.tmp 69) = u69 at e
      generalize a.eval (.tmp 70) = u70 at e
      generalize a.eval (.tmp 71) = u71 at e
      generalize a.eval (.tmp 72) = u72 at e
      generalize a.eval (.tmp 73) = u73 at e
      generalize a.eval (.tmp 74) = u74 at e
      generalize a.eval (.tmp 75) = u75 at e
      generalize a.eval (.tmp 76) = u76 at e
      generalize a.eval (.tmp 77) = u77 at e
      generalize a.eval (.tmp 78) = u78 at e
      generalize a.eval (.tmp 79) = u79 at e
      generalize a.eval (.tmp 80) = u80 at e
      generalize a.eval (.tmp 81) = u81 at e
      generalize a.eval (.tmp 82) = u82 at e
      generalize a.eval (.tmp 83) = u83 at e
      generalize a.eval (.tmp 84) = u84 at e
      generalize a.eval (.tmp 85) = u85 at e
      generalize a.eval (.tmp 86) = u86 at e
      generalize a.eval (.tmp 87) = u87 at e
      generalize a.eval (.tmp 88) = u88 at e
      generalize a.eval (.tmp 89) = u89 at e
      generalize a.eval (.tmp 90) = u90 at e
      generalize a.eval (.tmp 91) = u91 at e
      generalize a.eval (.tmp 92) = u92 at e
      generalize a.eval (.tmp 93) = u93 at e
      generalize a.eval (.tmp 94) = u94 at e
      generalize a.eval (.tmp 95) = u95 at e
      generalize a.eval (.tmp 96) = u96 at e
      generalize a.eval (.tmp 97) = u97 at e
      generalize a.eval (.tmp 98) = u98 at e
      generalize a.eval (.tmp 99) = u99 at e
      generalize a.eval (.tmp 100) = u100 at e
      generalize a.eval (.tmp 101) = u101 at e
      subst e
      clear hfr hJ hsz hdf
      have hoW : OwnB W lo W.heap.size (.slice B2 m2 d2) (Ref.seq (X.lim true false p)) := (H3.out.2.2.2.2.1.below hG (Nat.le_refl _)).mono (Nat.le_refl _) hG.size
      have hr5 := Rd.lit W 5 [5, 0] [.int .u8 5, .int .u8 0] _ 2 rfl rfl rfl (by omega)
      have hbW : Below w1.heap.size w1 W := H3.out.2.2.2.2.2.1.trans (hG.mono H3.out.2.2.2.2.2.1.size)
      have hloW : lo ≤ W.heap.size := by have := hbW.size; omega
      have hfl : (Lim.bad true false p = true ∧ ((Cert.parse (Ref.wr (Ref.seq (k.els.map (·.2.2) ++ X.tail [X.ext [85, 29, 19] true (Ref.seq (X.lim true false p))])) (k.sig.take 100))).err : Int) = 9) ∨ (Lim.bad true false p = false ∧ ((Cert.parse (Ref.wr (Ref.seq (k.els.map (·.2.2) ++ X.tail [X.ext [85, 29, 19] true (Ref.seq (X.lim true false p))])) (k.sig.take 100))).err : Int) = 0 ∧ Cv.fl.ca = true ∧ Cv.fl.path = if false then (p : Int) else -1) := by
        rcases paths_parse k H1.out.1.path true false p hp with ⟨h1, h2⟩ | ⟨h1, s, h2, h3, h4⟩
        · exact .inl ⟨h1, by rw [h2]; rfl⟩
        · rw [h2] at hPv
          obtain ⟨_, _, _, hf, _⟩ := hPv.out
          exact .inr ⟨h1, by rw [h2]; rfl, by rw [hf]; exact h3, by rw [hf]; exact h4⟩
      clear hPv
      generalize ((Cert.parse (Ref.wr (Ref.seq (k.els.map (·.2.2) ++ X.tail [X.ext [85, 29, 19] true (Ref.seq (X.lim true false p))])) (k.sig.take 100))).err : Int) = er at hfl ⊢
      have hBo := H3.out.2.2.2.2.2.2.2.below hG H3.out.2.2.2.2.2.2.1.2
      have hng : ∀ g, (Value.slice B2 m2 d2).ownBlock = some g → g < w3.heap.size := fun g e => (H3.out.2.2.2.2.1.lt_ e).2
      have hng2 : ∀ g, (Value.slice B2 m2 d2).ownBlock = some g → g < go := fun g e => H3.out.2.2.2.2.2.2.1.1 g e
      have H35 := Lib.hid (And.intro (hoW.alloc (Nat.le_refl _) (.cells #[.int .u8 5, .int .u8 0] 5)) (And.intro hr5 (And.intro hbW (And.intro (Blk.alloc hBv (.cells #[.int .u8 5, .int .u8 0] 5)) (And.intro (hBo.alloc (.cells #[.int .u8 5, .int .u8 0] 5)) (And.intro hng (And.intro hng2 hfl)))))))
      clear hoW hr5 hbW hBv hG hBo hng hng2 hfl
      go_upto_region 14 with (first
        | (at_builtin; refine wpList_app rfl (.tmp 53) (.tmp 54) rfl lo W.heap.size _ (Ref.seq (X.lim true false p)) rfl H35.out.1 (by simp; omega) _ (some ⟨W.heap.size, 0, none⟩) 2 2 [5, 0] rfl H35.out.2.1.rds (by omega) ?_; intro v4 w4 ho4 hg4 hor4 hb4; obtain ⟨B4, m4, d4, rfl, hr4⟩ := ho4.rd)
        | fail)
      have hb14 : Below w1.heap.size w1 w4 := (H35.out.2.2.1.alloc (H35.out.2.2.1.size) _).trans (hb4.mono (by omega))
      have hB4v : Bc w4 gv Cv := Blk.grown H35.out.2.2.2.1 hg4 (fun e => by have := H35.out.2.2.2.2.2.1 gv e.symm; omega)
      have hB4o : Blk w4 go 5 #[.int .u8 85, .int .u8 29, .int .u8 19] := Blk.grown H35.out.2.2.2.2.1 hg4 (fun e => by have := H35.out.2.2.2.2.2.2.1 go e.symm; omega)
      have hro4 : Rd w4 w4.heap.size (some ⟨go, 0, none⟩) 3 3 [85, 29, 19] := rd_of_blk hB4o rfl rfl
      have H4 := Lib.hid (And.intro (H1.out.2.2.below hb14 H1.out.2.2.lt) (And.intro hro4 (And.intro hr4 (And.intro (H1.out.1.up hb14) (And.intro hB4v (H1.out.2.1.trans (hb14.mono H1.out.2.1.size)))))))
      have hfl := H35.out.2.2.2.2.2.2.2
      clear hb14 hB4v hB4o hro4 hr4 ho4 hg4 hor4 hb4 H35 hgB
      refine wp_region_two 11 10 (JL [(fun v _ => v = k.val (.slice A0 n0 c0) (.slice A1 n1 c1) (.slice A2 n2 c2)), (fun v _ => v = .slice (some ⟨go, 0, none⟩) 3 3), (fun v _ => v = .slice B4 m4 d4), (fun v w => RdT w v (X.ext [85, 29, 19] true (Ref.seq (X.lim true false p) ++ [5, 0]))), (RX [X.ext [85, 29, 19] true (Ref.seq (X.lim true false p) ++ [5, 0])]), (fun v w => RdT w v (Ref.wr (Ref.seq (k.els.map (·.2.2) ++ X.tail [X.ext [85, 29, 19] true (Ref.seq (X.lim true false p) ++ [5, 0])])) (k.sig.take 100))), (JP (w4.heap.size) (Ref.wr (Ref.seq (k.els.map (·.2.2) ++ X.tail [X.ext [85, 29, 19] true (Ref.seq (X.lim true false p) ++ [5, 0])])) (k.sig.take 100)) 0), (JP (w4.heap.size) (Ref.wr (Ref.seq (k.els.map (·.2.2) ++ X.tail [X.ext [85, 29, 19] true (Ref.seq (X.lim true false p) ++ [5, 0])])) (k.sig.take 100)) 0), (JP (w4.heap.size) (Ref.wr (Ref.seq (k.els.map (·.2.2) ++ X.tail [X.ext [85, 29, 19] true (Ref.seq (X.lim true false p) ++ [5, 0])])) (k.sig.take 100)) 1), (JP (w4.heap.size) (Ref.wr (Ref.seq (k.els.map (·.2.2) ++ X.tail [X.ext [85, 29, 19] true (Ref.seq (X.lim true false p) ++ [5, 0])])) (k.sig.take 100)) 2), (JP (w4.heap.size) (Ref.wr (Ref.seq (k.els.map (·.2.2) ++ X.tail [X.ext [85, 29, 19] true (Ref.seq (X.lim true false p) ++ [5, 0])])) (k.sig.take 100)) 3), (fun _ _ => True), (JP (w4.heap.size) (Ref.wr (Ref.seq (k.els.map (·.2.2) ++ X.tail [X.ext [85, 29, 19] true (Ref.seq (X.lim true false p) ++ [5, 0])])) (k.sig.take 100)) 2)]) (JV (w4.heap.size) (Ref.wr (Ref.seq (k.els.map (·.2.2) ++ X.tail [X.ext [85, 29, 19] true (Ref.seq (X.lim true false p) ++ [5, 0])])) (k.sig.take 100))) (Below w4.heap.size w4) RN (SN (w4.heap.size)) ?hm ?hmono ?hmonoS JV.rn ?hGR ?hGS ?hd ?hg ?hA ?hW ((Below.refl _ _).drew) ?hs ?hdone
      case hm => rfl
      case hmono => exact JL.rn (B := w4.heap.size) (Sta.cons (Sta.eq _ _) (Sta.cons (Sta.eq _ _) (Sta.cons (Sta.eq _ _) (Sta.cons (Sta.rdt _ _) (Sta.cons (Sta.rx _ _) (Sta.cons (Sta.rdt _ _) (Sta.cons (Sta.jp _ _ _) (Sta.cons (Sta.jp _ _ _) (Sta.cons (Sta.jp _ _ _) (Sta.cons (Sta.jp _ _ _) (Sta.cons (Sta.jp _ _ _) (Sta.cons (Sta.true _) (Sta.cons (Sta.jp _ _ _) (Sta.nil))))))))))))))
      case hmonoS => exact JL.sn (B := w4.heap.size) (Sta.cons (Sta.eq _ _) (Sta.cons (Sta.eq _ _) (Sta.cons (Sta.eq _ _) (Sta.cons (Sta.rdt _ _) (Sta.cons (Sta.rx _ _) (Sta.cons (Sta.rdt _ _) (Sta.cons (Sta.jp _ _ _) (Sta.cons (Sta.jp _ _ _) (Sta.cons (Sta.jp _ _ _) (Sta.cons (Sta.jp _ _ _) (Sta.cons (Sta.jp _ _ _) (Sta.cons (Sta.true _) (Sta.cons (Sta.jp _ _ _) (Sta.nil))))))))))))))
      case hGR => exact fun w w' h1 h2 => h1.trans (Below.mono h2 h1.size)
      case hGS => exact fun w w' h1 h2 => h1.trans h2.1
      case hd => show dstsOk _ 102 = true; decide +kernel
      case hg => decide +kernel
      case hA => decide +kernel
      case hW => decide +kernel
      case hs =>
        refine ⟨two_else (by decide) ?_, two_else (by decide) ?_, two_else (by decide) ?_, two_else (by decide) ?_, two_else (by decide) ?_, two_else (by decide) ?_, two_else (by decide) ?_, two_else (by decide) ?_, two_else (by decide) ?_, two_else (by decide) ?_, two_else (by decide) ?_, two_then ?_, two_else (by decide) ?_, trivial⟩
        · intro a W hfr hG hdep; exact N_case rfl (by simp) (hfr 3 (by decide +kernel)) (H4.out.1.below hG H4.out.1.lt)
        · intro a W hfr hG hdep; exact N_move rfl (by simp) (hfr 9 (by decide +kernel))
        · intro a W hfr hG hdep; exact N_move rfl (by simp) (hfr 8 (by decide +kernel))
        · intro a W hfr hG hdep; exact N_ext rfl (by simp) (hdep 1 (by decide +kernel)) rfl (hdep 2 (by decide +kernel)) (H4.out.2.1.up hG) (H4.out.2.2.1.up hG) (by simp) (by first | omega | (simp only [List.length_append, List.length_cons, List.length_nil]; omega))
        · intro a W hfr hG hdep; exact N_row1 rfl (by simp) (hdep 3 (by decide +kernel))
        · intro a W hfr hG hdep; exact N_with rfl (by simp) (hdep 0 (by decide +kernel)) (hdep 4 (by decide +kernel)) (by simp only [List.flatten_cons, List.flatten_nil, List.append_nil]; omega) (H4.out.2.2.2.1.up hG)
        · intro a W hfr hG hdep; exact N_parse (B := w4.heap.size) rfl (by simp) (hdep 5 (by decide +kernel))
        · intro a W hfr hG hdep; exact N_move rfl (by simp) (hdep 6 (by decide +kernel))
        · intro a W hfr hG hdep; exact N_ext0 (B := w4.heap.size) rfl (by simp) (hdep 7 (by decide +kernel))
        · intro a W hfr hG hdep; exact N_ext1 (B := w4.heap.size) rfl (by simp) (hdep 7 (by decide +kernel))
        · intro a W hfr hG hdep; exact N_newc (B := w4.heap.size) (b := Ref.wr (Ref.seq (k.els.map (·.2.2) ++ X.tail [X.ext [85, 29, 19] true (Ref.seq (X.lim true false p) ++ [5, 0])])) (k.sig.take 100)) rfl (by simp) hG.size
        · intro a W hfr hG hdep; exact N_store (p := 10) (fun _ _ => trivial) rfl rfl hG.size (hdep 10 (by decide +kernel)) rfl (hdep 8 (by decide +kernel))
        · intro a W hfr hG hdep; exact N_assign rfl (by simp) (hdep 9 (by decide +kernel))
      case hdone =>
        intro a Wx hdf hsz hfr hGx hJ hV
        have hV : JV (w4.heap.size) (Ref.wr (Ref.seq (k.els.map (·.2.2) ++ X.tail [X.ext [85, 29, 19] true (Ref.seq (X.lim true false p) ++ [5, 0])])) (k.sig.take 100)) (a.eval (.tmp 12)) Wx := hV
        obtain ⟨gvx, Cvx, hgvx, hgBx, hBvx, hPvx⟩ := hV
        have e := arr_eta a 102 hsz hdf
        rw [show (List.range 102).map (fun i => a.eval (.tmp i)) = a.eval (.tmp 0) :: a.eval (.tmp 1) :: a.eval (.tmp 2) :: a.eval (.tmp 3) :: a.eval (.tmp 4) :: a.eval (.tmp 5) :: a.eval (.tmp 6) :: a.eval (.tmp 7) :: a.eval (.tmp 8) :: a.eval (.tmp 9) :: a.eval (.tmp 10) :: a.eval (.tmp 11) :: a.eval (.tmp 12) :: a.eval (.tmp 13) :: a.eval (.tmp 14) :: a.eval (.tmp 15) :: a.eval (.tmp 16) :: a.eval (.tmp 17) :: a.eval (.tmp 18) :: a.eval (.tmp 19) :: a.eval (.tmp 20) :: a.eval (.tmp 21) :: a.eval (.tmp 22) :: a.eval (.tmp 23) :: a.eval (.tmp 24) :: a.eval (.tmp 25) :: a.eval (.tmp 26) :: a.eval (.tmp 27) :: a.eval (.tmp 28) :: a.eval (.tmp 29) :: a.eval (.tmp 30) :: a.eval (.tmp 31) :: a.eval (.tmp 32) :: a.eval (.tmp 33) :: a.eval (.tmp 34) :: a.eval (.tmp 35) :: a.eval (.tmp 36) :: a.eval (.tmp 37) :: a.eval (.tmp 38) :: a.eval (.tmp 39) :: a.eval (.tmp 40) :: a.eval (.tmp 41) :: a.eval (.tmp 42) :: a.eval (.tmp 43) :: a.eval (.tmp 44) :: a.eval (.tmp 45) :: a.eval (.tmp 46) :: a.eval (.tmp 47) :: a.eval (.tmp 48) :: a.eval (.tmp 49) :: a.eval (.tmp 50) :: a.eval (.tmp 51) :: a.eval (.tmp 52) :: a.eval (.tmp 53) :: a.eval (.tmp 54) :: a.eval (.tmp 55) :: a.eval (.tmp 56) :: a.eval (.tmp 57) :: a.eval (.tmp 58) :: a.eval (.tmp 59) :: a.eval (.tmp 60) :: a.eval (.tmp 61) :: a.eval (.tmp 62) :: a.eval (.tmp 63) :: a.eval (.tmp 64) :: a.eval (.tmp 65) :: a.eval (.tmp 66) :: a.eval (.tmp 67) :: a.eval (.tmp 68) :: a.eval (.tmp 69) :: a.eval (.tmp 70) :: a.eval (.tmp 71) :: a.eval (.tmp 72) :: a.eval (.tmp 73) :: a.eval (.tmp 74) :: a.eval (.tmp 75) :: a.eval (.tmp 76) :: a.eval (.tmp 77) :: a.eval (.tmp 78) :: a.eval (.tmp 79) :: a.eval (.tmp 80) :: a.eval (.tmp 81) :: a.eval (.tmp 82) :: a.eval (.tmp 83) :: a.eval (.tmp 84) :: a.eval (.tmp 85) :: a.eval (.tmp 86) :: a.eval (.tmp 87) :: a.eval (.tmp 88) :: a.eval (.tmp 89) :: a.eval (.tmp 90) :: a.eval (.tmp 91) :: a.eval (.tmp 92) :: a.eval (.tmp 93) :: a.eval (.tmp 94) :: a.eval (.tmp 95) :: a.eval (.tmp 96) :: a.eval (.tmp 97) :: a.eval (.tmp 98) :: a.eval (.tmp 99) :: a.eval (.tmp 100) :: a.eval (.tmp 101) :: [] from rfl] at e
        rw [hgvx] at e
        rw [show a.eval (.tmp 13) = .int .i64 ((Cert.parse (Ref.wr (Ref.seq (k.els.map (·.2.2) ++ X.tail [X.ext [85, 29, 19] true (Ref.seq (X.lim true false p) ++ [5, 0])])) (k.sig.take 100))).err : Int) from hJ 12 (by decide)] at e
        rw [show a.eval (.tmp 2) = .bool false from hfr 2 (by decide +kernel)] at e
        rw [show a.eval (.tmp 4) = .bool true from hfr 4 (by decide +kernel)] at e
        rw [show a.eval (.tmp 5) = .bool false from hfr 5 (by decide +kernel)] at e
        rw [show a.eval (.tmp 6) = .int .u16 (p : Int) from hfr 6 (by decide +kernel)] at e
        rw [show a.eval (.tmp 10) = .pointer (some ⟨gv, 0, none⟩) from hfr 10 (by decide +kernel)] at e
        rw [show a.eval (.tmp 11) = .int .i64 er from hfr 11 (by decide +kernel)] at e
        clear hgvx
        generalize a.eval (.tmp 0) = u0 at e
        generalize a.eval (.tmp 1) = u1 at e
        generalize a.eval (.tmp 3) = u3 at e
        generalize a.eval (.tmp 7) = u7 at e
        generalize a.eval (.tmp 8) = u8 at e
        generalize a.eval (.tmp 9) = u9 at e
        generalize a.eval (.tmp 14) = u14 at e
        generalize a.eval (.tmp 15) = u15 at e
        generalize a.eval (.tmp 16) = u16 at e
        generalize a.eval (.tmp 17) = u17 at e
        generalize a.eval (.tmp 18) = u18 at e
        generalize a.eval (.tmp 19) = u19 at e
        generalize a.eval (.tmp 20) = u20 at e
        generalize a.eval (.tmp 21) = u21 at e
        generalize a.eval (.tmp 22) = u22 at e
        generalize a.eval (.tmp 23) = u23 at e
        generalize a.eval (.tmp 24) = u24 at e
        generalize a.eval (.tmp 25) = u25 at e
        generalize a.eval (.tmp 26) = u26 at e
        generalize a.eval (.tmp 27) = u27 at e
        generalize a.eval (.tmp 28) = u28 at e
        generalize a.eval (.tmp 29) = u29 at e
        generalize a.eval (.tmp 30) = u30 at e
        generalize a.eval (.tmp 31) = u31 at e
        generalize a.eval (.tmp 32) = u32 at e
        generalize a.eval (.tmp 33) = u33 at e
        generalize a.eval (.tmp 34) = u34 at e
        generalize a.eval (.tmp 35) = u35 at e
        generalize a.eval (.tmp 36) = u36 at e
        generalize a.eval (.tmp 37) = u37 at e
        generalize a.eval (.tmp 38) = u38 at e
        generalize a.eval (.tmp 39) = u39 at e
        generalize a.eval (.tmp 40) = u40 at e
        generalize a.eval (.tmp 41) = u41 at e
        generalize a.eval (.tmp 42) = u42 at e
        generalize a.eval (.tmp 43) = u43 at e
        generalize a.eval (.tmp 44) = u44 at e
        generalize a.eval (.tmp 45) = u45 at e
        generalize a.eval (.tmp 46) = u46 at e
        generalize a.eval (.tmp 47) = u47 at e
        generalize a.eval (.tmp 48) = u48 at e
        generalize a.eval (.tmp 49) = u49 at e
        generalize a.eval (.tmp 50) = u50 at e
        generalize a.eval (.tmp 51) = u51 at e
        generalize a.eval (.tmp 52) = u52 at e
        generalize a.eval (.tmp 53) = u53 at e
        generalize a.eval (.tmp 54) = u54 at e
        generalize a.eval (.tmp 55) = u55 at e
        generalize a.eval (.tmp 56) = u56 at e
        generalize a.eval (.tmp 57) = u57 at e
        generalize a.eval (.tmp 58) = u58 at e
        generalize a.eval (.tmp 59) = u59 at e
        generalize a.eval (.tmp 60) = u60 at e
        generalize a.eval (.tmp 61) = u61 at e
        generalize a.eval (.tmp 62) = u62 at e
        generalize a.eval (.tmp 63) = u63 at e
        generalize a.eval (.tmp 64) = u64 at e
        generalize a.eval (.tmp 65) = u65 at e
        generalize a.eval (.tmp 66) = u66 at e
        generalize a.eval (.tmp 67) = u67 at e
        generalize a.eval (.tmp 68) = u68 at e
        generalize a.eval (.tmp 69) = u69 at e
        generalize a.eval (.tmp 70) = u70 at e
        generalize a.eval (.tmp 71) = u71 at e
        generalize a.eval (.tmp 72) = u72 at e
        generalize a.eval (.tmp 73) = u73 at e
        generalize a.eval (.tmp 74) = u74 at e
        generalize a.eval (.tmp 75) = u75 at e
        generalize a.eval (.tmp 76) = u76 at e
        generalize a.eval (.tmp 77) = u77 at e
        generalize a.eval (.tmp 78) = u78 at e
        generalize a.eval (.tmp 79) = u79 at e
        generalize a.eval (.tmp 80) = u80 at e
        generalize a.eval (.tmp 81) = u81 at e
        generalize a.eval (.tmp 82) = u82 at e
        generalize a.eval (.tmp 83) = u83 at e
        generalize a.eval (.tmp 84) = u84 at e
        generalize a.eval (.tmp 85) = u85 at e
        generalize a.eval (.tmp 86) = u86 at e
        generalize a.eval (.tmp 87) = u87 at e
        generalize a.eval (.tmp 88) = u88 at e
        generalize a.eval (.tmp 89) = u89 at e
        generalize a.eval (.tmp 90) = u90 at e
        generalize a.eval (.tmp 91) = u91 at e
        generalize a.eval (.tmp 92) = u92 at e
        generalize a.eval (.tmp 93) = u93 at e
        generalize a.eval (.tmp 94) = u94 at e
        generalize a.eval (.tmp 95) = u95 at e
        generalize a.eval (.tmp 96) = u96 at e
        generalize a.eval (.tmp 97) = u97 at e
        generalize a.eval (.tmp 98) = u98 at e
        generalize a.eval (.tmp 99) = u99 at e
        generalize a.eval (.tmp 100) = u100 at e
        generalize a.eval (.tmp 101) = u101 at e
        subst e
        clear hfr hJ hsz hdf
        have herr : ((Cert.parse (Ref.wr (Ref.seq (k.els.map (·.2.2) ++ X.tail [X.ext [85, 29, 19] true (Ref.seq (X.lim true false p) ++ [5, 0])])) (k.sig.take 100))).err : Int) = 9 := by rw [paths_more k H1.out.1.path true false p]; rfl
        rw [herr]
        clear herr hPvx hBvx hgBx
        have hBW := H4.out.2.2.2.2.1.below hGx H4.out.2.2.2.2.1.lt
        have hbwW := H4.out.2.2.2.2.2.trans (hGx.mono H4.out.2.2.2.2.2.size)
        have HW := Lib.hid hbwW
        have kca : Wx.cell? ⟨gv, 20, none⟩ = some (.bool Cv.fl.ca) := hBW.at_ 20
        have kpa : Wx.cell? ⟨gv, 21, none⟩ = some (.int .i64 Cv.fl.path) := hBW.at_ 21
        clear hbwW hBW hGx H4 hxl hxl2 hlm hlb
        rcases hfl with ⟨hb, rfl⟩ | ⟨hb, rfl, hca, hpa⟩
        · simp [Lim.bad] at hb
        · skip
          rw [hca] at kca
          rw [hpa] at kpa
          simp only [Bool.false_eq_true, if_false, if_true] at kpa
          clear hb hca hpa
          go_wp2_with fail
          refine (works12_any _).mono ?_
          rintro e wz ⟨rfl, hbz⟩
          go_wp2
          go_ret
          exact ⟨rfl, HW.out.trans (hbz.mono HW.out.size)⟩

theorem paths_ft (k : Kase) (A0 A1 A2 : Option Addr) (n0 c0 n1 c1 n2 c2 p : Nat) (hp : p < 65536) (w : World) (hk : k.come w A0 A1 A2 n0 c0 n1 c1 n2 c2) :
    Calls Try.prog 8 #[.agg (k.lrow (.slice A0 n0 c0) (.slice A1 n1 c1) (.slice A2 n2 c2) false true p)] w (LawPost w) := by
  obtain ⟨N, hN⟩ : ∃ N, N = k.lrow (.slice A0 n0 c0) (.slice A1 n1 c1) (.slice A2 n2 c2) false true p := ⟨_, rfl⟩
  rw [← hN]
  have hBN := Blk.new w 65 N
  have hb0 : Below w.heap.size w (w.alloc (.cells N 65)) := (Below.refl _ w).alloc (Nat.le_refl _) _
  have HK := Lib.hid (And.intro (hk.up hb0) hb0)
  have hcase : ∀ j v, (k.row (.slice A0 n0 c0) (.slice A1 n1 c1) (.slice A2 n2 c2)).toList[j]? = some v → (w.alloc (.cells N 65)).cell? ⟨w.heap.size, 0 + j, none⟩ = some v := fun j v hv => by
    rw [Nat.zero_add, hBN.cell j, hN]
    unfold Kase.lrow
    have hj : j < (k.row (.slice A0 n0 c0) (.slice A1 n1 c1) (.slice A2 n2 c2)).size := by
      have := (List.getElem?_eq_some_iff.1 hv).1
      simpa using this
    rw [Array.getElem?_append_left hj]
    simpa using hv
  have q22 : N[22]? = some (.bool false) := by rw [hN]; rfl
  have q23 : N[23]? = some (.bool true) := by rw [hN]; rfl
  have q24 : N[24]? = some (.int .u16 (p : Int)) := by rw [hN]; rfl
  have HC := Lib.hid (And.intro hcase (And.intro q22 (And.intro q23 (And.intro q24 hBN))))
  clear q22 q23 q24 hBN hcase hk hb0 hN
  go_enter Try.func8, Try.ntmps8
  go_upto_region 2 with (first
    | ((with_reducible refine at_load_case ?_); refine wpList_load_case2 rfl _ rfl w.heap.size k (.slice A0 n0 c0) (.slice A1 n1 c1) (.slice A2 n2 c2) rfl HC.out.1 ?_)
    | ((with_reducible refine at_store_case ?_); refine wpList_store_case rfl _ _ rfl (w.heap.size + 1) zrow k A0 A1 A2 n0 c0 n1 c1 n2 c2 rfl rfl rfl (Blk.new' _ _ (by simp)) ?_; intro w1 hB1 hg1)
    | fail)
  have hb01 : Below (w.heap.size + 1) (w.alloc (.cells N 65)) w1 := by
    refine Below.grown (((Below.refl _ _).alloc (by simp) _)) hg1 (by simp) (fun j hj => by cases hj; exact Nat.le_refl _)
  have hb1 : Below w.heap.size w w1 := HK.out.2.trans (hb01.mono (by omega))
  have hb01' : Below (w.alloc (.cells N 65)).heap.size (w.alloc (.cells N 65)) w1 := by simpa using hb01
  have hBN1 := HC.out.2.2.2.2.below hb01 (by omega)
  have q22 : w1.cell? ⟨w.heap.size, 22, none⟩ = some (.bool false) := (hBN1.cell 22).trans HC.out.2.1
  have q23 : w1.cell? ⟨w.heap.size, 23, none⟩ = some (.bool true) := (hBN1.cell 23).trans HC.out.2.2.1
  have q24 : w1.cell? ⟨w.heap.size, 24, none⟩ = some (.int .u16 (p : Int)) := (hBN1.cell 24).trans HC.out.2.2.2.1
  have H1 := Lib.hid (And.intro (HK.out.1.up hb01') (And.intro hb1 hB1))
  clear hb01 hb1 hb01' hBN1 hB1 hg1 HC HK
  have hsz1 : w.heap.size + 1 < w1.heap.size := H1.out.2.2.lt
  have htwo : (Ref.two16 p).map bv = [.int .u8 ((p : Int) / 256), .int .u8 ((p : Int) % 256)] := by
    unfold Ref.two16
    simp only [List.map_cons, List.map_nil, bv, UInt8.toNat_ofNat']
    congr 1 <;> first | (congr 1; omega) | skip
    all_goals (congr 1 <;> first | (congr 1; omega) | skip)
  have hrt := Rd.lit w1 5 (Ref.two16 p) _ _ 2 rfl htwo.symm rfl (by omega)
  have HT := Lib.hid hrt
  clear htwo hrt
  go_wp2_with fail
  refine (refPutInt_any _ 2 2 (Ref.two16 p) _ HT.out (by omega)).mono ?_
  rintro en wp ⟨Bp, mp, dp, rfl, hop, hbp⟩
  dsimp only
  have hbqp : Below w1.heap.size w1 wp := ((Below.refl _ w1).alloc (Nat.le_refl _) _).trans (hbp.mono (by simp))
  have HP := Lib.hid (And.intro hop.rdx hbqp)
  have hlp := ownB_len hop
  have hpi := putInt_two16 p
  clear hop hbp hbqp HT
  go_wp2_with fail
  refine (refWrite_lit 2 2 rfl Bp mp dp _ wp HP.out.1 (by omega)).mono ?_
  rintro en wr ⟨Br, mr, dr, rfl, hor, hbr⟩
  dsimp only
  have hbqr : Below w1.heap.size w1 wr := HP.out.2.trans (hbr.mono HP.out.2.size)
  have hXr := (XS.below ((XS.nil_ : XS w1 w1.heap.size (.slice none 0 0) [])) hbqr).alloc (.cells #[.slice Br mr dr] 22)
  have hrr := (RdT.own hor).alloc (.cells #[.slice Br mr dr] 22)
  have hwl := write_lt 2 (Der.putInt (Ref.two16 p)) 3 hpi (by omega)
  have hsr := hbqr.size
  have hb1q := (Below.refl w1.heap.size w1)
  have hsq := hb1q.size
  have hb1r : Below w1.heap.size w1 (wr.alloc (.cells #[.slice Br mr dr] 22)) := (hb1q.trans (hbqr.mono hsq)).alloc (by omega) _
  have HR := Lib.hid (And.intro hXr (And.intro hrr hb1r))
  clear hXr hrr hb1r hbqr hbr hor hb1q HP
  go_upto_region 10 with (first
    | (at_builtin; refine wpList_xs rfl (.tmp 29) (.tmp 38) rfl w1.heap.size _ _ rfl HR.out.1 (by simp; omega) wr.heap.size (.slice Br mr dr) _ rfl (Blk.cell (Blk.new wr _ _) 0) (by simp) HR.out.2.1 (by simp) ?_; intro vz wz hXz hBz; obtain ⟨Az, cz, rfl, hrdlz⟩ := hXz.rdl)
    | fail)
  have hb1z : Below w1.heap.size w1 wz := HR.out.2.2.trans hBz
  have HZ := Lib.hid (And.intro hb1z hrdlz)
  clear hXz hBz hb1z HR
  go_wp2_with fail
  refine (refSeq_any _ _ _ _ wz HZ.out.2 (by simp) (by unfold cat; simp; try omega)).mono ?_
  rintro en w2 ⟨B2, m2, d2, rfl, ho2, hbs0⟩
  have hbz1 := HZ.out.1
  have hszz := hbz1.size
  have hbs : Below w1.heap.size w1 w2 := hbz1.trans (hbs0.mono hszz)
  obtain ⟨lo, hlo⟩ : ∃ lo, lo = w1.heap.size := ⟨_, rfl⟩
  have ho2 : OwnB w2 lo w2.heap.size (.slice B2 m2 d2) (Ref.seq (X.lim false true p)) := ho2.mono (by omega) (Nat.le_refl _)
  have hlo1 : w1.heap.size ≤ lo ∧ lo ≤ w1.heap.size := by omega
  clear hbs0 hbz1 hszz HZ
  · skip
    dsimp only
    have hlm : (Ref.seq (X.lim false true p)).length ≤ 40 := by rw [← limb_raw]; exact (limb_wf false true p).2
    have hlb : (Ref.seq (X.lim false true p)).length ≤ 1000 := by omega
    have hl2 := ownB_len ho2
    have hs2 := hbs.size
    have hro := Rd.lit w2 5 [85, 29, 19] [.int .u8 85, .int .u8 29, .int .u8 19] _ 3 rfl rfl rfl (by omega)
    obtain ⟨w3, hw3⟩ : ∃ w3, w3 = w2.alloc (.cells #[.int .u8 85, .int .u8 29, .int .u8 19] 5) := ⟨_, rfl⟩
    have hb23 : Below w2.heap.size w2 w3 := by rw [hw3]; exact (Below.refl _ w2).alloc (Nat.le_refl _) _
    have hro3 : Rd w3 w3.heap.size (some ⟨w2.heap.size, 0, none⟩) 3 3 [85, 29, 19] := by rw [hw3]; exact hro
    obtain ⟨go, hgo⟩ : ∃ go, go = w2.heap.size := ⟨_, rfl⟩
    rw [← hgo] at hro3
    have hb13 : Below w1.heap.size w1 w3 := hbs.trans (hb23.mono hs2)
    have ho3 : OwnB w3 lo w3.heap.size (.slice B2 m2 d2) (Ref.seq (X.lim false true p)) := (ho2.below hb23 (Nat.le_refl _)).mono (Nat.le_refl _) hb23.size
    have hBo3 : Blk w3 go 5 #[.int .u8 85, .int .u8 29, .int .u8 19] := by rw [hw3, hgo]; exact Blk.new w2 _ _
    have hng3 : (∀ g, (Value.slice B2 m2 d2).ownBlock = some g → g < go) ∧ go < w3.heap.size := ⟨fun g e => by rw [hgo]; exact (ho2.lt_ e).2, hBo3.lt⟩
    have H3 := Lib.hid (And.intro (H1.out.2.2.below hb13 H1.out.2.2.lt) (And.intro hro3 (And.intro ho3.rdx (And.intro (H1.out.1.up hb13) (And.intro ho3 (And.intro hb13 (And.intro hng3 hBo3)))))))
    clear hro hro3 ho3 ho2 hb13 hb23 hBo3 hng3
    have hxl : (X.ext [85, 29, 19] true (Ref.seq (X.lim false true p))).length ≤ 2000 := by
      have h1 := (extq_mk (f := Fl.bare) (q := true) (body := (E.limb false true p).2.2) oid_basic (by simp) (by have := (limb_wf false true p).2; omega)).2.2.2
      rw [extq_raw, limb_raw] at h1
      omega
    have hxl2 : (X.ext [85, 29, 19] true (Ref.seq (X.lim false true p) ++ [5, 0])).length ≤ 2000 := by
      have h1 := (extq_mk (f := Fl.bare) (q := true) (body := (E.limb false true p).2.2 ++ [5, 0]) oid_basic (by simp) (by have := (limb_wf false true p).2; rw [List.length_append]; simp; omega)).2.2.2
      rw [extq_raw, limb_raw] at h1
      omega
    go_upto_region 12 with fail
    rw [← hw3, ← hgo]
    clear hw3 hgo
    refine wp_region_two 11 10 (JL [(fun v _ => v = k.val (.slice A0 n0 c0) (.slice A1 n1 c1) (.slice A2 n2 c2)), (fun v _ => v = .slice (some ⟨go, 0, none⟩) 3 3), (fun v _ => v = .slice B2 m2 d2), (fun v w => RdT w v (X.ext [85, 29, 19] true (Ref.seq (X.lim false true p)))), (RX [X.ext [85, 29, 19] true (Ref.seq (X.lim false true p))]), (fun v w => RdT w v (Ref.wr (Ref.seq (k.els.map (·.2.2) ++ X.tail [X.ext [85, 29, 19] true (Ref.seq (X.lim false true p))])) (k.sig.take 100))), (JP (w3.heap.size) (Ref.wr (Ref.seq (k.els.map (·.2.2) ++ X.tail [X.ext [85, 29, 19] true (Ref.seq (X.lim false true p))])) (k.sig.take 100)) 0), (JP (w3.heap.size) (Ref.wr (Ref.seq (k.els.map (·.2.2) ++ X.tail [X.ext [85, 29, 19] true (Ref.seq (X.lim false true p))])) (k.sig.take 100)) 0), (JP (w3.heap.size) (Ref.wr (Ref.seq (k.els.map (·.2.2) ++ X.tail [X.ext [85, 29, 19] true (Ref.seq (X.lim false true p))])) (k.sig.take 100)) 1), (JP (w3.heap.size) (Ref.wr (Ref.seq (k.els.map (·.2.2) ++ X.tail [X.ext [85, 29, 19] true (Ref.seq (X.lim false true p))])) (k.sig.take 100)) 2), (JP (w3.heap.size) (Ref.wr (Ref.seq (k.els.map (·.2.2) ++ X.tail [X.ext [85, 29, 19] true (Ref.seq (X.lim false true p))])) (k.sig.take 100)) 3), (fun _ _ => True), (JP (w3.heap.size) (Ref.wr (Ref.seq (k.els.map (·.2.2) ++ X.tail [X.ext [85, 29, 19] true (Ref.seq (X.lim false true p))])) (k.sig.take 100)) 2)]) (JV (w3.heap.size) (Ref.wr (Ref.seq (k.els.map (·.2.2) ++ X.tail [X.ext [85, 29, 19] true (Ref.seq (X.lim false true p))])) (k.sig.take 100))) (Below w3.heap.size w3) RN (SN (w3.heap.size)) ?hm ?hmono ?hmonoS JV.rn ?hGR ?hGS ?hd ?hg ?hA ?hW ((Below.refl _ _).drew) ?hs ?hdone
    case hm => rfl
    case hmono => exact JL.rn (B := w3.heap.size) (Sta.cons (Sta.eq _ _) (Sta.cons (Sta.eq _ _) (Sta.cons (Sta.eq _ _) (Sta.cons (Sta.rdt _ _) (Sta.cons (Sta.rx _ _) (Sta.cons (Sta.rdt _ _) (Sta.cons (Sta.jp _ _ _) (Sta.cons (Sta.jp _ _ _) (Sta.cons (Sta.jp _ _ _) (Sta.cons (Sta.jp _ _ _) (Sta.cons (Sta.jp _ _ _) (Sta.cons (Sta.true _) (Sta.cons (Sta.jp _ _ _) (Sta.nil))))))))))))))
    case hmonoS => exact JL.sn (B := w3.heap.size) (Sta.cons (Sta.eq _ _) (Sta.cons (Sta.eq _ _) (Sta.cons (Sta.eq _ _) (Sta.cons (Sta.rdt _ _) (Sta.cons (Sta.rx _ _) (Sta.cons (Sta.rdt _ _) (Sta.cons (Sta.jp _ _ _) (Sta.cons (Sta.jp _ _ _) (Sta.cons (Sta.jp _ _ _) (Sta.cons (Sta.jp _ _ _) (Sta.cons (Sta.jp _ _ _) (Sta.cons (Sta.true _) (Sta.cons (Sta.jp _ _ _) (Sta.nil))))))))))))))
    case hGR => exact fun w w' h1 h2 => h1.trans (Below.mono h2 h1.size)
    case hGS => exact fun w w' h1 h2 => h1.trans h2.1
    case hd => show dstsOk _ 102 = true; decide +kernel
    case hg => decide +kernel
    case hA => decide +kernel
    case hW => decide +kernel
    case hs =>
      refine ⟨two_else (by decide) ?_, two_else (by decide) ?_, two_else (by decide) ?_, two_else (by decide) ?_, two_else (by decide) ?_, two_else (by decide) ?_, two_else (by decide) ?_, two_else (by decide) ?_, two_else (by decide) ?_, two_else (by decide) ?_, two_else (by decide) ?_, two_then ?_, two_else (by decide) ?_, trivial⟩
      · intro a W hfr hG hdep; exact N_case rfl (by simp) (hfr 3 (by decide +kernel)) (H3.out.1.below hG H3.out.1.lt)
      · intro a W hfr hG hdep; exact N_move rfl (by simp) (hfr 9 (by decide +kernel))
      · intro a W hfr hG hdep; exact N_move rfl (by simp) (hfr 8 (by decide +kernel))
      · intro a W hfr hG hdep; exact N_ext rfl (by simp) (hdep 1 (by decide +kernel)) rfl (hdep 2 (by decide +kernel)) (H3.out.2.1.up hG) (H3.out.2.2.1.up hG) (by simp) (by first | omega | (simp only [List.length_append, List.length_cons, List.length_nil]; omega))
      · intro a W hfr hG hdep; exact N_row1 rfl (by simp) (hdep 3 (by decide +kernel))
      · intro a W hfr hG hdep; exact N_with rfl (by simp) (hdep 0 (by decide +kernel)) (hdep 4 (by decide +kernel)) (by simp only [List.flatten_cons, List.flatten_nil, List.append_nil]; omega) (H3.out.2.2.2.1.up hG)
      · intro a W hfr hG hdep; exact N_parse (B := w3.heap.size) rfl (by simp) (hdep 5 (by decide +kernel))
      · intro a W hfr hG hdep; exact N_move rfl (by simp) (hdep 6 (by decide +kernel))
      · intro a W hfr hG hdep; exact N_ext0 (B := w3.heap.size) rfl (by simp) (hdep 7 (by decide +kernel))
      · intro a W hfr hG hdep; exact N_ext1 (B := w3.heap.size) rfl (by simp) (hdep 7 (by decide +kernel))
      · intro a W hfr hG hdep; exact N_newc (B := w3.heap.size) (b := Ref.wr (Ref.seq (k.els.map (·.2.2) ++ X.tail [X.ext [85, 29, 19] true (Ref.seq (X.lim false true p))])) (k.sig.take 100)) rfl (by simp) hG.size
      · intro a W hfr hG hdep; exact N_store (p := 10) (fun _ _ => trivial) rfl rfl hG.size (hdep 10 (by decide +kernel)) rfl (hdep 8 (by decide +kernel))
      · intro a W hfr hG hdep; exact N_assign rfl (by simp) (hdep 9 (by decide +kernel))
    case hdone =>
      intro a W hdf hsz hfr hG hJ hV
      have hV : JV (w3.heap.size) (Ref.wr (Ref.seq (k.els.map (·.2.2) ++ X.tail [X.ext [85, 29, 19] true (Ref.seq (X.lim false true p))])) (k.sig.take 100)) (a.eval (.tmp 10)) W := hV
      obtain ⟨gv, Cv, hgv, hgB, hBv, hPv⟩ := hV
      have e := arr_eta a 102 hsz hdf
      rw [show (List.range 102).map (fun i => a.eval (.tmp i)) = a.eval (.tmp 0) :: a.eval (.tmp 1) :: a.eval (.tmp 2) :: a.eval (.tmp 3) :: a.eval (.tmp 4) :: a.eval (.tmp 5) :: a.eval (.tmp 6) :: a.eval (.tmp 7) :: a.eval (.tmp 8) :: a.eval (.tmp 9) :: a.eval (.tmp 10) :: a.eval (.tmp 11) :: a.eval (.tmp 12) :: a.eval (.tmp 13) :: a.eval (.tmp 14) :: a.eval (.tmp 15) :: a.eval (.tmp 16) :: a.eval (.tmp 17) :: a.eval (.tmp 18) :: a.eval (.tmp 19) :: a.eval (.tmp 20) :: a.eval (.tmp 21) :: a.eval (.tmp 22) :: a.eval (.tmp 23) :: a.eval (.tmp 24) :: a.eval (.tmp 25) :: a.eval (.tmp 26) :: a.eval (.tmp 27) :: a.eval (.tmp 28) :: a.eval (.tmp 29) :: a.eval (.tmp 30) :: a.eval (.tmp 31) :: a.eval (.tmp 32) :: a.eval (.tmp 33) :: a.eval (.tmp 34) :: a.eval (.tmp 35) :: a.eval (.tmp 36) :: a.eval (.tmp 37) :: a.eval (.tmp 38) :: a.eval (.tmp 39) :: a.eval (.tmp 40) :: a.eval (.tmp 41) :: a.eval (.tmp 42) :: a.eval (.tmp 43) :: a.eval (.tmp 44) :: a.eval (.tmp 45) :: a.eval (.tmp 46) :: a.eval (.tmp 47) :: a.eval (.tmp 48) :: a.eval (.tmp 49) :: a.eval (.tmp 50) :: a.eval (.tmp 51) :: a.eval (.tmp 52) :: a.eval (.tmp 53) :: a.eval (.tmp 54) :: a.eval (.tmp 55) :: a.eval (.tmp 56) :: a.eval (.tmp 57) :: a.eval (.tmp 58) :: a.eval (.tmp 59) :: a.eval (.tmp 60) :: a.eval (.tmp 61) :: a.eval (.tmp 62) :: a.eval (.tmp 63) :: a.eval (.tmp 64) :: a.eval (.tmp 65) :: a.eval (.tmp 66) :: a.eval (.tmp 67) :: a.eval (.tmp 68) :: a.eval (.tmp 69) :: a.eval (.tmp 70) :: a.eval (.tmp 71) :: a.eval (.tmp 72) :: a.eval (.tmp 73) :: a.eval (.tmp 74) :: a.eval (.tmp 75) :: a.eval (.tmp 76) :: a.eval (.tmp 77) :: a.eval (.tmp 78) :: a.eval (.tmp 79) :: a.eval (.tmp 80) :: a.eval (.tmp 81) :: a.eval (.tmp 82) :: a.eval (.tmp 83) :: a.eval (.tmp 84) :: a.eval (.tmp 85) :: a.eval (.tmp 86) :: a.eval (.tmp 87) :: a.eval (.tmp 88) :: a.eval (.tmp 89) :: a.eval (.tmp 90) :: a.eval (.tmp 91) :: a.eval (.tmp 92) :: a.eval (.tmp 93) :: a.eval (.tmp 94) :: a.eval (.tmp 95) :: a.eval (.tmp 96) :: a.eval (.tmp 97) :: a.eval (.tmp 98) :: a.eval (.tmp 99) :: a.eval (.tmp 100) :: a.eval (.tmp 101) :: [] from rfl] at e
      rw [hgv] at e
      rw [show a.eval (.tmp 11) = .int .i64 ((Cert.parse (Ref.wr (Ref.seq (k.els.map (·.2.2) ++ X.tail [X.ext [85, 29, 19] true (Ref.seq (X.lim false true p))])) (k.sig.take 100))).err : Int) from hJ 12 (by decide)] at e
      rw [show a.eval (.tmp 2) = .bool false from hfr 2 (by decide +kernel)] at e
      rw [show a.eval (.tmp 3) = .pointer (some ⟨w.heap.size + 1, 0, none⟩) from hfr 3 (by decide +kernel)] at e
      rw [show a.eval (.tmp 4) = .bool false from hfr 4 (by decide +kernel)] at e
      rw [show a.eval (.tmp 5) = .bool true from hfr 5 (by decide +kernel)] at e
      rw [show a.eval (.tmp 6) = .int .u16 (p : Int) from hfr 6 (by decide +kernel)] at e
      rw [show a.eval (.tmp 8) = .slice B2 m2 d2 from hfr 8 (by decide +kernel)] at e
      rw [show a.eval (.tmp 9) = .slice (some ⟨go, 0, none⟩) 3 3 from hfr 9 (by decide +kernel)] at e
      clear hgv
      generalize a.eval (.tmp 0) = u0 at e
      generalize a.eval (.tmp 1) = u1 at e
      generalize a.eval (.tmp 7) = u7 at e
      generalize a.eval (.tmp 12) = u12 at e
      generalize a.eval (.tmp 13) = u13 at e
      generalize a.eval (.tmp 14) = u14 at e
      generalize a.eval (.tmp 15) = u15 at e
      generalize a.eval (.tmp 16) = u16 at e
      generalize a.eval (.tmp 17) = u17 at e
      generalize a.eval (.tmp 18) = u18 at e
      generalize a.eval (.tmp 19) = u19 at e
      generalize a.eval (.tmp 20) = u20 at e
      generalize a.eval (.tmp 21) = u21 at e
      generalize a.eval (.tmp 22) = u22 at e
      generalize a.eval (.tmp 23) = u23 at e
      generalize a.eval (.tmp 24) = u24 at e
      generalize a.eval (.tmp 25) = u25 at e
      generalize a.eval (.tmp 26) = u26 at e
      generalize a.eval (.tmp 27) = u27 at e
      generalize a.eval (.tmp 28) = u28 at e
      generalize a.eval (.tmp 29) = u29 at e
      generalize a.eval (.tmp 30) = u30 at e
      generalize a.eval (.tmp 31) = u31 at e
      generalize a.eval (.tmp 32) = u32 at e
      generalize a.eval (.tmp 33) = u33 at e
      generalize a.eval (.tmp 34) = u34 at e
      generalize a.eval (.tmp 35) = u35 at e
      generalize a.eval (.tmp 36) = u36 at e
      generalize a.eval (.tmp 37) = u37 at e
      generalize a.eval (.tmp 38) = u38 at e
      generalize a.eval (.tmp 39) = u39 at e
      generalize a.eval (.tmp 40) = u40 at e
      generalize a.eval (.tmp 41) = u41 at e
      generalize a.eval (.tmp 42) = u42 at e
      generalize a.eval (.tmp 43) = u43 at e
      generalize a.eval (.tmp 44) = u44 at e
      generalize a.eval (.tmp 45) = u45 at e
      generalize a.eval (.tmp 46) = u46 at e
      generalize a.eval (.tmp 47) = u47 at e
      generalize a.eval (.tmp 48) = u48 at e
      generalize a.eval (.tmp 49) = u49 at e
      generalize a.eval (.tmp 50) = u50 at e
      generalize a.eval (.tmp 51) = u51 at e
      generalize a.eval (.tmp 52) = u52 at e
      generalize a.eval (.tmp 53) = u53 at e
      generalize a.eval (.tmp 54) = u54 at e
      generalize a.eval (.tmp 55) = u55 at e
      generalize a.eval (.tmp 56) = u56 at e
      generalize a.eval (.tmp 57) = u57 at e
      generalize a.eval (.tmp 58) = u58 at e
      generalize a.eval (.tmp 59) = u59 at e
      generalize a.eval (.tmp 60) = u60 at e
      generalize a.eval (.tmp 61) = u61 at e
      generalize a.eval (.tmp 62) = u62 at e
      generalize a.eval (.tmp 63) = u63 at e
      generalize a.eval (.tmp 64) = u64 at e
      generalize a.eval (.tmp 65) = u65 at e
      generalize a.eval (.tmp 66) = u66 at e
      generalize a.eval (.tmp 67) = u67 at e
      generalize a.eval (.tmp 68) = u68 at e
      generalize a.eval (.tmp 69) = u69 at e
      generalize a.eval (.tmp 70) = u70 at e
      generalize a.eval (.tmp 71) = u71 at e
      generalize a.eval (.tmp 72) = u72 at e
      generalize a.eval (.tmp 73) = u73 at e
      generalize a.eval (.tmp 74) = u74 at e
      generalize a.eval (.tmp 75) = u75 at e
      generalize a.eval (.tmp 76) = u76 at e
      generalize a.eval (.tmp 77) = u77 at e
      generalize a.eval (.tmp 78) = u78 at e
      generalize a.eval (.tmp 79) = u79 at e
      generalize a.eval (.tmp 80) = u80 at e
      generalize a.eval (.tmp 81) = u81 at e
      generalize a.eval (.tmp 82) = u82 at e
      generalize a.eval (.tmp 83) = u83 at e
      generalize a.eval (.tmp 84) = u84 at e
      generalize a.eval (.tmp 85) = u85 at e
      generalize a.eval (.tmp 86) = u86 at e
      generalize a.eval (.tmp 87) = u87 at e
      generalize a.eval (.tmp 88) = u88 at e
      generalize a.eval (.tmp 89) = u89 at e
      generalize a.eval (.tmp 90) = u90 at e
      generalize a.eval (.tmp 91) = u91 at e
      generalize a.eval (.tmp 92) = u92 at e
      generalize a.eval (.tmp 93) = u93 at e
      generalize a.eval (.tmp 94) = u94 at e
      generalize a.eval (.tmp 95) = u95 at e
      generalize a.eval (.tmp 96) = u96 at e
      generalize a.eval (.tmp 97) = u97 at e
      generalize a.eval (.tmp 98) = u98 at e
      generalize a.eval (.tmp 99) = u99 at e
      generalize a.eval (.tmp 100) = u100 at e
      generalize a.eval (.tmp 101) = u101 at e
      subst e
      clear hfr hJ hsz hdf
      have hoW : OwnB W lo W.heap.size (.slice B2 m2 d2) (Ref.seq (X.lim false true p)) := (H3.out.2.2.2.2.1.below hG (Nat.le_refl _)).mono (Nat.le_refl _) hG.size
      have hr5 := Rd.lit W 5 [5, 0] [.int .u8 5, .int .u8 0] _ 2 rfl rfl rfl (by omega)
      have hbW : Below w1.heap.size w1 W := H3.out.2.2.2.2.2.1.trans (hG.mono H3.out.2.2.2.2.2.1.size)
      have hloW : lo ≤ W.heap.size := by have := hbW.size; omega
      have hfl : (Lim.bad false true p = true ∧ ((Cert.parse (Ref.wr (Ref.seq (k.els.map (·.2.2) ++ X.tail [X.ext [85, 29, 19] true (Ref.seq (X.lim false true p))])) (k.sig.take 100))).err : Int) = 9) ∨ (Lim.bad false true p = false ∧ ((Cert.parse (Ref.wr (Ref.seq (k.els.map (·.2.2) ++ X.tail [X.ext [85, 29, 19] true (Ref.seq (X.lim false true p))])) (k.sig.take 100))).err : Int) = 0 ∧ Cv.fl.ca = false ∧ Cv.fl.path = if true then (p : Int) else -1) := by
        rcases paths_parse k H1.out.1.path false true p hp with ⟨h1, h2⟩ | ⟨h1, s, h2, h3, h4⟩
        · exact .inl ⟨h1, by rw [h2]; rfl⟩
        · rw [h2] at hPv
          obtain ⟨_, _, _, hf, _⟩ := hPv.out
          exact .inr ⟨h1, by rw [h2]; rfl, by rw [hf]; exact h3, by rw [hf]; exact h4⟩
      clear hPv
      generalize ((Cert.parse (Ref.wr (Ref.seq (k.els.map (·.2.2) ++ X.tail [X.ext [85, 29, 19] true (Ref.seq (X.lim false true p))])) (k.sig.take 100))).err : Int) = er at hfl ⊢
      have hBo := H3.out.2.2.2.2.2.2.2.below hG H3.out.2.2.2.2.2.2.1.2
      have hng : ∀ g, (Value.slice B2 m2 d2).ownBlock = some g → g < w3.heap.size := fun g e => (H3.out.2.2.2.2.1.lt_ e).2
      have hng2 : ∀ g, (Value.slice B2 m2 d2).ownBlock = some g → g < go := fun g e => H3.out.2.2.2.2.2.2.1.1 g e
      have H35 := Lib.hid (And.intro (hoW.alloc (Nat.le_refl _) (.cells #[.int .u8 5, .int .u8 0] 5)) (And.intro hr5 (And.intro hbW (And.intro (Blk.alloc hBv (.cells #[.int .u8 5, .int .u8 0] 5)) (And.intro (hBo.alloc (.cells #[.int .u8 5, .int .u8 0] 5)) (And.intro hng (And.intro hng2 hfl)))))))
      clear hoW hr5 hbW hBv hG hBo hng hng2 hfl
      go_upto_region 14 with (first
        | (at_builtin; refine wpList_app rfl (.tmp 53) (.tmp 54) rfl lo W.heap.size _ (Ref.seq (X.lim false true p)) rfl H35.out.1 (by simp; omega) _ (some ⟨W.heap.size, 0, none⟩) 2 2 [5, 0] rfl H35.out.2.1.rds (by omega) ?_; intro v4 w4 ho4 hg4 hor4 hb4; obtain ⟨B4, m4, d4, rfl, hr4⟩ := ho4.rd)
        | fail)
      have hb14 : Below w1.heap.size w1 w4 := (H35.out.2.2.1.alloc (H35.out.2.2.1.size) _).trans (hb4.mono (by omega))
      have hB4v : Bc w4 gv Cv := Blk.grown H35.out.2.2.2.1 hg4 (fun e => by have := H35.out.2.2.2.2.2.1 gv e.symm; omega)
      have hB4o : Blk w4 go 5 #[.int .u8 85, .int .u8 29, .int .u8 19] := Blk.grown H35.out.2.2.2.2.1 hg4 (fun e => by have := H35.out.2.2.2.2.2.2.1 go e.symm; omega)
      have hro4 : Rd w4 w4.heap.size (some ⟨go, 0, none⟩) 3 3 [85, 29, 19] := rd_of_blk hB4o rfl rfl
      have H4 := Lib.hid (And.intro (H1.out.2.2.below hb14 H1.out.2.2.lt) (And.intro hro4 (And.intro hr4 (And.intro (H1.out.1.up hb14) (And.intro hB4v (H1.out.2.1.trans (hb14.mono H1.out.2.1.size)))))))
      have hfl := H35.out.2.2.2.2.2.2.2
      clear hb14 hB4v hB4o hro4 hr4 ho4 hg4 hor4 hb4 H35 hgB
      refine wp_region_two 11 10 (JL [(fun v _ => v = k.val (.slice A0 n0 c0) (.slice A1 n1 c1) (.slice A2 n2 c2)), (fun v _ => v = .slice (some ⟨go, 0, none⟩) 3 3), (fun v _ => v = .slice B4 m4 d4), (fun v w => RdT w v (X.ext [85, 29, 19] true (Ref.seq (X.lim false true p) ++ [5, 0]))), (RX [X.ext [85, 29, 19] true (Ref.seq (X.lim false true p) ++ [5, 0])]), (fun v w => RdT w v (Ref.wr (Ref.seq (k.els.map (·.2.2) ++ X.tail [X.ext [85, 29, 19] true (Ref.seq (X.lim false true p) ++ [5, 0])])) (k.sig.take 100))), (JP (w4.heap.size) (Ref.wr (Ref.seq (k.els.map (·.2.2) ++ X.tail [X.ext [85, 29, 19] true (Ref.seq (X.lim false true p) ++ [5, 0])])) (k.sig.take 100)) 0), (JP (w4.heap.size) (Ref.wr (Ref.seq (k.els.map (·.2.2) ++ X.tail [X.ext [85, 29, 19] true (Ref.seq (X.lim false true p) ++ [5, 0])])) (k.sig.take 100)) 0), (JP (w4.heap.size) (Ref.wr (Ref.seq (k.els.map (·.2.2) ++ X.tail [X.ext [85, 29, 19] true (Ref.seq (X.lim false true p) ++ [5, 0])])) (k.sig.take 100)) 1), (JP (w4.heap.size) (Ref.wr (Ref.seq (k.els.map (·.2.2) ++ X.tail [X.ext [85, 29, 19] true (Ref.seq (X.lim false true p) ++ [5, 0])])) (k.sig.take 100)) 2), (JP (w4.heap.size) (Ref.wr (Ref.seq (k.els.map (·.2.2) ++ X.tail [X.ext [85, 29, 19] true (Ref.seq (X.lim false true p) ++ [5, 0])])) (k.sig.take 100)) 3), (fun _ _ => True), (JP (w4.heap.size) (Ref.wr (Ref.seq (k.els.map (·.2.2) ++ X.tail [X.ext [85, 29, 19] true (Ref.seq (X.lim false true p) ++ [5, 0])])) (k.sig.take 100)) 2)]) (JV (w4.heap.size) (Ref.wr (Ref.seq (k.els.map (·.2.2) ++ X.tail [X.ext [85, 29, 19] true (Ref.seq (X.lim false true p) ++ [5, 0])])) (k.sig.take 100))) (Below w4.heap.size w4) RN (SN (w4.heap.size)) ?hm ?hmono ?hmonoS JV.rn ?hGR ?hGS ?hd ?hg ?hA ?hW ((Below.refl _ _).drew) ?hs ?hdone
      case hm => rfl
      case hmono => exact JL.rn (B := w4.heap.size) (Sta.cons (Sta.eq _ _) (Sta.cons (Sta.eq _ _) (Sta.cons (Sta.eq _ _) (Sta.cons (Sta.rdt _ _) (Sta.cons (Sta.rx _ _) (Sta.cons (Sta.rdt _ _) (Sta.cons (Sta.jp _ _ _) (Sta.cons (Sta.jp _ _ _) (Sta.cons (Sta.jp _ _ _) (Sta.cons (Sta.jp _ _ _) (Sta.cons (Sta.jp _ _ _) (Sta.cons (Sta.true _) (Sta.cons (Sta.jp _ _ _) (Sta.nil))))))))))))))
      case hmonoS => exact JL.sn (B := w4.heap.size) (Sta.cons (Sta.eq _ _) (Sta.cons (Sta.eq _ _) (Sta.cons (Sta.eq _ _) (Sta.cons (Sta.rdt _ _) (Sta.cons (Sta.rx _ _) (Sta.cons (Sta.rdt _ _) (Sta.cons (Sta.jp _ _ _) (Sta.cons (Sta.jp _ _ _) (Sta.cons (Sta.jp _ _ _) (Sta.cons (Sta.jp _ _ _) (Sta.cons (Sta.jp _ _ _) (Sta.cons (Sta.true _) (Sta.cons (Sta.jp _ _ _) (Sta.nil))))))))))))))
      case hGR => exact fun w w' h1 h2 => h1.trans (Below.mono h2 h1.size)
      case hGS => exact fun w w' h1 h2 => h1.trans h2.1
      case hd => show dstsOk _ 102 = true; decide +kernel
      case hg => decide +kernel
      case hA => decide +kernel
      case hW => decide +kernel
      case hs =>
        refine ⟨two_else (by decide) ?_, two_else (by decide) ?_, two_else (by decide) ?_, two_else (by decide) ?_, two_else (by decide) ?_, two_else (by decide) ?_, two_else (by decide) ?_, two_else (by decide) ?_, two_else (by decide) ?_, two_else (by decide) ?_, two_else (by decide) ?_, two_then ?_, two_else (by decide) ?_, trivial⟩
        · intro a W hfr hG hdep; exact N_case rfl (by simp) (hfr 3 (by decide +kernel)) (H4.out.1.below hG H4.out.1.lt)
        · intro a W hfr hG hdep; exact N_move rfl (by simp) (hfr 9 (by decide +kernel))
        · intro a W hfr hG hdep; exact N_move rfl (by simp) (hfr 8 (by decide +kernel))
        · intro a W hfr hG hdep; exact N_ext rfl (by simp) (hdep 1 (by decide +kernel)) rfl (hdep 2 (by decide +kernel)) (H4.out.2.1.up hG) (H4.out.2.2.1.up hG) (by simp) (by first | omega | (simp only [List.length_append, List.length_cons, List.length_nil]; omega))
        · intro a W hfr hG hdep; exact N_row1 rfl (by simp) (hdep 3 (by decide +kernel))
        · intro a W hfr hG hdep; exact N_with rfl (by simp) (hdep 0 (by decide +kernel)) (hdep 4 (by decide +kernel)) (by simp only [List.flatten_cons, List.flatten_nil, List.append_nil]; omega) (H4.out.2.2.2.1.up hG)
        · intro a W hfr hG hdep; exact N_parse (B := w4.heap.size) rfl (by simp) (hdep 5 (by decide +kernel))
        · intro a W hfr hG hdep; exact N_move rfl (by simp) (hdep 6 (by decide +kernel))
        · intro a W hfr hG hdep; exact N_ext0 (B := w4.heap.size) rfl (by simp) (hdep 7 (by decide +kernel))
        · intro a W hfr hG hdep; exact N_ext1 (B := w4.heap.size) rfl (by simp) (hdep 7 (by decide +kernel))
        · intro a W hfr hG hdep; exact N_newc (B := w4.heap.size) (b := Ref.wr (Ref.seq (k.els.map (·.2.2) ++ X.tail [X.ext [85, 29, 19] true (Ref.seq (X.lim false true p) ++ [5, 0])])) (k.sig.take 100)) rfl (by simp) hG.size
        · intro a W hfr hG hdep; exact N_store (p := 10) (fun _ _ => trivial) rfl rfl hG.size (hdep 10 (by decide +kernel)) rfl (hdep 8 (by decide +kernel))
        · intro a W hfr hG hdep; exact N_assign rfl (by simp) (hdep 9 (by decide +kernel))
      case hdone =>
        intro a Wx hdf hsz hfr hGx hJ hV
        have hV : JV (w4.heap.size) (Ref.wr (Ref.seq (k.els.map (·.2.2) ++ X.tail [X.ext [85, 29, 19] true (Ref.seq (X.lim false true p) ++ [5, 0])])) (k.sig.take 100)) (a.eval (.tmp 12)) Wx := hV
        obtain ⟨gvx, Cvx, hgvx, hgBx, hBvx, hPvx⟩ := hV
        have e := arr_eta a 102 hsz hdf
        rw [show (List.range 102).map (fun i => a.eval (.tmp i)) = a.eval (.tmp 0) :: a.eval (.tmp 1) :: a.eval (.tmp 2) :: a.eval (.tmp 3) :: a.eval (.tmp 4) :: a.eval (.tmp 5) :: a.eval (.tmp 6) :: a.eval (.tmp 7) :: a.eval (.tmp 8) :: a.eval (.tmp 9) :: a.eval (.tmp 10) :: a.eval (.tmp 11) :: a.eval (.tmp 12) :: a.eval (.tmp 13) :: a.eval (.tmp 14) :: a.eval (.tmp 15) :: a.eval (.tmp 16) :: a.eval (.tmp 17) :: a.eval (.tmp 18) :: a.eval (.tmp 19) :: a.eval (.tmp 20) :: a.eval (.tmp 21) :: a.eval (.tmp 22) :: a.eval (.tmp 23) :: a.eval (.tmp 24) :: a.eval (.tmp 25) :: a.eval (.tmp 26) :: a.eval (.tmp 27) :: a.eval (.tmp 28) :: a.eval (.tmp 29) :: a.eval (.tmp 30) :: a.eval (.tmp 31) :: a.eval (.tmp 32) :: a.eval (.tmp 33) :: a.eval (.tmp 34) :: a.eval (.tmp 35) :: a.eval (.tmp 36) :: a.eval (.tmp 37) :: a.eval (.tmp 38) :: a.eval (.tmp 39) :: a.eval (.tmp 40) :: a.eval (.tmp 41) :: a.eval (.tmp 42) :: a.eval (.tmp 43) :: a.eval (.tmp 44) :: a.eval (.tmp 45) :: a.eval (.tmp 46) :: a.eval (.tmp 47) :: a.eval (.tmp 48) :: a.eval (.tmp 49) :: a.eval (.tmp 50) :: a.eval (.tmp 51) :: a.eval (.tmp 52) :: a.eval (.tmp 53) :: a.eval (.tmp 54) :: a.eval (.tmp 55) :: a.eval (.tmp 56) :: a.eval (.tmp 57) :: a.eval (.tmp 58) :: a.eval (.tmp 59) :: a.eval (.tmp 60) :: a.eval (.tmp 61) :: a.eval (.tmp 62) :: a.eval (.tmp 63) :: a.eval (.tmp 64) :: a.eval (.tmp 65) :: a.eval (.tmp 66) :: a.eval (.tmp 67) :: a.eval (.tmp 68) :: a.eval (.tmp 69) :: a.eval (.tmp 70) :: a.eval (.tmp 71) :: a.eval (.tmp 72) :: a.eval (.tmp 73) :: a.eval (.tmp 74) :: a.eval (.tmp 75) :: a.eval (.tmp 76) :: a.eval (.tmp 77) :: a.eval (.tmp 78) :: a.eval (.tmp 79) :: a.eval (.tmp 80) :: a.eval (.tmp 81) :: a.eval (.tmp 82) :: a.eval (.tmp 83) :: a.eval (.tmp 84) :: a.eval (.tmp 85) :: a.eval (.tmp 86) :: a.eval (.tmp 87) :: a.eval (.tmp 88) :: a.eval (.tmp 89) :: a.eval (.tmp 90) :: a.eval (.tmp 91) :: a.eval (.tmp 92) :: a.eval (.tmp 93) :: a.eval (.tmp 94) :: a.eval (.tmp 95) :: a.eval (.tmp 96) :: a.eval (.tmp 97) :: a.eval (.tmp 98) :: a.eval (.tmp 99) :: a.eval (.tmp 100) :: a.eval (.tmp 101) :: [] from rfl] at e
        rw [hgvx] at e
        rw [show a.eval (.tmp 13) = .int .i64 ((Cert.parse (Ref.wr (Ref.seq (k.els.map (·.2.2) ++ X.tail [X.ext [85, 29, 19] true (Ref.seq (X.lim false true p) ++ [5, 0])])) (k.sig.take 100))).err : Int) from hJ 12 (by decide)] at e
        rw [show a.eval (.tmp 2) = .bool false from hfr 2 (by decide +kernel)] at e
        rw [show a.eval (.tmp 4) = .bool false from hfr 4 (by decide +kernel)] at e
        rw [show a.eval (.tmp 5) = .bool true from hfr 5 (by decide +kernel)] at e
        rw [show a.eval (.tmp 6) = .int .u16 (p : Int) from hfr 6 (by decide +kernel)] at e
        rw [show a.eval (.tmp 10) = .pointer (some ⟨gv, 0, none⟩) from hfr 10 (by decide +kernel)] at e
        rw [show a.eval (.tmp 11) = .int .i64 er from hfr 11 (by decide +kernel)] at e
        clear hgvx
        generalize a.eval (.tmp 0) = u0 at e
        generalize a.eval (.tmp 1) = u1 at e
        generalize a.eval (.tmp 3) = u3 at e
        generalize a.eval (.tmp 7) = u7 at e
        generalize a.eval (.tmp 8) = u8 at e
        generalize a.eval (.tmp 9) = u9 at e
        generalize a.eval (.tmp 14) = u14 at e
        generalize a.eval (.tmp 15) = u15 at e
        generalize a.eval (.tmp 16) = u16 at e
        generalize a.eval (.tmp 17) = u17 at e
        generalize a.eval (.tmp 18) = u18 at e
        generalize a.eval (.tmp 19) = u19 at e
        generalize a.eval (.tmp 20) = u20 at e
        generalize a.eval (.tmp 21) = u21 at e
        generalize a.eval (.tmp 22) = u22 at e
        generalize a.eval (.tmp 23) = u23 at e
        generalize a.eval (.tmp 24) = u24 at e
        generalize a.eval (.tmp 25) = u25 at e
        generalize a.eval (.tmp 26) = u26 at e
        generalize a.eval (.tmp 27) = u27 at e
        generalize a.eval (.tmp 28) = u28 at e
        generalize a.eval (.tmp 29) = u29 at e
        generalize a.eval (.tmp 30) = u30 at e
        generalize a.eval (.tmp 31) = u31 at e
        generalize a.eval (.tmp 32) = u32 at e
        generalize a.eval (.tmp 33) = u33 at e
        generalize a.eval (.tmp 34) = u34 at e
        generalize a.eval (.tmp 35) = u35 at e
        generalize a.eval (.tmp 36) = u36 at e
        generalize a.eval (.tmp 37) = u37 at e
        generalize a.eval (.tmp 38) = u38 at e
        generalize a.eval (.tmp 39) = u39 at e
        generalize a.eval (.tmp 40) = u40 at e
        generalize a.eval (.tmp 41) = u41 at e
        generalize a.eval (.tmp 42) = u42 at e
        generalize a.eval (.tmp 43) = u43 at e
        generalize a.eval (.tmp 44) = u44 at e
        generalize a.eval (.tmp 45) = u45 at e
        generalize a.eval (.tmp 46) = u46 at e
        generalize a.eval (.tmp 47) = u47 at e
        generalize a.eval (.tmp 48) = u48 at e
        generalize a.eval (.tmp 49) = u49 at e
        generalize a.eval (.tmp 50) = u50 at e
        generalize a.eval (.tmp 51) = u51 at e
        generalize a.eval (.tmp 52) = u52 at e
        generalize a.eval (.tmp 53) = u53 at e
        generalize a.eval (.tmp 54) = u54 at e
        generalize a.eval (.tmp 55) = u55 at e
        generalize a.eval (.tmp 56) = u56 at e
        generalize a.eval (.tmp 57) = u57 at e
        generalize a.eval (.tmp 58) = u58 at e
        generalize a.eval (.tmp 59) = u59 at e
        generalize a.eval (.tmp 60) = u60 at e
        generalize a.eval (.tmp 61) = u61 at e
        generalize a.eval (.tmp 62) = u62 at e
        generalize a.eval (.tmp 63) = u63 at e
        generalize a.eval (.tmp 64) = u64 at e
        generalize a.eval (.tmp 65) = u65 at e
        generalize a.eval (.tmp 66) = u66 at e
        generalize a.eval (.tmp 67) = u67 at e
        generalize a.eval (.tmp 68) = u68 at e
        generalize a.eval (.tmp 69) = u69 at e
        generalize a.eval (.tmp 70) = u70 at e
        generalize a.eval (.tmp 71) = u71 at e
        generalize a.eval (.tmp 72) = u72 at e
        generalize a.eval (.tmp 73) = u73 at e
        generalize a.eval (.tmp 74) = u74 at e
        generalize a.eval (.tmp 75) = u75 at e
        generalize a.eval (.tmp 76) = u76 at e
        generalize a.eval (.tmp 77) = u77 at e
        generalize a.eval (.tmp 78) = u78 at e
        generalize a.eval (.tmp 79) = u79 at e
        generalize a.eval (.tmp 80) = u80 at e
        generalize a.eval (.tmp 81) = u81 at e
        generalize a.eval (.tmp 82) = u82 at e
        generalize a.eval (.tmp 83) = u83 at e
        generalize a.eval (.tmp 84) = u84 at e
        generalize a.eval (.tmp 85) = u85 at e
        generalize a.eval (.tmp 86) = u86 at e
        generalize a.eval (.tmp 87) = u87 at e
        generalize a.eval (.tmp 88) = u88 at e
        generalize a.eval (.tmp 89) = u89 at e
        generalize a.eval (.tmp 90) = u90 at e
        generalize a.eval (.tmp 91) = u91 at e
        generalize a.eval (.tmp 92) = u92 at e
        generalize a.eval (.tmp 93) = u93 at e
        generalize a.eval (.tmp 94) = u94 at e
        generalize a.eval (.tmp 95) = u95 at e
        generalize a.eval (.tmp 96) = u96 at e
        generalize a.eval (.tmp 97) = u97 at e
        generalize a.eval (.tmp 98) = u98 at e
        generalize a.eval (.tmp 99) = u99 at e
        generalize a.eval (.tmp 100) = u100 at e
        generalize a.eval (.tmp 101) = u101 at e
        subst e
        clear hfr hJ hsz hdf
        have herr : ((Cert.parse (Ref.wr (Ref.seq (k.els.map (·.2.2) ++ X.tail [X.ext [85, 29, 19] true (Ref.seq (X.lim false true p) ++ [5, 0])])) (k.sig.take 100))).err : Int) = 9 := by rw [paths_more k H1.out.1.path false true p]; rfl
        rw [herr]
        clear herr hPvx hBvx hgBx
        have hBW := H4.out.2.2.2.2.1.below hGx H4.out.2.2.2.2.1.lt
        have hbwW := H4.out.2.2.2.2.2.trans (hGx.mono H4.out.2.2.2.2.2.size)
        have HW := Lib.hid hbwW
        have kca : Wx.cell? ⟨gv, 20, none⟩ = some (.bool Cv.fl.ca) := hBW.at_ 20
        have kpa : Wx.cell? ⟨gv, 21, none⟩ = some (.int .i64 Cv.fl.path) := hBW.at_ 21
        clear hbwW hBW hGx H4 hxl hxl2 hlm hlb
        rcases hfl with ⟨hb, rfl⟩ | ⟨hb, rfl, hca, hpa⟩
        · clear hb
          go_wp2_with fail
          refine (works12_any _).mono ?_
          rintro e wz ⟨rfl, hbz⟩
          go_wp2
          go_ret
          exact ⟨rfl, HW.out.trans (hbz.mono HW.out.size)⟩
        · simp [Lim.bad] at hb

theorem paths_tt (k : Kase) (A0 A1 A2 : Option Addr) (n0 c0 n1 c1 n2 c2 p : Nat) (hp : p < 65536) (w : World) (hk : k.come w A0 A1 A2 n0 c0 n1 c1 n2 c2) :
    Calls Try.prog 8 #[.agg (k.lrow (.slice A0 n0 c0) (.slice A1 n1 c1) (.slice A2 n2 c2) true true p)] w (LawPost w) := by
  obtain ⟨N, hN⟩ : ∃ N, N = k.lrow (.slice A0 n0 c0) (.slice A1 n1 c1) (.slice A2 n2 c2) true true p := ⟨_, rfl⟩
  rw [← hN]
  have hBN := Blk.new w 65 N
  have hb0 : Below w.heap.size w (w.alloc (.cells N 65)) := (Below.refl _ w).alloc (Nat.le_refl _) _
  have HK := Lib.hid (And.intro (hk.up hb0) hb0)
  have hcase : ∀ j v, (k.row (.slice A0 n0 c0) (.slice A1 n1 c1) (.slice A2 n2 c2)).toList[j]? = some v → (w.alloc (.cells N 65)).cell? ⟨w.heap.size, 0 + j, none⟩ = some v := fun j v hv => by
    rw [Nat.zero_add, hBN.cell j, hN]
    unfold Kase.lrow
    have hj : j < (k.row (.slice A0 n0 c0) (.slice A1 n1 c1) (.slice A2 n2 c2)).size := by
      have := (List.getElem?_eq_some_iff.1 hv).1
      simpa using this
    rw [Array.getElem?_append_left hj]
    simpa using hv
  have q22 : N[22]? = some (.bool true) := by rw [hN]; rfl
  have q23 : N[23]? = some (.bool true) := by rw [hN]; rfl
  have q24 : N[24]? = some (.int .u16 (p : Int)) := by rw [hN]; rfl
  have HC := Lib.hid (And.intro hcase (And.intro q22 (And.intro q23 (And.intro q24 hBN))))
  clear q22 q23 q24 hBN hcase hk hb0 hN
  go_enter Try.func8, Try.ntmps8
  go_upto_region 2 with (first
    | ((with_reducible refine at_load_case ?_); refine wpList_load_case2 rfl _ rfl w.heap.size k (.slice A0 n0 c0) (.slice A1 n1 c1) (.slice A2 n2 c2) rfl HC.out.1 ?_)
    | ((with_reducible refine at_store_case ?_); refine wpList_store_case rfl _ _ rfl (w.heap.size + 1) zrow k A0 A1 A2 n0 c0 n1 c1 n2 c2 rfl rfl rfl (Blk.new' _ _ (by simp)) ?_; intro w1 hB1 hg1)
    | fail)
  have hb01 : Below (w.heap.size + 1) (w.alloc (.cells N 65)) w1 := by
    refine Below.grown (((Below.refl _ _).alloc (by simp) _)) hg1 (by simp) (fun j hj => by cases hj; exact Nat.le_refl _)
  have hb1 : Below w.heap.size w w1 := HK.out.2.trans (hb01.mono (by omega))
  have hb01' : Below (w.alloc (.cells N 65)).heap.size (w.alloc (.cells N 65)) w1 := by simpa using hb01
  have hBN1 := HC.out.2.2.2.2.below hb01 (by omega)
  have q22 : w1.cell? ⟨w.heap.size, 22, none⟩ = some (.bool true) := (hBN1.cell 22).trans HC.out.2.1
  have q23 : w1.cell? ⟨w.heap.size, 23, none⟩ = some (.bool true) := (hBN1.cell 23).trans HC.out.2.2.1
  have q24 : w1.cell? ⟨w.heap.size, 24, none⟩ = some (.int .u16 (p : Int)) := (hBN1.cell 24).trans HC.out.2.2.2.1
  have H1 := Lib.hid (And.intro (HK.out.1.up hb01') (And.intro hb1 hB1))
  clear hb01 hb1 hb01' hBN1 hB1 hg1 HC HK
  have hsz1 : w.heap.size + 1 < w1.heap.size := H1.out.2.2.lt
  have hry : Rd (w1.alloc (.cells #[.int .u8 1, .int .u8 1, .int .u8 255] 5)) _ (some ⟨w1.heap.size, 0, none⟩) 3 3 [1, 1, 255] := Rd.lit w1 5 [1, 1, 255] [.int .u8 1, .int .u8 1, .int .u8 255] _ 3 rfl rfl rfl (by omega)
  have hty : RdT (w1.alloc (.cells #[.int .u8 1, .int .u8 1, .int .u8 255] 5)) (.slice (some ⟨w1.heap.size, 0, none⟩) 3 3) [1, 1, 255] := RdT.blk (heap_alloc_new w1 _) hry
  have hty2 := hty.alloc (.cells #[.slice (some ⟨w1.heap.size, 0, none⟩) 3 3] 22)
  have hgc : w1.heap.size + 1 = (w1.alloc (.cells #[.int .u8 1, .int .u8 1, .int .u8 255] 5)).heap.size := by simp
  have hcell : ((w1.alloc (.cells #[.int .u8 1, .int .u8 1, .int .u8 255] 5)).alloc (.cells #[.slice (some ⟨w1.heap.size, 0, none⟩) 3 3] 22)).cell? ⟨w1.heap.size + 1, 0, none⟩ = some (.slice (some ⟨w1.heap.size, 0, none⟩) 3 3) := by
    have h := Blk.cell (Blk.new (w1.alloc (.cells #[.int .u8 1, .int .u8 1, .int .u8 255] 5)) 22 #[.slice (some ⟨w1.heap.size, 0, none⟩) 3 3]) 0
    rw [← hgc] at h
    exact h
  have hby : Below w1.heap.size w1 ((w1.alloc (.cells #[.int .u8 1, .int .u8 1, .int .u8 255] 5)).alloc (.cells #[.slice (some ⟨w1.heap.size, 0, none⟩) 3 3] 22)) := ((Below.refl _ w1).alloc (Nat.le_refl _) _).alloc (by simp) _
  have HY := Lib.hid (And.intro hty2 (And.intro hcell hby))
  clear hry hty hty2 hgc hcell hby
  go_upto_region 8 with (first
    | (at_builtin; refine wpList_xs rfl (.tmp 24) (.tmp 26) rfl w1.heap.size _ [] rfl XS.nil_ (by simp; omega) (w1.heap.size + 1) _ [1, 1, 255] rfl HY.out.2.1 (by simp) HY.out.1 (by simp) ?_; intro vy wy hXy hBy; obtain ⟨Ay, cy, rfl, hrdly⟩ := hXy.rdl)
    | fail)
  have hb1y : Below w1.heap.size w1 wy := HY.out.2.2.trans hBy
  have q23 : wy.cell? ⟨w.heap.size, 23, none⟩ = some (.bool true) := (hb1y.cell (p := ⟨w.heap.size, 23, none⟩) (show w.heap.size < w1.heap.size by omega)).trans q23
  have HX := Lib.hid (And.intro hXy (And.intro hb1y hrdly))
  clear hXy hb1y hBy HY hrdly
  have htwo : (Ref.two16 p).map bv = [.int .u8 ((p : Int) / 256), .int .u8 ((p : Int) % 256)] := by
    unfold Ref.two16
    simp only [List.map_cons, List.map_nil, bv, UInt8.toNat_ofNat']
    congr 1 <;> first | (congr 1; omega) | skip
    all_goals (congr 1 <;> first | (congr 1; omega) | skip)
  have hrt := Rd.lit wy 5 (Ref.two16 p) _ _ 2 rfl htwo.symm rfl (by omega)
  have HT := Lib.hid hrt
  clear htwo hrt
  go_wp2_with fail
  refine (refPutInt_any _ 2 2 (Ref.two16 p) _ HT.out (by omega)).mono ?_
  rintro en wp ⟨Bp, mp, dp, rfl, hop, hbp⟩
  dsimp only
  have hbqp : Below wy.heap.size wy wp := ((Below.refl _ wy).alloc (Nat.le_refl _) _).trans (hbp.mono (by simp))
  have HP := Lib.hid (And.intro hop.rdx hbqp)
  have hlp := ownB_len hop
  have hpi := putInt_two16 p
  clear hop hbp hbqp HT
  go_wp2_with fail
  refine (refWrite_lit 2 2 rfl Bp mp dp _ wp HP.out.1 (by omega)).mono ?_
  rintro en wr ⟨Br, mr, dr, rfl, hor, hbr⟩
  dsimp only
  have hbqr : Below wy.heap.size wy wr := HP.out.2.trans (hbr.mono HP.out.2.size)
  have hXr := (XS.below (HX.out.1) hbqr).alloc (.cells #[.slice Br mr dr] 22)
  have hrr := (RdT.own hor).alloc (.cells #[.slice Br mr dr] 22)
  have hwl := write_lt 2 (Der.putInt (Ref.two16 p)) 3 hpi (by omega)
  have hsr := hbqr.size
  have hb1q := HX.out.2.1
  have hsq := hb1q.size
  have hb1r : Below w1.heap.size w1 (wr.alloc (.cells #[.slice Br mr dr] 22)) := (hb1q.trans (hbqr.mono hsq)).alloc (by omega) _
  have HR := Lib.hid (And.intro hXr (And.intro hrr hb1r))
  clear hXr hrr hb1r hbqr hbr hor hb1q HP
  go_upto_region 10 with (first
    | (at_builtin; refine wpList_xs rfl (.tmp 29) (.tmp 38) rfl w1.heap.size _ _ rfl HR.out.1 (by simp; omega) wr.heap.size (.slice Br mr dr) _ rfl (Blk.cell (Blk.new wr _ _) 0) (by simp) HR.out.2.1 (by simp) ?_; intro vz wz hXz hBz; obtain ⟨Az, cz, rfl, hrdlz⟩ := hXz.rdl)
    | fail)
  have hb1z : Below w1.heap.size w1 wz := HR.out.2.2.trans hBz
  have HZ := Lib.hid (And.intro hb1z hrdlz)
  clear hXz hBz hb1z HR
  clear HX
  go_wp2_with fail
  refine (refSeq_any _ _ _ _ wz HZ.out.2 (by simp) (by unfold cat; simp; try omega)).mono ?_
  rintro en w2 ⟨B2, m2, d2, rfl, ho2, hbs0⟩
  have hbz1 := HZ.out.1
  have hszz := hbz1.size
  have hbs : Below w1.heap.size w1 w2 := hbz1.trans (hbs0.mono hszz)
  obtain ⟨lo, hlo⟩ : ∃ lo, lo = w1.heap.size := ⟨_, rfl⟩
  have ho2 : OwnB w2 lo w2.heap.size (.slice B2 m2 d2) (Ref.seq (X.lim true true p)) := ho2.mono (by omega) (Nat.le_refl _)
  have hlo1 : w1.heap.size ≤ lo ∧ lo ≤ w1.heap.size := by omega
  clear hbs0 hbz1 hszz HZ
  · skip
    dsimp only
    have hlm : (Ref.seq (X.lim true true p)).length ≤ 40 := by rw [← limb_raw]; exact (limb_wf true true p).2
    have hlb : (Ref.seq (X.lim true true p)).length ≤ 1000 := by omega
    have hl2 := ownB_len ho2
    have hs2 := hbs.size
    have hro := Rd.lit w2 5 [85, 29, 19] [.int .u8 85, .int .u8 29, .int .u8 19] _ 3 rfl rfl rfl (by omega)
    obtain ⟨w3, hw3⟩ : ∃ w3, w3 = w2.alloc (.cells #[.int .u8 85, .int .u8 29, .int .u8 19] 5) := ⟨_, rfl⟩
    have hb23 : Below w2.heap.size w2 w3 := by rw [hw3]; exact (Below.refl _ w2).alloc (Nat.le_refl _) _
    have hro3 : Rd w3 w3.heap.size (some ⟨w2.heap.size, 0, none⟩) 3 3 [85, 29, 19] := by rw [hw3]; exact hro
    obtain ⟨go, hgo⟩ : ∃ go, go = w2.heap.size := ⟨_, rfl⟩
    rw [← hgo] at hro3
    have hb13 : Below w1.heap.size w1 w3 := hbs.trans (hb23.mono hs2)
    have ho3 : OwnB w3 lo w3.heap.size (.slice B2 m2 d2) (Ref.seq (X.lim true true p)) := (ho2.below hb23 (Nat.le_refl _)).mono (Nat.le_refl _) hb23.size
    have hBo3 : Blk w3 go 5 #[.int .u8 85, .int .u8 29, .int .u8 19] := by rw [hw3, hgo]; exact Blk.new w2 _ _
    have hng3 : (∀ g, (Value.slice B2 m2 d2).ownBlock = some g → g < go) ∧ go < w3.heap.size := ⟨fun g e => by rw [hgo]; exact (ho2.lt_ e).2, hBo3.lt⟩
    have H3 := Lib.hid (And.intro (H1.out.2.2.below hb13 H1.out.2.2.lt) (And.intro hro3 (And.intro ho3.rdx (And.intro (H1.out.1.up hb13) (And.intro ho3 (And.intro hb13 (And.intro hng3 hBo3)))))))
    clear hro hro3 ho3 ho2 hb13 hb23 hBo3 hng3
    have hxl : (X.ext [85, 29, 19] true (Ref.seq (X.lim true true p))).length ≤ 2000 := by
      have h1 := (extq_mk (f := Fl.bare) (q := true) (body := (E.limb true true p).2.2) oid_basic (by simp) (by have := (limb_wf true true p).2; omega)).2.2.2
      rw [extq_raw, limb_raw] at h1
      omega
    have hxl2 : (X.ext [85, 29, 19] true (Ref.seq (X.lim true true p) ++ [5, 0])).length ≤ 2000 := by
      have h1 := (extq_mk (f := Fl.bare) (q := true) (body := (E.limb true true p).2.2 ++ [5, 0]) oid_basic (by simp) (by have := (limb_wf true true p).2; rw [List.length_append]; simp; omega)).2.2.2
      rw [extq_raw, limb_raw] at h1
      omega
    go_upto_region 12 with fail
    rw [← hw3, ← hgo]
    clear hw3 hgo
    refine wp_region_two 11 10 (JL [(fun v _ => v = k.val (.slice A0 n0 c0) (.slice A1 n1 c1) (.slice A2 n2 c2)), (fun v _ => v = .slice (some ⟨go, 0, none⟩) 3 3), (fun v _ => v = .slice B2 m2 d2), (fun v w => RdT w v (X.ext [85, 29, 19] true (Ref.seq (X.lim true true p)))), (RX [X.ext [85, 29, 19] true (Ref.seq (X.lim true true p))]), (fun v w => RdT w v (Ref.wr (Ref.seq (k.els.map (·.2.2) ++ X.tail [X.ext [85, 29, 19] true (Ref.seq (X.lim true true p))])) (k.sig.take 100))), (JP (w3.heap.size) (Ref.wr (Ref.seq (k.els.map (·.2.2) ++ X.tail [X.ext [85, 29, 19] true (Ref.seq (X.lim true true p))])) (k.sig.take 100)) 0), (JP (w3.heap.size) (Ref.wr (Ref.seq (k.els.map (·.2.2) ++ X.tail [X.ext [85, 29, 19] true (Ref.seq (X.lim true true p))])) (k.sig.take 100)) 0), (JP (w3.heap.size) (Ref.wr (Ref.seq (k.els.map (·.2.2) ++ X.tail [X.ext [85, 29, 19] true (Ref.seq (X.lim true true p))])) (k.sig.take 100)) 1), (JP (w3.heap.size) (Ref.wr (Ref.seq (k.els.map (·.2.2) ++ X.tail [X.ext [85, 29, 19] true (Ref.seq (X.lim true true p))])) (k.sig.take 100)) 2), (JP (w3.heap.size) (Ref.wr (Ref.seq (k.els.map (·.2.2) ++ X.tail [X.ext [85, 29, 19] true (Ref.seq (X.lim true true p))])) (k.sig.take 100)) 3), (fun _ _ => True), (JP (w3.heap.size) (Ref.wr (Ref.seq (k.els.map (·.2.2) ++ X.tail [X.ext [85, 29, 19] true (Ref.seq (X.lim true true p))])) (k.sig.take 100)) 2)]) (JV (w3.heap.size) (Ref.wr (Ref.seq (k.els.map (·.2.2) ++ X.tail [X.ext [85, 29, 19] true (Ref.seq (X.lim true true p))])) (k.sig.take 100))) (Below w3.heap.size w3) RN (SN (w3.heap.size)) ?hm ?hmono ?hmonoS JV.rn ?hGR ?hGS ?hd ?hg ?hA ?hW ((Below.refl _ _).drew) ?hs ?hdone
    case hm => rfl
    case hmono => exact JL.rn (B := w3.heap.size) (Sta.cons (Sta.eq _ _) (Sta.cons (Sta.eq _ _) (Sta.cons (Sta.eq _ _) (Sta.cons (Sta.rdt _ _) (Sta.cons (Sta.rx _ _) (Sta.cons (Sta.rdt _ _) (Sta.cons (Sta.jp _ _ _) (Sta.cons (Sta.jp _ _ _) (Sta.cons (Sta.jp _ _ _) (Sta.cons (Sta.jp _ _ _) (Sta.cons (Sta.jp _ _ _) (Sta.cons (Sta.true _) (Sta.cons (Sta.jp _ _ _) (Sta.nil))))))))))))))
    case hmonoS => exact JL.sn (B := w3.heap.size) (Sta.cons (Sta.eq _ _) (Sta.cons (Sta.eq _ _) (Sta.cons (Sta.eq _ _) (Sta.cons (Sta.rdt _ _) (Sta.cons (Sta.rx _ _) (Sta.cons (Sta.rdt _ _) (Sta.cons (Sta.jp _ _ _) (Sta.cons (Sta.jp _ _ _) (Sta.cons (Sta.jp _ _ _) (Sta.cons (Sta.jp _ _ _) (Sta.cons (Sta.jp _ _ _) (Sta.cons (Sta.true _) (Sta.cons (Sta.jp _ _ _) (Sta.nil))))))))))))))
    case hGR => exact fun w w' h1 h2 => h1.trans (Below.mono h2 h1.size)
    case hGS => exact fun w w' h1 h2 => h1.trans h2.1
    case hd => show dstsOk _ 102 = true; decide +kernel
    case hg => decide +kernel
    case hA => decide +kernel
    case hW => decide +kernel
    case hs =>
      refine ⟨two_else (by decide) ?_, two_else (by decide) ?_, two_else (by decide) ?_, two_else (by decide) ?_, two_else (by decide) ?_, two_else (by decide) ?_, two_else (by decide) ?_, two_else (by decide) ?_, two_else (by decide) ?_, two_else (by decide) ?_, two_else (by decide) ?_, two_then ?_, two_else (by decide) ?_, trivial⟩
      · intro a W hfr hG hdep; exact N_case rfl (by simp) (hfr 3 (by decide +kernel)) (H3.out.1.below hG H3.out.1.lt)
      · intro a W hfr hG hdep; exact N_move rfl (by simp) (hfr 9 (by decide +kernel))
      · intro a W hfr hG hdep; exact N_move rfl (by simp) (hfr 8 (by decide +kernel))
      · intro a W hfr hG hdep; exact N_ext rfl (by simp) (hdep 1 (by decide +kernel)) rfl (hdep 2 (by decide +kernel)) (H3.out.2.1.up hG) (H3.out.2.2.1.up hG) (by simp) (by first | omega | (simp only [List.length_append, List.length_cons, List.length_nil]; omega))
      · intro a W hfr hG hdep; exact N_row1 rfl (by simp) (hdep 3 (by decide +kernel))
      · intro a W hfr hG hdep; exact N_with rfl (by simp) (hdep 0 (by decide +kernel)) (hdep 4 (by decide +kernel)) (by simp only [List.flatten_cons, List.flatten_nil, List.append_nil]; omega) (H3.out.2.2.2.1.up hG)
      · intro a W hfr hG hdep; exact N_parse (B := w3.heap.size) rfl (by simp) (hdep 5 (by decide +kernel))
      · intro a W hfr hG hdep; exact N_move rfl (by simp) (hdep 6 (by decide +kernel))
      · intro a W hfr hG hdep; exact N_ext0 (B := w3.heap.size) rfl (by simp) (hdep 7 (by decide +kernel))
      · intro a W hfr hG hdep; exact N_ext1 (B := w3.heap.size) rfl (by simp) (hdep 7 (by decide +kernel))
      · intro a W hfr hG hdep; exact N_newc (B := w3.heap.size) (b := Ref.wr (Ref.seq (k.els.map (·.2.2) ++ X.tail [X.ext [85, 29, 19] true (Ref.seq (X.lim true true p))])) (k.sig.take 100)) rfl (by simp) hG.size
      · intro a W hfr hG hdep; exact N_store (p := 10) (fun _ _ => trivial) rfl rfl hG.size (hdep 10 (by decide +kernel)) rfl (hdep 8 (by decide +kernel))
      · intro a W hfr hG hdep; exact N_assign rfl (by simp) (hdep 9 (by decide +kernel))
    case hdone =>
      intro a W hdf hsz hfr hG hJ hV
      have hV : JV (w3.heap.size) (Ref.wr (Ref.seq (k.els.map (·.2.2) ++ X.tail [X.ext [85, 29, 19] true (Ref.seq (X.lim true true p))])) (k.sig.take 100)) (a.eval (.tmp 10)) W := hV
      obtain ⟨gv, Cv, hgv, hgB, hBv, hPv⟩ := hV
      have e := arr_eta a 102 hsz hdf
      rw [show (List.range 102).map (fun i => a.eval (.tmp i)) = a.eval (.tmp 0) :: a.eval (.tmp 1) :: a.eval (.tmp 2) :: a.eval (.tmp 3) :: a.eval (.tmp 4) :: a.eval (.tmp 5) :: a.eval (.tmp 6) :: a.eval (.tmp 7) :: a.eval (.tmp 8) :: a.eval (.tmp 9) :: a.eval (.tmp 10) :: a.eval (.tmp 11) :: a.eval (.tmp 12) :: a.eval (.tmp 13) :: a.eval (.tmp 14) :: a.eval (.tmp 15) :: a.eval (.tmp 16) :: a.eval (.tmp 17) :: a.eval (.tmp 18) :: a.eval (.tmp 19) :: a.eval (.tmp 20) :: a.eval (.tmp 21) :: a.eval (.tmp 22) :: a.eval (.tmp 23) :: a.eval (.tmp 24) :: a.eval (.tmp 25) :: a.eval (.tmp 26) :: a.eval (.tmp 27) :: a.eval (.tmp 28) :: a.eval (.tmp 29) :: a.eval (.tmp 30) :: a.eval (.tmp 31) :: a.eval (.tmp 32) :: a.eval (.tmp 33) :: a.eval (.tmp 34) :: a.eval (.tmp 35) :: a.eval (.tmp 36) :: a.eval (.tmp 37) :: a.eval (.tmp 38) :: a.eval (.tmp 39) :: a.eval (.tmp 40) :: a.eval (.tmp 41) :: a.eval (.tmp 42) :: a.eval (.tmp 43) :: a.eval (.tmp 44) :: a.eval (.tmp 45) :: a.eval (.tmp 46) :: a.eval (.tmp 47) :: a.eval (.tmp 48) :: a.eval (.tmp 49) :: a.eval (.tmp 50) :: a.eval (.tmp 51) :: a.eval (.tmp 52) :: a.eval (.tmp 53) :: a.eval (.tmp 54) :: a.eval (.tmp 55) :: a.eval (.tmp 56) :: a.eval (.tmp 57) :: a.eval (.tmp 58) :: a.eval (.tmp 59) :: a.eval (.tmp 60) :: a.eval (.tmp 61) :: a.eval (.tmp 62) :: a.eval (.tmp 63) :: a.eval (.tmp 64) :: a.eval (.tmp 65) :: a.eval (.tmp 66) :: a.eval (.tmp 67) :: a.eval (.tmp 68) :: a.eval (.tmp 69) :: a.eval (.tmp 70) :: a.eval (.tmp 71) :: a.eval (.tmp 72) :: a.eval (.tmp 73) :: a.eval (.tmp 74) :: a.eval (.tmp 75) :: a.eval (.tmp 76) :: a.eval (.tmp 77) :: a.eval (.tmp 78) :: a.eval (.tmp 79) :: a.eval (.tmp 80) :: a.eval (.tmp 81) :: a.eval (.tmp 82) :: a.eval (.tmp 83) :: a.eval (.tmp 84) :: a.eval (.tmp 85) :: a.eval (.tmp 86) :: a.eval (.tmp 87) :: a.eval (.tmp 88) :: a.eval (.tmp 89) :: a.eval (.tmp 90) :: a.eval (.tmp 91) :: a.eval (.tmp 92) :: a.eval (.tmp 93) :: a.eval (.tmp 94) :: a.eval (.tmp 95) :: a.eval (.tmp 96) :: a.eval (.tmp 97) :: a.eval (.tmp 98) :: a.eval (.tmp 99) :: a.eval (.tmp 100) :: a.eval (.tmp 101) :: [] from rfl] at e
      rw [hgv] at e
      rw [show a.eval (.tmp 11) = .int .i64 ((Cert.parse (Ref.wr (Ref.seq (k.els.map (·.2.2) ++ X.tail [X.ext [85, 29, 19] true (Ref.seq (X.lim true true p))])) (k.sig.take 100))).err : Int) from hJ 12 (by decide)] at e
      rw [show a.eval (.tmp 2) = .bool false from hfr 2 (by decide +kernel)] at e
      rw [show a.eval (.tmp 3) = .pointer (some ⟨w.heap.size + 1, 0, none⟩) from hfr 3 (by decide +kernel)] at e
      rw [show a.eval (.tmp 4) = .bool true from hfr 4 (by decide +kernel)] at e
      rw [show a.eval (.tmp 5) = .bool true from hfr 5 (by decide +kernel)] at e
      rw [show a.eval (.tmp 6) = .int .u16 (p : Int) from hfr 6 (by decide +kernel)] at e
      rw [show a.eval (.tmp 8) = .slice B2 m2 d2 from hfr 8 (by decide +kernel)] at e
      rw [show a.eval (.tmp 9) = .slice (some ⟨go, 0, none⟩) 3 3 from hfr 9 (by decide +kernel)] at e
      clear hgv
      generalize a.eval (.tmp 0) = u0 at e
      generalize a.eval (.tmp 1) = u1 at e
      generalize a.eval (.tmp 7) = u7 at e
      generalize a.eval (.tmp 12) = u12 at e
      generalize a.eval (.tmp 13) = u13 at e
      generalize a.eval (.tmp 14) = u14 at e
      generalize a.eval (.tmp 15) = u15 at e
      generalize a.eval (.tmp 16) = u16 at e
      generalize a.eval (.tmp 17) = u17 at e
      generalize a.eval (.tmp 18) = u18 at e
      generalize a.eval (.tmp 19) = u19 at e
      generalize a.eval (.tmp 20) = u20 at e
      generalize a.eval (.tmp 21) = u21 at e
      generalize a.eval (.tmp 22) = u22 at e
      generalize a.eval (.tmp 23) = u23 at e
      generalize a.eval (.tmp 24) = u24 at e
      generalize a.eval (.tmp 25) = u25 at e
      generalize a.eval (.tmp 26) = u26 at e
      generalize a.eval (.tmp 27) = u27 at e
      generalize a.eval (.tmp 28) = u28 at e
      generalize a.eval (.tmp 29) = u29 at e
      generalize a.eval (.tmp 30) = u30 at e
      generalize a.eval (.tmp 31) = u31 at e
      generalize a.eval (.tmp 32) = u32 at e
      generalize a.eval (.tmp 33) = u33 at e
      generalize a.eval (.tmp 34) = u34 at e
      generalize a.eval (.tmp 35) = u35 at e
      generalize a.eval (.tmp 36) = u36 at e
      generalize a.eval (.tmp 37) = u37 at e
      generalize a.eval (.tmp 38) = u38 at e
      generalize a.eval (.tmp 39) = u39 at e
      generalize a.eval (.tmp 40) = u40 at e
      generalize a.eval (.tmp 41) = u41 at e
      generalize a.eval (.tmp 42) = u42 at e
      generalize a.eval (.tmp 43) = u43 at e
      generalize a.eval (.tmp 44) = u44 at e
      generalize a.eval (.tmp 45) = u45 at e
      generalize a.eval (.tmp 46) = u46 at e
      generalize a.eval (.tmp 47) = u47 at e
      generalize a.eval (.tmp 48) = u48 at e
      generalize a.eval (.tmp 49) = u49 at e
      generalize a.eval (.tmp 50) = u50 at e
      generalize a.eval (.tmp 51) = u51 at e
      generalize a.eval (.tmp 52) = u52 at e
      generalize a.eval (.tmp 53) = u53 at e
      generalize a.eval (.tmp 54) = u54 at e
      generalize a.eval (.tmp 55) = u55 at e
      generalize a.eval (.tmp 56) = u56 at e
      generalize a.eval (.tmp 57) = u57 at e
      generalize a.eval (.tmp 58) = u58 at e
      generalize a.eval (.tmp 59) = u59 at e
      generalize a.eval (.tmp 60) = u60 at e
      generalize a.eval (.tmp 61) = u61 at e
      generalize a.eval (.tmp 62) = u62 at e
      generalize a.eval (.tmp 63) = u63 at e
      generalize a.eval (.tmp 64) = u64 at e
      generalize a.eval (.tmp 65) = u65 at e
      generalize a.eval (.tmp 66) = u66 at e
      generalize a.eval (.tmp 67) = u67 at e
      generalize a.eval (.tmp 68) = u68 at e
      generalize a.eval (.tmp 69) = u69 at e
      generalize a.eval (.tmp 70) = u70 at e
      generalize a.eval (.tmp 71) = u71 at e
      generalize a.eval (.tmp 72) = u72 at e
      generalize a.eval (.tmp 73) = u73 at e
      generalize a.eval (.tmp 74) = u74 at e
      generalize a.eval (.tmp 75) = u75 at e
      generalize a.eval (.tmp 76) = u76 at e
      generalize a.eval (.tmp 77) = u77 at e
      generalize a.eval (.tmp 78) = u78 at e
      generalize a.eval (.tmp 79) = u79 at e
      generalize a.eval (.tmp 80) = u80 at e
      generalize a.eval (.tmp 81) = u81 at e
      generalize a.eval (.tmp 82) = u82 at e
      generalize a.eval (.tmp 83) = u83 at e
      generalize a.eval (.tmp 84) = u84 at e
      generalize a.eval (.tmp 85) = u85 at e
      generalize a.eval (.tmp 86) = u86 at e
      generalize a.eval (.tmp 87) = u87 at e
      generalize a.eval (.tmp 88) = u88 at e
      generalize a.eval (.tmp 89) = u89 at e
      generalize a.eval (.tmp 90) = u90 at e
      generalize a.eval (.tmp 91) = u91 at e
      generalize a.eval (.tmp 92) = u92 at e
      generalize a.eval (.tmp 93) = u93 at e
      generalize a.eval (.tmp 94) = u94 at e
      generalize a.eval (.tmp 95) = u95 at e
      generalize a.eval (.tmp 96) = u96 at e
      generalize a.eval (.tmp 97) = u97 at e
      generalize a.eval (.tmp 98) = u98 at e
      generalize a.eval (.tmp 99) = u99 at e
      generalize a.eval (.tmp 100) = u100 at e
      generalize a.eval (.tmp 101) = u101 at e
      subst e
      clear hfr hJ hsz hdf
      have hoW : OwnB W lo W.heap.size (.slice B2 m2 d2) (Ref.seq (X.lim true true p)) := (H3.out.2.2.2.2.1.below hG (Nat.le_refl _)).mono (Nat.le_refl _) hG.size
      have hr5 := Rd.lit W 5 [5, 0] [.int .u8 5, .int .u8 0] _ 2 rfl rfl rfl (by omega)
      have hbW : Below w1.heap.size w1 W := H3.out.2.2.2.2.2.1.trans (hG.mono H3.out.2.2.2.2.2.1.size)
      have hloW : lo ≤ W.heap.size := by have := hbW.size; omega
      have hfl : (Lim.bad true true p = true ∧ ((Cert.parse (Ref.wr (Ref.seq (k.els.map (·.2.2) ++ X.tail [X.ext [85, 29, 19] true (Ref.seq (X.lim true true p))])) (k.sig.take 100))).err : Int) = 9) ∨ (Lim.bad true true p = false ∧ ((Cert.parse (Ref.wr (Ref.seq (k.els.map (·.2.2) ++ X.tail [X.ext [85, 29, 19] true (Ref.seq (X.lim true true p))])) (k.sig.take 100))).err : Int) = 0 ∧ Cv.fl.ca = true ∧ Cv.fl.path = if true then (p : Int) else -1) := by
        rcases paths_parse k H1.out.1.path true true p hp with ⟨h1, h2⟩ | ⟨h1, s, h2, h3, h4⟩
        · exact .inl ⟨h1, by rw [h2]; rfl⟩
        · rw [h2] at hPv
          obtain ⟨_, _, _, hf, _⟩ := hPv.out
          exact .inr ⟨h1, by rw [h2]; rfl, by rw [hf]; exact h3, by rw [hf]; exact h4⟩
      clear hPv
      generalize ((Cert.parse (Ref.wr (Ref.seq (k.els.map (·.2.2) ++ X.tail [X.ext [85, 29, 19] true (Ref.seq (X.lim true true p))])) (k.sig.take 100))).err : Int) = er at hfl ⊢
      have hBo := H3.out.2.2.2.2.2.2.2.below hG H3.out.2.2.2.2.2.2.1.2
      have hng : ∀ g, (Value.slice B2 m2 d2).ownBlock = some g → g < w3.heap.size := fun g e => (H3.out.2.2.2.2.1.lt_ e).2
      have hng2 : ∀ g, (Value.slice B2 m2 d2).ownBlock = some g → g < go := fun g e => H3.out.2.2.2.2.2.2.1.1 g e
      have H35 := Lib.hid (And.intro (hoW.alloc (Nat.le_refl _) (.cells #[.int .u8 5, .int .u8 0] 5)) (And.intro hr5 (And.intro hbW (And.intro (Blk.alloc hBv (.cells #[.int .u8 5, .int .u8 0] 5)) (And.intro (hBo.alloc (.cells #[.int .u8 5, .int .u8 0] 5)) (And.intro hng (And.intro hng2 hfl)))))))
      clear hoW hr5 hbW hBv hG hBo hng hng2 hfl
      go_upto_region 14 with (first
        | (at_builtin; refine wpList_app rfl (.tmp 53) (.tmp 54) rfl lo W.heap.size _ (Ref.seq (X.lim true true p)) rfl H35.out.1 (by simp; omega) _ (some ⟨W.heap.size, 0, none⟩) 2 2 [5, 0] rfl H35.out.2.1.rds (by omega) ?_; intro v4 w4 ho4 hg4 hor4 hb4; obtain ⟨B4, m4, d4, rfl, hr4⟩ := ho4.rd)
        | fail)
      have hb14 : Below w1.heap.size w1 w4 := (H35.out.2.2.1.alloc (H35.out.2.2.1.size) _).trans (hb4.mono (by omega))
      have hB4v : Bc w4 gv Cv := Blk.grown H35.out.2.2.2.1 hg4 (fun e => by have := H35.out.2.2.2.2.2.1 gv e.symm; omega)
      have hB4o : Blk w4 go 5 #[.int .u8 85, .int .u8 29, .int .u8 19] := Blk.grown H35.out.2.2.2.2.1 hg4 (fun e => by have := H35.out.2.2.2.2.2.2.1 go e.symm; omega)
      have hro4 : Rd w4 w4.heap.size (some ⟨go, 0, none⟩) 3 3 [85, 29, 19] := rd_of_blk hB4o rfl rfl
      have H4 := Lib.hid (And.intro (H1.out.2.2.below hb14 H1.out.2.2.lt) (And.intro hro4 (And.intro hr4 (And.intro (H1.out.1.up hb14) (And.intro hB4v (H1.out.2.1.trans (hb14.mono H1.out.2.1.size)))))))
      have hfl := H35.out.2.2.2.2.2.2.2
      clear hb14 hB4v hB4o hro4 hr4 ho4 hg4 hor4 hb4 H35 hgB
      refine wp_region_two 11 10 (JL [(fun v _ => v = k.val (.slice A0 n0 c0) (.slice A1 n1 c1) (.slice A2 n2 c2)), (fun v _ => v = .slice (some ⟨go, 0, none⟩) 3 3), (fun v _ => v = .slice B4 m4 d4), (fun v w => RdT w v (X.ext [85, 29, 19] true (Ref.seq (X.lim true true p) ++ [5, 0]))), (RX [X.ext [85, 29, 19] true (Ref.seq (X.lim true true p) ++ [5, 0])]), (fun v w => RdT w v (Ref.wr (Ref.seq (k.els.map (·.2.2) ++ X.tail [X.ext [85, 29, 19] true (Ref.seq (X.lim true true p) ++ [5, 0])])) (k.sig.take 100))), (JP (w4.heap.size) (Ref.wr (Ref.seq (k.els.map (·.2.2) ++ X.tail [X.ext [85, 29, 19] true (Ref.seq (X.lim true true p) ++ [5, 0])])) (k.sig.take 100)) 0), (JP (w4.heap.size) (Ref.wr (Ref.seq (k.els.map (·.2.2) ++ X.tail [X.ext [85, 29, 19] true (Ref.seq (X.lim true true p) ++ [5, 0])])) (k.sig.take 100)) 0), (JP (w4.heap.size) (Ref.wr (Ref.seq (k.els.map (·.2.2) ++ X.tail [X.ext [85, 29, 19] true (Ref.seq (X.lim true true p) ++ [5, 0])])) (k.sig.take 100)) 1), (JP (w4.heap.size) (Ref.wr (Ref.seq (k.els.map (·.2.2) ++ X.tail [X.ext [85, 29, 19] true (Ref.seq (X.lim true true p) ++ [5, 0])])) (k.sig.take 100)) 2), (JP (w4.heap.size) (Ref.wr (Ref.seq (k.els.map (·.2.2) ++ X.tail [X.ext [85, 29, 19] true (Ref.seq (X.lim true true p) ++ [5, 0])])) (k.sig.take 100)) 3), (fun _ _ => True), (JP (w4.heap.size) (Ref.wr (Ref.seq (k.els.map (·.2.2) ++ X.tail [X.ext [85, 29, 19] true (Ref.seq (X.lim true true p) ++ [5, 0])])) (k.sig.take 100)) 2)]) (JV (w4.heap.size) (Ref.wr (Ref.seq (k.els.map (·.2.2) ++ X.tail [X.ext [85, 29, 19] true (Ref.seq (X.lim true true p) ++ [5, 0])])) (k.sig.take 100))) (Below w4.heap.size w4) RN (SN (w4.heap.size)) ?hm ?hmono ?hmonoS JV.rn ?hGR ?hGS ?hd ?hg ?hA ?hW ((Below.refl _ _).drew) ?hs ?hdone
      case hm => rfl
      case hmono => exact JL.rn (B := w4.heap.size) (Sta.cons (Sta.eq _ _) (Sta.cons (Sta.eq _ _) (Sta.cons (Sta.eq _ _) (Sta.cons (Sta.rdt _ _) (Sta.cons (Sta.rx _ _) (Sta.cons (Sta.rdt _ _) (Sta.cons (Sta.jp _ _ _) (Sta.cons (Sta.jp _ _ _) (Sta.cons (Sta.jp _ _ _) (Sta.cons (Sta.jp _ _ _) (Sta.cons (Sta.jp _ _ _) (Sta.cons (Sta.true _) (Sta.cons (Sta.jp _ _ _) (Sta.nil))))))))))))))
      case hmonoS => exact JL.sn (B := w4.heap.size) (Sta.cons (Sta.eq _ _) (Sta.cons (Sta.eq _ _) (Sta.cons (Sta.eq _ _) (Sta.cons (Sta.rdt _ _) (Sta.cons (Sta.rx _ _) (Sta.cons (Sta.rdt _ _) (Sta.cons (Sta.jp _ _ _) (Sta.cons (Sta.jp _ _ _) (Sta.cons (Sta.jp _ _ _) (Sta.cons (Sta.jp _ _ _) (Sta.cons (Sta.jp _ _ _) (Sta.cons (Sta.true _) (Sta.cons (Sta.jp _ _ _) (Sta.nil))))))))))))))
      case hGR => exact fun w w' h1 h2 => h1.trans (Below.mono h2 h1.size)
      case hGS => exact fun w w' h1 h2 => h1.trans h2.1
      case hd => show dstsOk _ 102 = true; decide +kernel
      case hg => decide +kernel
      case hA => decide +kernel
      case hW => decide +kernel
      case hs =>
        refine ⟨two_else (by decide) ?_, two_else (by decide) ?_, two_else (by decide) ?_, two_else (by decide) ?_, two_else (by decide) ?_, two_else (by decide) ?_, two_else (by decide) ?_, two_else (by decide) ?_, two_else (by decide) ?_, two_else (by decide) ?_, two_else (by decide) ?_, two_then ?_, two_else (by decide) ?_, trivial⟩
        · intro a W hfr hG hdep; exact N_case rfl (by simp) (hfr 3 (by decide +kernel)) (H4.out.1.below hG H4.out.1.lt)
        · intro a W hfr hG hdep; exact N_move rfl (by simp) (hfr 9 (by decide +kernel))
        · intro a W hfr hG hdep; exact N_move rfl (by simp) (hfr 8 (by decide +kernel))
        · intro a W hfr hG hdep; exact N_ext rfl (by simp) (hdep 1 (by decide +kernel)) rfl (hdep 2 (by decide +kernel)) (H4.out.2.1.up hG) (H4.out.2.2.1.up hG) (by simp) (by first | omega | (simp only [List.length_append, List.length_cons, List.length_nil]; omega))
        · intro a W hfr hG hdep; exact N_row1 rfl (by simp) (hdep 3 (by decide +kernel))
        · intro a W hfr hG hdep; exact N_with rfl (by simp) (hdep 0 (by decide +kernel)) (hdep 4 (by decide +kernel)) (by simp only [List.flatten_cons, List.flatten_nil, List.append_nil]; omega) (H4.out.2.2.2.1.up hG)
        · intro a W hfr hG hdep; exact N_parse (B := w4.heap.size) rfl (by simp) (hdep 5 (by decide +kernel))
        · intro a W hfr hG hdep; exact N_move rfl (by simp) (hdep 6 (by decide +kernel))
        · intro a W hfr hG hdep; exact N_ext0 (B := w4.heap.size) rfl (by simp) (hdep 7 (by decide +kernel))
        · intro a W hfr hG hdep; exact N_ext1 (B := w4.heap.size) rfl (by simp) (hdep 7 (by decide +kernel))
        · intro a W hfr hG hdep; exact N_newc (B := w4.heap.size) (b := Ref.wr (Ref.seq (k.els.map (·.2.2) ++ X.tail [X.ext [85, 29, 19] true (Ref.seq (X.lim true true p) ++ [5, 0])])) (k.sig.take 100)) rfl (by simp) hG.size
        · intro a W hfr hG hdep; exact N_store (p := 10) (fun _ _ => trivial) rfl rfl hG.size (hdep 10 (by decide +kernel)) rfl (hdep 8 (by decide +kernel))
        · intro a W hfr hG hdep; exact N_assign rfl (by simp) (hdep 9 (by decide +kernel))
      case hdone =>
        intro a Wx hdf hsz hfr hGx hJ hV
        have hV : JV (w4.heap.size) (Ref.wr (Ref.seq (k.els.map (·.2.2) ++ X.tail [X.ext [85, 29, 19] true (Ref.seq (X.lim true true p) ++ [5, 0])])) (k.sig.take 100)) (a.eval (.tmp 12)) Wx := hV
        obtain ⟨gvx, Cvx, hgvx, hgBx, hBvx, hPvx⟩ := hV
        have e := arr_eta a 102 hsz hdf
        rw [show (List.range 102).map (fun i => a.eval (.tmp i)) = a.eval (.tmp 0) :: a.eval (.tmp 1) :: a.eval (.tmp 2) :: a.eval (.tmp 3) :: a.eval (.tmp 4) :: a.eval (.tmp 5) :: a.eval (.tmp 6) :: a.eval (.tmp 7) :: a.eval (.tmp 8) :: a.eval (.tmp 9) :: a.eval (.tmp 10) :: a.eval (.tmp 11) :: a.eval (.tmp 12) :: a.eval (.tmp 13) :: a.eval (.tmp 14) :: a.eval (.tmp 15) :: a.eval (.tmp 16) :: a.eval (.tmp 17) :: a.eval (.tmp 18) :: a.eval (.tmp 19) :: a.eval (.tmp 20) :: a.eval (.tmp 21) :: a.eval (.tmp 22) :: a.eval (.tmp 23) :: a.eval (.tmp 24) :: a.eval (.tmp 25) :: a.eval (.tmp 26) :: a.eval (.tmp 27) :: a.eval (.tmp 28) :: a.eval (.tmp 29) :: a.eval (.tmp 30) :: a.eval (.tmp 31) :: a.eval (.tmp 32) :: a.eval (.tmp 33) :: a.eval (.tmp 34) :: a.eval (.tmp 35) :: a.eval (.tmp 36) :: a.eval (.tmp 37) :: a.eval (.tmp 38) :: a.eval (.tmp 39) :: a.eval (.tmp 40) :: a.eval (.tmp 41) :: a.eval (.tmp 42) :: a.eval (.tmp 43) :: a.eval (.tmp 44) :: a.eval (.tmp 45) :: a.eval (.tmp 46) :: a.eval (.tmp 47) :: a.eval (.tmp 48) :: a.eval (.tmp 49) :: a.eval (.tmp 50) :: a.eval (.tmp 51) :: a.eval (.tmp 52) :: a.eval (.tmp 53) :: a.eval (.tmp 54) :: a.eval (.tmp 55) :: a.eval (.tmp 56) :: a.eval (.tmp 57) :: a.eval (.tmp 58) :: a.eval (.tmp 59) :: a.eval (.tmp 60) :: a.eval (.tmp 61) :: a.eval (.tmp 62) :: a.eval (.tmp 63) :: a.eval (.tmp 64) :: a.eval (.tmp 65) :: a.eval (.tmp 66) :: a.eval (.tmp 67) :: a.eval (.tmp 68) :: a.eval (.tmp 69) :: a.eval (.tmp 70) :: a.eval (.tmp 71) :: a.eval (.tmp 72) :: a.eval (.tmp 73) :: a.eval (.tmp 74) :: a.eval (.tmp 75) :: a.eval (.tmp 76) :: a.eval (.tmp 77) :: a.eval (.tmp 78) :: a.eval (.tmp 79) :: a.eval (.tmp 80) :: a.eval (.tmp 81) :: a.eval (.tmp 82) :: a.eval (.tmp 83) :: a.eval (.tmp 84) :: a.eval (.tmp 85) :: a.eval (.tmp 86) :: a.eval (.tmp 87) :: a.eval (.tmp 88) :: a.eval (.tmp 89) :: a.eval (.tmp 90) :: a.eval (.tmp 91) :: a.eval (.tmp 92) :: a.eval (.tmp 93) :: a.eval (.tmp 94) :: a.eval (.tmp 95) :: a.eval (.tmp 96) :: a.eval (.tmp 97) :: a.eval (.tmp 98) :: a.eval (.tmp 99) :: a.eval (.tmp 100) :: a.eval (.tmp 101) :: [] from rfl] at e
        rw [hgvx] at e
        rw [show a.eval (.tmp 13) = .int .i64 ((Cert.parse (Ref.wr (Ref.seq (k.els.map (·.2.2) ++ X.tail [X.ext [85, 29, 19] true (Ref.seq (X.lim true true p) ++ [5, 0])])) (k.sig.take 100))).err : Int) from hJ 12 (by decide)] at e
        rw [show a.eval (.tmp 2) = .bool false from hfr 2 (by decide +kernel)] at e
        rw [show a.eval (.tmp 4) = .bool true from hfr 4 (by decide +kernel)] at e
        rw [show a.eval (.tmp 5) = .bool true from hfr 5 (by decide +kernel)] at e
        rw [show a.eval (.tmp 6) = .int .u16 (p : Int) from hfr 6 (by decide +kernel)] at e
        rw [show a.eval (.tmp 10) = .pointer (some ⟨gv, 0, none⟩) from hfr 10 (by decide +kernel)] at e
        rw [show a.eval (.tmp 11) = .int .i64 er from hfr 11 (by decide +kernel)] at e
        clear hgvx
        generalize a.eval (.tmp 0) = u0 at e
        generalize a.eval (.tmp 1) = u1 at e
        generalize a.eval (.tmp 3) = u3 at e
        generalize a.eval (.tmp 7) = u7 at e
        generalize a.eval (.tmp 8) = u8 at e
        generalize a.eval (.tmp 9) = u9 at e
        generalize a.eval (.tmp 14) = u14 at e
        generalize a.eval (.tmp 15) = u15 at e
        generalize a.eval (.tmp 16) = u16 at e
        generalize a.eval (.tmp 17) = u17 at e
        generalize a.eval (.tmp 18) = u18 at e
        generalize a.eval (.tmp 19) = u19 at e
        generalize a.eval (.tmp 20) = u20 at e
        generalize a.eval (.tmp 21) = u21 at e
        generalize a.eval (.tmp 22) = u22 at e
        generalize a.eval (.tmp 23) = u23 at e
        generalize a.eval (.tmp 24) = u24 at e
        generalize a.eval (.tmp 25) = u25 at e
        generalize a.eval (.tmp 26) = u26 at e
        generalize a.eval (.tmp 27) = u27 at e
        generalize a.eval (.tmp 28) = u28 at e
        generalize a.eval (.tmp 29) = u29 at e
        generalize a.eval (.tmp 30) = u30 at e
        generalize a.eval (.tmp 31) = u31 at e
        generalize a.eval (.tmp 32) = u32 at e
        generalize a.eval (.tmp 33) = u33 at e
        generalize a.eval (.tmp 34) = u34 at e
        generalize a.eval (.tmp 35) = u35 at e
        generalize a.eval (.tmp 36) = u36 at e
        generalize a.eval (.tmp 37) = u37 at e
        generalize a.eval (.tmp 38) = u38 at e
        generalize a.eval (.tmp 39) = u39 at e
        generalize a.eval (.tmp 40) = u40 at e
        generalize a.eval (.tmp 41) = u41 at e
        generalize a.eval (.tmp 42) = u42 at e
        generalize a.eval (.tmp 43) = u43 at e
        generalize a.eval (.tmp 44) = u44 at e
        generalize a.eval (.tmp 45) = u45 at e
        generalize a.eval (.tmp 46) = u46 at e
        generalize a.eval (.tmp 47) = u47 at e
        generalize a.eval (.tmp 48) = u48 at e
        generalize a.eval (.tmp 49) = u49 at e
        generalize a.eval (.tmp 50) = u50 at e
        generalize a.eval (.tmp 51) = u51 at e
        generalize a.eval (.tmp 52) = u52 at e
        generalize a.eval (.tmp 53) = u53 at e
        generalize a.eval (.tmp 54) = u54 at e
        generalize a.eval (.tmp 55) = u55 at e
        generalize a.eval (.tmp 56) = u56 at e
        generalize a.eval (.tmp 57) = u57 at e
        generalize a.eval (.tmp 58) = u58 at e
        generalize a.eval (.tmp 59) = u59 at e
        generalize a.eval (.tmp 60) = u60 at e
        generalize a.eval (.tmp 61) = u61 at e
        generalize a.eval (.tmp 62) = u62 at e
        generalize a.eval (.tmp 63) = u63 at e
        generalize a.eval (.tmp 64) = u64 at e
        generalize a.eval (.tmp 65) = u65 at e
        generalize a.eval (.tmp 66) = u66 at e
        generalize a.eval (.tmp 67) = u67 at e
        generalize a.eval (.tmp 68) = u68 at e
        generalize a.eval (.tmp 69) = u69 at e
        generalize a.eval (.tmp 70) = u70 at e
        generalize a.eval (.tmp 71) = u71 at e
        generalize a.eval (.tmp 72) = u72 at e
        generalize a.eval (.tmp 73) = u73 at e
        generalize a.eval (.tmp 74) = u74 at e
        generalize a.eval (.tmp 75) = u75 at e
        generalize a.eval (.tmp 76) = u76 at e
        generalize a.eval (.tmp 77) = u77 at e
        generalize a.eval (.tmp 78) = u78 at e
        generalize a.eval (.tmp 79) = u79 at e
        generalize a.eval (.tmp 80) = u80 at e
        generalize a.eval (.tmp 81) = u81 at e
        generalize a.eval (.tmp 82) = u82 at e
        generalize a.eval (.tmp 83) = u83 at e
        generalize a.eval (.tmp 84) = u84 at e
        generalize a.eval (.tmp 85) = u85 at e
        generalize a.eval (.tmp 86) = u86 at e
        generalize a.eval (.tmp 87) = u87 at e
        generalize a.eval (.tmp 88) = u88 at e
        generalize a.eval (.tmp 89) = u89 at e
        generalize a.eval (.tmp 90) = u90 at e
        generalize a.eval (.tmp 91) = u91 at e
        generalize a.eval (.tmp 92) = u92 at e
        generalize a.eval (.tmp 93) = u93 at e
        generalize a.eval (.tmp 94) = u94 at e
        generalize a.eval (.tmp 95) = u95 at e
        generalize a.eval (.tmp 96) = u96 at e
        generalize a.eval (.tmp 97) = u97 at e
        generalize a.eval (.tmp 98) = u98 at e
        generalize a.eval (.tmp 99) = u99 at e
        generalize a.eval (.tmp 100) = u100 at e
        generalize a.eval (.tmp 101) = u101 at e
        subst e
        clear hfr hJ hsz hdf
        have herr : ((Cert.parse (Ref.wr (Ref.seq (k.els.map (·.2.2) ++ X.tail [X.ext [85, 29, 19] true (Ref.seq (X.lim true true p) ++ [5, 0])])) (k.sig.take 100))).err : Int) = 9 := by rw [paths_more k H1.out.1.path true true p]; rfl
        rw [herr]
        clear herr hPvx hBvx hgBx
        have hBW := H4.out.2.2.2.2.1.below hGx H4.out.2.2.2.2.1.lt
        have hbwW := H4.out.2.2.2.2.2.trans (hGx.mono H4.out.2.2.2.2.2.size)
        have HW := Lib.hid hbwW
        have kca : Wx.cell? ⟨gv, 20, none⟩ = some (.bool Cv.fl.ca) := hBW.at_ 20
        have kpa : Wx.cell? ⟨gv, 21, none⟩ = some (.int .i64 Cv.fl.path) := hBW.at_ 21
        clear hbwW hBW hGx H4 hxl hxl2 hlm hlb
        rcases hfl with ⟨hb, rfl⟩ | ⟨hb, rfl, hca, hpa⟩
        · have h255 : (255 : Int) < p := by
            unfold Lim.bad at hb
            simp at hb
            omega
          clear hb
          go_wp2_with fail
          refine (works12_any _).mono ?_
          rintro e wz ⟨rfl, hbz⟩
          go_wp2
          go_ret
          exact ⟨rfl, HW.out.trans (hbz.mono HW.out.size)⟩
        · have h255 : ¬ (255 : Int) < p := by
            unfold Lim.bad at hb
            simp at hb
            omega
          have hwp : IntKind.i64.wrap (p : Int) = p := by
            rw [IntKind.wrap_i64]
            omega
          rw [hca] at kca
          rw [hpa] at kpa
          simp only [Bool.false_eq_true, if_false, if_true] at kpa
          clear hb hca hpa
          go_wp2_with fail
          refine (works12_any _).mono ?_
          rintro e wz ⟨rfl, hbz⟩
          go_wp2
          go_ret
          exact ⟨rfl, HW.out.trans (hbz.mono HW.out.size)⟩

theorem certPaths_walk (w : World) (k : Kase) (A0 A1 A2 : Option Addr) (n0 c0 n1 c1 n2 c2 p : Nat) (ca told : Bool) (hk : k.come w A0 A1 A2 n0 c0 n1 c1 n2 c2) (hp : p < 65536) :
    Calls Try.prog 8 #[.agg (k.lrow (.slice A0 n0 c0) (.slice A1 n1 c1) (.slice A2 n2 c2) ca told p)] w fun e w' => e = .returned (.bool true) ∧ Below w.heap.size w w' := by
  cases ca <;> cases told
  · exact paths_ff k A0 A1 A2 n0 c0 n1 c1 n2 c2 p hp w hk
  · exact paths_ft k A0 A1 A2 n0 c0 n1 c1 n2 c2 p hp w hk
  · exact paths_tf k A0 A1 A2 n0 c0 n1 c1 n2 c2 p hp w hk
  · exact paths_tt k A0 A1 A2 n0 c0 n1 c1 n2 c2 p hp w hk
end Go.Proofs.Ytmnekhliblkibaa
