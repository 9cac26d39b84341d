/- The reference's reading: the rows of a certificate table. -/
import Derived.Test.YtlfajfmkljnodaaDoorPeR1
import Derived.Test.YtlfajfmkljnodaaDoorPF
namespace Go.Proofs.YtlfajfmkljnodaaDoor
open Go.RowKit
set_option maxRecDepth 100000
set_option linter.unusedVariables false
set_option linter.unusedSimpArgs false
section
variable {w w' : World} {lo hi : Nat} {v : Value} {xs : List UInt8} {l : List (Value × List UInt8)}
theorem wpList_xs2 {ops : Array Oper} {rest : List Oper} {o : Oper} {a : Act} {Q : Exit → Act → World → Prop} (hgd : o.guard = none) (s x : Operand)
    (ho : o.op = .call { callee := .builtin .append, args := #[s, x], argTypes := #[26, 26] })
    (lo : Nat) (v : Value) (l : List (Value × List UInt8)) (hs : a.eval s = v) (hown : XS w lo v l) (hlo : lo ≤ w.heap.size)
    (g : Nat) (v1 : Value) (x1 : List UInt8) (hx : a.eval x = .slice (some ⟨g, 0, none⟩) 1 1) (hg : w.cell? ⟨g, 0, none⟩ = some v1) (hgl : g < w.heap.size) (h1 : RdT w v1 x1) (hlen : l.length ≤ 2000000)
    (h : ∀ v' w', XS w' lo v' (l ++ [(v1, x1)]) → Below lo w w' → wpList Tryd.prog ops Q rest (a.put o.dst v') w') :
    wpList Tryd.prog ops Q (o :: rest) a w := by
  have hone : v1.oneCell' = true := by obtain ⟨A, n, c, rfl, _⟩ := h1; rfl
  refine wpList_appC hgd s x 26 ho 22 _ 1 24 bs_info2 Tryd.underlying26 rfl (by omega) lo w.heap.size v l.length (l.map (·.1)) hs hown.1 hlo (g + 1) _ 1 1 [v1] hx ⟨rfl, fun _ => ⟨_, rfl, by simp, fun j u hu => ?_⟩⟩ (by simpa using hone) (by omega) (by omega) ?_
  · rcases j with _ | j
    · simp only [List.getElem?_cons_zero, Option.some.injEq] at hu; subst hu; exact hg
    · simp at hu
  intro v' w' h1' h2 h3 h4
  have hkeep : ∀ (g : Nat) (cs : Array Value) (fr : Nat × Nat), w.heap[g]? = some (Obj.cells cs 5 fr) → w'.heap[g]? = w.heap[g]? := fun g cs fr hgg => by
    refine h2.block g (Array.getElem?_eq_some_iff.1 hgg).1 (fun e => ?_)
    rcases hown.1.1.2 with ⟨e1, _⟩ | ⟨g0, cap, cur, e1, _, hg0, _⟩
    · rw [e1] at e; simp [Value.ownBlock] at e
    · rw [e1] at e
      simp [Value.ownBlock] at e
      subst e
      rw [hg0] at hgg
      injection hgg with e2
      injection e2 with e3 e4
      exact absurd e4 (by decide)
  refine h v' w' ⟨by rw [List.length_append, List.map_append]; exact h1', fun p hp => ?_⟩ h4
  rcases List.mem_append.1 hp with hp | hp
  · exact (hown.2 p hp).keep h2.size hkeep
  · obtain rfl := List.mem_singleton.1 hp
    exact h1.keep h2.size hkeep
end
/-- What the reference's rows answers. -/
def RowsOut (xs : List UInt8) (a : Nat) (w : World) (e : Ending) (w' : World) : Prop :=
  Below w.heap.size w w' ∧ (Pe.rows xs a = none → e = .returned (.tuple #[.slice none 0 0, .int .i64 9])) ∧
  (∀ l, Pe.rows xs a = some l → 8 < l.length → e = .returned (.tuple #[.slice none 0 0, .int .i64 10])) ∧
  (∀ l, Pe.rows xs a = some l → ¬ 8 < l.length → ∃ v ls, e = .returned (.tuple #[v, .int .i64 0]) ∧ XS w' w.heap.size v ls ∧ ls.map (·.2) = l)
theorem RowsOut.bad {xs : List UInt8} {a : Nat} {w w' : World} (hb : Below w.heap.size w w') (h : Pe.rows xs a = none) : RowsOut xs a w (.returned (.tuple #[.slice none 0 0, .int .i64 9])) w' :=
  ⟨hb, fun _ => rfl, (fun l h1 => by rw [h] at h1; cases h1), (fun l h1 => by rw [h] at h1; cases h1)⟩
namespace Pe
theorem rowOk_in {xs : List UInt8} {a : Nat} (h : rowOk xs a = true) : ([(a, 4), (a + 4, 2), (a + 6, 2)].all fun p => inb xs p.1 p.2) = true := by
  unfold rowOk at h
  simp only [Bool.and_eq_true] at h
  simp [h.1, h.2.1.1.2.1, h.2.1.2.1]
theorem rowOk_of {xs : List UInt8} {a : Nat} (hi : ([(a, 4), (a + 4, 2), (a + 6, 2)].all fun p => inb xs p.1 p.2) = true) (h1 : 8 < at_ xs a 4) (h2 : at_ xs (a + 4) 2 = 512) (h3 : at_ xs (a + 6) 2 = 2) (h4 : up (at_ xs a 4) ≤ xs.length - a) : rowOk xs a = true := by
  simp only [List.all_cons, List.all_nil, Bool.and_true, Bool.and_eq_true] at hi
  unfold rowOk
  simp [hi.1, hi.2.1, hi.2.2, h1, h2, h3, h4]
theorem fillOk_true {xs : List UInt8} {a N U : Nat} (hN : at_ xs a 4 = N) (hU : up N = U) (h : ∀ z, a + N ≤ z → z < a + U → xs[z]? = some 0) : fillOk xs a = true := by
  unfold fillOk
  rw [hN, hU, List.all_eq_true]
  intro x hx
  obtain ⟨j, hj⟩ := List.getElem?_of_mem hx
  rw [List.getElem?_take] at hj
  split at hj
  · rw [List.getElem?_drop, h (a + N + j) (by omega) (by omega)] at hj
    injection hj with hj
    subst hj
    rfl
  · cases hj
theorem fillOk_false {xs : List UInt8} {a N U z : Nat} {x : UInt8} (hN : at_ xs a 4 = N) (hU : up N = U) (h1 : a + N ≤ z) (h2 : z < a + U) (hx : xs[z]? = some x) (h0 : x ≠ 0) : fillOk xs a = false := by
  rw [Bool.eq_false_iff]
  intro h
  unfold fillOk at h
  rw [hN, hU, List.all_eq_true] at h
  have h3 := h x (List.mem_of_getElem? (i := z - (a + N)) (by rw [List.getElem?_take, if_pos (by omega), List.getElem?_drop, show a + N + (z - (a + N)) = z by omega]; exact hx))
  simp at h3
  exact h0 h3
theorem bad_of {xs : List UInt8} {a : Nat} (h : rowOk xs a = false) : (rowOk xs a && fillOk xs a) = false := by rw [h]; rfl
end Pe
set_option maxHeartbeats 4000000 in
theorem rowsR_any (A : Option Addr) (n c a0 : Nat) (xs : List UInt8) (w : World) (h : Rd w w.heap.size A n c xs) (hn : n ≤ 16777216) (ha : a0 ≤ n) :
    Calls Tryd.prog 31 #[.slice A n c, .int .i64 (a0 : Int)] w (RowsOut xs a0 w) := by
  have hl := h.len
  have H := Lib.hid h
  clear h
  go_enter Tryd.func31, Tryd.ntmps31
  go_wp2_with fail
  go_loopw [1, 6, 7, 8, 9, 10, 11] (fun a1 v _ _ _ _ _ wr => ∃ (at' : Nat) (L : List (Value × List UInt8)), a1 = .int .i64 (at' : Int) ∧ at' ≤ n ∧ XS wr w.heap.size v L ∧ Pe.rows xs a0 = (Pe.rows xs at').map (L.map (·.2) ++ ·) ∧ L.length * 16 ≤ at' ∧ Below w.heap.size w wr) (fun a1 _ _ _ _ _ _ _ => n - (intOf a1).toNat)
  case atStart => exact ⟨a0, [], rfl, ha, XS.nil_, by simp, by simp, Below.refl _ _⟩
  case round =>
    obtain ⟨at', L, rfl, hat, hX, hrow, h16, hb⟩ := hrel
    have hsz := hb.size
    by_cases hlt : at' < n
    · have hlt' : (at' : Int) < n := by omega
      have hbad : (Pe.rowOk xs at' && Pe.fillOk xs at') = false → Pe.rows xs a0 = none := fun h1 => by rw [hrow, Pe.rows_bad (by omega) h1]; rfl
      obtain ⟨W1, hW1⟩ : ∃ W1, wr.alloc (.cells #[.int .i64 (at' : Int), .int .i64 4, .int .i64 ((at' : Int) + 4), .int .i64 2, .int .i64 ((at' : Int) + 6), .int .i64 2] 67) = W1 := ⟨_, rfl⟩
      have hB1 : Blk W1 wr.heap.size 67 ([(at', 4), (at' + 4, 2), (at' + 6, 2)].flatMap pairC).toArray := by
        rw [← hW1]
        have h1 := Blk.new wr 67 #[.int .i64 (at' : Int), .int .i64 4, .int .i64 ((at' : Int) + 4), .int .i64 2, .int .i64 ((at' : Int) + 6), .int .i64 2]
        simpa [pairC] using h1
      have hb1 : Below w.heap.size w W1 := by rw [← hW1]; exact hb.alloc hsz _
      have hbr1 : Below wr.heap.size wr W1 := by rw [← hW1]; exact (Below.refl _ _).alloc (Nat.le_refl _) _
      have hs1 : W1.heap.size = wr.heap.size + 1 := by rw [← hW1]; simp
      have hnum := numbersR_any A n c wr.heap.size 3 xs [(at', 4), (at' + 4, 2), (at' + 6, 2)] W1 ((H.out.below hb1).more hb1.size) (by omega) hB1 rfl (by omega) (by
        intro p hp
        simp only [List.mem_cons, List.not_mem_nil, or_false] at hp
        rcases hp with rfl | rfl | rfl
        · exact ⟨by dsimp only; omega, .inr (.inr rfl)⟩
        · exact ⟨by dsimp only; omega, .inr (.inl rfl)⟩
        · exact ⟨by dsimp only; omega, .inr (.inl rfl)⟩)
      obtain ⟨bi, hbi⟩ : ∃ b, ([(at', 4), (at' + 4, 2), (at' + 6, 2)].all fun p => Pe.inb xs p.1 p.2) = b := ⟨_, rfl⟩
      rw [hbi] at hnum
      have HI := Lib.hid (And.intro hX (And.intro hrow (And.intro hb (And.intro hb1 (And.intro hbr1 (And.intro hnum (And.intro hbad (And.intro hbi hW1))))))))
      clear hX hrow hb hb1 hbr1 hnum hbad hbi hB1
      go_wp2_with fail
      refine HI.out.2.2.2.2.2.1.mono ?_
      rintro e w1 ⟨hbn, v1, rfl, hv1⟩
      clear hW1
      have hb1 : Below w.heap.size w w1 := HI.out.2.2.2.1.trans (hbn.mono HI.out.2.2.2.1.size)
      have hbr : Below wr.heap.size wr w1 := HI.out.2.2.2.2.1.trans (hbn.mono (by omega))
      cases bi
      · have hno := HI.out.2.2.2.2.2.2.1 (Pe.bad_of (Bool.eq_false_iff.2 fun h1 => by have h2 := Pe.rowOk_in h1; rw [HI.out.2.2.2.2.2.2.2.1] at h2; cases h2))
        have HN := Lib.hid (And.intro hb1 hno)
        clear hb1 hbr hbn hv1 hno
        go_wp2_with fail
        exact bodyPost_ret (v := .tuple #[.slice none 0 0, .int .i64 9]) (by simp [results, Tryd.results31, go_sem]) rfl (RowsOut.bad HN.out.1 HN.out.2)
      · have hown := hv1 (by first | rfl | trivial)
        obtain ⟨gx, capx, ex, _, _⟩ := hown.1.form (by omega)
        have hgx := hown.2 gx (by rw [ex]; rfl)
        obtain ⟨N, hN⟩ : ∃ N, Pe.at_ xs at' 4 = N := ⟨_, rfl⟩
        obtain ⟨R, hR⟩ : ∃ N, Pe.at_ xs (at' + 4) 2 = N := ⟨_, rfl⟩
        obtain ⟨K, hK⟩ : ∃ N, Pe.at_ xs (at' + 6) 2 = N := ⟨_, rfl⟩
        have hNl : N < 4294967296 := by rw [← hN]; exact Pe.at_lt4 _ _
        have hRl : R < 65536 := by rw [← hR]; exact Pe.at_lt2 _ _
        have hKl : K < 65536 := by rw [← hK]; exact Pe.at_lt2 _ _
        have hcells : ∀ W, Below w1.heap.size w1 W → W.cell? ⟨gx, 0, none⟩ = some (.int .i64 (N : Int)) ∧ W.cell? ⟨gx, 1, none⟩ = some (.int .i64 (R : Int)) ∧ W.cell? ⟨gx, 2, none⟩ = some (.int .i64 (K : Int)) := fun W hW => by
          subst ex
          have c0 := hown.1.cellAt 0 (by omega)
          have c1 := hown.1.cellAt 1 (by omega)
          have c2 := hown.1.cellAt 2 (by omega)
          refine ⟨(hW.cell (p := ⟨gx, 0, none⟩) hgx).trans (c0.trans ?_), (hW.cell (p := ⟨gx, 1, none⟩) hgx).trans (c1.trans ?_), (hW.cell (p := ⟨gx, 2, none⟩) hgx).trans (c2.trans ?_)⟩
          · rw [← hN]; rfl
          · rw [← hR]; rfl
          · rw [← hK]; rfl
        subst ex
        obtain ⟨k0, k1, k2⟩ := hcells w1 (Below.refl _ _)
        have hbadN : ∀ (h1 : ¬ (8 < N ∧ R = 512 ∧ K = 2 ∧ Pe.up N ≤ n - at')), Pe.rows xs a0 = none := fun h1 => HI.out.2.2.2.2.2.2.1 (Pe.bad_of (Bool.eq_false_iff.2 fun h2 => h1 (by
          unfold Pe.rowOk at h2
          rw [hN, hR, hK, hl] at h2
          simp only [Bool.and_eq_true, decide_eq_true_eq, beq_iff_eq] at h2
          exact ⟨h2.2.1.1.1, h2.2.1.1.2.2, h2.2.1.2.2, h2.2.2⟩)))
        have HJ := Lib.hid (And.intro hb1 (And.intro hbr (And.intro hcells (And.intro hN (And.intro hR (And.intro hK hbadN))))))
        have hsz1 := hb1.size
        clear hb1 hbr hbn hown hv1 hcells hN hR hK hbadN
        by_cases c1 : (N : Int) < 9
        · have hno := HJ.out.2.2.2.2.2.2 (fun h1 => by omega)
          have HN := Lib.hid hno
          clear hno
          go_wp2_with fail
          exact bodyPost_ret (v := .tuple #[.slice none 0 0, .int .i64 9]) (by simp [results, Tryd.results31, go_sem]) rfl (RowsOut.bad HJ.out.1 HN.out)
        · obtain ⟨b2, c2⟩ : ∃ b, ((R : Int) != 512) = b := ⟨_, rfl⟩
          obtain ⟨b3, c3⟩ : ∃ b, ((K : Int) != 2) = b := ⟨_, rfl⟩
          cases b2
          · cases b3
            · have hR5 : R = 512 := by simp at c2; omega
              have hK2 : K = 2 := by simp at c3; omega
              obtain ⟨d, hd⟩ : ∃ d, (N + 7) / 8 = d := ⟨_, rfl⟩
              have hU : Pe.up N = d * 8 := by unfold Pe.up; rw [hd]
              have hNd : N ≤ d * 8 ∧ d * 8 ≤ N + 7 ∧ 16 ≤ d * 8 := by omega
              have hquo : Int.tdiv ((N : Int) + 7) 8 = (d : Int) := by rw [show (N : Int) + 7 = ((N + 7 : Nat) : Int) by omega, ← hd]; rfl
              have hcut := cutR_any A n c (at' + 8) (N - 8) ((at' : Int) + 8) ((N : Int) - 8) xs w1 ((H.out.below HJ.out.1).more hsz1) (by omega) (by omega) (by omega) (by omega) (by omega)
              obtain ⟨ci, hci⟩ : ∃ b, Pe.inb xs (at' + 8) (N - 8) = b := ⟨_, rfl⟩
              rw [hci] at hcut
              have HK := Lib.hid (And.intro hcut (And.intro hU hci))
              clear hcut hU hci hd
              go_wp2_with fail
              refine HK.out.1.mono ?_
              rintro e w2 ⟨A9, n9, c9, rfl, ho9, hb9⟩
              have hb2 : Below w.heap.size w w2 := HJ.out.1.trans (hb9.mono hsz1)
              obtain ⟨k0b, k1b, k2b⟩ := HJ.out.2.2.1 w2 hb9
              by_cases ce : at' + d * 8 ≤ n
              · have hct : ci = true := by rw [← HK.out.2.2]; unfold Pe.inb; simp; omega
                subst hct
                have ce' : ¬ ((at' : Int) + (d : Int) * 8 > n) := by omega
                have hblob : (if true = true then (xs.drop (at' + 8)).take (N - 8) else []) = Pe.blob xs at' := by unfold Pe.blob; rw [HJ.out.2.2.2.1]; rfl
                rw [hblob] at ho9
                have hrt : RdT w2 (.slice A9 n9 c9) (Pe.blob xs at') := RdT.own ho9
                have hX2 := HI.out.1.below (HJ.out.2.1.trans (hb9.mono HJ.out.2.1.size))
                have hR2 := H.out.below hb2
                have HL := Lib.hid (And.intro hb2 (And.intro hrt (And.intro hX2 hR2)))
                clear hb2 hrt hX2 ho9 hb9 k0 k1 k2 hblob hR2
                go_wp2_with fail
                obtain ⟨wf, hwf⟩ : ∃ x, x = w2 := ⟨_, rfl⟩
                subst hwf
                go_loopw [11] (fun i wr2 => ∃ q : Nat, i = .int .i64 (q : Int) ∧ at' + N ≤ q ∧ q ≤ at' + d * 8 ∧ (∀ z, at' + N ≤ z → z < q → xs[z]? = some 0) ∧ wr2 = wf) (fun i _ => at' + d * 8 - (intOf i).toNat)
                case atStart => exact ⟨at' + N, by go_num, Nat.le_refl _, hNd.1 |> fun h => by omega, fun z h1 h2 => by omega, rfl⟩
                case round =>
                  obtain ⟨q, rfl, hq1, hq2, hz, rfl⟩ := hrel
                  by_cases hqe : q < at' + d * 8
                  · have hqe' : (q : Int) < (at' : Int) + (d : Int) * 8 := by omega
                    have hql : (q : Int) < n := by omega
                    obtain ⟨b1, o1, rfl, hbw, hc⟩ := HL.out.2.2.2.at_ (by omega)
                    obtain ⟨x, hx⟩ : ∃ x, xs[q]? = some x := ⟨_, List.getElem?_eq_getElem (by omega)⟩
                    have qx := hc q x hx
                    by_cases hx0 : x = 0
                    · subst hx0
                      have qx' : wr.cell? ⟨b1, o1 + q, none⟩ = some (.int .u8 0) := qx
                      have HZ := Lib.hid (And.intro hz hx)
                      clear hz hx hc qx
                      go_wp2_with fail
                      go_roundw
                      case rel => exact ⟨q + 1, by go_num, by omega, by omega, (fun z h1 h2 => by
                        rcases Nat.lt_or_ge z q with h3 | h3
                        · exact HZ.out.1 z h1 h3
                        · obtain rfl : z = q := by omega
                          exact HZ.out.2), by first | rfl | trivial⟩
                      case measure => simp [intOf]; omega
                    · have hxn : ((x.toNat : Int) != 0) = true := by
                        have : x.toNat ≠ 0 := fun h1 => hx0 (UInt8.toNat_inj.1 h1)
                        simp; omega
                      have hno := HI.out.2.2.2.2.2.2.1 (by rw [Pe.fillOk_false HJ.out.2.2.2.1 HK.out.2.1 hq1 hqe hx hx0, Bool.and_false])
                      have HN := Lib.hid hno
                      clear hno hz hx hc
                      go_wp2_with fail
                      exact bodyPost_ret (v := .tuple #[.slice none 0 0, .int .i64 9]) (by simp [results, Tryd.results31, go_sem]) rfl (RowsOut.bad HL.out.1 HN.out)
                  · obtain rfl : q = at' + d * 8 := by omega
                    have hge : ¬ (((at' + d * 8 : Nat) : Int) < (at' : Int) + (d : Int) * 8) := by omega
                    have hfill := Pe.fillOk_true HJ.out.2.2.2.1 HK.out.2.1 hz
                    have hrk : Pe.rowOk xs at' = true := Pe.rowOk_of HI.out.2.2.2.2.2.2.2.1 (by rw [HJ.out.2.2.2.1]; omega) (by rw [HJ.out.2.2.2.2.1]; exact hR5) (by rw [HJ.out.2.2.2.2.2.1]; exact hK2) (by rw [HJ.out.2.2.2.1, HK.out.2.1]; omega)
                    have hgood := Pe.rows_good (xs := xs) (a := at') (by omega) (by rw [hrk, hfill]; rfl)
                    rw [HJ.out.2.2.2.1, HK.out.2.1] at hgood
                    obtain ⟨Av2, cv2, e6, _⟩ := HL.out.2.2.1.rdl
                    have HX := Lib.hid (And.intro (HL.out.2.2.1.alloc (.cells #[.slice A9 n9 c9] 22)) (And.intro (HL.out.2.1.alloc (.cells #[.slice A9 n9 c9] 22)) hgood))
                    have hsw := HL.out.1.size
                    subst e6
                    clear hz hfill hrk hgood k0b k1b k2b
                    go_wp2_with (first
                      | (at_builtin; refine wpList_xs2 rfl (.tmp 92) (.tmp 94) rfl w.heap.size _ L rfl HX.out.1 (by simp; omega) wr.heap.size (.slice A9 n9 c9) (Pe.blob xs at') rfl (Blk.cell (Blk.new wr _ _) 0) (by simp) HX.out.2.1 (by omega) ?_; intro v7 w7 hX7 hB7; have HZ := Lib.hid (And.intro hX7 ((HL.out.1.alloc hsw (.cells #[.slice A9 n9 c9] 22)).trans hB7)); clear hX7 hB7)
                      | fail)
                    go_roundw
                    case rel => exact ⟨at' + d * 8, L ++ [(.slice A9 n9 c9, Pe.blob xs at')], by go_num, ce, HZ.out.1, (by rw [HI.out.2.1, HX.out.2.2, Option.map_map]; congr 1; funext l; simp), (by rw [List.length_append, List.length_singleton]; omega), HZ.out.2⟩
                    case measure => simp [intOf]; omega
              · have hno := HJ.out.2.2.2.2.2.2 (fun h1 => by have h2 := h1.2.2.2; rw [HK.out.2.1] at h2; omega)
                have ce' : (at' : Int) + (d : Int) * 8 > n := by omega
                have HN := Lib.hid (And.intro hno hb2)
                clear hno hb2 ho9 hb9
                cases ci
                · go_wp2_with fail
                  exact bodyPost_ret (v := .tuple #[.slice none 0 0, .int .i64 9]) (by simp [results, Tryd.results31, go_sem]) rfl (RowsOut.bad HN.out.2 HN.out.1)
                · go_wp2_with fail
                  exact bodyPost_ret (v := .tuple #[.slice none 0 0, .int .i64 9]) (by simp [results, Tryd.results31, go_sem]) rfl (RowsOut.bad HN.out.2 HN.out.1)
            · have hno := HJ.out.2.2.2.2.2.2 (fun h1 => by rw [h1.2.2.1] at c3; cases c3)
              have HN := Lib.hid hno
              clear hno
              go_wp2_with fail
              exact bodyPost_ret (v := .tuple #[.slice none 0 0, .int .i64 9]) (by simp [results, Tryd.results31, go_sem]) rfl (RowsOut.bad HJ.out.1 HN.out)
          · have hno := HJ.out.2.2.2.2.2.2 (fun h1 => by rw [h1.2.1] at c2; cases c2)
            have HN := Lib.hid hno
            clear hno
            go_wp2_with fail
            exact bodyPost_ret (v := .tuple #[.slice none 0 0, .int .i64 9]) (by simp [results, Tryd.results31, go_sem]) rfl (RowsOut.bad HJ.out.1 HN.out)
    · obtain rfl : at' = n := by omega
      have hge : ¬ (at' : Int) < at' := by omega
      rw [Pe.rows_end (show xs.length ≤ at' by omega)] at hrow
      obtain ⟨Al, cl, rfl, _⟩ := hX.rdl
      have hLl : Pe.rows xs a0 = some (L.map (·.2)) := by rw [hrow]; simp
      have HQ := Lib.hid (And.intro hX (And.intro hb hLl))
      clear hX hb hrow hLl
      by_cases h8 : (8 : Int) < L.length
      · go_wp2_with fail
        exact bodyPost_ret (v := .tuple #[.slice none 0 0, .int .i64 10]) (by simp [results, Tryd.results31, go_sem]) rfl ⟨HQ.out.2.1, (fun h1 => by rw [HQ.out.2.2] at h1; cases h1), fun _ _ _ => rfl, fun l h1 h2 => by
          rw [HQ.out.2.2] at h1
          injection h1 with h1
          subst h1
          rw [List.length_map] at h2
          omega⟩
      · go_wp2_with fail
        exact bodyPost_ret (v := .tuple #[.slice Al L.length cl, .int .i64 0]) (by simp [results, Tryd.results31, go_sem]) rfl ⟨HQ.out.2.1, (fun h1 => by rw [HQ.out.2.2] at h1; cases h1), fun l h1 h2 => by
          rw [HQ.out.2.2] at h1
          injection h1 with h1
          subst h1
          rw [List.length_map] at h2
          omega, fun l h1 _ => by
          rw [HQ.out.2.2] at h1
          injection h1 with h1
          exact ⟨_, L, rfl, HQ.out.1, h1⟩⟩
end Go.Proofs.YtlfajfmkljnodaaDoor
