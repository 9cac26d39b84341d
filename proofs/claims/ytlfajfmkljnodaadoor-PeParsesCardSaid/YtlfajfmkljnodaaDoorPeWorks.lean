/- The anchor's contract. -/
import Derived.Test.YtlfajfmkljnodaaDoorPJ
import Derived.Test.YtlfajfmkljnodaaDoorPeBrought
import Derived.Test.YtlfajfmkljnodaaDoorPeWrite2
import Derived.BigQuiet
import Derived.Deep.QuietTactic
import Derived.Test.YtlfajfmkljnodaaDoorPeWorks2
namespace Go.Proofs.YtlfajfmkljnodaaDoor
open Go.RowKit
set_option maxRecDepth 100000
set_option linter.unusedVariables false
set_option linter.unusedSimpArgs false
set_option maxHeartbeats 8000000 in
theorem works_any (w : World) : Calls Tryd.prog 12 #[] w fun e w' => e = .returned (.bool true) ∧ Below w.heap.size w w' := by
  go_enter Tryd.func12, Tryd.ntmps12
  go_wp2_with fail
  refine (brought_any ⟨false, .slice none 0 0, .slice none 0 0, .slice (some ⟨w.heap.size + 1 + 1, 0, none⟩) 2 2, .slice (some ⟨w.heap.size + 1 + 1 + 1, 0, none⟩) 1 1, .slice none 0 0, .slice (some ⟨w.heap.size + 1 + 1 + 1 + 1 + 1, 0, none⟩) 1 1⟩ Pe.anchor _ (anchor_sh rfl rfl rfl rfl rfl rfl)).mono ?_
  rintro e w1 ⟨V1, rfl, hr1, hb1⟩
  have hb1 : Below w.heap.size w w1 := (by (repeat (first | exact Below.refl _ _ | assumption | (refine Below.setCell ?_ (by first | omega | (simp; done) | (simp; omega)) _) | (refine Below.alloc ?_ (by first | omega | (simp; done) | (simp; omega)) _) | (refine below_drewN ?_ _) | (refine Below.drew ?_))) : Below w.heap.size w _).trans (hb1.mono (by simp; omega))
  have hs1 := hb1.size
  have hB2 : Bs (w1.alloc (.cells V1.cells 39)) w1.heap.size V1 := Blk.new _ _ _
  have H1 := Lib.hid (And.intro hr1 hb1)
  clear hr1 hb1
  have hone := H1.out.1.one
  have HO := Lib.hid hone
  clear hone hB2
  go_wp2_with (first
    | ((with_reducible refine at_store_sh ?_); refine wpList_store_sh rfl _ _ rfl w1.heap.size ShV.zero V1 rfl rfl (Blk.new w1 _ _) HO.out ?_; intro w2 hB2 hg2)
    | ((with_reducible refine at_load_sh ?_); refine wpList_load_sh rfl _ rfl w1.heap.size V1 rfl hB2 ?_)
    | fail)
  have hb12 : Below w1.heap.size w1 w2 := (below_one w1 _).grown hg2 (by simp) (fun k e => by injection e with e; omega)
  have hr2 : ShRd w2 w2.heap.size V1 (Pe.brought Pe.anchor) := (H1.out.1.below hb12).more hb12.size
  refine (write_any V1 _ w2 hr2 (Pe.brought_ok _) (Pe.order_len _)).mono ?_
  rintro e w3 ⟨A3, n3, c3, rfl, ho3, hb3⟩
  obtain ⟨A3', n3', c3', e3, hr3⟩ := ho3.rd
  injection e3 with q1 q2 q3
  subst q1 q2 q3
  have hb13 : Below w1.heap.size w1 w3 := hb12.trans (hb3.mono hb12.size)
  have H3 := Lib.hid (And.intro hr3 hb13)
  clear hr3 hb13 hb3 hb12 hr2 ho3
  go_wp2_with fail
  refine (pe_parse_any A3 n3 c3 _ w3 H3.out.1).mono ?_
  rintro e w4 ⟨hb4, C, rfl, hC, _, hok⟩
  have hI := hok Pe.anchor_read.1
  rw [Pe.anchor_read.1]
  clear hok
  have H4 := Lib.hid (And.intro hb4 (And.intro hC hI))
  clear hb4 hC hI
  go_wp2_with (first
    | ((with_reducible refine at_store_img ?_); refine wpList_store_img rfl _ _ rfl w4.heap.size IV.zero C rfl rfl (Blk.new w4 _ _) H4.out.2.1 ?_; intro w5 hB5 hg5)
    | fail)
  have hn5 : Rd w5 w5.heap.size none 0 0 [] := ⟨rfl, Nat.le_refl _, by omega, fun _ => rfl, fun h => absurd h (by omega), ⟨rfl, fun h => absurd h (by omega)⟩⟩
  refine (pe_parse_any none 0 0 [] w5 hn5).mono ?_
  rintro e w6 ⟨hb6, C', rfl, hC', _, _⟩
  rw [Pe.nil_err]
  obtain ⟨p0, p3, p6, b, o, c, bs, os, cs, A2, c2, hsecs, hb, k0, k2, k3, hsigs, hbs, kg⟩ := anchor_facts H4.out.2.2
  have hb45 : Below w4.heap.size w4 w5 := (below_one w4 _).grown hg5 (by simp) (fun k e => by injection e with e; omega)
  have hfacts : ∀ W, Below w5.heap.size w5 W → W.cell? ⟨w4.heap.size, 0, none⟩ = some (.bool false) ∧ W.cell? ⟨w4.heap.size, 3, none⟩ = some (.int .u32 392) ∧ W.cell? ⟨w4.heap.size, 4, none⟩ = some (.slice (some ⟨b, o, none⟩) 2 c) ∧ W.cell? ⟨w4.heap.size, 6, none⟩ = some (.int .u32 16) ∧ W.cell? ⟨w4.heap.size, 7, none⟩ = some (.slice (some ⟨bs, os, none⟩) 1 cs) ∧
      W.cell? ⟨b, o, none⟩ = some (.int .u32 393) ∧ W.cell? ⟨b, o + 2, none⟩ = some (.int .u32 392) ∧ W.cell? ⟨b, o + 2 + 1, none⟩ = some (.int .u32 1) ∧ W.cell? ⟨bs, os, none⟩ = some (.slice A2 2 c2) := fun W hW => by
    have hBW : Bi W w4.heap.size C := hB5.below hW hB5.lt
    have h4W : Below w4.heap.size w4 W := hb45.trans (hW.mono hb45.size)
    refine ⟨(hBW.cell 0).trans (by rw [← p0]; rfl), (hBW.cell 3).trans (by show some (Value.int .u32 (C.headers : Int)) = _; rw [p3]; rfl), (hBW.cell 4).trans (by rw [← hsecs]; rfl), (hBW.cell 6).trans (by show some (Value.int .u32 (C.length : Int)) = _; rw [p6]; rfl), (hBW.cell 7).trans (by rw [← hsigs]; rfl), (h4W.cell (p := ⟨b, o, none⟩) hb).trans k0, (h4W.cell (p := ⟨b, o + 2, none⟩) hb).trans k2, (h4W.cell (p := ⟨b, o + 2 + 1, none⟩) hb).trans k3, (h4W.cell (p := ⟨bs, os, none⟩) hbs).trans kg⟩
  have hbw4 : Below w.heap.size w w4 := H1.out.2.trans ((H3.out.2.mono (by omega)).trans (H4.out.1.mono (by have := H3.out.2.size; omega)))
  have hbw6 : Below w.heap.size w w6 := hbw4.trans ((hb45.mono hbw4.size).trans (hb6.mono (by have := hb45.size; have := hbw4.size; omega)))
  have H6 := Lib.hid (And.intro hfacts (And.intro hb6 (And.intro hC' hbw6)))
  clear hfacts hb6 hC' hbw6 hbw4 hb45 p0 p3 p6 hsecs hb k0 k2 k3 hsigs hbs kg hn5
  go_wp2_with (first
    | ((with_reducible refine at_store_img ?_); refine wpList_store_img rfl _ _ rfl w6.heap.size IV.zero C' rfl rfl (Blk.new w6 _ _) H6.out.2.2.1 ?_; intro w7 hB7 hg7; have hb67 : Below w6.heap.size w6 w7 := (below_one w6 _).grown hg7 (by simp) (fun k e => by injection e with e; omega); obtain ⟨f0, f1, f2, f3, f4, f5, f6, f7, f8⟩ := H6.out.1 w7 (H6.out.2.1.trans (hb67.mono H6.out.2.1.size)); have H7 := Lib.hid (H6.out.2.2.2.trans (hb67.mono H6.out.2.2.2.size)); clear hB7 hg7 hb67)
    | fail)
  go_quiet (fail)
  go_wp2_with fail
  go_ret
  exact ⟨rfl, below_drewN H7.out nq⟩
end Go.Proofs.YtlfajfmkljnodaaDoor
