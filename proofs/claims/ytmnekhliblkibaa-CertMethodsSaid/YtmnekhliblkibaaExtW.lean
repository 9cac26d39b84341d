/- The contracts of the law's Ext and With. -/
import Derived.Test.YtmnekhliblkibaaPutEl
namespace Go.Proofs.Ytmnekhliblkibaa
open Go.RowKit
set_option maxRecDepth 1000000
set_option linter.unusedVariables false
set_option linter.unusedSimpArgs false

def X.ext (oid : List UInt8) (q : Bool) (oct : List UInt8) : List UInt8 := Ref.seq ([Der.write 6 oid] ++ (if q then [[1, 1, 255]] else []) ++ [Der.write 4 oct])
theorem flat3 (a b c : List UInt8) : ([a, b, c] : List (List UInt8)).flatten.length = a.length + b.length + c.length := by simp; omega
set_option maxHeartbeats 8000000
theorem ext_no (A1 A2 : Option Addr) (n1 c1 n2 c2 : Nat) (oid oct : List UInt8) (w : World) (h1 : Rd w w.heap.size A1 n1 c1 oid) (h2 : Rd w w.heap.size A2 n2 c2 oct) (hn1 : n1 ≤ 1000000) (hn2 : n2 ≤ 1000000) :
    Calls Try.prog 30 #[.slice A1 n1 c1, .bool false, .slice A2 n2 c2] w (RetOwn (X.ext oid false oct) w) := by
  have H := Lib.hid (And.intro h1 h2)
  clear h1 h2
  go_enter Try.func30, Try.ntmps30
  go_wp2_with fail
  refine (refWrite_lit 6 6 rfl A1 n1 c1 oid w H.out.1 (by omega)).mono ?_
  rintro en w1 ⟨A3, n3, c3, rfl, ho3, hb3⟩
  dsimp only
  have hl3 := ownB_len ho3
  have hw3 := write_lt 6 oid 1000000 (by have := H.out.1.len; omega) (by omega)
  have hx1 := XS.lit w1 [(.slice A3 n3 c3, Der.write 6 oid)] _ _ 1 rfl rfl rfl (by omega) (fun p hp => by rw [List.mem_singleton.1 hp]; exact RdT.own ho3)
  have hb1 : Below w.heap.size w (w1.alloc (.cells #[.slice A3 n3 c3] 22)) := hb3.alloc hb3.size _
  have H1 := Lib.hid (And.intro hx1 (And.intro hb1 (H.out.2.up hb1)))
  have hs1 := hb3.size
  clear hx1 hb1 ho3 hb3
  go_wp2_with fail
  refine (refWrite_lit 4 4 rfl A2 n2 c2 oct _ H1.out.2.2 (by omega)).mono ?_
  rintro en w2 ⟨A4, n4, c4, rfl, ho4, hb4⟩
  dsimp only
  have hl4 := ownB_len ho4
  have hw4 := write_lt 4 oct 1000000 (by have := H.out.2.len; omega) (by omega)
  have hs2 := hb4.size
  simp only [World.size_alloc] at hs2
  have hX2 := (H1.out.1.below hb4).alloc (.cells #[.slice A4 n4 c4] 22)
  have hr4 := (RdT.own ho4).alloc (.cells #[.slice A4 n4 c4] 22)
  have hbw2 := H1.out.2.1.trans (hb4.mono H1.out.2.1.size)
  have H2 := Lib.hid (And.intro hX2 (And.intro hr4 (hbw2.alloc (by omega) (.cells #[.slice A4 n4 c4] 22))))
  clear hX2 hr4 hbw2 ho4 hb4
  go_wp2_with (first
    | (at_builtin; refine wpList_xs rfl (.tmp 16) (.tmp 19) rfl w1.heap.size _ _ rfl H2.out.1 (by simp; omega) w2.heap.size (.slice A4 n4 c4) (Der.write 4 oct) rfl (Blk.cell (Blk.new w2 _ _) 0) (by simp) H2.out.2.1 (by simp) ?_; intro v3 w3 hX3 hB3; obtain ⟨Av, cv, rfl, hrdl⟩ := hX3.rdl)
    | fail)
  have hbw3 : Below w.heap.size w w3 := H2.out.2.2.trans (hB3.mono (by omega))
  refine (refSeq_any _ _ _ _ _ hrdl (by simp) (by unfold cat; simp only [List.map_cons, List.map_append, List.map_nil, List.flatten_append, List.flatten_cons, List.flatten_nil, List.length_append, List.length_nil]; omega)).mono ?_
  rintro en w4 ⟨A5, n5, c5, rfl, ho5, hb5⟩
  go_wp2
  go_ret
  have hb := hbw3.trans (hb5.mono hbw3.size)
  exact ⟨A5, n5, c5, rfl, ho5.mono hbw3.size (Nat.le_refl _), hb⟩
theorem ext_yes (A1 A2 : Option Addr) (n1 c1 n2 c2 : Nat) (oid oct : List UInt8) (w : World) (h1 : Rd w w.heap.size A1 n1 c1 oid) (h2 : Rd w w.heap.size A2 n2 c2 oct) (hn1 : n1 ≤ 1000000) (hn2 : n2 ≤ 1000000) :
    Calls Try.prog 30 #[.slice A1 n1 c1, .bool true, .slice A2 n2 c2] w (RetOwn (X.ext oid true oct) w) := by
  have H := Lib.hid (And.intro h1 h2)
  clear h1 h2
  go_enter Try.func30, Try.ntmps30
  go_wp2_with fail
  refine (refWrite_lit 6 6 rfl A1 n1 c1 oid w H.out.1 (by omega)).mono ?_
  rintro en w1 ⟨A3, n3, c3, rfl, ho3, hb3⟩
  dsimp only
  have hl3 := ownB_len ho3
  have hw3 := write_lt 6 oid 1000000 (by have := H.out.1.len; omega) (by omega)
  have hx1 : XS (w1.alloc (.cells #[.slice A3 n3 c3] 22)) w1.heap.size (.slice (some ⟨w1.heap.size, 0, none⟩) 1 1) [(.slice A3 n3 c3, Der.write 6 oid)] := XS.lit w1 [(.slice A3 n3 c3, Der.write 6 oid)] _ _ 1 rfl rfl rfl (by omega) (fun p hp => by rw [List.mem_singleton.1 hp]; exact RdT.own ho3)
  have hb1 : Below w.heap.size w (w1.alloc (.cells #[.slice A3 n3 c3] 22)) := hb3.alloc hb3.size _
  have hs1 := hb3.size
  obtain ⟨w2, hw2⟩ : ∃ w2, w2 = w1.alloc (.cells #[.slice A3 n3 c3] 22) := ⟨_, rfl⟩
  rw [← hw2] at hx1 hb1
  have hs2 : w2.heap.size = w1.heap.size + 1 := by rw [hw2]; simp
  -- the critical row
  have hry : Rd (w2.alloc (.cells #[.int .u8 1, .int .u8 1, .int .u8 255] 5)) _ (some ⟨w2.heap.size, 0, none⟩) 3 3 [1, 1, 255] := Rd.lit w2 5 [1, 1, 255] [.int .u8 1, .int .u8 1, .int .u8 255] _ 3 rfl rfl rfl (by omega)
  have hty : RdT (w2.alloc (.cells #[.int .u8 1, .int .u8 1, .int .u8 255] 5)) (.slice (some ⟨w2.heap.size, 0, none⟩) 3 3) [1, 1, 255] := RdT.blk (heap_alloc_new w2 _) hry
  have hX2 := (hx1.alloc (.cells #[.int .u8 1, .int .u8 1, .int .u8 255] 5)).alloc (.cells #[.slice (some ⟨w2.heap.size, 0, none⟩) 3 3] 22)
  have hty2 := hty.alloc (.cells #[.slice (some ⟨w2.heap.size, 0, none⟩) 3 3] 22)
  have hb2 : Below w.heap.size w ((w2.alloc (.cells #[.int .u8 1, .int .u8 1, .int .u8 255] 5)).alloc (.cells #[.slice (some ⟨w2.heap.size, 0, none⟩) 3 3] 22)) := (hb1.alloc (by omega) _).alloc (by simp; omega) _
  have H2 := Lib.hid (And.intro hX2 (And.intro hty2 hb2))
  have hg : w2.heap.size + 1 = (w2.alloc (.cells #[.int .u8 1, .int .u8 1, .int .u8 255] 5)).heap.size := by simp
  have hcell : ((w2.alloc (.cells #[.int .u8 1, .int .u8 1, .int .u8 255] 5)).alloc (.cells #[.slice (some ⟨w2.heap.size, 0, none⟩) 3 3] 22)).cell? ⟨w2.heap.size + 1, 0, none⟩ = some (.slice (some ⟨w2.heap.size, 0, none⟩) 3 3) := by
    have h := Blk.cell (Blk.new (w2.alloc (.cells #[.int .u8 1, .int .u8 1, .int .u8 255] 5)) 22 #[.slice (some ⟨w2.heap.size, 0, none⟩) 3 3]) 0
    rw [← hg] at h
    exact h
  have HC := Lib.hid hcell
  clear hx1 hb1 hry hty hX2 hty2 hb2 ho3 hb3 hg hcell
  subst hw2
  simp only [World.size_alloc] at H2 HC
  go_wp2_with (
      (at_builtin; refine wpList_xs rfl (.tmp 12) (.tmp 14) rfl w1.heap.size _ _ rfl H2.out.1 (by simp; omega) (w1.heap.size + 1 + 1) _ [1, 1, 255] rfl HC.out (by simp) H2.out.2.1 (by simp) ?_; intro v3 w3 hX3 hB3; obtain ⟨Av, cv, rfl, hrdl⟩ := hX3.rdl))

  have hbw3 : Below w.heap.size w w3 := H2.out.2.2.trans (hB3.mono (by omega))
  have hX3' := hX3
  have H3 := Lib.hid (And.intro hX3 (And.intro hbw3 (H.out.2.up hbw3)))
  have hs3 := hB3.size
  simp only [World.size_alloc] at hs3
  clear hX3 hbw3 hX3' hrdl hB3 H2 HC
  go_wp2_with fail
  refine (refWrite_lit 4 4 rfl A2 n2 c2 oct _ H3.out.2.2 (by omega)).mono ?_
  rintro en w4 ⟨A4, n4, c4, rfl, ho4, hb4⟩
  dsimp only
  have hl4 := ownB_len ho4
  have hw4 := write_lt 4 oct 1000000 (by have := H.out.2.len; omega) (by omega)
  have hs4 := hb4.size
  have hX4 := (H3.out.1.below hb4).alloc (.cells #[.slice A4 n4 c4] 22)
  have hr4 := (RdT.own ho4).alloc (.cells #[.slice A4 n4 c4] 22)
  have hbw4 := H3.out.2.1.trans (hb4.mono H3.out.2.1.size)
  have H4 := Lib.hid (And.intro hX4 (And.intro hr4 (hbw4.alloc (by omega) (.cells #[.slice A4 n4 c4] 22))))
  clear hX4 hr4 hbw4 ho4 hb4
  go_wp2_with
      (at_builtin; refine wpList_xs rfl (.tmp 16) (.tmp 19) rfl w1.heap.size _ _ rfl H4.out.1 (by simp; omega) w4.heap.size (.slice A4 n4 c4) (Der.write 4 oct) rfl (Blk.cell (Blk.new w4 _ _) 0) (by simp) H4.out.2.1 (by simp) ?_; intro v5 w5 hX5 hB5; obtain ⟨Aw, cw, rfl, hrdl⟩ := hX5.rdl)
  have hbw5 : Below w.heap.size w w5 := H4.out.2.2.trans (hB5.mono (by omega))
  refine (refSeq_any _ _ _ _ _ hrdl (by simp) (by unfold cat; simp only [List.map_cons, List.map_append, List.map_nil, List.flatten_append, List.flatten_cons, List.flatten_nil, List.length_append, List.length_nil, List.length_cons]; omega)).mono ?_
  rintro en w6 ⟨A5, n5, c5, rfl, ho5, hb5⟩
  go_wp2
  go_ret
  have hb := hbw5.trans (hb5.mono hbw5.size)
  exact ⟨A5, n5, c5, rfl, ho5.mono hbw5.size (Nat.le_refl _), hb⟩
theorem ext_any (A1 A2 : Option Addr) (n1 c1 n2 c2 : Nat) (oid oct : List UInt8) (q : Bool) (w : World) (h1 : Rd w w.heap.size A1 n1 c1 oid) (h2 : Rd w w.heap.size A2 n2 c2 oct) (hn1 : n1 ≤ 1000000) (hn2 : n2 ≤ 1000000) :
    Calls Try.prog 30 #[.slice A1 n1 c1, .bool q, .slice A2 n2 c2] w (RetOwn (X.ext oid q oct) w) := by
  cases q
  · exact ext_no A1 A2 n1 c1 n2 c2 oid oct w h1 h2 hn1 hn2
  · exact ext_yes A1 A2 n1 c1 n2 c2 oid oct w h1 h2 hn1 hn2
end Go.Proofs.Ytmnekhliblkibaa
