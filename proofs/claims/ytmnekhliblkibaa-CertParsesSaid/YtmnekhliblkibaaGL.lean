/- Joined of: RefCert1 RefCert2 RefGen RefUb. -/
import Derived.Test.YtmnekhliblkibaaGA
import Derived.Test.YtmnekhliblkibaaGK
import Derived.Lib.SlBytesConst
import Derived.Laws.IdiomStrings
import Derived.BigQuiet
import Derived.BigRegion
import Derived.StillTailTactics
import Derived.Deep.QuietTactic
import Derived.Deep.RegionHeld3
import Derived.Deep.RegionHeld2
section
/- The contracts of the reference's Seq and Write. -/
namespace Go.Proofs.Ytmnekhliblkibaa
open Go.RowKit
set_option maxRecDepth 100000
set_option linter.unusedVariables false
set_option linter.unusedSimpArgs false

def Ref.seq (l : List (List UInt8)) : List UInt8 := Der.write 48 l.flatten
theorem refSeq_any (A : Option Addr) (n c : Nat) (l : List (Value × List UInt8)) (w : World) (h : RdL w w.heap.size A n c l) (hn : n ≤ 1099511627776) (ht : (cat l).length ≤ 1099511627000) :
    Calls Try.prog 33 #[.slice A n c] w (RetOwn (Ref.seq (l.map (·.2))) w) := by
  have H := Lib.hid h
  clear h
  go_enter Try.func33, Try.ntmps33
  go_wp2_with fail
  refine (refJoin_any A n c l _ H.out hn (by omega)).mono ?_
  rintro e w1 ⟨A1, n1, c1, rfl, ho1, hb1⟩
  have hn1 := ownB_len ho1
  have H1 := Lib.hid (And.intro ho1 hb1)
  clear ho1 hb1
  go_wp2_with fail
  refine (refWrite_any 48 A1 n1 c1 (cat l) _ (H1.out.1.rdx) (by omega)).mono ?_
  rintro e w2 ⟨A2, n2, c2, rfl, ho2, hb2⟩
  have H2 := Lib.hid (And.intro ho2 hb2)
  clear ho2 hb2
  go_wp2
  go_ret
  exact ⟨A2, n2, c2, rfl, H2.out.1.mono H1.out.2.size (Nat.le_refl _), H1.out.2.trans (H2.out.2.mono H1.out.2.size)⟩

theorem write_bound (t : UInt8) (b : List UInt8) (h : b.length < 4294967296) : (Der.write t b).length ≤ b.length + 6 ∧ b.length + 2 ≤ (Der.write t b).length := by
  have h1 := Der.write_len t b
  have h2 := Der.lenB_len b.length h
  have h3 : 0 < (Der.lenB b.length).length := by unfold Der.lenB; split <;> simp
  omega
theorem Rd.conv (w : World) (xs : List UInt8) (cs : List Value) (n : Nat) (fr : Nat × Nat) (hc : cs = xs.map bv) (hl : xs.length = n) (hn : n ≤ 1000) :
    Rd (w.alloc (.cells cs.toArray 5 fr)) (w.alloc (.cells cs.toArray 5 fr)).heap.size (some ⟨w.heap.size, 0, none⟩) n n xs := by
  subst hc hl
  refine ⟨rfl, Nat.le_refl _, by omega, (fun e => by cases e), fun _ => ⟨_, _, rfl, by simp⟩, by simp, fun _ => ⟨_, rfl, by simp, fun j u hu => ?_⟩⟩
  rw [Addr.add_lit, Nat.zero_add]
  exact (cell_of_row _ _ j _ _ _ (heap_alloc_new w _)).trans (by simpa using hu)
theorem run_conv (W : World) (C : Array Value) (n c : Nat) : (convert 22 22 (.slice (some ⟨W.heap.size, 0, none⟩) n c)).run Try.prog (W.alloc (.cells C 5)) = .ok (.slice (some ⟨W.heap.size, 0, none⟩) n c) (W.alloc (.cells C 5 (C.size, C.size + 1))) :=
  Lib.run_convert_bytes_const W 22 5 C n c Try.underlying22 Try.underlying5
def Ref.signAlg : List UInt8 := [48, 13, 6, 9, 42, 134, 72, 134, 247, 13, 1, 1, 11, 5, 0]
def Ref.wr (tbs sig : List UInt8) : List UInt8 := Ref.seq [tbs, Ref.signAlg, Der.write 3 (0 :: sig)]

set_option maxHeartbeats 1000000 in
theorem refWr_any (A1 A2 : Option Addr) (n1 c1 n2 c2 : Nat) (tbs sig : List UInt8) (w : World) (h1 : Rd w w.heap.size A1 n1 c1 tbs) (h2 : Rd w w.heap.size A2 n2 c2 sig) (hn1 : n1 ≤ 1000000000) (hn2 : n2 ≤ 1000000000) :
    Calls Try.prog 23 #[.slice A1 n1 c1, .slice A2 n2 c2] w (RetOwn (Ref.wr tbs sig) w) := by
  have H := Lib.hid (And.intro h1 h2)
  have HA := Lib.hid (And.intro (OwnB.lit w [0] [.int .u8 0] 1 rfl rfl (by omega)) ((h2.alloc (Nat.le_refl _) (.cells #[.int .u8 0] 5)).rds))
  clear h1 h2
  have hcv := run_conv
  go_enter Try.func23, Try.ntmps23
  go_wp2_with (first
    | (at_builtin
       refine wpList_app rfl (.tmp 7) (.tmp 8) rfl w.heap.size (w.heap.size + 1) _ [0] rfl HA.out.1 (by simp) _ A2 n2 c2 sig rfl HA.out.2 (by simp <;> omega) ?_
       intro v2 w2 ho2 hg2 hat2 hb2
       obtain ⟨B2, m2, d2, rfl, hr2⟩ := ho2.rd
       have HR := Lib.hid (And.intro hr2 (And.intro (Below.trans (by (repeat (first | exact Below.refl _ _ | assumption | (refine Below.setCell ?_ (by first | omega | (simp; done) | (simp; omega)) _) | (refine Below.alloc ?_ (by first | omega | (simp; done) | (simp; omega)) _) | (refine below_drewN ?_ _) | (refine Below.drew ?_)))) hb2 : Below w.heap.size w w2) hr2.len))
       clear ho2 hg2 hat2 hb2 hr2)
    | fail)
  have hconv := Rd.conv w2 Ref.signAlg [.int .u8 48, .int .u8 13, .int .u8 6, .int .u8 9, .int .u8 42, .int .u8 134, .int .u8 72, .int .u8 134, .int .u8 247, .int .u8 13, .int .u8 1, .int .u8 1, .int .u8 11, .int .u8 5, .int .u8 0] 15 (15, 16) rfl rfl (by omega)
  have hb24 : Below w2.heap.size w2 (w2.alloc (.cells #[.int .u8 48, .int .u8 13, .int .u8 6, .int .u8 9, .int .u8 42, .int .u8 134, .int .u8 72, .int .u8 134, .int .u8 247, .int .u8 13, .int .u8 1, .int .u8 1, .int .u8 11, .int .u8 5, .int .u8 0] 5 (15, 16))) := (Below.refl _ _).alloc (Nat.le_refl _) _
  have h2' := (HR.out.1).up hb24
  have h1' := (H.out.1.up HR.out.2.1).up hb24
  obtain ⟨W3, hW3⟩ : ∃ W3, (w2.alloc (.cells #[.int .u8 48, .int .u8 13, .int .u8 6, .int .u8 9, .int .u8 42, .int .u8 134, .int .u8 72, .int .u8 134, .int .u8 247, .int .u8 13, .int .u8 1, .int .u8 1, .int .u8 11, .int .u8 5, .int .u8 0] 5 (15, 16))) = W3 := ⟨_, rfl⟩
  rw [hW3] at hconv h2' h1' hb24 ⊢
  have hs2 := HR.out.2.1.size
  have hs3 := hb24.size
  have hlb := HR.out.2.2
  have HX := Lib.hid (And.intro hconv (And.intro h1' (And.intro hb24 hlb)))
  have hm2 : m2 ≤ 1099511627000 := by have := H.out.2.len; simp at hlb; omega
  clear hW3 hconv h1' hb24 hlb
  refine (refWrite_any 3 B2 m2 d2 ([0] ++ sig) _ h2' hm2).mono ?_
  rintro e w3 ⟨A3, n3, c3, rfl, ho3, hb3⟩
  have hs4 := hb3.size
  have hl3 : (Der.write 3 ([0] ++ sig)).length = n3 := ownB_len ho3
  have HY := Lib.hid (And.intro ho3 (And.intro hb3 hl3))
  clear ho3 hb3 h2' hl3
  go_wp2_with fail
  refine (refSeq_any _ 3 3 [(.slice A1 n1 c1, tbs), (.slice (some ⟨w2.heap.size, 0, none⟩) 15 15, Ref.signAlg), (.slice A3 n3 c3, Der.write 3 ([0] ++ sig))] _ (RdL.lit w3 _ _ _ _ 3 rfl rfl rfl (by omega) ?_) (by omega) ?_).mono ?_
  · intro v xs hm
    simp only [List.mem_cons, List.not_mem_nil, or_false, Prod.mk.injEq] at hm
    rcases hm with ⟨rfl, rfl⟩ | ⟨rfl, rfl⟩ | ⟨rfl, rfl⟩
    · exact RdV.mk (HX.out.2.1.up HY.out.2.1)
    · exact RdV.mk (HX.out.1.up HY.out.2.1)
    · exact RdV.mk HY.out.1.rdx
  · have h1 := write_bound 3 ([0] ++ sig) (by have := H.out.2.len; simp; omega)
    have h2 := H.out.1.len
    have h3 := H.out.2.len
    simp [cat, Ref.signAlg] at h1 ⊢
    omega
  rintro e w4 ⟨A4, n4, c4, rfl, ho4, hb4⟩
  have H4 := Lib.hid (And.intro ho4 hb4)
  clear ho4 hb4
  go_wp2
  go_ret
  exact ⟨A4, n4, c4, rfl, H4.out.1.mono (by simp; omega) (Nat.le_refl _), ((HR.out.2.1.trans (HX.out.2.2.1.mono hs2)).trans (HY.out.2.1.mono (by omega))).trans (Below.trans ((Below.refl _ _).alloc (by omega) _) (H4.out.2.mono (by simp; omega)))⟩
end Go.Proofs.Ytmnekhliblkibaa
end

section
/- The contracts of the reference's ext, general. -/
namespace Go.Proofs.Ytmnekhliblkibaa
open Go.RowKit
set_option maxRecDepth 100000
set_option linter.unusedVariables false
set_option linter.unusedSimpArgs false

/-- The world behind '[]byte(s)', and what can be read in it. -/
def strWorld (w : World) (xs : List UInt8) : World := w.drew.alloc (.cells (bytesRow ⟨xs.toArray⟩ (grownCap w xs.length 0 5)) 5 ((bytesRow ⟨xs.toArray⟩ (grownCap w xs.length 0 5)).size, (bytesRow ⟨xs.toArray⟩ (grownCap w xs.length 0 5)).size + 1))
theorem run_str (w : World) (xs : List UInt8) : (convert 9 22 (.string ⟨xs.toArray⟩)).run Try.prog w = .ok (.slice (some ⟨w.heap.size, 0, none⟩) xs.length (grownCap w xs.length 0 5)) (strWorld w xs) :=
  run_bytes_of_string w 9 22 5 ⟨xs.toArray⟩ Try.underlying9 Try.underlying22 Try.underlying5
theorem str_below (w : World) (xs : List UInt8) : Below w.heap.size w (strWorld w xs) := ((Below.refl _ w).drew).alloc (by simp) _
theorem str_size (w : World) (xs : List UInt8) : (strWorld w xs).heap.size = w.heap.size + 1 := by simp [strWorld]
theorem str_rd (w : World) (xs : List UInt8) (hl : xs.length ≤ 9223372036854775807) : Rd (strWorld w xs) (strWorld w xs).heap.size (some ⟨w.heap.size, 0, none⟩) xs.length (grownCap w xs.length 0 5) xs := by
  refine ⟨rfl, grownCap_ge _ _ _ _, ?_, (fun e => by cases e), fun _ => ⟨_, _, rfl, by simp [str_size]⟩, by simp, fun _ => ⟨_, rfl, by simp [str_size], fun j u hu => ?_⟩⟩
  · have := grownCap_le_maxLen w xs.length 0 5 (by simp only [maxLen]; omega)
    simpa [maxLen] using this
  · rw [Addr.add_lit, Nat.zero_add]
    refine (cell_of_row _ _ j _ _ _ (heap_alloc_new w.drew _)).trans ?_
    simp only [List.getElem?_map] at hu
    unfold bytesRow
    have hj : j < xs.length := by
      rcases Nat.lt_or_ge j xs.length with h | h
      · exact h
      · rw [List.getElem?_eq_none (by simpa using h)] at hu; cases hu
    rw [Array.getElem?_append_left (by simpa using hj)]
    rw [List.getElem?_eq_getElem hj] at hu
    simp only [Option.map_some, Option.some.injEq] at hu
    subst hu
    simp [bv, hj]

def Ref.ext (name body : List UInt8) : List UInt8 := Ref.seq [Der.write 6 name, Der.write 4 body]
set_option maxHeartbeats 1000000 in
theorem refExt_any (name : List UInt8) (A : Option Addr) (n c : Nat) (body : List UInt8) (w : World) (h : Rd w w.heap.size A n c body) (hn : n ≤ 1000000000) (hm : name.length ≤ 1000000000) :
    Calls Try.prog 80 #[.string ⟨name.toArray⟩, .slice A n c] w (RetOwn (Ref.ext name body) w) := by
  have H := Lib.hid h
  clear h
  have hst := fun W => run_str W name
  have hsw := str_size w name
  have HS := Lib.hid (And.intro (str_below w name) (str_rd w name (by omega)))
  go_enter Try.func80, Try.ntmps80
  go_wp2_with fail
  refine (refWrite_any 6 _ _ _ name _ HS.out.2 (by omega)).mono ?_
  rintro e w2 ⟨A2, n2, c2, rfl, ho2, hb2⟩
  have hs2 := hb2.size
  have hl2 : (Der.write 6 name).length = n2 := ownB_len ho2
  have HY := Lib.hid (And.intro ho2 (And.intro hb2 hl2))
  clear ho2 hb2 hl2
  go_wp2_with fail
  refine (refWrite_any 4 A n c body _ ((H.out.up HS.out.1).up HY.out.2.1) (by omega)).mono ?_
  rintro e w3 ⟨A3, n3, c3, rfl, ho3, hb3⟩
  have hs3 := hb3.size
  have hl3 : (Der.write 4 body).length = n3 := ownB_len ho3
  have HZ := Lib.hid (And.intro ho3 (And.intro hb3 hl3))
  clear ho3 hb3 hl3
  go_wp2_with fail
  refine (refSeq_any _ 2 2 [(.slice A2 n2 c2, Der.write 6 name), (.slice A3 n3 c3, Der.write 4 body)] _ (RdL.lit w3 _ _ _ _ 2 rfl rfl rfl (by omega) ?_) (by omega) ?_).mono ?_
  · intro v xs hm
    simp only [List.mem_cons, List.not_mem_nil, or_false, Prod.mk.injEq] at hm
    rcases hm with ⟨rfl, rfl⟩ | ⟨rfl, rfl⟩
    · exact RdV.mk (HY.out.1.rdx.up HZ.out.2.1)
    · exact RdV.mk HZ.out.1.rdx
  · have h1 := write_bound 6 name (by omega)
    have h2 := write_bound 4 body (by have := H.out.len; omega)
    have h3 := H.out.len
    simp [cat] at h1 h2 ⊢
    omega
  rintro e w4 ⟨A4, n4, c4, rfl, ho4, hb4⟩
  have H4 := Lib.hid (And.intro ho4 hb4)
  clear ho4 hb4
  go_wp2
  go_ret
  exact ⟨A4, n4, c4, rfl, H4.out.1.mono (by simp; omega) (Nat.le_refl _), ((HS.out.1.trans (HY.out.2.1.mono (by omega))).trans (HZ.out.2.1.mono (by omega))).trans (Below.trans ((Below.refl _ _).alloc (by omega) _) (H4.out.2.mono (by simp; omega)))⟩
end Go.Proofs.Ytmnekhliblkibaa
end

section
/- The contract of the reference's general. -/
namespace Go.Proofs.Ytmnekhliblkibaa
open Go.RowKit
set_option maxRecDepth 100000
set_option linter.unusedVariables false
set_option linter.unusedSimpArgs false

/-- append of bytes, as one step of a region. -/
theorem step_app {w : World} {ops : Array Oper} {o : Oper} {a : Act} {K : Act → World → Prop} {Q : Exit → Act → World → Prop} {E : Prop} (hgd : o.guard = none) (s x : Operand)
    (ho : o.op = .call { callee := .builtin .append, args := #[s, x], argTypes := #[22, 22] })
    (lo hi : Nat) (v : Value) (xs : List UInt8) (hs : a.eval s = v) (hown : OwnB w lo hi v xs) (hlo : lo ≤ w.heap.size)
    (B : Nat) (A : Option Addr) (m c : Nat) (news : List UInt8) (hx : a.eval x = .slice A m c) (hr : Reads w B 1 A m (news.map bv)) (hlen : xs.length + m ≤ 35184372088832)
    (h : ∀ v' w', OwnB w' lo w'.heap.size v' (xs ++ news) → w.grownBy w' v.ownBlock → (v'.ownBlock = v.ownBlock ∨ v'.ownBlock = some w.heap.size) → Below lo w w' → K (a.put o.dst v') w') :
    if Region.wanted o (yielded ops a.tmps) = true then Oper.wp Try.prog o a w K Q else E := by
  obtain ⟨i0, hi0, hz0, hz1, hz2⟩ := info_parts u8_info
  have hm : news.length = m := by have := hr.1; simp at this; omega
  refine step_append_any w hgd s x 22 ho lo 5 i0 _ 1 1 Try.underlying22 hi0 hz0 hz1 hz2 rfl (by omega) v xs.length (xs.map bv) hs hown.1 B A m c (news.map bv) hx hr (bv_one news) (by simp only [maxLen]; omega) (by omega) hlo ?_
  intro v' w' h1 h2 h3
  exact h v' w' (OwnB.of (by rw [List.map_append]; exact h1)) h2 h3 ((Below.refl _ _).grown h2 hlo fun k hk => (hown.1.lt k hk).1)

def Ref.two (x : Nat) : List UInt8 := [UInt8.ofNat (48 + x / 10 % 10), UInt8.ofNat (48 + x % 10)]
theorem two_bv (x : Nat) (hx : x < 65536) : (Ref.two x).map bv = [.int .u8 (IntKind.u8.wrap (IntKind.i64.wrap (48 + (IntKind.i64.wrap ((x : Int) / 10)).tmod 10))), .int .u8 (IntKind.u8.wrap (IntKind.i64.wrap (48 + (x : Int).tmod 10)))] := by
  have h1 : (UInt8.ofNat (48 + x / 10 % 10)).toNat = 48 + x / 10 % 10 := by
    rw [UInt8.toNat_ofNat']; omega
  have h2 : (UInt8.ofNat (48 + x % 10)).toNat = 48 + x % 10 := by
    rw [UInt8.toNat_ofNat']; omega
  have w1 : ∀ y : Int, 0 ≤ y → y < 65536 → IntKind.i64.wrap y = y := fun y h1 h2 => by
    rw [IntKind.wrap_i64]
    omega
  have w2 : ∀ y : Int, 0 ≤ y → y < 256 → IntKind.u8.wrap y = y := fun y h1 h2 => Int.emod_eq_of_lt h1 h2
  have t1 : ∀ y : Int, 0 ≤ y → y.tmod 10 = y % 10 := fun y h => Int.tmod_eq_emod_of_nonneg h
  simp only [Ref.two, List.map_cons, List.map_nil, bv, h1, h2]
  rw [w1 ((x : Int) / 10) (by omega) (by omega), t1 _ (by omega), t1 _ (by omega), w1 _ (by omega) (by omega), w1 _ (by omega) (by omega), w2 _ (by omega) (by omega), w2 _ (by omega) (by omega)]
  rfl
theorem reads_twoB (w : World) (x : Nat) (hx : x < 65536) : Reads (w.alloc (.cells #[.int .u8 (IntKind.u8.wrap (IntKind.i64.wrap (48 + (IntKind.i64.wrap ((x : Int) / 10)).tmod 10))), .int .u8 (IntKind.u8.wrap (IntKind.i64.wrap (48 + (x : Int).tmod 10)))] 5)).drew (w.alloc (.cells #[.int .u8 (IntKind.u8.wrap (IntKind.i64.wrap (48 + (IntKind.i64.wrap ((x : Int) / 10)).tmod 10))), .int .u8 (IntKind.u8.wrap (IntKind.i64.wrap (48 + (x : Int).tmod 10)))] 5)).heap.size 1 (some ⟨w.heap.size, 0, none⟩) 2 ((Ref.two x).map bv) := by
  rw [two_bv x hx]
  exact Reads.drewN (reads_block w _ _ _ rfl) 1
def Ref.nums (t : Tm) : List Nat := [t.y / 100, t.y % 100, t.mo, t.d, t.h, t.mi, t.s]
def Ref.general (t : Tm) : List UInt8 := Der.write 24 ((Ref.nums t).flatMap Ref.two ++ [90])
def Tm.fits (t : Tm) : Prop := t.y < 65536 ∧ t.ok8

set_option maxHeartbeats 2000000 in
theorem refGen_any (t : Tm) (ht : t.fits) (w : World) : Calls Try.prog 82 #[t.v] w (RetOwn (Ref.general t) w) := by
  obtain ⟨y, mo, d, h, mi, s⟩ := t
  obtain ⟨hy, h1, h2, h3, h4, h5⟩ := ht
  dsimp only at hy h1 h2 h3 h4 h5
  unfold Tm.v
  go_enter Try.func82, Try.ntmps82
  have hBk := Blk.new (w.alloc (.cells #[.int .u16 (y : Int), .int .u8 (mo : Int), .int .u8 (d : Int), .int .u8 (h : Int), .int .u8 (mi : Int), .int .u8 (s : Int)] 27)) 3 #[.int .i64 ((y : Int) / 100), .int .i64 ((y : Int) % 100), .int .i64 (mo : Int), .int .i64 (d : Int), .int .i64 (h : Int), .int .i64 (mi : Int), .int .i64 (s : Int)]
  simp only [World.size_alloc] at hBk
  have hBw : Below w.heap.size w ((w.alloc (.cells #[.int .u16 (y : Int), .int .u8 (mo : Int), .int .u8 (d : Int), .int .u8 (h : Int), .int .u8 (mi : Int), .int .u8 (s : Int)] 27)).alloc (.cells #[.int .i64 ((y : Int) / 100), .int .i64 ((y : Int) % 100), .int .i64 (mo : Int), .int .i64 (d : Int), .int .i64 (h : Int), .int .i64 (mi : Int), .int .i64 (s : Int)] 3)) := by (repeat (first | exact Below.refl _ _ | assumption | (refine Below.setCell ?_ (by first | omega | (simp; done) | (simp; omega)) _) | (refine Below.alloc ?_ (by first | omega | (simp; done) | (simp; omega)) _) | (refine below_drewN ?_ _) | (refine Below.drew ?_)))
  go_wp2
  obtain ⟨W, hW⟩ : ∃ W, ((w.alloc (.cells #[.int .u16 (y : Int), .int .u8 (mo : Int), .int .u8 (d : Int), .int .u8 (h : Int), .int .u8 (mi : Int), .int .u8 (s : Int)] 27)).alloc (.cells #[.int .i64 ((y : Int) / 100), .int .i64 ((y : Int) % 100), .int .i64 (mo : Int), .int .i64 (d : Int), .int .i64 (h : Int), .int .i64 (mi : Int), .int .i64 (s : Int)] 3)) = W := ⟨_, rfl⟩
  rw [hW] at hBk hBw ⊢
  have hsW : w.heap.size + 1 < W.heap.size := hBk.lt
  obtain ⟨l, hl⟩ : ∃ l, Ref.nums ⟨y, mo, d, h, mi, s⟩ = l := ⟨_, rfl⟩
  have hcell : ∀ (k x : Nat), l[k]? = some x → W.cell? ⟨w.heap.size + 1, k, none⟩ = some (.int .i64 (x : Int)) := by
    intro k x hx
    rw [hBk.cell k]
    subst hl
    unfold Ref.nums at hx
    match k, hx with
    | 0, hx | 1, hx | 2, hx | 3, hx | 4, hx | 5, hx | 6, hx => simp only [List.getElem?_cons_zero, List.getElem?_cons_succ, Option.some.injEq] at hx; subst hx; simp
    | k + 7, hx => simp at hx
  have hlen : l.length = 7 := by subst hl; rfl
  have hsm : ∀ x ∈ l, x < 65536 := by
    subst hl
    intro x hx
    simp only [Ref.nums, List.mem_cons, List.not_mem_nil, or_false] at hx
    omega
  have HX := Lib.hid (And.intro hl (And.intro hcell (And.intro hlen (And.intro hsm hBw))))
  clear hW hBk hBw hl hcell hlen hsm
  go_loopw [3, 5] (fun v i wr => ∃ k : Nat, k ≤ 7 ∧ i = .int .i64 k ∧ OwnB wr W.heap.size wr.heap.size v ((l.take k).flatMap Ref.two) ∧ Below W.heap.size W wr) (fun _ i _ => 7 - (intOf i).toNat)
  case atStart => exact ⟨0, by omega, rfl, OwnB.nil_, Below.refl _ _⟩
  case round =>
    obtain ⟨k, hk, rfl, ho, hb⟩ := hrel
    have hsz := hb.size
    by_cases hlt : k < 7
    · have hlt' : (k : Int) < 7 := by omega
      obtain ⟨x, hx⟩ : ∃ x, l[k]? = some x := ⟨_, List.getElem?_eq_getElem (by rw [HX.out.2.2.1]; exact hlt)⟩
      have hx6 := HX.out.2.2.2.1 x (List.mem_of_getElem? hx)
      have kc : wr.cell? ⟨w.heap.size + 1, k, none⟩ = some (.int .i64 (x : Int)) := (hb.cell (p := ⟨w.heap.size + 1, k, none⟩) hsW).trans (HX.out.2.1 k x hx)
      have htk : (l.take (k + 1)).flatMap Ref.two = (l.take k).flatMap Ref.two ++ Ref.two x := by
        rw [List.take_add_one, hx, List.flatMap_append]
        simp
      have hln : ((l.take k).flatMap Ref.two).length ≤ 14 := by
        have : ∀ l : List Nat, (l.flatMap Ref.two).length = 2 * l.length := fun l => by induction l with
          | nil => rfl
          | cons a l ih => rw [List.flatMap_cons, List.length_append, ih]; simp [Ref.two]; omega
        rw [this, List.length_take]
        omega
      have HO := Lib.hid (And.intro ho (And.intro hb (And.intro htk hln)))
      clear ho hb htk hln hx
      go_wp2
      go_region_held3 (fun w' => w'.cell? ⟨w.heap.size + 1, k, none⟩ = some (.int .i64 (x : Int)))
        (first | go_keep | ((refine (hb6.cell (p := ⟨w.heap.size + 1, k, none⟩) (by simp; omega)).trans ?_); go_keep))
        (((refine step_app (by rfl) (.tmp 36) (.tmp 52) (by rfl) W.heap.size wr.heap.size _ ((l.take k).flatMap Ref.two) (by rfl) ((HO.out.1.alloc (Nat.le_refl _) _).drewN 1) (by simp; omega) _ _ 2 2 (Ref.two x) (by rfl) (reads_twoB wr x hx6) (by have := HO.out.2.2.2; omega) ?_); intro v6 w6 ho6 hg6 hat6 hb6; obtain ⟨A6, n6, c6, rfl, _⟩ := ho6.rd))
      go_wp2
      go_roundw
      case rel => exact ⟨k + 1, by omega, by go_num, by rw [HO.out.2.2.1]; exact ho6, HO.out.2.1.trans (Below.trans (by (repeat (first | exact Below.refl _ _ | assumption | (refine Below.setCell ?_ (by first | omega | (simp; done) | (simp; omega)) _) | (refine Below.alloc ?_ (by first | omega | (simp; done) | (simp; omega)) _) | (refine below_drewN ?_ _) | (refine Below.drew ?_)))) hb6)⟩
      case measure => simp [intOf]; omega
    · obtain rfl : k = 7 := by omega
      have ht : l.take 7 = l := List.take_of_length_le (by have := HX.out.2.2.1; omega)
      rw [ht] at ho
      have hln : (l.flatMap Ref.two).length = 14 := by
        rw [← HX.out.1]; rfl
      obtain ⟨Av, nv, cv, rfl, _⟩ := ho.rd
      have HO := Lib.hid (And.intro ho (And.intro hb hln))
      clear ho hb ht hln
      go_wp2_with (first
        | (at_builtin
           refine wpList_app rfl (.tmp 54) (.tmp 55) rfl W.heap.size wr.heap.size _ (l.flatMap Ref.two) rfl (HO.out.1.alloc (Nat.le_refl _) _) (by simp; omega) _ _ 1 1 [90] rfl (reads_block wr _ [.int .u8 90] _ rfl) (by have := HO.out.2.2; omega) ?_
           intro v2 w2 ho2 hg2 hat2 hb2
           obtain ⟨B2, m2, d2, rfl, hr2⟩ := ho2.rd
           have HR := Lib.hid (And.intro hr2 (And.intro (HO.out.2.1.trans (Below.trans ((Below.refl _ _).alloc (by omega) (.cells _ 5)) hb2)) hr2.len))
           clear ho2 hg2 hat2 hb2 hr2)
        | fail)
      have hm2 : m2 = 15 := by have h1 := HR.out.2.2; have h2 := HO.out.2.2; rw [List.length_append, h2, List.length_singleton] at h1; omega
      have hs2 := HR.out.2.1.size
      refine (refWrite_any 24 B2 m2 d2 (l.flatMap Ref.two ++ [90]) _ HR.out.1 (by omega)).mono ?_
      rintro e w3 ⟨A3, n3, c3, rfl, ho3, hb3⟩
      have H3 := Lib.hid (And.intro ho3 hb3)
      clear ho3 hb3
      go_wp2
      go_ret
      exact ⟨A3, n3, c3, rfl, by unfold Ref.general; rw [HX.out.1]; exact H3.out.1.mono (by omega) (Nat.le_refl _), HX.out.2.2.2.2.trans ((HR.out.2.1.mono (by omega)).trans (H3.out.2.mono (by omega)))⟩
end Go.Proofs.Ytmnekhliblkibaa
end

section
/- The contract of the reference's usageBits. -/
namespace Go.Proofs.Ytmnekhliblkibaa
open Go.RowKit
set_option maxRecDepth 100000
set_option linter.unusedVariables false
set_option linter.unusedSimpArgs false

/-- How many bits are told. -/
def Ref.top (u : Nat) : Nat → Nat
  | 0 => 1
  | n + 1 => if 0 < n ∧ u / 2 ^ n % 2 = 0 then Ref.top u n else n + 1
/-- What k bits lay. -/
def Ref.lay (u : Nat) (cs : List UInt8) : Nat → List UInt8
  | 0 => cs
  | k + 1 => let c := Ref.lay u cs k; c.set (1 + k / 8) ((c.getD (1 + k / 8) 0) ||| UInt8.ofNat (u / 2 ^ k % 2 * 2 ^ (7 - k % 8)))
def Ref.ub0 (n : Nat) : List UInt8 := UInt8.ofNat ((8 - n % 8) % 8) :: List.replicate ((n + 7) / 8) 0
def Ref.ubits (u : Nat) : List UInt8 := Der.write 3 (Ref.lay u (Ref.ub0 (Ref.top u 9)) (Ref.top u 9))

/-- The cells of 'make([]byte, n)'. -/
def zeroB (n : Nat) : Array Value := ((List.replicate n (0 : UInt8)).map bv).toArray
theorem zeroB_eq (n : Nat) : madeCells #[Value.int .u8 0] (n * 1) = zeroB n := by
  unfold madeCells zeroB
  apply Array.ext
  · simp
  · intro i h1 h2
    have hm : i % #[Value.int .u8 0].size = 0 := by simp [Nat.mod_one]
    simp [bv, Nat.mod_one]
theorem run_makeB (n : Nat) (hn : n ≤ 1099511627776) (w : World) :
    (Instr.makeSlice 22 (.int .i64 (n : Int)) (.int .i64 (n : Int))).run Try.prog w = .ok (.slice (some ⟨w.heap.size, 0, none⟩) n n) (w.alloc (.cells (zeroB n) 5)) := by
  obtain ⟨i0, hi0, hz0, hz1, hz2⟩ := info_parts u8_info
  have hr := run_make (P := Try.prog) w 22 5 i0 _ Try.underlying22 hi0 hz0 .i64 .i64 n n (by omega) (by omega) (by rw [hz2]; omega) (by omega)
  simp only [Int.toNat_natCast, hz1] at hr
  rw [hr]
  rw [show (Value.int .u8 0).cells = #[Value.int .u8 0] from rfl, zeroB_eq]

theorem u8_or_nat (a b : Nat) (ha : a < 256) (hb : b < 256) : bits .or .u8 (a : Int) (b : Int) = ((a ||| b : Nat) : Int) := by
  have hx : a ||| b < 2 ^ 8 := Nat.or_lt_two_pow ha hb
  have h1 : ∀ c : Nat, c < 256 → (BitVec.ofInt 8 (c : Int)).toNat = c := fun c hc => by
    rw [BitVec.ofInt_natCast, BitVec.toNat_ofNat]; exact Nat.mod_eq_of_lt (by omega)
  show IntKind.u8.wrap ((BitVec.ofInt 8 (a : Int) ||| BitVec.ofInt 8 (b : Int)).toNat : Int) = _
  rw [BitVec.toNat_or, h1 a ha, h1 b hb]
  show (((a ||| b : Nat) : Int)) % 256 = _
  omega
theorem lay_val (u k : Nat) (hu : u < 512) (c : UInt8) : Value.int .u8 (bits .or .u8 (c.toNat : Int) (bits .and .i64 ((u : Int) / 2 ^ k) 1 % 256 * 2 ^ (7 - k % 8) % 256)) = bv (c ||| UInt8.ofNat (u / 2 ^ k % 2 * 2 ^ (7 - k % 8))) := by
  have h1 : (u : Int) / 2 ^ k = ((u / 2 ^ k : Nat) : Int) := by push_cast; rfl
  have h2 := Nat.div_le_self u (2 ^ k)
  rw [h1, show (1 : Int) = ((1 : Nat) : Int) from rfl, i64_and_nat _ _ (by omega) (by omega), Nat.and_one_is_mod]
  obtain ⟨b, hb⟩ : ∃ b, u / 2 ^ k % 2 = b := ⟨_, rfl⟩
  have hb2 : b < 2 := by omega
  rw [hb]
  have hp : 2 ^ (7 - k % 8) ≤ 128 := by
    have : 2 ^ (7 - k % 8) ≤ 2 ^ 7 := Nat.pow_le_pow_right (by omega) (by omega)
    omega
  obtain ⟨p, hpp⟩ : ∃ p, 2 ^ (7 - k % 8) = p := ⟨_, rfl⟩
  have hpI : (2 : Int) ^ (7 - k % 8) = (p : Int) := by rw [← hpp]; push_cast; rfl
  rw [hpI, hpp]
  rw [hpp] at hp
  have hm : b * p ≤ 128 := by
    have : b * p ≤ 1 * p := Nat.mul_le_mul_right p (by omega)
    omega
  have e : ((b : Nat) : Int) % 256 * (p : Int) % 256 = ((b * p : Nat) : Int) := by
    rw [Int.emod_eq_of_lt (a := (b : Int)) (b := 256) (by omega) (by omega), show (b : Int) * (p : Int) = ((b * p : Nat) : Int) by push_cast; rfl]
    exact Int.emod_eq_of_lt (by omega) (by omega)
  rw [e, u8_or_nat _ _ c.toNat_lt (by omega)]
  unfold bv
  rw [UInt8.toNat_or, UInt8.toNat_ofNat', Nat.mod_eq_of_lt (by omega)]

set_option maxHeartbeats 2000000 in
theorem refUb_any (u : Nat) (hu : u < 512) (w : World) : Calls Try.prog 81 #[.int .i64 (u : Int)] w (RetOwn (Ref.ubits u) w) := by
  go_enter Try.func81, Try.ntmps81
  go_wp2
  rename_i K hK
  have hrest : ∀ (n : Nat) (u6 u7 u8 u9 u10 u11 u12 u13 u14 u15 u16 u17 u18 : Value), 1 ≤ n → n ≤ 9 → Ref.top u 9 = n → K { tmps := #[.int .i64 (u : Int), undef, .slice none 0 0, .int .i64 (n : Int), undef, undef, u6, u7, u8, u9, u10, u11, u12, u13, u14, u15, u16, u17, u18, undef, undef, undef, undef, undef, undef, undef, undef, undef, undef, undef, undef, undef, undef, undef, undef, undef, undef, undef, undef, undef, undef, undef, undef, undef, undef, undef, undef, undef, undef, undef, undef, undef, undef, undef, undef, undef, undef, undef, undef, undef, undef], defers := [] } w := by
    intro n u6 u7 u8 u9 u10 u11 u12 u13 u14 u15 u16 u17 u18 h1 h9 htop
    have HT := Lib.hid htop
    clear htop
    refine hK _ _ ?_
    obtain ⟨q, hq⟩ : ∃ q, (n + 7) / 8 = q := ⟨_, rfl⟩
    have hqI : 1 + ((n : Int) + 7) / 8 = ((1 + q : Nat) : Int) := by omega
    have hmk : ∀ W : World, (Instr.makeSlice 22 (.int .i64 (1 + (q : Int))) (.int .i64 (1 + (q : Int)))).run Try.prog W = .ok (.slice (some ⟨W.heap.size, 0, none⟩) (1 + q) (1 + q)) (W.alloc (.cells (zeroB (1 + q)) 5)) := fun W => by
      have := run_makeB (1 + q) (by omega) W
      rw [show ((1 + q : Nat) : Int) = 1 + (q : Int) by omega] at this
      exact this
    have hb0 := Blk.new w 5 (zeroB (1 + q))
    have k0 := hb0.cell 0
    have z0 := hb0.frozen 0
    have k00 : (w.alloc (.cells (zeroB (1 + q)) 5)).cell? ⟨w.heap.size, 0, none⟩ = some (.int .u8 0) := by rw [k0]; unfold zeroB; rw [List.getElem?_toArray, List.getElem?_map, List.getElem?_replicate, if_pos (by omega)]; rfl
    have hq0 : (0 : Int) < 1 + (q : Int) := by omega
    have HB := Lib.hid hb0
    clear hb0 k0
    go_wp2
    have hub : (zeroB (1 + q)).setIfInBounds 0 (Value.int .u8 (-((n : Int) % 8) % 8)) = ((Ref.ub0 n).map bv).toArray := by
      unfold zeroB Ref.ub0
      rw [hq, Nat.add_comm 1 q, List.replicate_succ]
      have hv : (UInt8.ofNat ((8 - n % 8) % 8)).toNat = (8 - n % 8) % 8 := by rw [UInt8.toNat_ofNat']; omega
      simp only [List.map_cons, List.setIfInBounds_toArray, List.set_cons_zero, bv, hv]
      congr 3
      omega
    have hub0 : (Ref.ub0 n).length = 1 + q := by unfold Ref.ub0; rw [hq]; simp; omega
    have hlay : ∀ k, (Ref.lay u (Ref.ub0 n) k).length = 1 + q := fun k => by
      induction k with
      | zero => exact hub0
      | succ k ih => unfold Ref.lay; rw [List.length_set]; exact ih
    rw [hub]
    have HL := Lib.hid (And.intro hq (And.intro hlay (Blk.new w 5 ((Ref.ub0 n).map bv).toArray)))
    clear hub hub0 hlay hq hqI k00 z0 hmk
    go_loopw [5] (fun i wr => ∃ k : Nat, k ≤ n ∧ i = .int .i64 k ∧ Below w.heap.size w wr ∧ Blk wr w.heap.size 5 ((Ref.lay u (Ref.ub0 n) k).map bv).toArray) (fun i _ => n - (intOf i).toNat)
    case atStart => exact ⟨0, Nat.zero_le _, rfl, (Below.refl _ _).alloc (Nat.le_refl _) _, HL.out.2.2⟩
    case round =>
      obtain ⟨k, hk, rfl, hb, hB⟩ := hrel
      by_cases hlt : k < n
      · have hlt' : (k : Int) < n := by omega
        obtain ⟨j, hj⟩ : ∃ j, 1 + k / 8 = j := ⟨_, rfl⟩
        have hjI : 1 + (k : Int) / 8 = (j : Int) := by omega
        have hjq : (j : Int) < 1 + (q : Int) := by have := HL.out.1; omega
        have hlen := HL.out.2.1 k
        obtain ⟨cc, hcc⟩ : ∃ cc, (Ref.lay u (Ref.ub0 n) k).getD j 0 = cc := ⟨_, rfl⟩
        have kc : wr.cell? ⟨w.heap.size, j, none⟩ = some (.int .u8 (cc.toNat : Int)) := by
          rw [hB.cell j, List.getElem?_toArray, List.getElem?_map, List.getElem?_eq_getElem (by omega)]
          rw [List.getD_eq_getElem?_getD, List.getElem?_eq_getElem (by omega)] at hcc
          simp only [Option.getD_some] at hcc
          rw [Option.map_some, hcc]; rfl
        have kz := hB.frozen j
        have HX := Lib.hid (And.intro hb (And.intro hB (And.intro hj hcc)))
        clear hb hB hj hlen hcc
        go_wp2
        go_roundw
        case rel =>
          refine ⟨k + 1, by omega, by go_num, HX.out.1.setCell (by simp) _, ?_⟩
          rw [lay_val u k hu cc]
          have := HX.out.2.1.set_ j (bv (cc ||| UInt8.ofNat (u / 2 ^ k % 2 * 2 ^ (7 - k % 8))))
          rw [List.setIfInBounds_toArray, ← List.map_set] at this
          rw [show Ref.lay u (Ref.ub0 n) (k + 1) = (Ref.lay u (Ref.ub0 n) k).set j (cc ||| UInt8.ofNat (u / 2 ^ k % 2 * 2 ^ (7 - k % 8))) by
            rw [Ref.lay]; simp only [HX.out.2.2.1, HX.out.2.2.2]]
          exact this
        case measure => simp [intOf]; omega
      · obtain rfl : k = n := by omega
        have hr : Rd wr wr.heap.size (some ⟨w.heap.size, 0, none⟩) (1 + q) (1 + q) (Ref.lay u (Ref.ub0 k) k) := by
          have hlt := hB.lt
          refine ⟨HL.out.2.1 k, Nat.le_refl _, by have := HL.out.1; omega, (fun e => by cases e), fun _ => ⟨_, _, rfl, hlt⟩, by simp [HL.out.2.1 k], fun _ => ⟨_, rfl, hlt, fun j v hv => ?_⟩⟩
          rw [Addr.add_lit, Nat.zero_add, hB.cell j]
          simpa using hv
        have HX := Lib.hid (And.intro hb hr)
        clear hb hr hB
        go_wp2_with fail
        refine (refWrite_any 3 _ _ _ _ _ HX.out.2 (by have := HL.out.1; omega)).mono ?_
        rintro e w3 ⟨A3, n3, c3, rfl, ho3, hb3⟩
        have H3 := Lib.hid (And.intro ho3 hb3)
        clear ho3 hb3
        go_wp2
        go_ret
        have := HX.out.1.size
        exact ⟨A3, n3, c3, rfl, by unfold Ref.ubits; rw [HT.out]; exact H3.out.1.mono this (Nat.le_refl _), HX.out.1.trans (H3.out.2.mono this)⟩

  clear hK
  go_loopw [3] (fun i wr => ∃ n : Nat, 1 ≤ n ∧ n ≤ 9 ∧ i = .int .i64 n ∧ wr = w ∧ Ref.top u 9 = Ref.top u n) (fun i _ => (intOf i).toNat)
  case atStart => exact ⟨9, by omega, by omega, rfl, rfl, rfl⟩
  case round =>
    obtain ⟨n, h1, h9, rfl, rfl, hrun⟩ := hrel
    obtain ⟨m, rfl⟩ : ∃ m, n = m + 1 := ⟨n - 1, by omega⟩
    have HR := Lib.hid hrun
    clear hrun
    have hbit : (bits .and .i64 ((u : Int) / 2 ^ m) 1 == 0) = decide (u / 2 ^ m % 2 = 0) := by
      have h1 : (u : Int) / 2 ^ m = ((u / 2 ^ m : Nat) : Int) := by push_cast; rfl
      have h2 := Nat.div_le_self u (2 ^ m)
      rw [h1, show (1 : Int) = ((1 : Nat) : Int) from rfl, i64_and_nat _ _ (by omega) (by omega), Nat.and_one_is_mod]
      exact Bool.eq_iff_iff.2 (by simp only [beq_iff_eq, decide_eq_true_eq]; omega)
    by_cases hn : 1 < m + 1
    · have hn' : (1 : Int) < ((m + 1 : Nat) : Int) := by omega
      have hm0 : 0 < m := by omega
      by_cases hz : u / 2 ^ m % 2 = 0
      · go_wp2
        go_roundw
        case rel => exact ⟨m, by omega, by omega, rfl, trivial, HR.out.trans (by rw [Ref.top, if_pos ⟨hm0, hz⟩])⟩
        case measure => simp [intOf]
      · go_wp2
        exact hrest (m + 1) _ _ _ _ _ _ _ _ _ _ _ _ _ h1 h9 (HR.out.trans (by rw [Ref.top, if_neg (fun h => hz h.2)]))
    · obtain rfl : m = 0 := by omega
      go_wp2
      exact hrest 1 _ _ _ _ _ _ _ _ _ _ _ _ _ (by omega) (by omega) HR.out
end Go.Proofs.Ytmnekhliblkibaa
end
