/- Joined of: RefTbs. -/
import Derived.Test.YtmnekhliblkibaaGM
import Derived.BigQuiet
import Derived.BigRegion
import Derived.StillTailTactics
import Derived.Deep.QuietTactic
import Derived.Deep.RegionHeld3
import Derived.Deep.RegionHeld2
import Derived.Deep.Cut
section
/- The contract of the reference's Tbs. -/
namespace Go.Proofs.Ytmnekhliblkibaa
open Go.RowKit
set_option maxRecDepth 100000
set_option linter.unusedVariables false
set_option linter.unusedSimpArgs false

def Ref.keyAlg : List UInt8 := [48, 13, 6, 9, 42, 134, 72, 134, 247, 13, 1, 1, 1, 5, 0]
def Ref.version : List UInt8 := [160, 3, 2, 1, 2]
def Ref.forHost : List UInt8 := [43, 6, 1, 5, 5, 7, 3, 1]
def Ref.five (e : Nat) : List UInt8 := [UInt8.ofNat (e / 4294967296 % 256), UInt8.ofNat (e / 16777216 % 256), UInt8.ofNat (e / 65536 % 256), UInt8.ofNat (e / 256 % 256), UInt8.ofNat (e % 256)]
def Ref.rsa (nn : List UInt8) (e : Nat) : List UInt8 := Ref.seq [Der.write 2 (Der.putInt nn), Der.write 2 (Der.putInt (Ref.five e))]
def Ref.key (nn : List UInt8) (e : Nat) : List UInt8 := Ref.seq [Ref.keyAlg, Der.write 3 ([0] ++ Ref.rsa nn e)]
def Ref.path (p : Int) : List (List UInt8) := if 0 ≤ p then [Der.write 2 (Der.putInt [UInt8.ofNat p.toNat])] else []
def Ref.exts (f : Fl) : List (List UInt8) :=
  (if f.ca then [Ref.ext [85, 29, 19] (Ref.seq ([1, 1, 255] :: Ref.path f.path))] else []) ++
  (if 0 ≤ f.usage then [Ref.ext [85, 29, 15] (Ref.ubits f.usage.toNat)] else []) ++
  (if f.code then [] else [Ref.ext [85, 29, 37] (Ref.seq [Der.write 6 Ref.forHost])])
def Ref.extra (f : Fl) : List UInt8 := if Ref.exts f = [] then [] else Der.write 163 (Ref.seq (Ref.exts f))
def Ref.tbs (iss sub ser nn : List UInt8) (a b : Tm) (e : Nat) (f : Fl) : List UInt8 :=
  Ref.seq [Ref.version, Der.write 2 ser, Ref.signAlg, iss, Ref.seq [Ref.general a, Ref.general b], sub, Ref.key nn e, Ref.extra f]

theorem rdl2 (w : World) (v1 v2 : Value) (x1 x2 : List UInt8) (h1 : RdV w w.heap.size v1 x1) (h2 : RdV w w.heap.size v2 x2) :
    RdL (w.alloc (.cells #[v1, v2] 22)) (w.alloc (.cells #[v1, v2] 22)).heap.size (some ⟨w.heap.size, 0, none⟩) 2 2 [(v1, x1), (v2, x2)] :=
  RdL.lit w _ [(v1, x1), (v2, x2)] [v1, v2] _ 2 rfl rfl rfl (by omega) (fun v xs hm => by
    simp only [List.mem_cons, List.not_mem_nil, or_false, Prod.mk.injEq] at hm
    rcases hm with ⟨rfl, rfl⟩ | ⟨rfl, rfl⟩ <;> assumption)
theorem cat2 (v1 v2 : Value) (x1 x2 : List UInt8) : (cat [(v1, x1), (v2, x2)]).length = x1.length + x2.length := by simp [cat]
theorem top_le (u : Nat) : ∀ n, 1 ≤ n → Ref.top u n ≤ n
  | 0, h => by omega
  | n + 1, _ => by
    unfold Ref.top
    split
    · rename_i h
      have := top_le u n h.1
      omega
    · exact Nat.le_refl _
theorem ubits_len (u : Nat) : (Ref.ubits u).length ≤ 20 := by
  have hl : ∀ cs k, (Ref.lay u cs k).length = cs.length := fun cs k => by
    induction k with
    | zero => rfl
    | succ k ih => unfold Ref.lay; rw [List.length_set]; exact ih
  have h1 : (Ref.lay u (Ref.ub0 (Ref.top u 9)) (Ref.top u 9)).length ≤ 3 := by
    rw [hl]
    have := top_le u 9 (by omega)
    unfold Ref.ub0
    simp
    omega
  have h2 := write_bound 3 (Ref.lay u (Ref.ub0 (Ref.top u 9)) (Ref.top u 9)) (by omega)
  unfold Ref.ubits
  omega
theorem putInt_len (xs : List UInt8) : (Der.putInt xs).length ≤ xs.length + 1 := by
  have := trim_len xs
  unfold Der.putInt
  split
  · rw [List.length_cons]; omega
  · omega
theorem ext_flat (nm body : List UInt8) (h1 : nm.length ≤ 10) (h2 : body.length ≤ 1000) : (Ref.ext nm body).length ≤ nm.length + body.length + 18 := by
  have a := write_bound 6 nm (by omega)
  have b := write_bound 4 body (by omega)
  have c := write_bound 48 (Der.write 6 nm ++ Der.write 4 body) (by rw [List.length_append]; omega)
  unfold Ref.ext Ref.seq
  simp only [List.flatten_cons, List.flatten_nil, List.append_nil]
  rw [List.length_append] at c
  omega
theorem exts_flat (f : Fl) : (Ref.exts f).flatten.length ≤ 1000 := by
  have h1 : (Ref.ext [85, 29, 19] (Ref.seq ([1, 1, 255] :: Ref.path f.path))).length ≤ 200 := by
    have a : (Ref.seq ([1, 1, 255] :: Ref.path f.path)).length ≤ 100 := by
      unfold Ref.seq Ref.path
      have b := putInt_len [UInt8.ofNat f.path.toNat]
      have c := write_bound 2 (Der.putInt [UInt8.ofNat f.path.toNat]) (by simp at b; omega)
      split
      · have d := write_bound 48 ([1, 1, 255] ++ Der.write 2 (Der.putInt [UInt8.ofNat f.path.toNat])) (by rw [List.length_append]; simp at b ⊢; omega)
        rw [List.length_append] at d
        simp only [List.flatten_cons, List.flatten_nil, List.append_nil]
        simp at b d ⊢
        omega
      · have d := write_bound 48 [1, 1, 255] (by simp)
        simp at d ⊢
        omega
    have := ext_flat [85, 29, 19] (Ref.seq ([1, 1, 255] :: Ref.path f.path)) (by simp) (by omega)
    simp at this
    omega
  have h2 : (Ref.ext [85, 29, 15] (Ref.ubits f.usage.toNat)).length ≤ 200 := by
    have a := ubits_len f.usage.toNat
    have := ext_flat [85, 29, 15] (Ref.ubits f.usage.toNat) (by simp) (by omega)
    simp at this
    omega
  have h3 : (Ref.ext [85, 29, 37] (Ref.seq [Der.write 6 Ref.forHost])).length ≤ 200 := by
    have b := write_bound 6 Ref.forHost (by decide)
    have e : Ref.forHost.length = 8 := rfl
    have d := write_bound 48 (Der.write 6 Ref.forHost) (by omega)
    have a : (Ref.seq [Der.write 6 Ref.forHost]).length ≤ 100 := by
      unfold Ref.seq
      simp only [List.flatten_cons, List.flatten_nil, List.append_nil]
      omega
    have := ext_flat [85, 29, 37] _ (by simp) (show (Ref.seq [Der.write 6 Ref.forHost]).length ≤ 1000 by omega)
    simp at this
    omega
  unfold Ref.exts
  simp only [List.flatten_append, List.length_append]
  split <;> split <;> split <;> simp <;> omega
theorem gen_len (t : Tm) : (Ref.general t).length ≤ 21 := by
  have h0 : ((Ref.nums t).flatMap Ref.two ++ [90]).length = 15 := rfl
  have h1 := write_bound 24 ((Ref.nums t).flatMap Ref.two ++ [90]) (by omega)
  unfold Ref.general
  omega
theorem extra_len (f : Fl) : (Ref.extra f).length ≤ 1100 := by
  have h0 := exts_flat f
  unfold Ref.extra
  split
  · simp
  · have h1 := write_bound 48 (Ref.exts f).flatten (by omega)
    have h2 := write_bound 163 (Ref.seq (Ref.exts f)) (by unfold Ref.seq; omega)
    unfold Ref.seq at h2
    unfold Ref.seq
    omega
theorem seq2_len (x y : List UInt8) (n : Nat) (hn : x.length + y.length ≤ n) (hm : n < 4294967296) : (Ref.seq [x, y]).length ≤ n + 6 := by
  have h := write_bound 48 (x ++ y) (by rw [List.length_append]; omega)
  rw [List.length_append] at h
  unfold Ref.seq
  simp only [List.flatten_cons, List.flatten_nil, List.append_nil]
  omega
theorem flat8 (x1 x2 x3 x4 x5 x6 x7 x8 : List UInt8) : ([x1, x2, x3, x4, x5, x6, x7, x8] : List (List UInt8)).flatten.length = x1.length + x2.length + x3.length + x4.length + x5.length + x6.length + x7.length + x8.length := by
  simp only [List.flatten_cons, List.flatten_nil, List.append_nil, List.length_append]
  omega
theorem tbs_tot (ser iss sub bits ext : List UInt8) (a b : Tm) (h1 : ser.length ≤ 100000000) (h2 : iss.length ≤ 100000000) (h3 : sub.length ≤ 100000000) (h4 : bits.length ≤ 1000000001) (h5 : ext.length ≤ 1100) :
    ([Ref.version, Der.write 2 ser, Ref.signAlg, iss, Ref.seq [Ref.general a, Ref.general b], sub, Ref.seq [Ref.keyAlg, Der.write 3 bits], ext] : List (List UInt8)).flatten.length ≤ 2000000000 := by
  have g1 := write_bound 2 ser (by omega)
  have g2 := gen_len a
  have g3 := gen_len b
  have g4 := seq2_len (Ref.general a) (Ref.general b) 42 (by omega) (by omega)
  have g5 := write_bound 3 bits (by omega)
  have g6 : Ref.keyAlg.length = 15 := rfl
  have g7 := seq2_len Ref.keyAlg (Der.write 3 bits) 1000000022 (by omega) (by omega)
  have g8 : Ref.version.length = 5 := rfl
  have g9 : Ref.signAlg.length = 15 := rfl
  rw [flat8]
  omega
/-- What the operations of the last statement leave. -/
def TJ (B p : Nat) (vser viss vsub vbits vext : Value) (ser iss sub bits ext : List UInt8) (a b : Tm) : Nat → Value → World → Prop
  | 0, v, w => LitJ (Ref.version.map bv) 5 v w ∧ ∀ g, v = .slice (some ⟨g, 0, none⟩) 5 5 → B ≤ g
  | 1, v, w => RdV w w.heap.size v Ref.version
  | 2, v, _ => v = .pointer (some ⟨p, 4, none⟩)
  | 3, v, _ => v = vser
  | 4, v, w => RdV w w.heap.size v (Der.write 2 ser)
  | 5, v, w => LitJ (Ref.signAlg.map bv) 15 v w ∧ ∀ g, v = .slice (some ⟨g, 0, none⟩) 15 15 → B ≤ g
  | 6, v, w => RdV w w.heap.size v Ref.signAlg
  | 7, v, _ => v = .pointer (some ⟨p, 2, none⟩)
  | 8, v, _ => v = viss
  | 9, v, _ => v = .pointer (some ⟨p, 5, none⟩)
  | 10, v, _ => v = a.v
  | 11, v, w => RdV w w.heap.size v (Ref.general a)
  | 12, v, _ => v = .pointer (some ⟨p, 11, none⟩)
  | 13, v, _ => v = b.v
  | 14, v, w => RdV w w.heap.size v (Ref.general b)
  | 15, v, w => RowsJ [Ref.general a, Ref.general b] 2 v w
  | 16, v, w => RdV w w.heap.size v (Ref.seq [Ref.general a, Ref.general b])
  | 17, v, _ => v = .pointer (some ⟨p, 3, none⟩)
  | 18, v, _ => v = vsub
  | 19, v, w => LitJ (Ref.keyAlg.map bv) 15 v w ∧ ∀ g, v = .slice (some ⟨g, 0, none⟩) 15 15 → B ≤ g
  | 20, v, w => RdV w w.heap.size v Ref.keyAlg
  | 21, v, _ => v = vbits
  | 22, v, w => RdV w w.heap.size v (Der.write 3 bits)
  | 23, v, w => RowsJ [Ref.keyAlg, Der.write 3 bits] 2 v w
  | 24, v, w => RdV w w.heap.size v (Ref.seq [Ref.keyAlg, Der.write 3 bits])
  | 25, v, _ => v = vext
  | 26, v, w => RowsJ [Ref.version, Der.write 2 ser, Ref.signAlg, iss, Ref.seq [Ref.general a, Ref.general b], sub, Ref.seq [Ref.keyAlg, Der.write 3 bits], ext] 8 v w
  | _, v, w => OwnB w B w.heap.size v (Ref.seq [Ref.version, Der.write 2 ser, Ref.signAlg, iss, Ref.seq [Ref.general a, Ref.general b], sub, Ref.seq [Ref.keyAlg, Der.write 3 bits], ext])
theorem seq_long (xs : List UInt8) (l : List (List UInt8)) (h : 20 ≤ l.flatten.length) : 15 < (Ref.seq l).length := by
  unfold Ref.seq
  rw [Der.write_len]
  omega
theorem TJ.mono (B p : Nat) (vser viss vsub vbits vext : Value) (ser iss sub bits ext : List UInt8) (a b : Tm) : ∀ i v w w', KR B w w' → TJ B p vser viss vsub vbits vext ser iss sub bits ext a b i v w → TJ B p vser viss vsub vbits vext ser iss sub bits ext a b i v w' := by
  intro i v w w' h hj
  match i, hj with
  | 0, hj | 5, hj | 19, hj => exact ⟨h.lit hj.1, hj.2⟩
  | 1, hj | 4, hj | 6, hj | 11, hj | 14, hj | 16, hj | 20, hj | 22, hj | 24, hj => exact h.rdv hj
  | 2, hj | 3, hj | 7, hj | 8, hj | 9, hj | 10, hj | 12, hj | 13, hj | 17, hj | 18, hj | 21, hj | 25, hj => exact hj
  | 15, hj | 23, hj | 26, hj => exact h.rows hj
  | n + 27, hj => exact h.own (seq_long [] _ (by simp [Ref.version, Ref.signAlg]; omega)) hj
set_option maxHeartbeats 4000000 in
theorem refTbs_any (vr vt vg : Value) (A1 A2 A3 A4 : Option Addr) (n1 c1 n2 c2 n3 c3 n4 c4 : Nat) (iss sub ser nn : List UInt8) (a b : Tm) (e : Nat) (f : Fl) (w : World)
    (hr : vr.oneCell' = true) (ht : vt.oneCell' = true) (hg : vg.oneCell' = true)
    (h1 : Rd w w.heap.size A1 n1 c1 iss) (h2 : Rd w w.heap.size A2 n2 c2 sub) (h3 : Rd w w.heap.size A3 n3 c3 ser) (h4 : Rd w w.heap.size A4 n4 c4 nn) (hl1 : n1 ≤ 100000000) (hl2 : n2 ≤ 100000000) (hl3 : n3 ≤ 100000000) (hl4 : n4 ≤ 100000000)
    (ha : a.fits) (hb : b.fits) (he : e < 18446744073709551616) (hp : f.path < 256) (hu : f.usage < 512) :
    Calls Try.prog 53 #[(⟨vr, vt, .slice A1 n1 c1, .slice A2 n2 c2, .slice A3 n3 c3, a, b, .slice A4 n4 c4, e, vg, f⟩ : CV).val] w (RetOwn (Ref.tbs iss sub ser nn a b e f) w) := by
  have H := Lib.hid (And.intro h1 (And.intro h2 (And.intro h3 h4)))
  clear h1 h2 h3 h4
  obtain ⟨ay, amo, ad, ah, ami, as_⟩ := a
  obtain ⟨by_, bmo, bd, bh, bmi, bs⟩ := b
  obtain ⟨ca, path, usage, code⟩ := f
  dsimp only at hp hu
  unfold CV.val CV.cells
  dsimp only
  have HB := Lib.hid (Blk.new w 32 #[vr, vt, .slice A1 n1 c1, .slice A2 n2 c2, .slice A3 n3 c3, .int .u16 (ay : Int), .int .u8 (amo : Int), .int .u8 (ad : Int), .int .u8 (ah : Int), .int .u8 (ami : Int), .int .u8 (as_ : Int), .int .u16 (by_ : Int), .int .u8 (bmo : Int), .int .u8 (bd : Int), .int .u8 (bh : Int), .int .u8 (bmi : Int), .int .u8 (bs : Int), .slice A4 n4 c4, .int .u64 (e : Int), vg, .bool ca, .int .i64 path, .int .i64 usage, .bool code])
  have hfive : (Ref.five e).map bv = [.int .u8 ((e : Int) / 4294967296 % 256), .int .u8 ((e : Int) / 16777216 % 256), .int .u8 ((e : Int) / 65536 % 256), .int .u8 ((e : Int) / 256 % 256), .int .u8 ((e : Int) % 256)] := by
    unfold Ref.five
    simp only [List.map_cons, List.map_nil, bv, UInt8.toNat_ofNat']
    congr 1 <;> first | (congr 1; omega) | skip
    all_goals (congr 1 <;> first | (congr 1; omega) | skip)
    all_goals (congr 1 <;> first | (congr 1; omega) | skip)
    all_goals (congr 1 <;> first | (congr 1; omega) | skip)
    all_goals (congr 1 <;> first | (congr 1; omega) | skip)
  have hb1 : Below w.heap.size w ((w.alloc (.cells #[vr, vt, .slice A1 n1 c1, .slice A2 n2 c2, .slice A3 n3 c3, .int .u16 (ay : Int), .int .u8 (amo : Int), .int .u8 (ad : Int), .int .u8 (ah : Int), .int .u8 (ami : Int), .int .u8 (as_ : Int), .int .u16 (by_ : Int), .int .u8 (bmo : Int), .int .u8 (bd : Int), .int .u8 (bh : Int), .int .u8 (bmi : Int), .int .u8 (bs : Int), .slice A4 n4 c4, .int .u64 (e : Int), vg, .bool ca, .int .i64 path, .int .i64 usage, .bool code] 32)).alloc (.cells #[.int .u8 ((e : Int) / 4294967296 % 256), .int .u8 ((e : Int) / 16777216 % 256), .int .u8 ((e : Int) / 65536 % 256), .int .u8 ((e : Int) / 256 % 256), .int .u8 ((e : Int) % 256)] 5)) := ((Below.refl _ w).alloc (Nat.le_refl _) _).alloc (by simp) _
  have hbb1 : Below (w.heap.size + 1) (w.alloc (.cells #[vr, vt, .slice A1 n1 c1, .slice A2 n2 c2, .slice A3 n3 c3, .int .u16 (ay : Int), .int .u8 (amo : Int), .int .u8 (ad : Int), .int .u8 (ah : Int), .int .u8 (ami : Int), .int .u8 (as_ : Int), .int .u16 (by_ : Int), .int .u8 (bmo : Int), .int .u8 (bd : Int), .int .u8 (bh : Int), .int .u8 (bmi : Int), .int .u8 (bs : Int), .slice A4 n4 c4, .int .u64 (e : Int), vg, .bool ca, .int .i64 path, .int .i64 usage, .bool code] 32)) ((w.alloc (.cells #[vr, vt, .slice A1 n1 c1, .slice A2 n2 c2, .slice A3 n3 c3, .int .u16 (ay : Int), .int .u8 (amo : Int), .int .u8 (ad : Int), .int .u8 (ah : Int), .int .u8 (ami : Int), .int .u8 (as_ : Int), .int .u16 (by_ : Int), .int .u8 (bmo : Int), .int .u8 (bd : Int), .int .u8 (bh : Int), .int .u8 (bmi : Int), .int .u8 (bs : Int), .slice A4 n4 c4, .int .u64 (e : Int), vg, .bool ca, .int .i64 path, .int .i64 usage, .bool code] 32)).alloc (.cells #[.int .u8 ((e : Int) / 4294967296 % 256), .int .u8 ((e : Int) / 16777216 % 256), .int .u8 ((e : Int) / 65536 % 256), .int .u8 ((e : Int) / 256 % 256), .int .u8 ((e : Int) % 256)] 5)) := (Below.refl _ _).alloc (by simp) _
  have hr1 := Rd.lit (w.alloc (.cells #[vr, vt, .slice A1 n1 c1, .slice A2 n2 c2, .slice A3 n3 c3, .int .u16 (ay : Int), .int .u8 (amo : Int), .int .u8 (ad : Int), .int .u8 (ah : Int), .int .u8 (ami : Int), .int .u8 (as_ : Int), .int .u16 (by_ : Int), .int .u8 (bmo : Int), .int .u8 (bd : Int), .int .u8 (bh : Int), .int .u8 (bmi : Int), .int .u8 (bs : Int), .slice A4 n4 c4, .int .u64 (e : Int), vg, .bool ca, .int .i64 path, .int .i64 usage, .bool code] 32)) 5 (Ref.five e) [.int .u8 ((e : Int) / 4294967296 % 256), .int .u8 ((e : Int) / 16777216 % 256), .int .u8 ((e : Int) / 65536 % 256), .int .u8 ((e : Int) / 256 % 256), .int .u8 ((e : Int) % 256)] (w.heap.size + 1) 5 (by simp) hfive.symm rfl (by omega)
  have HP := Lib.hid (And.intro hb1 (And.intro hbb1 hr1))
  clear hfive hb1 hbb1 hr1
  have HB := Lib.hid (Blk.new w 32 #[vr, vt, .slice A1 n1 c1, .slice A2 n2 c2, .slice A3 n3 c3, .int .u16 (ay : Int), .int .u8 (amo : Int), .int .u8 (ad : Int), .int .u8 (ah : Int), .int .u8 (ami : Int), .int .u8 (as_ : Int), .int .u16 (by_ : Int), .int .u8 (bmo : Int), .int .u8 (bd : Int), .int .u8 (bh : Int), .int .u8 (bmi : Int), .int .u8 (bs : Int), .slice A4 n4 c4, .int .u64 (e : Int), vg, .bool ca, .int .i64 path, .int .i64 usage, .bool code])
  have hfive : (Ref.five e).map bv = [.int .u8 ((e : Int) / 4294967296 % 256), .int .u8 ((e : Int) / 16777216 % 256), .int .u8 ((e : Int) / 65536 % 256), .int .u8 ((e : Int) / 256 % 256), .int .u8 ((e : Int) % 256)] := by
    unfold Ref.five
    simp only [List.map_cons, List.map_nil, bv, UInt8.toNat_ofNat']
    congr 1 <;> first | (congr 1; omega) | skip
    all_goals (congr 1 <;> first | (congr 1; omega) | skip)
    all_goals (congr 1 <;> first | (congr 1; omega) | skip)
    all_goals (congr 1 <;> first | (congr 1; omega) | skip)
    all_goals (congr 1 <;> first | (congr 1; omega) | skip)
  have hb1 : Below w.heap.size w ((w.alloc (.cells #[vr, vt, .slice A1 n1 c1, .slice A2 n2 c2, .slice A3 n3 c3, .int .u16 (ay : Int), .int .u8 (amo : Int), .int .u8 (ad : Int), .int .u8 (ah : Int), .int .u8 (ami : Int), .int .u8 (as_ : Int), .int .u16 (by_ : Int), .int .u8 (bmo : Int), .int .u8 (bd : Int), .int .u8 (bh : Int), .int .u8 (bmi : Int), .int .u8 (bs : Int), .slice A4 n4 c4, .int .u64 (e : Int), vg, .bool ca, .int .i64 path, .int .i64 usage, .bool code] 32)).alloc (.cells #[.int .u8 ((e : Int) / 4294967296 % 256), .int .u8 ((e : Int) / 16777216 % 256), .int .u8 ((e : Int) / 65536 % 256), .int .u8 ((e : Int) / 256 % 256), .int .u8 ((e : Int) % 256)] 5)) := ((Below.refl _ w).alloc (Nat.le_refl _) _).alloc (by simp) _
  have hbb1 : Below (w.heap.size + 1) (w.alloc (.cells #[vr, vt, .slice A1 n1 c1, .slice A2 n2 c2, .slice A3 n3 c3, .int .u16 (ay : Int), .int .u8 (amo : Int), .int .u8 (ad : Int), .int .u8 (ah : Int), .int .u8 (ami : Int), .int .u8 (as_ : Int), .int .u16 (by_ : Int), .int .u8 (bmo : Int), .int .u8 (bd : Int), .int .u8 (bh : Int), .int .u8 (bmi : Int), .int .u8 (bs : Int), .slice A4 n4 c4, .int .u64 (e : Int), vg, .bool ca, .int .i64 path, .int .i64 usage, .bool code] 32)) ((w.alloc (.cells #[vr, vt, .slice A1 n1 c1, .slice A2 n2 c2, .slice A3 n3 c3, .int .u16 (ay : Int), .int .u8 (amo : Int), .int .u8 (ad : Int), .int .u8 (ah : Int), .int .u8 (ami : Int), .int .u8 (as_ : Int), .int .u16 (by_ : Int), .int .u8 (bmo : Int), .int .u8 (bd : Int), .int .u8 (bh : Int), .int .u8 (bmi : Int), .int .u8 (bs : Int), .slice A4 n4 c4, .int .u64 (e : Int), vg, .bool ca, .int .i64 path, .int .i64 usage, .bool code] 32)).alloc (.cells #[.int .u8 ((e : Int) / 4294967296 % 256), .int .u8 ((e : Int) / 16777216 % 256), .int .u8 ((e : Int) / 65536 % 256), .int .u8 ((e : Int) / 256 % 256), .int .u8 ((e : Int) % 256)] 5)) := (Below.refl _ _).alloc (by simp) _
  have hr1 := Rd.lit (w.alloc (.cells #[vr, vt, .slice A1 n1 c1, .slice A2 n2 c2, .slice A3 n3 c3, .int .u16 (ay : Int), .int .u8 (amo : Int), .int .u8 (ad : Int), .int .u8 (ah : Int), .int .u8 (ami : Int), .int .u8 (as_ : Int), .int .u16 (by_ : Int), .int .u8 (bmo : Int), .int .u8 (bd : Int), .int .u8 (bh : Int), .int .u8 (bmi : Int), .int .u8 (bs : Int), .slice A4 n4 c4, .int .u64 (e : Int), vg, .bool ca, .int .i64 path, .int .i64 usage, .bool code] 32)) 5 (Ref.five e) [.int .u8 ((e : Int) / 4294967296 % 256), .int .u8 ((e : Int) / 16777216 % 256), .int .u8 ((e : Int) / 65536 % 256), .int .u8 ((e : Int) / 256 % 256), .int .u8 ((e : Int) % 256)] (w.heap.size + 1) 5 (by simp) hfive.symm rfl (by omega)
  have HP := Lib.hid (And.intro hb1 (And.intro hbb1 hr1))
  clear hfive hb1 hbb1 hr1
  have HB := Lib.hid (Blk.new w 32 #[vr, vt, .slice A1 n1 c1, .slice A2 n2 c2, .slice A3 n3 c3, .int .u16 (ay : Int), .int .u8 (amo : Int), .int .u8 (ad : Int), .int .u8 (ah : Int), .int .u8 (ami : Int), .int .u8 (as_ : Int), .int .u16 (by_ : Int), .int .u8 (bmo : Int), .int .u8 (bd : Int), .int .u8 (bh : Int), .int .u8 (bmi : Int), .int .u8 (bs : Int), .slice A4 n4 c4, .int .u64 (e : Int), vg, .bool ca, .int .i64 path, .int .i64 usage, .bool code])
  have hfive : (Ref.five e).map bv = [.int .u8 ((e : Int) / 4294967296 % 256), .int .u8 ((e : Int) / 16777216 % 256), .int .u8 ((e : Int) / 65536 % 256), .int .u8 ((e : Int) / 256 % 256), .int .u8 ((e : Int) % 256)] := by
    unfold Ref.five
    simp only [List.map_cons, List.map_nil, bv, UInt8.toNat_ofNat']
    simp only [List.cons.injEq, Value.int.injEq, true_and, and_true]
    omega
  have hb1 : Below w.heap.size w ((w.alloc (.cells #[vr, vt, .slice A1 n1 c1, .slice A2 n2 c2, .slice A3 n3 c3, .int .u16 (ay : Int), .int .u8 (amo : Int), .int .u8 (ad : Int), .int .u8 (ah : Int), .int .u8 (ami : Int), .int .u8 (as_ : Int), .int .u16 (by_ : Int), .int .u8 (bmo : Int), .int .u8 (bd : Int), .int .u8 (bh : Int), .int .u8 (bmi : Int), .int .u8 (bs : Int), .slice A4 n4 c4, .int .u64 (e : Int), vg, .bool ca, .int .i64 path, .int .i64 usage, .bool code] 32)).alloc (.cells #[.int .u8 ((e : Int) / 4294967296 % 256), .int .u8 ((e : Int) / 16777216 % 256), .int .u8 ((e : Int) / 65536 % 256), .int .u8 ((e : Int) / 256 % 256), .int .u8 ((e : Int) % 256)] 5)) := ((Below.refl _ w).alloc (Nat.le_refl _) _).alloc (by simp) _
  have hbb1 : Below (w.heap.size + 1) (w.alloc (.cells #[vr, vt, .slice A1 n1 c1, .slice A2 n2 c2, .slice A3 n3 c3, .int .u16 (ay : Int), .int .u8 (amo : Int), .int .u8 (ad : Int), .int .u8 (ah : Int), .int .u8 (ami : Int), .int .u8 (as_ : Int), .int .u16 (by_ : Int), .int .u8 (bmo : Int), .int .u8 (bd : Int), .int .u8 (bh : Int), .int .u8 (bmi : Int), .int .u8 (bs : Int), .slice A4 n4 c4, .int .u64 (e : Int), vg, .bool ca, .int .i64 path, .int .i64 usage, .bool code] 32)) ((w.alloc (.cells #[vr, vt, .slice A1 n1 c1, .slice A2 n2 c2, .slice A3 n3 c3, .int .u16 (ay : Int), .int .u8 (amo : Int), .int .u8 (ad : Int), .int .u8 (ah : Int), .int .u8 (ami : Int), .int .u8 (as_ : Int), .int .u16 (by_ : Int), .int .u8 (bmo : Int), .int .u8 (bd : Int), .int .u8 (bh : Int), .int .u8 (bmi : Int), .int .u8 (bs : Int), .slice A4 n4 c4, .int .u64 (e : Int), vg, .bool ca, .int .i64 path, .int .i64 usage, .bool code] 32)).alloc (.cells #[.int .u8 ((e : Int) / 4294967296 % 256), .int .u8 ((e : Int) / 16777216 % 256), .int .u8 ((e : Int) / 65536 % 256), .int .u8 ((e : Int) / 256 % 256), .int .u8 ((e : Int) % 256)] 5)) := (Below.refl _ _).alloc (by simp) _
  have hr1 := Rd.lit (w.alloc (.cells #[vr, vt, .slice A1 n1 c1, .slice A2 n2 c2, .slice A3 n3 c3, .int .u16 (ay : Int), .int .u8 (amo : Int), .int .u8 (ad : Int), .int .u8 (ah : Int), .int .u8 (ami : Int), .int .u8 (as_ : Int), .int .u16 (by_ : Int), .int .u8 (bmo : Int), .int .u8 (bd : Int), .int .u8 (bh : Int), .int .u8 (bmi : Int), .int .u8 (bs : Int), .slice A4 n4 c4, .int .u64 (e : Int), vg, .bool ca, .int .i64 path, .int .i64 usage, .bool code] 32)) 5 (Ref.five e) [.int .u8 ((e : Int) / 4294967296 % 256), .int .u8 ((e : Int) / 16777216 % 256), .int .u8 ((e : Int) / 65536 % 256), .int .u8 ((e : Int) / 256 % 256), .int .u8 ((e : Int) % 256)] (w.heap.size + 1) 5 (by simp) hfive.symm rfl (by omega)
  have HP := Lib.hid (And.intro hb1 (And.intro hbb1 hr1))
  clear hfive hb1 hbb1 hr1
  have HB := Lib.hid (Blk.new w 32 #[vr, vt, .slice A1 n1 c1, .slice A2 n2 c2, .slice A3 n3 c3, .int .u16 (ay : Int), .int .u8 (amo : Int), .int .u8 (ad : Int), .int .u8 (ah : Int), .int .u8 (ami : Int), .int .u8 (as_ : Int), .int .u16 (by_ : Int), .int .u8 (bmo : Int), .int .u8 (bd : Int), .int .u8 (bh : Int), .int .u8 (bmi : Int), .int .u8 (bs : Int), .slice A4 n4 c4, .int .u64 (e : Int), vg, .bool ca, .int .i64 path, .int .i64 usage, .bool code])
  have hfive : (Ref.five e).map bv = [.int .u8 ((e : Int) / 4294967296 % 256), .int .u8 ((e : Int) / 16777216 % 256), .int .u8 ((e : Int) / 65536 % 256), .int .u8 ((e : Int) / 256 % 256), .int .u8 ((e : Int) % 256)] := by
    unfold Ref.five
    simp only [List.map_cons, List.map_nil, bv, UInt8.toNat_ofNat']
    simp only [List.cons.injEq, Value.int.injEq, true_and, and_true]
    omega
  have hb1 : Below w.heap.size w ((w.alloc (.cells #[vr, vt, .slice A1 n1 c1, .slice A2 n2 c2, .slice A3 n3 c3, .int .u16 (ay : Int), .int .u8 (amo : Int), .int .u8 (ad : Int), .int .u8 (ah : Int), .int .u8 (ami : Int), .int .u8 (as_ : Int), .int .u16 (by_ : Int), .int .u8 (bmo : Int), .int .u8 (bd : Int), .int .u8 (bh : Int), .int .u8 (bmi : Int), .int .u8 (bs : Int), .slice A4 n4 c4, .int .u64 (e : Int), vg, .bool ca, .int .i64 path, .int .i64 usage, .bool code] 32)).alloc (.cells #[.int .u8 ((e : Int) / 4294967296 % 256), .int .u8 ((e : Int) / 16777216 % 256), .int .u8 ((e : Int) / 65536 % 256), .int .u8 ((e : Int) / 256 % 256), .int .u8 ((e : Int) % 256)] 5)) := ((Below.refl _ w).alloc (Nat.le_refl _) _).alloc (by simp) _
  have hbb1 : Below (w.heap.size + 1) (w.alloc (.cells #[vr, vt, .slice A1 n1 c1, .slice A2 n2 c2, .slice A3 n3 c3, .int .u16 (ay : Int), .int .u8 (amo : Int), .int .u8 (ad : Int), .int .u8 (ah : Int), .int .u8 (ami : Int), .int .u8 (as_ : Int), .int .u16 (by_ : Int), .int .u8 (bmo : Int), .int .u8 (bd : Int), .int .u8 (bh : Int), .int .u8 (bmi : Int), .int .u8 (bs : Int), .slice A4 n4 c4, .int .u64 (e : Int), vg, .bool ca, .int .i64 path, .int .i64 usage, .bool code] 32)) ((w.alloc (.cells #[vr, vt, .slice A1 n1 c1, .slice A2 n2 c2, .slice A3 n3 c3, .int .u16 (ay : Int), .int .u8 (amo : Int), .int .u8 (ad : Int), .int .u8 (ah : Int), .int .u8 (ami : Int), .int .u8 (as_ : Int), .int .u16 (by_ : Int), .int .u8 (bmo : Int), .int .u8 (bd : Int), .int .u8 (bh : Int), .int .u8 (bmi : Int), .int .u8 (bs : Int), .slice A4 n4 c4, .int .u64 (e : Int), vg, .bool ca, .int .i64 path, .int .i64 usage, .bool code] 32)).alloc (.cells #[.int .u8 ((e : Int) / 4294967296 % 256), .int .u8 ((e : Int) / 16777216 % 256), .int .u8 ((e : Int) / 65536 % 256), .int .u8 ((e : Int) / 256 % 256), .int .u8 ((e : Int) % 256)] 5)) := (Below.refl _ _).alloc (by simp) _
  have hr1 := Rd.lit (w.alloc (.cells #[vr, vt, .slice A1 n1 c1, .slice A2 n2 c2, .slice A3 n3 c3, .int .u16 (ay : Int), .int .u8 (amo : Int), .int .u8 (ad : Int), .int .u8 (ah : Int), .int .u8 (ami : Int), .int .u8 (as_ : Int), .int .u16 (by_ : Int), .int .u8 (bmo : Int), .int .u8 (bd : Int), .int .u8 (bh : Int), .int .u8 (bmi : Int), .int .u8 (bs : Int), .slice A4 n4 c4, .int .u64 (e : Int), vg, .bool ca, .int .i64 path, .int .i64 usage, .bool code] 32)) 5 (Ref.five e) [.int .u8 ((e : Int) / 4294967296 % 256), .int .u8 ((e : Int) / 16777216 % 256), .int .u8 ((e : Int) / 65536 % 256), .int .u8 ((e : Int) / 256 % 256), .int .u8 ((e : Int) % 256)] (w.heap.size + 1) 5 (by simp) hfive.symm rfl (by omega)
  have HP := Lib.hid (And.intro hb1 (And.intro hbb1 hr1))
  clear hfive hb1 hbb1 hr1
  have HB := Lib.hid (Blk.new w 32 #[vr, vt, .slice A1 n1 c1, .slice A2 n2 c2, .slice A3 n3 c3, .int .u16 (ay : Int), .int .u8 (amo : Int), .int .u8 (ad : Int), .int .u8 (ah : Int), .int .u8 (ami : Int), .int .u8 (as_ : Int), .int .u16 (by_ : Int), .int .u8 (bmo : Int), .int .u8 (bd : Int), .int .u8 (bh : Int), .int .u8 (bmi : Int), .int .u8 (bs : Int), .slice A4 n4 c4, .int .u64 (e : Int), vg, .bool ca, .int .i64 path, .int .i64 usage, .bool code])
  have hfive : (Ref.five e).map bv = [.int .u8 ((e : Int) / 4294967296 % 256), .int .u8 ((e : Int) / 16777216 % 256), .int .u8 ((e : Int) / 65536 % 256), .int .u8 ((e : Int) / 256 % 256), .int .u8 ((e : Int) % 256)] := by
    unfold Ref.five
    simp only [List.map_cons, List.map_nil, bv, UInt8.toNat_ofNat']
    simp only [List.cons.injEq, Value.int.injEq, true_and, and_true]
    omega
  have hb1 : Below w.heap.size w ((w.alloc (.cells #[vr, vt, .slice A1 n1 c1, .slice A2 n2 c2, .slice A3 n3 c3, .int .u16 (ay : Int), .int .u8 (amo : Int), .int .u8 (ad : Int), .int .u8 (ah : Int), .int .u8 (ami : Int), .int .u8 (as_ : Int), .int .u16 (by_ : Int), .int .u8 (bmo : Int), .int .u8 (bd : Int), .int .u8 (bh : Int), .int .u8 (bmi : Int), .int .u8 (bs : Int), .slice A4 n4 c4, .int .u64 (e : Int), vg, .bool ca, .int .i64 path, .int .i64 usage, .bool code] 32)).alloc (.cells #[.int .u8 ((e : Int) / 4294967296 % 256), .int .u8 ((e : Int) / 16777216 % 256), .int .u8 ((e : Int) / 65536 % 256), .int .u8 ((e : Int) / 256 % 256), .int .u8 ((e : Int) % 256)] 5)) := ((Below.refl _ w).alloc (Nat.le_refl _) _).alloc (by simp) _
  have hbb1 : Below (w.heap.size + 1) (w.alloc (.cells #[vr, vt, .slice A1 n1 c1, .slice A2 n2 c2, .slice A3 n3 c3, .int .u16 (ay : Int), .int .u8 (amo : Int), .int .u8 (ad : Int), .int .u8 (ah : Int), .int .u8 (ami : Int), .int .u8 (as_ : Int), .int .u16 (by_ : Int), .int .u8 (bmo : Int), .int .u8 (bd : Int), .int .u8 (bh : Int), .int .u8 (bmi : Int), .int .u8 (bs : Int), .slice A4 n4 c4, .int .u64 (e : Int), vg, .bool ca, .int .i64 path, .int .i64 usage, .bool code] 32)) ((w.alloc (.cells #[vr, vt, .slice A1 n1 c1, .slice A2 n2 c2, .slice A3 n3 c3, .int .u16 (ay : Int), .int .u8 (amo : Int), .int .u8 (ad : Int), .int .u8 (ah : Int), .int .u8 (ami : Int), .int .u8 (as_ : Int), .int .u16 (by_ : Int), .int .u8 (bmo : Int), .int .u8 (bd : Int), .int .u8 (bh : Int), .int .u8 (bmi : Int), .int .u8 (bs : Int), .slice A4 n4 c4, .int .u64 (e : Int), vg, .bool ca, .int .i64 path, .int .i64 usage, .bool code] 32)).alloc (.cells #[.int .u8 ((e : Int) / 4294967296 % 256), .int .u8 ((e : Int) / 16777216 % 256), .int .u8 ((e : Int) / 65536 % 256), .int .u8 ((e : Int) / 256 % 256), .int .u8 ((e : Int) % 256)] 5)) := (Below.refl _ _).alloc (by simp) _
  have hr1 := Rd.lit (w.alloc (.cells #[vr, vt, .slice A1 n1 c1, .slice A2 n2 c2, .slice A3 n3 c3, .int .u16 (ay : Int), .int .u8 (amo : Int), .int .u8 (ad : Int), .int .u8 (ah : Int), .int .u8 (ami : Int), .int .u8 (as_ : Int), .int .u16 (by_ : Int), .int .u8 (bmo : Int), .int .u8 (bd : Int), .int .u8 (bh : Int), .int .u8 (bmi : Int), .int .u8 (bs : Int), .slice A4 n4 c4, .int .u64 (e : Int), vg, .bool ca, .int .i64 path, .int .i64 usage, .bool code] 32)) 5 (Ref.five e) [.int .u8 ((e : Int) / 4294967296 % 256), .int .u8 ((e : Int) / 16777216 % 256), .int .u8 ((e : Int) / 65536 % 256), .int .u8 ((e : Int) / 256 % 256), .int .u8 ((e : Int) % 256)] (w.heap.size + 1) 5 (by simp) hfive.symm rfl (by omega)
  have HP := Lib.hid (And.intro hb1 (And.intro hbb1 hr1))
  clear hfive hb1 hbb1 hr1
  have HB := Lib.hid (Blk.new w 32 #[vr, vt, .slice A1 n1 c1, .slice A2 n2 c2, .slice A3 n3 c3, .int .u16 (ay : Int), .int .u8 (amo : Int), .int .u8 (ad : Int), .int .u8 (ah : Int), .int .u8 (ami : Int), .int .u8 (as_ : Int), .int .u16 (by_ : Int), .int .u8 (bmo : Int), .int .u8 (bd : Int), .int .u8 (bh : Int), .int .u8 (bmi : Int), .int .u8 (bs : Int), .slice A4 n4 c4, .int .u64 (e : Int), vg, .bool ca, .int .i64 path, .int .i64 usage, .bool code])
  have hfive : (Ref.five e).map bv = [.int .u8 ((e : Int) / 4294967296 % 256), .int .u8 ((e : Int) / 16777216 % 256), .int .u8 ((e : Int) / 65536 % 256), .int .u8 ((e : Int) / 256 % 256), .int .u8 ((e : Int) % 256)] := by
    unfold Ref.five
    simp only [List.map_cons, List.map_nil, bv, UInt8.toNat_ofNat']
    simp only [List.cons.injEq, Value.int.injEq, true_and, and_true]
    omega
  have hb1 : Below w.heap.size w ((w.alloc (.cells #[vr, vt, .slice A1 n1 c1, .slice A2 n2 c2, .slice A3 n3 c3, .int .u16 (ay : Int), .int .u8 (amo : Int), .int .u8 (ad : Int), .int .u8 (ah : Int), .int .u8 (ami : Int), .int .u8 (as_ : Int), .int .u16 (by_ : Int), .int .u8 (bmo : Int), .int .u8 (bd : Int), .int .u8 (bh : Int), .int .u8 (bmi : Int), .int .u8 (bs : Int), .slice A4 n4 c4, .int .u64 (e : Int), vg, .bool ca, .int .i64 path, .int .i64 usage, .bool code] 32)).alloc (.cells #[.int .u8 ((e : Int) / 4294967296 % 256), .int .u8 ((e : Int) / 16777216 % 256), .int .u8 ((e : Int) / 65536 % 256), .int .u8 ((e : Int) / 256 % 256), .int .u8 ((e : Int) % 256)] 5)) := ((Below.refl _ w).alloc (Nat.le_refl _) _).alloc (by simp) _
  have hbb1 : Below (w.heap.size + 1) (w.alloc (.cells #[vr, vt, .slice A1 n1 c1, .slice A2 n2 c2, .slice A3 n3 c3, .int .u16 (ay : Int), .int .u8 (amo : Int), .int .u8 (ad : Int), .int .u8 (ah : Int), .int .u8 (ami : Int), .int .u8 (as_ : Int), .int .u16 (by_ : Int), .int .u8 (bmo : Int), .int .u8 (bd : Int), .int .u8 (bh : Int), .int .u8 (bmi : Int), .int .u8 (bs : Int), .slice A4 n4 c4, .int .u64 (e : Int), vg, .bool ca, .int .i64 path, .int .i64 usage, .bool code] 32)) ((w.alloc (.cells #[vr, vt, .slice A1 n1 c1, .slice A2 n2 c2, .slice A3 n3 c3, .int .u16 (ay : Int), .int .u8 (amo : Int), .int .u8 (ad : Int), .int .u8 (ah : Int), .int .u8 (ami : Int), .int .u8 (as_ : Int), .int .u16 (by_ : Int), .int .u8 (bmo : Int), .int .u8 (bd : Int), .int .u8 (bh : Int), .int .u8 (bmi : Int), .int .u8 (bs : Int), .slice A4 n4 c4, .int .u64 (e : Int), vg, .bool ca, .int .i64 path, .int .i64 usage, .bool code] 32)).alloc (.cells #[.int .u8 ((e : Int) / 4294967296 % 256), .int .u8 ((e : Int) / 16777216 % 256), .int .u8 ((e : Int) / 65536 % 256), .int .u8 ((e : Int) / 256 % 256), .int .u8 ((e : Int) % 256)] 5)) := (Below.refl _ _).alloc (by simp) _
  have hr1 := Rd.lit (w.alloc (.cells #[vr, vt, .slice A1 n1 c1, .slice A2 n2 c2, .slice A3 n3 c3, .int .u16 (ay : Int), .int .u8 (amo : Int), .int .u8 (ad : Int), .int .u8 (ah : Int), .int .u8 (ami : Int), .int .u8 (as_ : Int), .int .u16 (by_ : Int), .int .u8 (bmo : Int), .int .u8 (bd : Int), .int .u8 (bh : Int), .int .u8 (bmi : Int), .int .u8 (bs : Int), .slice A4 n4 c4, .int .u64 (e : Int), vg, .bool ca, .int .i64 path, .int .i64 usage, .bool code] 32)) 5 (Ref.five e) [.int .u8 ((e : Int) / 4294967296 % 256), .int .u8 ((e : Int) / 16777216 % 256), .int .u8 ((e : Int) / 65536 % 256), .int .u8 ((e : Int) / 256 % 256), .int .u8 ((e : Int) % 256)] (w.heap.size + 1) 5 (by simp) hfive.symm rfl (by omega)
  have HP := Lib.hid (And.intro hb1 (And.intro hbb1 hr1))
  clear hfive hb1 hbb1 hr1
  have HB := Lib.hid (Blk.new w 32 #[vr, vt, .slice A1 n1 c1, .slice A2 n2 c2, .slice A3 n3 c3, .int .u16 (ay : Int), .int .u8 (amo : Int), .int .u8 (ad : Int), .int .u8 (ah : Int), .int .u8 (ami : Int), .int .u8 (as_ : Int), .int .u16 (by_ : Int), .int .u8 (bmo : Int), .int .u8 (bd : Int), .int .u8 (bh : Int), .int .u8 (bmi : Int), .int .u8 (bs : Int), .slice A4 n4 c4, .int .u64 (e : Int), vg, .bool ca, .int .i64 path, .int .i64 usage, .bool code])
  have hfive : (Ref.five e).map bv = [.int .u8 ((e : Int) / 4294967296 % 256), .int .u8 ((e : Int) / 16777216 % 256), .int .u8 ((e : Int) / 65536 % 256), .int .u8 ((e : Int) / 256 % 256), .int .u8 ((e : Int) % 256)] := by
    unfold Ref.five
    simp only [List.map_cons, List.map_nil, bv, UInt8.toNat_ofNat']
    simp only [List.cons.injEq, Value.int.injEq, true_and, and_true]
    omega
  have hb1 : Below w.heap.size w ((w.alloc (.cells #[vr, vt, .slice A1 n1 c1, .slice A2 n2 c2, .slice A3 n3 c3, .int .u16 (ay : Int), .int .u8 (amo : Int), .int .u8 (ad : Int), .int .u8 (ah : Int), .int .u8 (ami : Int), .int .u8 (as_ : Int), .int .u16 (by_ : Int), .int .u8 (bmo : Int), .int .u8 (bd : Int), .int .u8 (bh : Int), .int .u8 (bmi : Int), .int .u8 (bs : Int), .slice A4 n4 c4, .int .u64 (e : Int), vg, .bool ca, .int .i64 path, .int .i64 usage, .bool code] 32)).alloc (.cells #[.int .u8 ((e : Int) / 4294967296 % 256), .int .u8 ((e : Int) / 16777216 % 256), .int .u8 ((e : Int) / 65536 % 256), .int .u8 ((e : Int) / 256 % 256), .int .u8 ((e : Int) % 256)] 5)) := ((Below.refl _ w).alloc (Nat.le_refl _) _).alloc (by simp) _
  have hbb1 : Below (w.heap.size + 1) (w.alloc (.cells #[vr, vt, .slice A1 n1 c1, .slice A2 n2 c2, .slice A3 n3 c3, .int .u16 (ay : Int), .int .u8 (amo : Int), .int .u8 (ad : Int), .int .u8 (ah : Int), .int .u8 (ami : Int), .int .u8 (as_ : Int), .int .u16 (by_ : Int), .int .u8 (bmo : Int), .int .u8 (bd : Int), .int .u8 (bh : Int), .int .u8 (bmi : Int), .int .u8 (bs : Int), .slice A4 n4 c4, .int .u64 (e : Int), vg, .bool ca, .int .i64 path, .int .i64 usage, .bool code] 32)) ((w.alloc (.cells #[vr, vt, .slice A1 n1 c1, .slice A2 n2 c2, .slice A3 n3 c3, .int .u16 (ay : Int), .int .u8 (amo : Int), .int .u8 (ad : Int), .int .u8 (ah : Int), .int .u8 (ami : Int), .int .u8 (as_ : Int), .int .u16 (by_ : Int), .int .u8 (bmo : Int), .int .u8 (bd : Int), .int .u8 (bh : Int), .int .u8 (bmi : Int), .int .u8 (bs : Int), .slice A4 n4 c4, .int .u64 (e : Int), vg, .bool ca, .int .i64 path, .int .i64 usage, .bool code] 32)).alloc (.cells #[.int .u8 ((e : Int) / 4294967296 % 256), .int .u8 ((e : Int) / 16777216 % 256), .int .u8 ((e : Int) / 65536 % 256), .int .u8 ((e : Int) / 256 % 256), .int .u8 ((e : Int) % 256)] 5)) := (Below.refl _ _).alloc (by simp) _
  have hr1 := Rd.lit (w.alloc (.cells #[vr, vt, .slice A1 n1 c1, .slice A2 n2 c2, .slice A3 n3 c3, .int .u16 (ay : Int), .int .u8 (amo : Int), .int .u8 (ad : Int), .int .u8 (ah : Int), .int .u8 (ami : Int), .int .u8 (as_ : Int), .int .u16 (by_ : Int), .int .u8 (bmo : Int), .int .u8 (bd : Int), .int .u8 (bh : Int), .int .u8 (bmi : Int), .int .u8 (bs : Int), .slice A4 n4 c4, .int .u64 (e : Int), vg, .bool ca, .int .i64 path, .int .i64 usage, .bool code] 32)) 5 (Ref.five e) [.int .u8 ((e : Int) / 4294967296 % 256), .int .u8 ((e : Int) / 16777216 % 256), .int .u8 ((e : Int) / 65536 % 256), .int .u8 ((e : Int) / 256 % 256), .int .u8 ((e : Int) % 256)] (w.heap.size + 1) 5 (by simp) hfive.symm rfl (by omega)
  have HP := Lib.hid (And.intro hb1 (And.intro hbb1 hr1))
  clear hfive hb1 hbb1 hr1
  have HB := Lib.hid (Blk.new w 32 #[vr, vt, .slice A1 n1 c1, .slice A2 n2 c2, .slice A3 n3 c3, .int .u16 (ay : Int), .int .u8 (amo : Int), .int .u8 (ad : Int), .int .u8 (ah : Int), .int .u8 (ami : Int), .int .u8 (as_ : Int), .int .u16 (by_ : Int), .int .u8 (bmo : Int), .int .u8 (bd : Int), .int .u8 (bh : Int), .int .u8 (bmi : Int), .int .u8 (bs : Int), .slice A4 n4 c4, .int .u64 (e : Int), vg, .bool ca, .int .i64 path, .int .i64 usage, .bool code])
  have hfive : (Ref.five e).map bv = [.int .u8 ((e : Int) / 4294967296 % 256), .int .u8 ((e : Int) / 16777216 % 256), .int .u8 ((e : Int) / 65536 % 256), .int .u8 ((e : Int) / 256 % 256), .int .u8 ((e : Int) % 256)] := by
    unfold Ref.five
    simp only [List.map_cons, List.map_nil, bv, UInt8.toNat_ofNat']
    simp only [List.cons.injEq, Value.int.injEq, true_and, and_true]
    omega
  have hb1 : Below w.heap.size w ((w.alloc (.cells #[vr, vt, .slice A1 n1 c1, .slice A2 n2 c2, .slice A3 n3 c3, .int .u16 (ay : Int), .int .u8 (amo : Int), .int .u8 (ad : Int), .int .u8 (ah : Int), .int .u8 (ami : Int), .int .u8 (as_ : Int), .int .u16 (by_ : Int), .int .u8 (bmo : Int), .int .u8 (bd : Int), .int .u8 (bh : Int), .int .u8 (bmi : Int), .int .u8 (bs : Int), .slice A4 n4 c4, .int .u64 (e : Int), vg, .bool ca, .int .i64 path, .int .i64 usage, .bool code] 32)).alloc (.cells #[.int .u8 ((e : Int) / 4294967296 % 256), .int .u8 ((e : Int) / 16777216 % 256), .int .u8 ((e : Int) / 65536 % 256), .int .u8 ((e : Int) / 256 % 256), .int .u8 ((e : Int) % 256)] 5)) := ((Below.refl _ w).alloc (Nat.le_refl _) _).alloc (by simp) _
  have hbb1 : Below (w.heap.size + 1) (w.alloc (.cells #[vr, vt, .slice A1 n1 c1, .slice A2 n2 c2, .slice A3 n3 c3, .int .u16 (ay : Int), .int .u8 (amo : Int), .int .u8 (ad : Int), .int .u8 (ah : Int), .int .u8 (ami : Int), .int .u8 (as_ : Int), .int .u16 (by_ : Int), .int .u8 (bmo : Int), .int .u8 (bd : Int), .int .u8 (bh : Int), .int .u8 (bmi : Int), .int .u8 (bs : Int), .slice A4 n4 c4, .int .u64 (e : Int), vg, .bool ca, .int .i64 path, .int .i64 usage, .bool code] 32)) ((w.alloc (.cells #[vr, vt, .slice A1 n1 c1, .slice A2 n2 c2, .slice A3 n3 c3, .int .u16 (ay : Int), .int .u8 (amo : Int), .int .u8 (ad : Int), .int .u8 (ah : Int), .int .u8 (ami : Int), .int .u8 (as_ : Int), .int .u16 (by_ : Int), .int .u8 (bmo : Int), .int .u8 (bd : Int), .int .u8 (bh : Int), .int .u8 (bmi : Int), .int .u8 (bs : Int), .slice A4 n4 c4, .int .u64 (e : Int), vg, .bool ca, .int .i64 path, .int .i64 usage, .bool code] 32)).alloc (.cells #[.int .u8 ((e : Int) / 4294967296 % 256), .int .u8 ((e : Int) / 16777216 % 256), .int .u8 ((e : Int) / 65536 % 256), .int .u8 ((e : Int) / 256 % 256), .int .u8 ((e : Int) % 256)] 5)) := (Below.refl _ _).alloc (by simp) _
  have hr1 := Rd.lit (w.alloc (.cells #[vr, vt, .slice A1 n1 c1, .slice A2 n2 c2, .slice A3 n3 c3, .int .u16 (ay : Int), .int .u8 (amo : Int), .int .u8 (ad : Int), .int .u8 (ah : Int), .int .u8 (ami : Int), .int .u8 (as_ : Int), .int .u16 (by_ : Int), .int .u8 (bmo : Int), .int .u8 (bd : Int), .int .u8 (bh : Int), .int .u8 (bmi : Int), .int .u8 (bs : Int), .slice A4 n4 c4, .int .u64 (e : Int), vg, .bool ca, .int .i64 path, .int .i64 usage, .bool code] 32)) 5 (Ref.five e) [.int .u8 ((e : Int) / 4294967296 % 256), .int .u8 ((e : Int) / 16777216 % 256), .int .u8 ((e : Int) / 65536 % 256), .int .u8 ((e : Int) / 256 % 256), .int .u8 ((e : Int) % 256)] (w.heap.size + 1) 5 (by simp) hfive.symm rfl (by omega)
  have HP := Lib.hid (And.intro hb1 (And.intro hbb1 hr1))
  clear hfive hb1 hbb1 hr1
  have HB := Lib.hid (Blk.new w 32 #[vr, vt, .slice A1 n1 c1, .slice A2 n2 c2, .slice A3 n3 c3, .int .u16 (ay : Int), .int .u8 (amo : Int), .int .u8 (ad : Int), .int .u8 (ah : Int), .int .u8 (ami : Int), .int .u8 (as_ : Int), .int .u16 (by_ : Int), .int .u8 (bmo : Int), .int .u8 (bd : Int), .int .u8 (bh : Int), .int .u8 (bmi : Int), .int .u8 (bs : Int), .slice A4 n4 c4, .int .u64 (e : Int), vg, .bool ca, .int .i64 path, .int .i64 usage, .bool code])
  have hfive : (Ref.five e).map bv = [.int .u8 ((e : Int) / 4294967296 % 256), .int .u8 ((e : Int) / 16777216 % 256), .int .u8 ((e : Int) / 65536 % 256), .int .u8 ((e : Int) / 256 % 256), .int .u8 ((e : Int) % 256)] := by
    unfold Ref.five
    simp only [List.map_cons, List.map_nil, bv, UInt8.toNat_ofNat']
    simp only [List.cons.injEq, Value.int.injEq, true_and, and_true]
    omega
  have hb1 : Below w.heap.size w ((w.alloc (.cells #[vr, vt, .slice A1 n1 c1, .slice A2 n2 c2, .slice A3 n3 c3, .int .u16 (ay : Int), .int .u8 (amo : Int), .int .u8 (ad : Int), .int .u8 (ah : Int), .int .u8 (ami : Int), .int .u8 (as_ : Int), .int .u16 (by_ : Int), .int .u8 (bmo : Int), .int .u8 (bd : Int), .int .u8 (bh : Int), .int .u8 (bmi : Int), .int .u8 (bs : Int), .slice A4 n4 c4, .int .u64 (e : Int), vg, .bool ca, .int .i64 path, .int .i64 usage, .bool code] 32)).alloc (.cells #[.int .u8 ((e : Int) / 4294967296 % 256), .int .u8 ((e : Int) / 16777216 % 256), .int .u8 ((e : Int) / 65536 % 256), .int .u8 ((e : Int) / 256 % 256), .int .u8 ((e : Int) % 256)] 5)) := ((Below.refl _ w).alloc (Nat.le_refl _) _).alloc (by simp) _
  have hbb1 : Below (w.heap.size + 1) (w.alloc (.cells #[vr, vt, .slice A1 n1 c1, .slice A2 n2 c2, .slice A3 n3 c3, .int .u16 (ay : Int), .int .u8 (amo : Int), .int .u8 (ad : Int), .int .u8 (ah : Int), .int .u8 (ami : Int), .int .u8 (as_ : Int), .int .u16 (by_ : Int), .int .u8 (bmo : Int), .int .u8 (bd : Int), .int .u8 (bh : Int), .int .u8 (bmi : Int), .int .u8 (bs : Int), .slice A4 n4 c4, .int .u64 (e : Int), vg, .bool ca, .int .i64 path, .int .i64 usage, .bool code] 32)) ((w.alloc (.cells #[vr, vt, .slice A1 n1 c1, .slice A2 n2 c2, .slice A3 n3 c3, .int .u16 (ay : Int), .int .u8 (amo : Int), .int .u8 (ad : Int), .int .u8 (ah : Int), .int .u8 (ami : Int), .int .u8 (as_ : Int), .int .u16 (by_ : Int), .int .u8 (bmo : Int), .int .u8 (bd : Int), .int .u8 (bh : Int), .int .u8 (bmi : Int), .int .u8 (bs : Int), .slice A4 n4 c4, .int .u64 (e : Int), vg, .bool ca, .int .i64 path, .int .i64 usage, .bool code] 32)).alloc (.cells #[.int .u8 ((e : Int) / 4294967296 % 256), .int .u8 ((e : Int) / 16777216 % 256), .int .u8 ((e : Int) / 65536 % 256), .int .u8 ((e : Int) / 256 % 256), .int .u8 ((e : Int) % 256)] 5)) := (Below.refl _ _).alloc (by simp) _
  have hr1 := Rd.lit (w.alloc (.cells #[vr, vt, .slice A1 n1 c1, .slice A2 n2 c2, .slice A3 n3 c3, .int .u16 (ay : Int), .int .u8 (amo : Int), .int .u8 (ad : Int), .int .u8 (ah : Int), .int .u8 (ami : Int), .int .u8 (as_ : Int), .int .u16 (by_ : Int), .int .u8 (bmo : Int), .int .u8 (bd : Int), .int .u8 (bh : Int), .int .u8 (bmi : Int), .int .u8 (bs : Int), .slice A4 n4 c4, .int .u64 (e : Int), vg, .bool ca, .int .i64 path, .int .i64 usage, .bool code] 32)) 5 (Ref.five e) [.int .u8 ((e : Int) / 4294967296 % 256), .int .u8 ((e : Int) / 16777216 % 256), .int .u8 ((e : Int) / 65536 % 256), .int .u8 ((e : Int) / 256 % 256), .int .u8 ((e : Int) % 256)] (w.heap.size + 1) 5 (by simp) hfive.symm rfl (by omega)
  have HP := Lib.hid (And.intro hb1 (And.intro hbb1 hr1))
  clear hfive hb1 hbb1 hr1
  have HB := Lib.hid (Blk.new w 32 #[vr, vt, .slice A1 n1 c1, .slice A2 n2 c2, .slice A3 n3 c3, .int .u16 (ay : Int), .int .u8 (amo : Int), .int .u8 (ad : Int), .int .u8 (ah : Int), .int .u8 (ami : Int), .int .u8 (as_ : Int), .int .u16 (by_ : Int), .int .u8 (bmo : Int), .int .u8 (bd : Int), .int .u8 (bh : Int), .int .u8 (bmi : Int), .int .u8 (bs : Int), .slice A4 n4 c4, .int .u64 (e : Int), vg, .bool ca, .int .i64 path, .int .i64 usage, .bool code])
  have hfive : (Ref.five e).map bv = [.int .u8 ((e : Int) / 4294967296 % 256), .int .u8 ((e : Int) / 16777216 % 256), .int .u8 ((e : Int) / 65536 % 256), .int .u8 ((e : Int) / 256 % 256), .int .u8 ((e : Int) % 256)] := by
    unfold Ref.five
    simp only [List.map_cons, List.map_nil, bv, UInt8.toNat_ofNat']
    simp only [List.cons.injEq, Value.int.injEq, true_and, and_true]
    omega
  have hb1 : Below w.heap.size w ((w.alloc (.cells #[vr, vt, .slice A1 n1 c1, .slice A2 n2 c2, .slice A3 n3 c3, .int .u16 (ay : Int), .int .u8 (amo : Int), .int .u8 (ad : Int), .int .u8 (ah : Int), .int .u8 (ami : Int), .int .u8 (as_ : Int), .int .u16 (by_ : Int), .int .u8 (bmo : Int), .int .u8 (bd : Int), .int .u8 (bh : Int), .int .u8 (bmi : Int), .int .u8 (bs : Int), .slice A4 n4 c4, .int .u64 (e : Int), vg, .bool ca, .int .i64 path, .int .i64 usage, .bool code] 32)).alloc (.cells #[.int .u8 ((e : Int) / 4294967296 % 256), .int .u8 ((e : Int) / 16777216 % 256), .int .u8 ((e : Int) / 65536 % 256), .int .u8 ((e : Int) / 256 % 256), .int .u8 ((e : Int) % 256)] 5)) := ((Below.refl _ w).alloc (Nat.le_refl _) _).alloc (by simp) _
  have hbb1 : Below (w.heap.size + 1) (w.alloc (.cells #[vr, vt, .slice A1 n1 c1, .slice A2 n2 c2, .slice A3 n3 c3, .int .u16 (ay : Int), .int .u8 (amo : Int), .int .u8 (ad : Int), .int .u8 (ah : Int), .int .u8 (ami : Int), .int .u8 (as_ : Int), .int .u16 (by_ : Int), .int .u8 (bmo : Int), .int .u8 (bd : Int), .int .u8 (bh : Int), .int .u8 (bmi : Int), .int .u8 (bs : Int), .slice A4 n4 c4, .int .u64 (e : Int), vg, .bool ca, .int .i64 path, .int .i64 usage, .bool code] 32)) ((w.alloc (.cells #[vr, vt, .slice A1 n1 c1, .slice A2 n2 c2, .slice A3 n3 c3, .int .u16 (ay : Int), .int .u8 (amo : Int), .int .u8 (ad : Int), .int .u8 (ah : Int), .int .u8 (ami : Int), .int .u8 (as_ : Int), .int .u16 (by_ : Int), .int .u8 (bmo : Int), .int .u8 (bd : Int), .int .u8 (bh : Int), .int .u8 (bmi : Int), .int .u8 (bs : Int), .slice A4 n4 c4, .int .u64 (e : Int), vg, .bool ca, .int .i64 path, .int .i64 usage, .bool code] 32)).alloc (.cells #[.int .u8 ((e : Int) / 4294967296 % 256), .int .u8 ((e : Int) / 16777216 % 256), .int .u8 ((e : Int) / 65536 % 256), .int .u8 ((e : Int) / 256 % 256), .int .u8 ((e : Int) % 256)] 5)) := (Below.refl _ _).alloc (by simp) _
  have hr1 := Rd.lit (w.alloc (.cells #[vr, vt, .slice A1 n1 c1, .slice A2 n2 c2, .slice A3 n3 c3, .int .u16 (ay : Int), .int .u8 (amo : Int), .int .u8 (ad : Int), .int .u8 (ah : Int), .int .u8 (ami : Int), .int .u8 (as_ : Int), .int .u16 (by_ : Int), .int .u8 (bmo : Int), .int .u8 (bd : Int), .int .u8 (bh : Int), .int .u8 (bmi : Int), .int .u8 (bs : Int), .slice A4 n4 c4, .int .u64 (e : Int), vg, .bool ca, .int .i64 path, .int .i64 usage, .bool code] 32)) 5 (Ref.five e) [.int .u8 ((e : Int) / 4294967296 % 256), .int .u8 ((e : Int) / 16777216 % 256), .int .u8 ((e : Int) / 65536 % 256), .int .u8 ((e : Int) / 256 % 256), .int .u8 ((e : Int) % 256)] (w.heap.size + 1) 5 (by simp) hfive.symm rfl (by omega)
  have HP := Lib.hid (And.intro hb1 (And.intro hbb1 hr1))
  clear hfive hb1 hbb1 hr1
  have HB := Lib.hid (Blk.new w 32 #[vr, vt, .slice A1 n1 c1, .slice A2 n2 c2, .slice A3 n3 c3, .int .u16 (ay : Int), .int .u8 (amo : Int), .int .u8 (ad : Int), .int .u8 (ah : Int), .int .u8 (ami : Int), .int .u8 (as_ : Int), .int .u16 (by_ : Int), .int .u8 (bmo : Int), .int .u8 (bd : Int), .int .u8 (bh : Int), .int .u8 (bmi : Int), .int .u8 (bs : Int), .slice A4 n4 c4, .int .u64 (e : Int), vg, .bool ca, .int .i64 path, .int .i64 usage, .bool code])
  have hfive : (Ref.five e).map bv = [.int .u8 ((e : Int) / 4294967296 % 256), .int .u8 ((e : Int) / 16777216 % 256), .int .u8 ((e : Int) / 65536 % 256), .int .u8 ((e : Int) / 256 % 256), .int .u8 ((e : Int) % 256)] := by
    unfold Ref.five
    simp only [List.map_cons, List.map_nil, bv, UInt8.toNat_ofNat']
    simp only [List.cons.injEq, Value.int.injEq, true_and, and_true]
    omega
  have hb1 : Below w.heap.size w ((w.alloc (.cells #[vr, vt, .slice A1 n1 c1, .slice A2 n2 c2, .slice A3 n3 c3, .int .u16 (ay : Int), .int .u8 (amo : Int), .int .u8 (ad : Int), .int .u8 (ah : Int), .int .u8 (ami : Int), .int .u8 (as_ : Int), .int .u16 (by_ : Int), .int .u8 (bmo : Int), .int .u8 (bd : Int), .int .u8 (bh : Int), .int .u8 (bmi : Int), .int .u8 (bs : Int), .slice A4 n4 c4, .int .u64 (e : Int), vg, .bool ca, .int .i64 path, .int .i64 usage, .bool code] 32)).alloc (.cells #[.int .u8 ((e : Int) / 4294967296 % 256), .int .u8 ((e : Int) / 16777216 % 256), .int .u8 ((e : Int) / 65536 % 256), .int .u8 ((e : Int) / 256 % 256), .int .u8 ((e : Int) % 256)] 5)) := ((Below.refl _ w).alloc (Nat.le_refl _) _).alloc (by simp) _
  have hbb1 : Below (w.heap.size + 1) (w.alloc (.cells #[vr, vt, .slice A1 n1 c1, .slice A2 n2 c2, .slice A3 n3 c3, .int .u16 (ay : Int), .int .u8 (amo : Int), .int .u8 (ad : Int), .int .u8 (ah : Int), .int .u8 (ami : Int), .int .u8 (as_ : Int), .int .u16 (by_ : Int), .int .u8 (bmo : Int), .int .u8 (bd : Int), .int .u8 (bh : Int), .int .u8 (bmi : Int), .int .u8 (bs : Int), .slice A4 n4 c4, .int .u64 (e : Int), vg, .bool ca, .int .i64 path, .int .i64 usage, .bool code] 32)) ((w.alloc (.cells #[vr, vt, .slice A1 n1 c1, .slice A2 n2 c2, .slice A3 n3 c3, .int .u16 (ay : Int), .int .u8 (amo : Int), .int .u8 (ad : Int), .int .u8 (ah : Int), .int .u8 (ami : Int), .int .u8 (as_ : Int), .int .u16 (by_ : Int), .int .u8 (bmo : Int), .int .u8 (bd : Int), .int .u8 (bh : Int), .int .u8 (bmi : Int), .int .u8 (bs : Int), .slice A4 n4 c4, .int .u64 (e : Int), vg, .bool ca, .int .i64 path, .int .i64 usage, .bool code] 32)).alloc (.cells #[.int .u8 ((e : Int) / 4294967296 % 256), .int .u8 ((e : Int) / 16777216 % 256), .int .u8 ((e : Int) / 65536 % 256), .int .u8 ((e : Int) / 256 % 256), .int .u8 ((e : Int) % 256)] 5)) := (Below.refl _ _).alloc (by simp) _
  have hr1 := Rd.lit (w.alloc (.cells #[vr, vt, .slice A1 n1 c1, .slice A2 n2 c2, .slice A3 n3 c3, .int .u16 (ay : Int), .int .u8 (amo : Int), .int .u8 (ad : Int), .int .u8 (ah : Int), .int .u8 (ami : Int), .int .u8 (as_ : Int), .int .u16 (by_ : Int), .int .u8 (bmo : Int), .int .u8 (bd : Int), .int .u8 (bh : Int), .int .u8 (bmi : Int), .int .u8 (bs : Int), .slice A4 n4 c4, .int .u64 (e : Int), vg, .bool ca, .int .i64 path, .int .i64 usage, .bool code] 32)) 5 (Ref.five e) [.int .u8 ((e : Int) / 4294967296 % 256), .int .u8 ((e : Int) / 16777216 % 256), .int .u8 ((e : Int) / 65536 % 256), .int .u8 ((e : Int) / 256 % 256), .int .u8 ((e : Int) % 256)] (w.heap.size + 1) 5 (by simp) hfive.symm rfl (by omega)
  have HP := Lib.hid (And.intro hb1 (And.intro hbb1 hr1))
  clear hfive hb1 hbb1 hr1
  have HB := Lib.hid (Blk.new w 32 #[vr, vt, .slice A1 n1 c1, .slice A2 n2 c2, .slice A3 n3 c3, .int .u16 (ay : Int), .int .u8 (amo : Int), .int .u8 (ad : Int), .int .u8 (ah : Int), .int .u8 (ami : Int), .int .u8 (as_ : Int), .int .u16 (by_ : Int), .int .u8 (bmo : Int), .int .u8 (bd : Int), .int .u8 (bh : Int), .int .u8 (bmi : Int), .int .u8 (bs : Int), .slice A4 n4 c4, .int .u64 (e : Int), vg, .bool ca, .int .i64 path, .int .i64 usage, .bool code])
  have hfive : (Ref.five e).map bv = [.int .u8 ((e : Int) / 4294967296 % 256), .int .u8 ((e : Int) / 16777216 % 256), .int .u8 ((e : Int) / 65536 % 256), .int .u8 ((e : Int) / 256 % 256), .int .u8 ((e : Int) % 256)] := by
    unfold Ref.five
    simp only [List.map_cons, List.map_nil, bv, UInt8.toNat_ofNat']
    simp only [List.cons.injEq, Value.int.injEq, true_and, and_true]
    omega
  have hb1 : Below w.heap.size w ((w.alloc (.cells #[vr, vt, .slice A1 n1 c1, .slice A2 n2 c2, .slice A3 n3 c3, .int .u16 (ay : Int), .int .u8 (amo : Int), .int .u8 (ad : Int), .int .u8 (ah : Int), .int .u8 (ami : Int), .int .u8 (as_ : Int), .int .u16 (by_ : Int), .int .u8 (bmo : Int), .int .u8 (bd : Int), .int .u8 (bh : Int), .int .u8 (bmi : Int), .int .u8 (bs : Int), .slice A4 n4 c4, .int .u64 (e : Int), vg, .bool ca, .int .i64 path, .int .i64 usage, .bool code] 32)).alloc (.cells #[.int .u8 ((e : Int) / 4294967296 % 256), .int .u8 ((e : Int) / 16777216 % 256), .int .u8 ((e : Int) / 65536 % 256), .int .u8 ((e : Int) / 256 % 256), .int .u8 ((e : Int) % 256)] 5)) := ((Below.refl _ w).alloc (Nat.le_refl _) _).alloc (by simp) _
  have hbb1 : Below (w.heap.size + 1) (w.alloc (.cells #[vr, vt, .slice A1 n1 c1, .slice A2 n2 c2, .slice A3 n3 c3, .int .u16 (ay : Int), .int .u8 (amo : Int), .int .u8 (ad : Int), .int .u8 (ah : Int), .int .u8 (ami : Int), .int .u8 (as_ : Int), .int .u16 (by_ : Int), .int .u8 (bmo : Int), .int .u8 (bd : Int), .int .u8 (bh : Int), .int .u8 (bmi : Int), .int .u8 (bs : Int), .slice A4 n4 c4, .int .u64 (e : Int), vg, .bool ca, .int .i64 path, .int .i64 usage, .bool code] 32)) ((w.alloc (.cells #[vr, vt, .slice A1 n1 c1, .slice A2 n2 c2, .slice A3 n3 c3, .int .u16 (ay : Int), .int .u8 (amo : Int), .int .u8 (ad : Int), .int .u8 (ah : Int), .int .u8 (ami : Int), .int .u8 (as_ : Int), .int .u16 (by_ : Int), .int .u8 (bmo : Int), .int .u8 (bd : Int), .int .u8 (bh : Int), .int .u8 (bmi : Int), .int .u8 (bs : Int), .slice A4 n4 c4, .int .u64 (e : Int), vg, .bool ca, .int .i64 path, .int .i64 usage, .bool code] 32)).alloc (.cells #[.int .u8 ((e : Int) / 4294967296 % 256), .int .u8 ((e : Int) / 16777216 % 256), .int .u8 ((e : Int) / 65536 % 256), .int .u8 ((e : Int) / 256 % 256), .int .u8 ((e : Int) % 256)] 5)) := (Below.refl _ _).alloc (by simp) _
  have hr1 := Rd.lit (w.alloc (.cells #[vr, vt, .slice A1 n1 c1, .slice A2 n2 c2, .slice A3 n3 c3, .int .u16 (ay : Int), .int .u8 (amo : Int), .int .u8 (ad : Int), .int .u8 (ah : Int), .int .u8 (ami : Int), .int .u8 (as_ : Int), .int .u16 (by_ : Int), .int .u8 (bmo : Int), .int .u8 (bd : Int), .int .u8 (bh : Int), .int .u8 (bmi : Int), .int .u8 (bs : Int), .slice A4 n4 c4, .int .u64 (e : Int), vg, .bool ca, .int .i64 path, .int .i64 usage, .bool code] 32)) 5 (Ref.five e) [.int .u8 ((e : Int) / 4294967296 % 256), .int .u8 ((e : Int) / 16777216 % 256), .int .u8 ((e : Int) / 65536 % 256), .int .u8 ((e : Int) / 256 % 256), .int .u8 ((e : Int) % 256)] (w.heap.size + 1) 5 (by simp) hfive.symm rfl (by omega)
  have HP := Lib.hid (And.intro hb1 (And.intro hbb1 hr1))
  clear hfive hb1 hbb1 hr1
  have HB := Lib.hid (Blk.new w 32 #[vr, vt, .slice A1 n1 c1, .slice A2 n2 c2, .slice A3 n3 c3, .int .u16 (ay : Int), .int .u8 (amo : Int), .int .u8 (ad : Int), .int .u8 (ah : Int), .int .u8 (ami : Int), .int .u8 (as_ : Int), .int .u16 (by_ : Int), .int .u8 (bmo : Int), .int .u8 (bd : Int), .int .u8 (bh : Int), .int .u8 (bmi : Int), .int .u8 (bs : Int), .slice A4 n4 c4, .int .u64 (e : Int), vg, .bool ca, .int .i64 path, .int .i64 usage, .bool code])
  have hfive : (Ref.five e).map bv = [.int .u8 ((e : Int) / 4294967296 % 256), .int .u8 ((e : Int) / 16777216 % 256), .int .u8 ((e : Int) / 65536 % 256), .int .u8 ((e : Int) / 256 % 256), .int .u8 ((e : Int) % 256)] := by
    unfold Ref.five
    simp only [List.map_cons, List.map_nil, bv, UInt8.toNat_ofNat']
    simp only [List.cons.injEq, Value.int.injEq, true_and, and_true]
    omega
  have hb1 : Below w.heap.size w ((w.alloc (.cells #[vr, vt, .slice A1 n1 c1, .slice A2 n2 c2, .slice A3 n3 c3, .int .u16 (ay : Int), .int .u8 (amo : Int), .int .u8 (ad : Int), .int .u8 (ah : Int), .int .u8 (ami : Int), .int .u8 (as_ : Int), .int .u16 (by_ : Int), .int .u8 (bmo : Int), .int .u8 (bd : Int), .int .u8 (bh : Int), .int .u8 (bmi : Int), .int .u8 (bs : Int), .slice A4 n4 c4, .int .u64 (e : Int), vg, .bool ca, .int .i64 path, .int .i64 usage, .bool code] 32)).alloc (.cells #[.int .u8 ((e : Int) / 4294967296 % 256), .int .u8 ((e : Int) / 16777216 % 256), .int .u8 ((e : Int) / 65536 % 256), .int .u8 ((e : Int) / 256 % 256), .int .u8 ((e : Int) % 256)] 5)) := ((Below.refl _ w).alloc (Nat.le_refl _) _).alloc (by simp) _
  have hbb1 : Below (w.heap.size + 1) (w.alloc (.cells #[vr, vt, .slice A1 n1 c1, .slice A2 n2 c2, .slice A3 n3 c3, .int .u16 (ay : Int), .int .u8 (amo : Int), .int .u8 (ad : Int), .int .u8 (ah : Int), .int .u8 (ami : Int), .int .u8 (as_ : Int), .int .u16 (by_ : Int), .int .u8 (bmo : Int), .int .u8 (bd : Int), .int .u8 (bh : Int), .int .u8 (bmi : Int), .int .u8 (bs : Int), .slice A4 n4 c4, .int .u64 (e : Int), vg, .bool ca, .int .i64 path, .int .i64 usage, .bool code] 32)) ((w.alloc (.cells #[vr, vt, .slice A1 n1 c1, .slice A2 n2 c2, .slice A3 n3 c3, .int .u16 (ay : Int), .int .u8 (amo : Int), .int .u8 (ad : Int), .int .u8 (ah : Int), .int .u8 (ami : Int), .int .u8 (as_ : Int), .int .u16 (by_ : Int), .int .u8 (bmo : Int), .int .u8 (bd : Int), .int .u8 (bh : Int), .int .u8 (bmi : Int), .int .u8 (bs : Int), .slice A4 n4 c4, .int .u64 (e : Int), vg, .bool ca, .int .i64 path, .int .i64 usage, .bool code] 32)).alloc (.cells #[.int .u8 ((e : Int) / 4294967296 % 256), .int .u8 ((e : Int) / 16777216 % 256), .int .u8 ((e : Int) / 65536 % 256), .int .u8 ((e : Int) / 256 % 256), .int .u8 ((e : Int) % 256)] 5)) := (Below.refl _ _).alloc (by simp) _
  have hr1 := Rd.lit (w.alloc (.cells #[vr, vt, .slice A1 n1 c1, .slice A2 n2 c2, .slice A3 n3 c3, .int .u16 (ay : Int), .int .u8 (amo : Int), .int .u8 (ad : Int), .int .u8 (ah : Int), .int .u8 (ami : Int), .int .u8 (as_ : Int), .int .u16 (by_ : Int), .int .u8 (bmo : Int), .int .u8 (bd : Int), .int .u8 (bh : Int), .int .u8 (bmi : Int), .int .u8 (bs : Int), .slice A4 n4 c4, .int .u64 (e : Int), vg, .bool ca, .int .i64 path, .int .i64 usage, .bool code] 32)) 5 (Ref.five e) [.int .u8 ((e : Int) / 4294967296 % 256), .int .u8 ((e : Int) / 16777216 % 256), .int .u8 ((e : Int) / 65536 % 256), .int .u8 ((e : Int) / 256 % 256), .int .u8 ((e : Int) % 256)] (w.heap.size + 1) 5 (by simp) hfive.symm rfl (by omega)
  have HP := Lib.hid (And.intro hb1 (And.intro hbb1 hr1))
  clear hfive hb1 hbb1 hr1
  have HB := Lib.hid (Blk.new w 32 #[vr, vt, .slice A1 n1 c1, .slice A2 n2 c2, .slice A3 n3 c3, .int .u16 (ay : Int), .int .u8 (amo : Int), .int .u8 (ad : Int), .int .u8 (ah : Int), .int .u8 (ami : Int), .int .u8 (as_ : Int), .int .u16 (by_ : Int), .int .u8 (bmo : Int), .int .u8 (bd : Int), .int .u8 (bh : Int), .int .u8 (bmi : Int), .int .u8 (bs : Int), .slice A4 n4 c4, .int .u64 (e : Int), vg, .bool ca, .int .i64 path, .int .i64 usage, .bool code])
  have hfive : (Ref.five e).map bv = [.int .u8 ((e : Int) / 4294967296 % 256), .int .u8 ((e : Int) / 16777216 % 256), .int .u8 ((e : Int) / 65536 % 256), .int .u8 ((e : Int) / 256 % 256), .int .u8 ((e : Int) % 256)] := by
    unfold Ref.five
    simp only [List.map_cons, List.map_nil, bv, UInt8.toNat_ofNat']
    simp only [List.cons.injEq, Value.int.injEq, true_and, and_true]
    omega
  have hb1 : Below w.heap.size w ((w.alloc (.cells #[vr, vt, .slice A1 n1 c1, .slice A2 n2 c2, .slice A3 n3 c3, .int .u16 (ay : Int), .int .u8 (amo : Int), .int .u8 (ad : Int), .int .u8 (ah : Int), .int .u8 (ami : Int), .int .u8 (as_ : Int), .int .u16 (by_ : Int), .int .u8 (bmo : Int), .int .u8 (bd : Int), .int .u8 (bh : Int), .int .u8 (bmi : Int), .int .u8 (bs : Int), .slice A4 n4 c4, .int .u64 (e : Int), vg, .bool ca, .int .i64 path, .int .i64 usage, .bool code] 32)).alloc (.cells #[.int .u8 ((e : Int) / 4294967296 % 256), .int .u8 ((e : Int) / 16777216 % 256), .int .u8 ((e : Int) / 65536 % 256), .int .u8 ((e : Int) / 256 % 256), .int .u8 ((e : Int) % 256)] 5)) := ((Below.refl _ w).alloc (Nat.le_refl _) _).alloc (by simp) _
  have hbb1 : Below (w.heap.size + 1) (w.alloc (.cells #[vr, vt, .slice A1 n1 c1, .slice A2 n2 c2, .slice A3 n3 c3, .int .u16 (ay : Int), .int .u8 (amo : Int), .int .u8 (ad : Int), .int .u8 (ah : Int), .int .u8 (ami : Int), .int .u8 (as_ : Int), .int .u16 (by_ : Int), .int .u8 (bmo : Int), .int .u8 (bd : Int), .int .u8 (bh : Int), .int .u8 (bmi : Int), .int .u8 (bs : Int), .slice A4 n4 c4, .int .u64 (e : Int), vg, .bool ca, .int .i64 path, .int .i64 usage, .bool code] 32)) ((w.alloc (.cells #[vr, vt, .slice A1 n1 c1, .slice A2 n2 c2, .slice A3 n3 c3, .int .u16 (ay : Int), .int .u8 (amo : Int), .int .u8 (ad : Int), .int .u8 (ah : Int), .int .u8 (ami : Int), .int .u8 (as_ : Int), .int .u16 (by_ : Int), .int .u8 (bmo : Int), .int .u8 (bd : Int), .int .u8 (bh : Int), .int .u8 (bmi : Int), .int .u8 (bs : Int), .slice A4 n4 c4, .int .u64 (e : Int), vg, .bool ca, .int .i64 path, .int .i64 usage, .bool code] 32)).alloc (.cells #[.int .u8 ((e : Int) / 4294967296 % 256), .int .u8 ((e : Int) / 16777216 % 256), .int .u8 ((e : Int) / 65536 % 256), .int .u8 ((e : Int) / 256 % 256), .int .u8 ((e : Int) % 256)] 5)) := (Below.refl _ _).alloc (by simp) _
  have hr1 := Rd.lit (w.alloc (.cells #[vr, vt, .slice A1 n1 c1, .slice A2 n2 c2, .slice A3 n3 c3, .int .u16 (ay : Int), .int .u8 (amo : Int), .int .u8 (ad : Int), .int .u8 (ah : Int), .int .u8 (ami : Int), .int .u8 (as_ : Int), .int .u16 (by_ : Int), .int .u8 (bmo : Int), .int .u8 (bd : Int), .int .u8 (bh : Int), .int .u8 (bmi : Int), .int .u8 (bs : Int), .slice A4 n4 c4, .int .u64 (e : Int), vg, .bool ca, .int .i64 path, .int .i64 usage, .bool code] 32)) 5 (Ref.five e) [.int .u8 ((e : Int) / 4294967296 % 256), .int .u8 ((e : Int) / 16777216 % 256), .int .u8 ((e : Int) / 65536 % 256), .int .u8 ((e : Int) / 256 % 256), .int .u8 ((e : Int) % 256)] (w.heap.size + 1) 5 (by simp) hfive.symm rfl (by omega)
  have HP := Lib.hid (And.intro hb1 (And.intro hbb1 hr1))
  clear hfive hb1 hbb1 hr1
  have HB := Lib.hid (Blk.new w 32 #[vr, vt, .slice A1 n1 c1, .slice A2 n2 c2, .slice A3 n3 c3, .int .u16 (ay : Int), .int .u8 (amo : Int), .int .u8 (ad : Int), .int .u8 (ah : Int), .int .u8 (ami : Int), .int .u8 (as_ : Int), .int .u16 (by_ : Int), .int .u8 (bmo : Int), .int .u8 (bd : Int), .int .u8 (bh : Int), .int .u8 (bmi : Int), .int .u8 (bs : Int), .slice A4 n4 c4, .int .u64 (e : Int), vg, .bool ca, .int .i64 path, .int .i64 usage, .bool code])
  have hfive : (Ref.five e).map bv = [.int .u8 ((e : Int) / 4294967296 % 256), .int .u8 ((e : Int) / 16777216 % 256), .int .u8 ((e : Int) / 65536 % 256), .int .u8 ((e : Int) / 256 % 256), .int .u8 ((e : Int) % 256)] := by
    unfold Ref.five
    simp only [List.map_cons, List.map_nil, bv, UInt8.toNat_ofNat']
    simp only [List.cons.injEq, Value.int.injEq, true_and, and_true]
    omega
  have hb1 : Below w.heap.size w ((w.alloc (.cells #[vr, vt, .slice A1 n1 c1, .slice A2 n2 c2, .slice A3 n3 c3, .int .u16 (ay : Int), .int .u8 (amo : Int), .int .u8 (ad : Int), .int .u8 (ah : Int), .int .u8 (ami : Int), .int .u8 (as_ : Int), .int .u16 (by_ : Int), .int .u8 (bmo : Int), .int .u8 (bd : Int), .int .u8 (bh : Int), .int .u8 (bmi : Int), .int .u8 (bs : Int), .slice A4 n4 c4, .int .u64 (e : Int), vg, .bool ca, .int .i64 path, .int .i64 usage, .bool code] 32)).alloc (.cells #[.int .u8 ((e : Int) / 4294967296 % 256), .int .u8 ((e : Int) / 16777216 % 256), .int .u8 ((e : Int) / 65536 % 256), .int .u8 ((e : Int) / 256 % 256), .int .u8 ((e : Int) % 256)] 5)) := ((Below.refl _ w).alloc (Nat.le_refl _) _).alloc (by simp) _
  have hbb1 : Below (w.heap.size + 1) (w.alloc (.cells #[vr, vt, .slice A1 n1 c1, .slice A2 n2 c2, .slice A3 n3 c3, .int .u16 (ay : Int), .int .u8 (amo : Int), .int .u8 (ad : Int), .int .u8 (ah : Int), .int .u8 (ami : Int), .int .u8 (as_ : Int), .int .u16 (by_ : Int), .int .u8 (bmo : Int), .int .u8 (bd : Int), .int .u8 (bh : Int), .int .u8 (bmi : Int), .int .u8 (bs : Int), .slice A4 n4 c4, .int .u64 (e : Int), vg, .bool ca, .int .i64 path, .int .i64 usage, .bool code] 32)) ((w.alloc (.cells #[vr, vt, .slice A1 n1 c1, .slice A2 n2 c2, .slice A3 n3 c3, .int .u16 (ay : Int), .int .u8 (amo : Int), .int .u8 (ad : Int), .int .u8 (ah : Int), .int .u8 (ami : Int), .int .u8 (as_ : Int), .int .u16 (by_ : Int), .int .u8 (bmo : Int), .int .u8 (bd : Int), .int .u8 (bh : Int), .int .u8 (bmi : Int), .int .u8 (bs : Int), .slice A4 n4 c4, .int .u64 (e : Int), vg, .bool ca, .int .i64 path, .int .i64 usage, .bool code] 32)).alloc (.cells #[.int .u8 ((e : Int) / 4294967296 % 256), .int .u8 ((e : Int) / 16777216 % 256), .int .u8 ((e : Int) / 65536 % 256), .int .u8 ((e : Int) / 256 % 256), .int .u8 ((e : Int) % 256)] 5)) := (Below.refl _ _).alloc (by simp) _
  have hr1 := Rd.lit (w.alloc (.cells #[vr, vt, .slice A1 n1 c1, .slice A2 n2 c2, .slice A3 n3 c3, .int .u16 (ay : Int), .int .u8 (amo : Int), .int .u8 (ad : Int), .int .u8 (ah : Int), .int .u8 (ami : Int), .int .u8 (as_ : Int), .int .u16 (by_ : Int), .int .u8 (bmo : Int), .int .u8 (bd : Int), .int .u8 (bh : Int), .int .u8 (bmi : Int), .int .u8 (bs : Int), .slice A4 n4 c4, .int .u64 (e : Int), vg, .bool ca, .int .i64 path, .int .i64 usage, .bool code] 32)) 5 (Ref.five e) [.int .u8 ((e : Int) / 4294967296 % 256), .int .u8 ((e : Int) / 16777216 % 256), .int .u8 ((e : Int) / 65536 % 256), .int .u8 ((e : Int) / 256 % 256), .int .u8 ((e : Int) % 256)] (w.heap.size + 1) 5 (by simp) hfive.symm rfl (by omega)
  have HP := Lib.hid (And.intro hb1 (And.intro hbb1 hr1))
  clear hfive hb1 hbb1 hr1
  have HB := Lib.hid (Blk.new w 32 #[vr, vt, .slice A1 n1 c1, .slice A2 n2 c2, .slice A3 n3 c3, .int .u16 (ay : Int), .int .u8 (amo : Int), .int .u8 (ad : Int), .int .u8 (ah : Int), .int .u8 (ami : Int), .int .u8 (as_ : Int), .int .u16 (by_ : Int), .int .u8 (bmo : Int), .int .u8 (bd : Int), .int .u8 (bh : Int), .int .u8 (bmi : Int), .int .u8 (bs : Int), .slice A4 n4 c4, .int .u64 (e : Int), vg, .bool ca, .int .i64 path, .int .i64 usage, .bool code])
  have hfive : (Ref.five e).map bv = [.int .u8 ((e : Int) / 4294967296 % 256), .int .u8 ((e : Int) / 16777216 % 256), .int .u8 ((e : Int) / 65536 % 256), .int .u8 ((e : Int) / 256 % 256), .int .u8 ((e : Int) % 256)] := by
    unfold Ref.five
    simp only [List.map_cons, List.map_nil, bv, UInt8.toNat_ofNat']
    simp only [List.cons.injEq, Value.int.injEq, true_and, and_true]
    omega
  have hb1 : Below w.heap.size w ((w.alloc (.cells #[vr, vt, .slice A1 n1 c1, .slice A2 n2 c2, .slice A3 n3 c3, .int .u16 (ay : Int), .int .u8 (amo : Int), .int .u8 (ad : Int), .int .u8 (ah : Int), .int .u8 (ami : Int), .int .u8 (as_ : Int), .int .u16 (by_ : Int), .int .u8 (bmo : Int), .int .u8 (bd : Int), .int .u8 (bh : Int), .int .u8 (bmi : Int), .int .u8 (bs : Int), .slice A4 n4 c4, .int .u64 (e : Int), vg, .bool ca, .int .i64 path, .int .i64 usage, .bool code] 32)).alloc (.cells #[.int .u8 ((e : Int) / 4294967296 % 256), .int .u8 ((e : Int) / 16777216 % 256), .int .u8 ((e : Int) / 65536 % 256), .int .u8 ((e : Int) / 256 % 256), .int .u8 ((e : Int) % 256)] 5)) := ((Below.refl _ w).alloc (Nat.le_refl _) _).alloc (by simp) _
  have hbb1 : Below (w.heap.size + 1) (w.alloc (.cells #[vr, vt, .slice A1 n1 c1, .slice A2 n2 c2, .slice A3 n3 c3, .int .u16 (ay : Int), .int .u8 (amo : Int), .int .u8 (ad : Int), .int .u8 (ah : Int), .int .u8 (ami : Int), .int .u8 (as_ : Int), .int .u16 (by_ : Int), .int .u8 (bmo : Int), .int .u8 (bd : Int), .int .u8 (bh : Int), .int .u8 (bmi : Int), .int .u8 (bs : Int), .slice A4 n4 c4, .int .u64 (e : Int), vg, .bool ca, .int .i64 path, .int .i64 usage, .bool code] 32)) ((w.alloc (.cells #[vr, vt, .slice A1 n1 c1, .slice A2 n2 c2, .slice A3 n3 c3, .int .u16 (ay : Int), .int .u8 (amo : Int), .int .u8 (ad : Int), .int .u8 (ah : Int), .int .u8 (ami : Int), .int .u8 (as_ : Int), .int .u16 (by_ : Int), .int .u8 (bmo : Int), .int .u8 (bd : Int), .int .u8 (bh : Int), .int .u8 (bmi : Int), .int .u8 (bs : Int), .slice A4 n4 c4, .int .u64 (e : Int), vg, .bool ca, .int .i64 path, .int .i64 usage, .bool code] 32)).alloc (.cells #[.int .u8 ((e : Int) / 4294967296 % 256), .int .u8 ((e : Int) / 16777216 % 256), .int .u8 ((e : Int) / 65536 % 256), .int .u8 ((e : Int) / 256 % 256), .int .u8 ((e : Int) % 256)] 5)) := (Below.refl _ _).alloc (by simp) _
  have hr1 := Rd.lit (w.alloc (.cells #[vr, vt, .slice A1 n1 c1, .slice A2 n2 c2, .slice A3 n3 c3, .int .u16 (ay : Int), .int .u8 (amo : Int), .int .u8 (ad : Int), .int .u8 (ah : Int), .int .u8 (ami : Int), .int .u8 (as_ : Int), .int .u16 (by_ : Int), .int .u8 (bmo : Int), .int .u8 (bd : Int), .int .u8 (bh : Int), .int .u8 (bmi : Int), .int .u8 (bs : Int), .slice A4 n4 c4, .int .u64 (e : Int), vg, .bool ca, .int .i64 path, .int .i64 usage, .bool code] 32)) 5 (Ref.five e) [.int .u8 ((e : Int) / 4294967296 % 256), .int .u8 ((e : Int) / 16777216 % 256), .int .u8 ((e : Int) / 65536 % 256), .int .u8 ((e : Int) / 256 % 256), .int .u8 ((e : Int) % 256)] (w.heap.size + 1) 5 (by simp) hfive.symm rfl (by omega)
  have HP := Lib.hid (And.intro hb1 (And.intro hbb1 hr1))
  clear hfive hb1 hbb1 hr1
  have HB := Lib.hid (Blk.new w 32 #[vr, vt, .slice A1 n1 c1, .slice A2 n2 c2, .slice A3 n3 c3, .int .u16 (ay : Int), .int .u8 (amo : Int), .int .u8 (ad : Int), .int .u8 (ah : Int), .int .u8 (ami : Int), .int .u8 (as_ : Int), .int .u16 (by_ : Int), .int .u8 (bmo : Int), .int .u8 (bd : Int), .int .u8 (bh : Int), .int .u8 (bmi : Int), .int .u8 (bs : Int), .slice A4 n4 c4, .int .u64 (e : Int), vg, .bool ca, .int .i64 path, .int .i64 usage, .bool code])
  have hfive : (Ref.five e).map bv = [.int .u8 ((e : Int) / 4294967296 % 256), .int .u8 ((e : Int) / 16777216 % 256), .int .u8 ((e : Int) / 65536 % 256), .int .u8 ((e : Int) / 256 % 256), .int .u8 ((e : Int) % 256)] := by
    unfold Ref.five
    simp only [List.map_cons, List.map_nil, bv, UInt8.toNat_ofNat']
    simp only [List.cons.injEq, Value.int.injEq, true_and, and_true]
    omega
  have hb1 : Below w.heap.size w ((w.alloc (.cells #[vr, vt, .slice A1 n1 c1, .slice A2 n2 c2, .slice A3 n3 c3, .int .u16 (ay : Int), .int .u8 (amo : Int), .int .u8 (ad : Int), .int .u8 (ah : Int), .int .u8 (ami : Int), .int .u8 (as_ : Int), .int .u16 (by_ : Int), .int .u8 (bmo : Int), .int .u8 (bd : Int), .int .u8 (bh : Int), .int .u8 (bmi : Int), .int .u8 (bs : Int), .slice A4 n4 c4, .int .u64 (e : Int), vg, .bool ca, .int .i64 path, .int .i64 usage, .bool code] 32)).alloc (.cells #[.int .u8 ((e : Int) / 4294967296 % 256), .int .u8 ((e : Int) / 16777216 % 256), .int .u8 ((e : Int) / 65536 % 256), .int .u8 ((e : Int) / 256 % 256), .int .u8 ((e : Int) % 256)] 5)) := ((Below.refl _ w).alloc (Nat.le_refl _) _).alloc (by simp) _
  have hbb1 : Below (w.heap.size + 1) (w.alloc (.cells #[vr, vt, .slice A1 n1 c1, .slice A2 n2 c2, .slice A3 n3 c3, .int .u16 (ay : Int), .int .u8 (amo : Int), .int .u8 (ad : Int), .int .u8 (ah : Int), .int .u8 (ami : Int), .int .u8 (as_ : Int), .int .u16 (by_ : Int), .int .u8 (bmo : Int), .int .u8 (bd : Int), .int .u8 (bh : Int), .int .u8 (bmi : Int), .int .u8 (bs : Int), .slice A4 n4 c4, .int .u64 (e : Int), vg, .bool ca, .int .i64 path, .int .i64 usage, .bool code] 32)) ((w.alloc (.cells #[vr, vt, .slice A1 n1 c1, .slice A2 n2 c2, .slice A3 n3 c3, .int .u16 (ay : Int), .int .u8 (amo : Int), .int .u8 (ad : Int), .int .u8 (ah : Int), .int .u8 (ami : Int), .int .u8 (as_ : Int), .int .u16 (by_ : Int), .int .u8 (bmo : Int), .int .u8 (bd : Int), .int .u8 (bh : Int), .int .u8 (bmi : Int), .int .u8 (bs : Int), .slice A4 n4 c4, .int .u64 (e : Int), vg, .bool ca, .int .i64 path, .int .i64 usage, .bool code] 32)).alloc (.cells #[.int .u8 ((e : Int) / 4294967296 % 256), .int .u8 ((e : Int) / 16777216 % 256), .int .u8 ((e : Int) / 65536 % 256), .int .u8 ((e : Int) / 256 % 256), .int .u8 ((e : Int) % 256)] 5)) := (Below.refl _ _).alloc (by simp) _
  have hr1 := Rd.lit (w.alloc (.cells #[vr, vt, .slice A1 n1 c1, .slice A2 n2 c2, .slice A3 n3 c3, .int .u16 (ay : Int), .int .u8 (amo : Int), .int .u8 (ad : Int), .int .u8 (ah : Int), .int .u8 (ami : Int), .int .u8 (as_ : Int), .int .u16 (by_ : Int), .int .u8 (bmo : Int), .int .u8 (bd : Int), .int .u8 (bh : Int), .int .u8 (bmi : Int), .int .u8 (bs : Int), .slice A4 n4 c4, .int .u64 (e : Int), vg, .bool ca, .int .i64 path, .int .i64 usage, .bool code] 32)) 5 (Ref.five e) [.int .u8 ((e : Int) / 4294967296 % 256), .int .u8 ((e : Int) / 16777216 % 256), .int .u8 ((e : Int) / 65536 % 256), .int .u8 ((e : Int) / 256 % 256), .int .u8 ((e : Int) % 256)] (w.heap.size + 1) 5 (by simp) hfive.symm rfl (by omega)
  have HP := Lib.hid (And.intro hb1 (And.intro hbb1 hr1))
  clear hfive hb1 hbb1 hr1
  have HB := Lib.hid (Blk.new w 32 #[vr, vt, .slice A1 n1 c1, .slice A2 n2 c2, .slice A3 n3 c3, .int .u16 (ay : Int), .int .u8 (amo : Int), .int .u8 (ad : Int), .int .u8 (ah : Int), .int .u8 (ami : Int), .int .u8 (as_ : Int), .int .u16 (by_ : Int), .int .u8 (bmo : Int), .int .u8 (bd : Int), .int .u8 (bh : Int), .int .u8 (bmi : Int), .int .u8 (bs : Int), .slice A4 n4 c4, .int .u64 (e : Int), vg, .bool ca, .int .i64 path, .int .i64 usage, .bool code])
  have hfive : (Ref.five e).map bv = [.int .u8 ((e : Int) / 4294967296 % 256), .int .u8 ((e : Int) / 16777216 % 256), .int .u8 ((e : Int) / 65536 % 256), .int .u8 ((e : Int) / 256 % 256), .int .u8 ((e : Int) % 256)] := by
    unfold Ref.five
    simp only [List.map_cons, List.map_nil, bv, UInt8.toNat_ofNat']
    simp only [List.cons.injEq, Value.int.injEq, true_and, and_true]
    omega
  have hb1 : Below w.heap.size w ((w.alloc (.cells #[vr, vt, .slice A1 n1 c1, .slice A2 n2 c2, .slice A3 n3 c3, .int .u16 (ay : Int), .int .u8 (amo : Int), .int .u8 (ad : Int), .int .u8 (ah : Int), .int .u8 (ami : Int), .int .u8 (as_ : Int), .int .u16 (by_ : Int), .int .u8 (bmo : Int), .int .u8 (bd : Int), .int .u8 (bh : Int), .int .u8 (bmi : Int), .int .u8 (bs : Int), .slice A4 n4 c4, .int .u64 (e : Int), vg, .bool ca, .int .i64 path, .int .i64 usage, .bool code] 32)).alloc (.cells #[.int .u8 ((e : Int) / 4294967296 % 256), .int .u8 ((e : Int) / 16777216 % 256), .int .u8 ((e : Int) / 65536 % 256), .int .u8 ((e : Int) / 256 % 256), .int .u8 ((e : Int) % 256)] 5)) := ((Below.refl _ w).alloc (Nat.le_refl _) _).alloc (by simp) _
  have hbb1 : Below (w.heap.size + 1) (w.alloc (.cells #[vr, vt, .slice A1 n1 c1, .slice A2 n2 c2, .slice A3 n3 c3, .int .u16 (ay : Int), .int .u8 (amo : Int), .int .u8 (ad : Int), .int .u8 (ah : Int), .int .u8 (ami : Int), .int .u8 (as_ : Int), .int .u16 (by_ : Int), .int .u8 (bmo : Int), .int .u8 (bd : Int), .int .u8 (bh : Int), .int .u8 (bmi : Int), .int .u8 (bs : Int), .slice A4 n4 c4, .int .u64 (e : Int), vg, .bool ca, .int .i64 path, .int .i64 usage, .bool code] 32)) ((w.alloc (.cells #[vr, vt, .slice A1 n1 c1, .slice A2 n2 c2, .slice A3 n3 c3, .int .u16 (ay : Int), .int .u8 (amo : Int), .int .u8 (ad : Int), .int .u8 (ah : Int), .int .u8 (ami : Int), .int .u8 (as_ : Int), .int .u16 (by_ : Int), .int .u8 (bmo : Int), .int .u8 (bd : Int), .int .u8 (bh : Int), .int .u8 (bmi : Int), .int .u8 (bs : Int), .slice A4 n4 c4, .int .u64 (e : Int), vg, .bool ca, .int .i64 path, .int .i64 usage, .bool code] 32)).alloc (.cells #[.int .u8 ((e : Int) / 4294967296 % 256), .int .u8 ((e : Int) / 16777216 % 256), .int .u8 ((e : Int) / 65536 % 256), .int .u8 ((e : Int) / 256 % 256), .int .u8 ((e : Int) % 256)] 5)) := (Below.refl _ _).alloc (by simp) _
  have hr1 := Rd.lit (w.alloc (.cells #[vr, vt, .slice A1 n1 c1, .slice A2 n2 c2, .slice A3 n3 c3, .int .u16 (ay : Int), .int .u8 (amo : Int), .int .u8 (ad : Int), .int .u8 (ah : Int), .int .u8 (ami : Int), .int .u8 (as_ : Int), .int .u16 (by_ : Int), .int .u8 (bmo : Int), .int .u8 (bd : Int), .int .u8 (bh : Int), .int .u8 (bmi : Int), .int .u8 (bs : Int), .slice A4 n4 c4, .int .u64 (e : Int), vg, .bool ca, .int .i64 path, .int .i64 usage, .bool code] 32)) 5 (Ref.five e) [.int .u8 ((e : Int) / 4294967296 % 256), .int .u8 ((e : Int) / 16777216 % 256), .int .u8 ((e : Int) / 65536 % 256), .int .u8 ((e : Int) / 256 % 256), .int .u8 ((e : Int) % 256)] (w.heap.size + 1) 5 (by simp) hfive.symm rfl (by omega)
  have HP := Lib.hid (And.intro hb1 (And.intro hbb1 hr1))
  clear hfive hb1 hbb1 hr1
  have HB := Lib.hid (Blk.new w 32 #[vr, vt, .slice A1 n1 c1, .slice A2 n2 c2, .slice A3 n3 c3, .int .u16 (ay : Int), .int .u8 (amo : Int), .int .u8 (ad : Int), .int .u8 (ah : Int), .int .u8 (ami : Int), .int .u8 (as_ : Int), .int .u16 (by_ : Int), .int .u8 (bmo : Int), .int .u8 (bd : Int), .int .u8 (bh : Int), .int .u8 (bmi : Int), .int .u8 (bs : Int), .slice A4 n4 c4, .int .u64 (e : Int), vg, .bool ca, .int .i64 path, .int .i64 usage, .bool code])
  have hfive : (Ref.five e).map bv = [.int .u8 ((e : Int) / 4294967296 % 256), .int .u8 ((e : Int) / 16777216 % 256), .int .u8 ((e : Int) / 65536 % 256), .int .u8 ((e : Int) / 256 % 256), .int .u8 ((e : Int) % 256)] := by
    unfold Ref.five
    simp only [List.map_cons, List.map_nil, bv, UInt8.toNat_ofNat']
    simp only [List.cons.injEq, Value.int.injEq, true_and, and_true]
    omega
  have hb1 : Below w.heap.size w ((w.alloc (.cells #[vr, vt, .slice A1 n1 c1, .slice A2 n2 c2, .slice A3 n3 c3, .int .u16 (ay : Int), .int .u8 (amo : Int), .int .u8 (ad : Int), .int .u8 (ah : Int), .int .u8 (ami : Int), .int .u8 (as_ : Int), .int .u16 (by_ : Int), .int .u8 (bmo : Int), .int .u8 (bd : Int), .int .u8 (bh : Int), .int .u8 (bmi : Int), .int .u8 (bs : Int), .slice A4 n4 c4, .int .u64 (e : Int), vg, .bool ca, .int .i64 path, .int .i64 usage, .bool code] 32)).alloc (.cells #[.int .u8 ((e : Int) / 4294967296 % 256), .int .u8 ((e : Int) / 16777216 % 256), .int .u8 ((e : Int) / 65536 % 256), .int .u8 ((e : Int) / 256 % 256), .int .u8 ((e : Int) % 256)] 5)) := ((Below.refl _ w).alloc (Nat.le_refl _) _).alloc (by simp) _
  have hbb1 : Below (w.heap.size + 1) (w.alloc (.cells #[vr, vt, .slice A1 n1 c1, .slice A2 n2 c2, .slice A3 n3 c3, .int .u16 (ay : Int), .int .u8 (amo : Int), .int .u8 (ad : Int), .int .u8 (ah : Int), .int .u8 (ami : Int), .int .u8 (as_ : Int), .int .u16 (by_ : Int), .int .u8 (bmo : Int), .int .u8 (bd : Int), .int .u8 (bh : Int), .int .u8 (bmi : Int), .int .u8 (bs : Int), .slice A4 n4 c4, .int .u64 (e : Int), vg, .bool ca, .int .i64 path, .int .i64 usage, .bool code] 32)) ((w.alloc (.cells #[vr, vt, .slice A1 n1 c1, .slice A2 n2 c2, .slice A3 n3 c3, .int .u16 (ay : Int), .int .u8 (amo : Int), .int .u8 (ad : Int), .int .u8 (ah : Int), .int .u8 (ami : Int), .int .u8 (as_ : Int), .int .u16 (by_ : Int), .int .u8 (bmo : Int), .int .u8 (bd : Int), .int .u8 (bh : Int), .int .u8 (bmi : Int), .int .u8 (bs : Int), .slice A4 n4 c4, .int .u64 (e : Int), vg, .bool ca, .int .i64 path, .int .i64 usage, .bool code] 32)).alloc (.cells #[.int .u8 ((e : Int) / 4294967296 % 256), .int .u8 ((e : Int) / 16777216 % 256), .int .u8 ((e : Int) / 65536 % 256), .int .u8 ((e : Int) / 256 % 256), .int .u8 ((e : Int) % 256)] 5)) := (Below.refl _ _).alloc (by simp) _
  have hr1 := Rd.lit (w.alloc (.cells #[vr, vt, .slice A1 n1 c1, .slice A2 n2 c2, .slice A3 n3 c3, .int .u16 (ay : Int), .int .u8 (amo : Int), .int .u8 (ad : Int), .int .u8 (ah : Int), .int .u8 (ami : Int), .int .u8 (as_ : Int), .int .u16 (by_ : Int), .int .u8 (bmo : Int), .int .u8 (bd : Int), .int .u8 (bh : Int), .int .u8 (bmi : Int), .int .u8 (bs : Int), .slice A4 n4 c4, .int .u64 (e : Int), vg, .bool ca, .int .i64 path, .int .i64 usage, .bool code] 32)) 5 (Ref.five e) [.int .u8 ((e : Int) / 4294967296 % 256), .int .u8 ((e : Int) / 16777216 % 256), .int .u8 ((e : Int) / 65536 % 256), .int .u8 ((e : Int) / 256 % 256), .int .u8 ((e : Int) % 256)] (w.heap.size + 1) 5 (by simp) hfive.symm rfl (by omega)
  have HP := Lib.hid (And.intro hb1 (And.intro hbb1 hr1))
  clear hfive hb1 hbb1 hr1
  have HB := Lib.hid (Blk.new w 32 #[vr, vt, .slice A1 n1 c1, .slice A2 n2 c2, .slice A3 n3 c3, .int .u16 (ay : Int), .int .u8 (amo : Int), .int .u8 (ad : Int), .int .u8 (ah : Int), .int .u8 (ami : Int), .int .u8 (as_ : Int), .int .u16 (by_ : Int), .int .u8 (bmo : Int), .int .u8 (bd : Int), .int .u8 (bh : Int), .int .u8 (bmi : Int), .int .u8 (bs : Int), .slice A4 n4 c4, .int .u64 (e : Int), vg, .bool ca, .int .i64 path, .int .i64 usage, .bool code])
  have hfive : (Ref.five e).map bv = [.int .u8 ((e : Int) / 4294967296 % 256), .int .u8 ((e : Int) / 16777216 % 256), .int .u8 ((e : Int) / 65536 % 256), .int .u8 ((e : Int) / 256 % 256), .int .u8 ((e : Int) % 256)] := by
    unfold Ref.five
    simp only [List.map_cons, List.map_nil, bv, UInt8.toNat_ofNat']
    simp only [List.cons.injEq, Value.int.injEq, true_and, and_true]
    omega
  have hb1 : Below w.heap.size w ((w.alloc (.cells #[vr, vt, .slice A1 n1 c1, .slice A2 n2 c2, .slice A3 n3 c3, .int .u16 (ay : Int), .int .u8 (amo : Int), .int .u8 (ad : Int), .int .u8 (ah : Int), .int .u8 (ami : Int), .int .u8 (as_ : Int), .int .u16 (by_ : Int), .int .u8 (bmo : Int), .int .u8 (bd : Int), .int .u8 (bh : Int), .int .u8 (bmi : Int), .int .u8 (bs : Int), .slice A4 n4 c4, .int .u64 (e : Int), vg, .bool ca, .int .i64 path, .int .i64 usage, .bool code] 32)).alloc (.cells #[.int .u8 ((e : Int) / 4294967296 % 256), .int .u8 ((e : Int) / 16777216 % 256), .int .u8 ((e : Int) / 65536 % 256), .int .u8 ((e : Int) / 256 % 256), .int .u8 ((e : Int) % 256)] 5)) := ((Below.refl _ w).alloc (Nat.le_refl _) _).alloc (by simp) _
  have hbb1 : Below (w.heap.size + 1) (w.alloc (.cells #[vr, vt, .slice A1 n1 c1, .slice A2 n2 c2, .slice A3 n3 c3, .int .u16 (ay : Int), .int .u8 (amo : Int), .int .u8 (ad : Int), .int .u8 (ah : Int), .int .u8 (ami : Int), .int .u8 (as_ : Int), .int .u16 (by_ : Int), .int .u8 (bmo : Int), .int .u8 (bd : Int), .int .u8 (bh : Int), .int .u8 (bmi : Int), .int .u8 (bs : Int), .slice A4 n4 c4, .int .u64 (e : Int), vg, .bool ca, .int .i64 path, .int .i64 usage, .bool code] 32)) ((w.alloc (.cells #[vr, vt, .slice A1 n1 c1, .slice A2 n2 c2, .slice A3 n3 c3, .int .u16 (ay : Int), .int .u8 (amo : Int), .int .u8 (ad : Int), .int .u8 (ah : Int), .int .u8 (ami : Int), .int .u8 (as_ : Int), .int .u16 (by_ : Int), .int .u8 (bmo : Int), .int .u8 (bd : Int), .int .u8 (bh : Int), .int .u8 (bmi : Int), .int .u8 (bs : Int), .slice A4 n4 c4, .int .u64 (e : Int), vg, .bool ca, .int .i64 path, .int .i64 usage, .bool code] 32)).alloc (.cells #[.int .u8 ((e : Int) / 4294967296 % 256), .int .u8 ((e : Int) / 16777216 % 256), .int .u8 ((e : Int) / 65536 % 256), .int .u8 ((e : Int) / 256 % 256), .int .u8 ((e : Int) % 256)] 5)) := (Below.refl _ _).alloc (by simp) _
  have hr1 := Rd.lit (w.alloc (.cells #[vr, vt, .slice A1 n1 c1, .slice A2 n2 c2, .slice A3 n3 c3, .int .u16 (ay : Int), .int .u8 (amo : Int), .int .u8 (ad : Int), .int .u8 (ah : Int), .int .u8 (ami : Int), .int .u8 (as_ : Int), .int .u16 (by_ : Int), .int .u8 (bmo : Int), .int .u8 (bd : Int), .int .u8 (bh : Int), .int .u8 (bmi : Int), .int .u8 (bs : Int), .slice A4 n4 c4, .int .u64 (e : Int), vg, .bool ca, .int .i64 path, .int .i64 usage, .bool code] 32)) 5 (Ref.five e) [.int .u8 ((e : Int) / 4294967296 % 256), .int .u8 ((e : Int) / 16777216 % 256), .int .u8 ((e : Int) / 65536 % 256), .int .u8 ((e : Int) / 256 % 256), .int .u8 ((e : Int) % 256)] (w.heap.size + 1) 5 (by simp) hfive.symm rfl (by omega)
  have HP := Lib.hid (And.intro hb1 (And.intro hbb1 hr1))
  clear hfive hb1 hbb1 hr1
  have HB := Lib.hid (Blk.new w 32 #[vr, vt, .slice A1 n1 c1, .slice A2 n2 c2, .slice A3 n3 c3, .int .u16 (ay : Int), .int .u8 (amo : Int), .int .u8 (ad : Int), .int .u8 (ah : Int), .int .u8 (ami : Int), .int .u8 (as_ : Int), .int .u16 (by_ : Int), .int .u8 (bmo : Int), .int .u8 (bd : Int), .int .u8 (bh : Int), .int .u8 (bmi : Int), .int .u8 (bs : Int), .slice A4 n4 c4, .int .u64 (e : Int), vg, .bool ca, .int .i64 path, .int .i64 usage, .bool code])
  have hfive : (Ref.five e).map bv = [.int .u8 ((e : Int) / 4294967296 % 256), .int .u8 ((e : Int) / 16777216 % 256), .int .u8 ((e : Int) / 65536 % 256), .int .u8 ((e : Int) / 256 % 256), .int .u8 ((e : Int) % 256)] := by
    unfold Ref.five
    simp only [List.map_cons, List.map_nil, bv, UInt8.toNat_ofNat']
    simp only [List.cons.injEq, Value.int.injEq, true_and, and_true]
    omega
  have hb1 : Below w.heap.size w ((w.alloc (.cells #[vr, vt, .slice A1 n1 c1, .slice A2 n2 c2, .slice A3 n3 c3, .int .u16 (ay : Int), .int .u8 (amo : Int), .int .u8 (ad : Int), .int .u8 (ah : Int), .int .u8 (ami : Int), .int .u8 (as_ : Int), .int .u16 (by_ : Int), .int .u8 (bmo : Int), .int .u8 (bd : Int), .int .u8 (bh : Int), .int .u8 (bmi : Int), .int .u8 (bs : Int), .slice A4 n4 c4, .int .u64 (e : Int), vg, .bool ca, .int .i64 path, .int .i64 usage, .bool code] 32)).alloc (.cells #[.int .u8 ((e : Int) / 4294967296 % 256), .int .u8 ((e : Int) / 16777216 % 256), .int .u8 ((e : Int) / 65536 % 256), .int .u8 ((e : Int) / 256 % 256), .int .u8 ((e : Int) % 256)] 5)) := ((Below.refl _ w).alloc (Nat.le_refl _) _).alloc (by simp) _
  have hbb1 : Below (w.heap.size + 1) (w.alloc (.cells #[vr, vt, .slice A1 n1 c1, .slice A2 n2 c2, .slice A3 n3 c3, .int .u16 (ay : Int), .int .u8 (amo : Int), .int .u8 (ad : Int), .int .u8 (ah : Int), .int .u8 (ami : Int), .int .u8 (as_ : Int), .int .u16 (by_ : Int), .int .u8 (bmo : Int), .int .u8 (bd : Int), .int .u8 (bh : Int), .int .u8 (bmi : Int), .int .u8 (bs : Int), .slice A4 n4 c4, .int .u64 (e : Int), vg, .bool ca, .int .i64 path, .int .i64 usage, .bool code] 32)) ((w.alloc (.cells #[vr, vt, .slice A1 n1 c1, .slice A2 n2 c2, .slice A3 n3 c3, .int .u16 (ay : Int), .int .u8 (amo : Int), .int .u8 (ad : Int), .int .u8 (ah : Int), .int .u8 (ami : Int), .int .u8 (as_ : Int), .int .u16 (by_ : Int), .int .u8 (bmo : Int), .int .u8 (bd : Int), .int .u8 (bh : Int), .int .u8 (bmi : Int), .int .u8 (bs : Int), .slice A4 n4 c4, .int .u64 (e : Int), vg, .bool ca, .int .i64 path, .int .i64 usage, .bool code] 32)).alloc (.cells #[.int .u8 ((e : Int) / 4294967296 % 256), .int .u8 ((e : Int) / 16777216 % 256), .int .u8 ((e : Int) / 65536 % 256), .int .u8 ((e : Int) / 256 % 256), .int .u8 ((e : Int) % 256)] 5)) := (Below.refl _ _).alloc (by simp) _
  have hr1 := Rd.lit (w.alloc (.cells #[vr, vt, .slice A1 n1 c1, .slice A2 n2 c2, .slice A3 n3 c3, .int .u16 (ay : Int), .int .u8 (amo : Int), .int .u8 (ad : Int), .int .u8 (ah : Int), .int .u8 (ami : Int), .int .u8 (as_ : Int), .int .u16 (by_ : Int), .int .u8 (bmo : Int), .int .u8 (bd : Int), .int .u8 (bh : Int), .int .u8 (bmi : Int), .int .u8 (bs : Int), .slice A4 n4 c4, .int .u64 (e : Int), vg, .bool ca, .int .i64 path, .int .i64 usage, .bool code] 32)) 5 (Ref.five e) [.int .u8 ((e : Int) / 4294967296 % 256), .int .u8 ((e : Int) / 16777216 % 256), .int .u8 ((e : Int) / 65536 % 256), .int .u8 ((e : Int) / 256 % 256), .int .u8 ((e : Int) % 256)] (w.heap.size + 1) 5 (by simp) hfive.symm rfl (by omega)
  have HP := Lib.hid (And.intro hb1 (And.intro hbb1 hr1))
  clear hfive hb1 hbb1 hr1
  have HB := Lib.hid (Blk.new w 32 #[vr, vt, .slice A1 n1 c1, .slice A2 n2 c2, .slice A3 n3 c3, .int .u16 (ay : Int), .int .u8 (amo : Int), .int .u8 (ad : Int), .int .u8 (ah : Int), .int .u8 (ami : Int), .int .u8 (as_ : Int), .int .u16 (by_ : Int), .int .u8 (bmo : Int), .int .u8 (bd : Int), .int .u8 (bh : Int), .int .u8 (bmi : Int), .int .u8 (bs : Int), .slice A4 n4 c4, .int .u64 (e : Int), vg, .bool ca, .int .i64 path, .int .i64 usage, .bool code])
  have hfive : (Ref.five e).map bv = [.int .u8 ((e : Int) / 4294967296 % 256), .int .u8 ((e : Int) / 16777216 % 256), .int .u8 ((e : Int) / 65536 % 256), .int .u8 ((e : Int) / 256 % 256), .int .u8 ((e : Int) % 256)] := by
    unfold Ref.five
    simp only [List.map_cons, List.map_nil, bv, UInt8.toNat_ofNat']
    simp only [List.cons.injEq, Value.int.injEq, true_and, and_true]
    omega
  have hb1 : Below w.heap.size w ((w.alloc (.cells #[vr, vt, .slice A1 n1 c1, .slice A2 n2 c2, .slice A3 n3 c3, .int .u16 (ay : Int), .int .u8 (amo : Int), .int .u8 (ad : Int), .int .u8 (ah : Int), .int .u8 (ami : Int), .int .u8 (as_ : Int), .int .u16 (by_ : Int), .int .u8 (bmo : Int), .int .u8 (bd : Int), .int .u8 (bh : Int), .int .u8 (bmi : Int), .int .u8 (bs : Int), .slice A4 n4 c4, .int .u64 (e : Int), vg, .bool ca, .int .i64 path, .int .i64 usage, .bool code] 32)).alloc (.cells #[.int .u8 ((e : Int) / 4294967296 % 256), .int .u8 ((e : Int) / 16777216 % 256), .int .u8 ((e : Int) / 65536 % 256), .int .u8 ((e : Int) / 256 % 256), .int .u8 ((e : Int) % 256)] 5)) := ((Below.refl _ w).alloc (Nat.le_refl _) _).alloc (by simp) _
  have hbb1 : Below (w.heap.size + 1) (w.alloc (.cells #[vr, vt, .slice A1 n1 c1, .slice A2 n2 c2, .slice A3 n3 c3, .int .u16 (ay : Int), .int .u8 (amo : Int), .int .u8 (ad : Int), .int .u8 (ah : Int), .int .u8 (ami : Int), .int .u8 (as_ : Int), .int .u16 (by_ : Int), .int .u8 (bmo : Int), .int .u8 (bd : Int), .int .u8 (bh : Int), .int .u8 (bmi : Int), .int .u8 (bs : Int), .slice A4 n4 c4, .int .u64 (e : Int), vg, .bool ca, .int .i64 path, .int .i64 usage, .bool code] 32)) ((w.alloc (.cells #[vr, vt, .slice A1 n1 c1, .slice A2 n2 c2, .slice A3 n3 c3, .int .u16 (ay : Int), .int .u8 (amo : Int), .int .u8 (ad : Int), .int .u8 (ah : Int), .int .u8 (ami : Int), .int .u8 (as_ : Int), .int .u16 (by_ : Int), .int .u8 (bmo : Int), .int .u8 (bd : Int), .int .u8 (bh : Int), .int .u8 (bmi : Int), .int .u8 (bs : Int), .slice A4 n4 c4, .int .u64 (e : Int), vg, .bool ca, .int .i64 path, .int .i64 usage, .bool code] 32)).alloc (.cells #[.int .u8 ((e : Int) / 4294967296 % 256), .int .u8 ((e : Int) / 16777216 % 256), .int .u8 ((e : Int) / 65536 % 256), .int .u8 ((e : Int) / 256 % 256), .int .u8 ((e : Int) % 256)] 5)) := (Below.refl _ _).alloc (by simp) _
  have hr1 := Rd.lit (w.alloc (.cells #[vr, vt, .slice A1 n1 c1, .slice A2 n2 c2, .slice A3 n3 c3, .int .u16 (ay : Int), .int .u8 (amo : Int), .int .u8 (ad : Int), .int .u8 (ah : Int), .int .u8 (ami : Int), .int .u8 (as_ : Int), .int .u16 (by_ : Int), .int .u8 (bmo : Int), .int .u8 (bd : Int), .int .u8 (bh : Int), .int .u8 (bmi : Int), .int .u8 (bs : Int), .slice A4 n4 c4, .int .u64 (e : Int), vg, .bool ca, .int .i64 path, .int .i64 usage, .bool code] 32)) 5 (Ref.five e) [.int .u8 ((e : Int) / 4294967296 % 256), .int .u8 ((e : Int) / 16777216 % 256), .int .u8 ((e : Int) / 65536 % 256), .int .u8 ((e : Int) / 256 % 256), .int .u8 ((e : Int) % 256)] (w.heap.size + 1) 5 (by simp) hfive.symm rfl (by omega)
  have HP := Lib.hid (And.intro hb1 (And.intro hbb1 hr1))
  clear hfive hb1 hbb1 hr1
  have HB := Lib.hid (Blk.new w 32 #[vr, vt, .slice A1 n1 c1, .slice A2 n2 c2, .slice A3 n3 c3, .int .u16 (ay : Int), .int .u8 (amo : Int), .int .u8 (ad : Int), .int .u8 (ah : Int), .int .u8 (ami : Int), .int .u8 (as_ : Int), .int .u16 (by_ : Int), .int .u8 (bmo : Int), .int .u8 (bd : Int), .int .u8 (bh : Int), .int .u8 (bmi : Int), .int .u8 (bs : Int), .slice A4 n4 c4, .int .u64 (e : Int), vg, .bool ca, .int .i64 path, .int .i64 usage, .bool code])
  have hfive : (Ref.five e).map bv = [.int .u8 ((e : Int) / 4294967296 % 256), .int .u8 ((e : Int) / 16777216 % 256), .int .u8 ((e : Int) / 65536 % 256), .int .u8 ((e : Int) / 256 % 256), .int .u8 ((e : Int) % 256)] := by
    unfold Ref.five
    simp only [List.map_cons, List.map_nil, bv, UInt8.toNat_ofNat']
    simp only [List.cons.injEq, Value.int.injEq, true_and, and_true]
    omega
  have hb1 : Below w.heap.size w ((w.alloc (.cells #[vr, vt, .slice A1 n1 c1, .slice A2 n2 c2, .slice A3 n3 c3, .int .u16 (ay : Int), .int .u8 (amo : Int), .int .u8 (ad : Int), .int .u8 (ah : Int), .int .u8 (ami : Int), .int .u8 (as_ : Int), .int .u16 (by_ : Int), .int .u8 (bmo : Int), .int .u8 (bd : Int), .int .u8 (bh : Int), .int .u8 (bmi : Int), .int .u8 (bs : Int), .slice A4 n4 c4, .int .u64 (e : Int), vg, .bool ca, .int .i64 path, .int .i64 usage, .bool code] 32)).alloc (.cells #[.int .u8 ((e : Int) / 4294967296 % 256), .int .u8 ((e : Int) / 16777216 % 256), .int .u8 ((e : Int) / 65536 % 256), .int .u8 ((e : Int) / 256 % 256), .int .u8 ((e : Int) % 256)] 5)) := ((Below.refl _ w).alloc (Nat.le_refl _) _).alloc (by simp) _
  have hbb1 : Below (w.heap.size + 1) (w.alloc (.cells #[vr, vt, .slice A1 n1 c1, .slice A2 n2 c2, .slice A3 n3 c3, .int .u16 (ay : Int), .int .u8 (amo : Int), .int .u8 (ad : Int), .int .u8 (ah : Int), .int .u8 (ami : Int), .int .u8 (as_ : Int), .int .u16 (by_ : Int), .int .u8 (bmo : Int), .int .u8 (bd : Int), .int .u8 (bh : Int), .int .u8 (bmi : Int), .int .u8 (bs : Int), .slice A4 n4 c4, .int .u64 (e : Int), vg, .bool ca, .int .i64 path, .int .i64 usage, .bool code] 32)) ((w.alloc (.cells #[vr, vt, .slice A1 n1 c1, .slice A2 n2 c2, .slice A3 n3 c3, .int .u16 (ay : Int), .int .u8 (amo : Int), .int .u8 (ad : Int), .int .u8 (ah : Int), .int .u8 (ami : Int), .int .u8 (as_ : Int), .int .u16 (by_ : Int), .int .u8 (bmo : Int), .int .u8 (bd : Int), .int .u8 (bh : Int), .int .u8 (bmi : Int), .int .u8 (bs : Int), .slice A4 n4 c4, .int .u64 (e : Int), vg, .bool ca, .int .i64 path, .int .i64 usage, .bool code] 32)).alloc (.cells #[.int .u8 ((e : Int) / 4294967296 % 256), .int .u8 ((e : Int) / 16777216 % 256), .int .u8 ((e : Int) / 65536 % 256), .int .u8 ((e : Int) / 256 % 256), .int .u8 ((e : Int) % 256)] 5)) := (Below.refl _ _).alloc (by simp) _
  have hr1 := Rd.lit (w.alloc (.cells #[vr, vt, .slice A1 n1 c1, .slice A2 n2 c2, .slice A3 n3 c3, .int .u16 (ay : Int), .int .u8 (amo : Int), .int .u8 (ad : Int), .int .u8 (ah : Int), .int .u8 (ami : Int), .int .u8 (as_ : Int), .int .u16 (by_ : Int), .int .u8 (bmo : Int), .int .u8 (bd : Int), .int .u8 (bh : Int), .int .u8 (bmi : Int), .int .u8 (bs : Int), .slice A4 n4 c4, .int .u64 (e : Int), vg, .bool ca, .int .i64 path, .int .i64 usage, .bool code] 32)) 5 (Ref.five e) [.int .u8 ((e : Int) / 4294967296 % 256), .int .u8 ((e : Int) / 16777216 % 256), .int .u8 ((e : Int) / 65536 % 256), .int .u8 ((e : Int) / 256 % 256), .int .u8 ((e : Int) % 256)] (w.heap.size + 1) 5 (by simp) hfive.symm rfl (by omega)
  have HP := Lib.hid (And.intro hb1 (And.intro hbb1 hr1))
  clear hfive hb1 hbb1 hr1
  go_enter Try.func53, Try.ntmps53
  go_wp2_with fail
  refine (refPutInt_any _ 5 5 (Ref.five e) _ HP.out.2.2 (by omega)).mono ?_
  rintro en w2 ⟨B1, m1, d1, rfl, ho, hb2⟩
  have hl1_ : (Der.putInt (Ref.five e)).length = m1 := ownB_len ho
  have hm1 : m1 ≤ 6 := by have := putInt_len (Ref.five e); rw [hl1_] at this; simpa [Ref.five] using this
  have hbw2 := HP.out.1.trans (hb2.mono (by simp; omega))
  have HB2 := Lib.hid ((HB.out.below HP.out.2.1 (by simp)).below hb2 (by simp; omega))
  have H2 := Lib.hid (And.intro ho (And.intro hbw2 hb2))
  have hs2 := hbw2.size
  have hs2' := hb2.size
  simp only [World.size_alloc] at hs2'
  clear ho hb2 hbw2 hl1_
  have k17 : w2.cell? ⟨w.heap.size, 17, none⟩ = some (.slice A4 n4 c4) := HB2.out.cell 17
  -- the key
  go_upto_region 3 with fail
  obtain ⟨W3, hW3⟩ : ∃ W3, w2.alloc (.cells #[.slice B1 m1 d1] 22) = W3 := ⟨_, rfl⟩
  obtain ⟨gl, hgl⟩ : ∃ gl, w2.heap.size = gl := ⟨_, rfl⟩
  have HL := Lib.hid (Blk.new w2 22 #[.slice B1 m1 d1])
  have hb23 : Below w2.heap.size w2 (w2.alloc (.cells #[.slice B1 m1 d1] 22)) := (Below.refl _ _).alloc (Nat.le_refl _) _
  have hb23s := hb23.size
  rw [hW3] at HL hb23 hb23s ⊢
  have kl : W3.cell? ⟨gl, 0, none⟩ = some (.slice B1 m1 d1) := by rw [← hgl]; exact HL.out.cell 0
  have hglt : gl < W3.heap.size := by rw [← hgl]; exact HL.out.lt
  have HB3 := Lib.hid (HB2.out.below hb23 (by omega))
  have k17' : W3.cell? ⟨w.heap.size, 17, none⟩ = some (.slice A4 n4 c4) := HB3.out.cell 17
  have hb3 := H2.out.2.1.trans (hb23.mono hs2)
  have hrn : Rd W3 W3.heap.size A4 n4 c4 nn := (H.out.2.2.2.below hb3).more hb3.size
  have hrf : Rd W3 W3.heap.size B1 m1 d1 (Der.putInt (Ref.five e)) := (H2.out.1.rdx).up hb23
  have hs3 := hb3.size
  rw [hgl]
  have H3 := Lib.hid (And.intro hb3 (And.intro hrn hrf))
  have hwl : w.heap.size < W3.heap.size := HB3.out.lt
  clear hW3 HL hb23 hb3 hrn hrf k17 HP H2 HB2 HB hb23s hs2 hs2' hgl
  go_region_held2 (fun w' => w'.cell? ⟨w.heap.size, 17, none⟩ = some (.slice A4 n4 c4) ∧ w'.cell? ⟨gl, 0, none⟩ = some (.slice B1 m1 d1)) (first | go_keep)
    (first
      | (go_at_call 32; ((with_reducible refine (refPutInt_any A4 n4 c4 nn _ H3.out.2.1.drew (by omega)).mono ?_); rintro en w4 ⟨B2, m2, d2, rfl, ho4, hb4⟩); have hm2 : m2 ≤ n4 + 1 := (by have h1 := putInt_len nn; have h2 := H3.out.2.1.len; have h3 : (Der.putInt nn).length = m2 := ownB_len ho4; omega); have hb4' : Below W3.heap.size W3 w4 := Below.trans (by (repeat (first | exact Below.refl _ _ | assumption | (refine Below.setCell ?_ (by first | omega | (simp; done) | (simp; omega)) _) | (refine Below.alloc ?_ (by first | omega | (simp; done) | (simp; omega)) _) | (refine below_drewN ?_ _) | (refine Below.drew ?_)))) (hb4.mono (Nat.le_refl _)); have hs4 := hb4'.size; have k17_4 : w4.cell? ⟨w.heap.size, 17, none⟩ = some (.slice A4 n4 c4) := (hb4'.cell (p := ⟨w.heap.size, 17, none⟩) (by first | (simp; done) | omega | (simp; omega))).trans (by first | assumption | (simp only [World.cell?_drew]; assumption)); have kl_4 : w4.cell? ⟨gl, 0, none⟩ = some (.slice B1 m1 d1) := (hb4'.cell (p := ⟨gl, 0, none⟩) (by first | (simp; done) | omega | (simp; omega))).trans (by first | assumption | (simp only [World.cell?_drew]; assumption)); have H4 := Lib.hid (And.intro ho4 hb4'); clear ho4 hb4 hb4')
      | (go_at_call 31; ((with_reducible refine (refWrite_lit 2 2 rfl B2 m2 d2 (Der.putInt nn) _ (H4.out.1.rdx) (by omega)).mono ?_); rintro en w5 ⟨B3, m3, d3, rfl, ho5, hb5⟩); have hs5 := hb5.size; have k17_5 : w5.cell? ⟨w.heap.size, 17, none⟩ = some (.slice A4 n4 c4) := (hb5.cell (p := ⟨w.heap.size, 17, none⟩) (by first | (simp; done) | omega | (simp; omega))).trans (by first | assumption | (simp only [World.cell?_drew]; assumption)); have kl_5 : w5.cell? ⟨gl, 0, none⟩ = some (.slice B1 m1 d1) := (hb5.cell (p := ⟨gl, 0, none⟩) (by first | (simp; done) | omega | (simp; omega))).trans (by first | assumption | (simp only [World.cell?_drew]; assumption)); have H5 := Lib.hid (And.intro ho5 hb5); clear ho5 hb5)
      | (go_at_call 31; ((with_reducible refine (refWrite_lit 2 2 rfl B1 m1 d1 (Der.putInt (Ref.five e)) _ (((H3.out.2.2).up H4.out.2).up H5.out.2) (by omega)).mono ?_); rintro en w6 ⟨B4, m4, d4, rfl, ho6, hb6⟩); have hs6 := hb6.size; have k17_6 : w6.cell? ⟨w.heap.size, 17, none⟩ = some (.slice A4 n4 c4) := (hb6.cell (p := ⟨w.heap.size, 17, none⟩) (by first | (simp; done) | omega | (simp; omega))).trans (by first | assumption | (simp only [World.cell?_drew]; assumption)); have kl_6 : w6.cell? ⟨gl, 0, none⟩ = some (.slice B1 m1 d1) := (hb6.cell (p := ⟨gl, 0, none⟩) (by first | (simp; done) | omega | (simp; omega))).trans (by first | assumption | (simp only [World.cell?_drew]; assumption)); have H6 := Lib.hid (And.intro ho6 hb6); clear ho6 hb6)
      | (go_at_call 33; ((with_reducible refine (refSeq_any _ 2 2 [(.slice B3 m3 d3, Der.write 2 (Der.putInt nn)), (.slice B4 m4 d4, Der.write 2 (Der.putInt (Ref.five e)))] _ (rdl2 w6 _ _ _ _ (RdV.mk (H5.out.1.rdx.up H6.out.2)) (RdV.mk H6.out.1.rdx)) (by omega) (by rw [cat2]; have h1 := write_bound 2 (Der.putInt nn); have h2 := write_bound 2 (Der.putInt (Ref.five e)); have h3 := putInt_len nn; have h4 := putInt_len (Ref.five e); have h5 := H3.out.2.1.len; have h6 : (Ref.five e).length = 5 := rfl; omega)).mono ?_); rintro en w7 ⟨B5, m5, d5, rfl, ho7, hb7⟩); have hb7' : Below w6.heap.size w6 w7 := Below.trans (by (repeat (first | exact Below.refl _ _ | assumption | (refine Below.setCell ?_ (by first | omega | (simp; done) | (simp; omega)) _) | (refine Below.alloc ?_ (by first | omega | (simp; done) | (simp; omega)) _) | (refine below_drewN ?_ _) | (refine Below.drew ?_)))) (hb7.mono (by simp)); have hs7 := hb7'.size; have hl7 : (Ref.rsa nn e).length = m5 := ownB_len ho7; have k17_7 : w7.cell? ⟨w.heap.size, 17, none⟩ = some (.slice A4 n4 c4) := (hb7'.cell (p := ⟨w.heap.size, 17, none⟩) (by first | (simp; done) | omega | (simp; omega))).trans (by first | assumption | (simp only [World.cell?_drew]; assumption)); have kl_7 : w7.cell? ⟨gl, 0, none⟩ = some (.slice B1 m1 d1) := (hb7'.cell (p := ⟨gl, 0, none⟩) (by first | (simp; done) | omega | (simp; omega))).trans (by first | assumption | (simp only [World.cell?_drew]; assumption)); have H7 := Lib.hid (And.intro (ho7 : OwnB w7 _ w7.heap.size (.slice B5 m5 d5) (Ref.rsa nn e)) (And.intro hb7' hl7)); clear ho7 hb7 hb7' hl7))
  -- the bits
  have hm5 : m5 ≤ 1000000000 := by
    have h0 := H7.out.2.2
    have h1 := write_bound 2 (Der.putInt nn)
    have h2 := write_bound 2 (Der.putInt (Ref.five e))
    have h3 := putInt_len nn
    have h4 := putInt_len (Ref.five e)
    have h5 := H3.out.2.1.len
    have h6 : (Ref.five e).length = 5 := rfl
    have h7 := write_bound 48 (Der.write 2 (Der.putInt nn) ++ Der.write 2 (Der.putInt (Ref.five e)))
    unfold Ref.rsa Ref.seq at h0
    simp only [List.flatten_cons, List.flatten_nil, List.append_nil] at h0
    rw [List.length_append] at h7
    omega
  have hb7 : Below w.heap.size w w7 := ((H3.out.1.trans (H4.out.2.mono hs3)).trans (H5.out.2.mono (by omega))).trans ((H6.out.2.mono (by omega)).trans (H7.out.2.1.mono (by omega)))
  have HB7 := Lib.hid (HB3.out.below (((H4.out.2).trans (H5.out.2.mono (by omega))).trans ((H6.out.2.mono (by omega)).trans (H7.out.2.1.mono (by omega)))) (by omega))
  have HZ := Lib.hid (OwnB.lit w7 [0] [.int .u8 0] 1 rfl rfl (by omega))
  have hk7 : Rd w7 w7.heap.size B5 m5 d5 (Ref.rsa nn e) := H7.out.1.rdx
  have HK7 := Lib.hid (And.intro hb7 (hk7.alloc (Nat.le_refl _) (.cells #[.int .u8 0] 5)).rds)
  have HL7 := Lib.hid H7.out.2.2
  have hs37 : w.heap.size ≤ w7.heap.size := hb7.size
  clear hb7 hk7 H7 H6 H5 H4 H3 HB3 k17' kl k17_4 kl_4 k17_5 kl_5 k17_6 kl_6 k17_7 kl_7 hs3 hs4 hs5 hs6 hs7 hm1 hm2 hglt hwl
  go_upto_region 6 with (first
    | (at_builtin
       refine wpList_app rfl (.tmp 48) (.tmp 49) rfl w7.heap.size (w7.heap.size + 1) _ [0] rfl HZ.out (by simp) _ B5 m5 d5 (Ref.rsa nn e) rfl HK7.out.2 (by simp <;> omega) ?_
       intro v8 w8 ho8 hg8 hat8 hb8
       obtain ⟨B6, m6, d6, rfl, hr8⟩ := ho8.rd
       have hbb8 : Below w7.heap.size w7 w8 := Below.trans (by (repeat (first | exact Below.refl _ _ | assumption | (refine Below.setCell ?_ (by first | omega | (simp; done) | (simp; omega)) _) | (refine Below.alloc ?_ (by first | omega | (simp; done) | (simp; omega)) _) | (refine below_drewN ?_ _) | (refine Below.drew ?_)))) hb8
       have HR := Lib.hid (And.intro hr8 (And.intro (HK7.out.1.trans (hbb8.mono hs37)) hr8.len))
       have HB8 := Lib.hid (HB7.out.below hbb8 (by have := HB7.out.lt; omega))
       clear ho8 hg8 hat8 hb8 hr8 hbb8)
    | fail)
  have hs8 := HR.out.2.1.size
  have hw8 : w.heap.size < w8.heap.size := HB8.out.lt
  clear HB7 HK7 HZ hs37
  -- the extensions
  go_cut [7] from 8 (fun s7 wx => s7 = .slice none 0 0 ∧ w8 = wx)
  case first =>
    go_wp2_with fail
    go_meet
    exact ⟨rfl, rfl⟩
  obtain ⟨rfl, rfl⟩ := hcut
  apply_assumption
  refine wp_seq_k fun K hK => ?_
  go_cut [7] from 8 (fun s7 wx => ∃ l, XS wx w8.heap.size s7 l ∧ l.map (·.2) = (if ca then [Ref.ext [85, 29, 19] (Ref.seq ([1, 1, 255] :: Ref.path path))] else []) ∧ Below w8.heap.size w8 wx)
  case first =>
    have k20 : w8.cell? ⟨w.heap.size, 20, none⟩ = some (.bool ca) := HB8.out.cell 20
    cases ca
    · go_wp2_with fail
      go_meet
      exact ⟨[], XS.nil_, rfl, Below.refl _ _⟩
    · have hcv := run_conv
      go_upto_region 8 with fail
      go_cut [8] from 9 (fun s8 wx => ∃ l, XS wx w8.heap.size s8 l ∧ l.map (·.2) = [[1, 1, 255]] ∧ Below w8.heap.size w8 wx)
      case first =>
        go_wp2_with fail
        go_meet
        refine ⟨[(.slice (some ⟨w8.heap.size, 0, none⟩) 3 3, [1, 1, 255])], ((XS.lit (w8.alloc (.cells #[.int .u8 1, .int .u8 1, .int .u8 255] 5 (3, 4))) [(.slice (some ⟨w8.heap.size, 0, none⟩) 3 3, [1, 1, 255])] [.slice (some ⟨w8.heap.size, 0, none⟩) 3 3] _ 1 (by simp) rfl rfl (by omega) (fun p hp => ?_)).lower (lo' := w8.heap.size) (by simp)), rfl, ((Below.refl _ _).alloc (Nat.le_refl _) _).alloc (by simp) _⟩
        obtain rfl := List.mem_singleton.1 hp
        exact RdT.blk (heap_alloc_new w8 _) (Rd.conv w8 [1, 1, 255] [.int .u8 1, .int .u8 1, .int .u8 255] 3 (3, 4) rfl rfl (by omega))
      obtain ⟨lm, hxm, hlm, hbm⟩ := hcut
      obtain ⟨wm, hwm⟩ : ∃ wm, wm = wc := ⟨_, rfl⟩
      subst hwm
      have hsm_ := hbm.size
      have HM := Lib.hid (And.intro hxm (And.intro hlm hbm))
      have k21 : wm.cell? ⟨w.heap.size, 21, none⟩ = some (.int .i64 path) := (HB8.out.below hbm hw8).cell 21
      clear hxm hlm hbm k20
      apply_assumption
      refine wp_seq_k fun K hK => ?_
      go_cut [8] from 9 (fun s8 wy => ∃ l, XS wy w8.heap.size s8 l ∧ l.map (·.2) = [1, 1, 255] :: Ref.path path ∧ Below w8.heap.size w8 wy)
      case first =>
        by_cases hpp : 0 ≤ path
        · obtain ⟨p, rfl⟩ : ∃ p : Nat, path = (p : Int) := ⟨path.toNat, by omega⟩
          go_wp2_with fail
          have hcell : [Value.int .u8 (p : Int)] = [UInt8.ofNat p].map bv := by
            simp only [List.map_cons, List.map_nil, bv, UInt8.toNat_ofNat']
            rw [Nat.mod_eq_of_lt (by omega)]
          refine (refPutInt_any _ 1 1 [UInt8.ofNat p] _ (Rd.lit wm 5 [UInt8.ofNat p] [Value.int .u8 (p : Int)] _ 1 rfl hcell rfl (by omega)) (by omega)).mono ?_
          rintro en w10 ⟨C1, q1, r1, rfl, ho, hb10⟩
          have hq1 : q1 ≤ 2 := by have h1 := putInt_len [UInt8.ofNat p]; have h2 : (Der.putInt [UInt8.ofNat p]).length = q1 := ownB_len ho; simp at h1; omega
          have hbm10 : Below wm.heap.size wm w10 := Below.trans ((Below.refl _ _).alloc (Nat.le_refl _) _) (hb10.mono (by simp))
          have hs10 := hbm10.size
          have HO := Lib.hid (And.intro ho hbm10)
          clear ho hb10 hbm10 hcell
          go_wp2_with fail
          refine (refWrite_lit 2 2 rfl C1 q1 r1 _ _ HO.out.1.rdx (by omega)).mono ?_
          rintro en w11 ⟨C2, q2, r2, rfl, ho11, hb11⟩
          have hs11 := hb11.size
          have HQ := Lib.hid (And.intro ho11 hb11)
          have HXS := Lib.hid ((HM.out.1.below HO.out.2).below hb11)
          have hll : lm.length ≤ 1 := by have := congrArg List.length HM.out.2.1; simp at this; omega
          clear ho11 hb11
          go_wp2_with (first
            | (at_builtin
               refine wpList_xs rfl (.tmp 59) (.tmp 66) rfl w8.heap.size _ lm (by rfl) (HXS.out.alloc _) (by simp; omega) _ _ _ (by rfl) (cell_new1 _ _ _) (by simp) ((RdT.ownx HQ.out.1 (Nat.le_refl _)).alloc _) (by omega) ?_
               intro v9 w9 hx9 hb9)
            | fail)
          go_meet
          refine ⟨_, hx9, ?_, ?_⟩
          · rw [List.map_append, HM.out.2.1]; unfold Ref.path; rw [if_pos (by omega)]; rfl
          · exact ((HM.out.2.2.trans (HO.out.2.mono hsm_)).trans (HQ.out.2.mono (by omega))).trans (Below.trans ((Below.refl _ _).alloc (by omega) _) hb9)
        · go_wp2_with fail
          go_meet
          exact ⟨lm, HM.out.1, by rw [HM.out.2.1]; unfold Ref.path; rw [if_neg (by omega)], HM.out.2.2⟩
      -- the extension of constraints
      obtain ⟨le, hxe, hle, hbe⟩ := hcut
      obtain ⟨we, hwe⟩ : ∃ we, we = wc := ⟨_, rfl⟩
      subst hwe
      obtain ⟨E1, f1, rfl, hre⟩ := hxe.rdl
      have hcl : cat le = ([1, 1, 255] :: Ref.path path).flatten := by unfold cat; rw [hle]
      have hcl2 : (cat le).length ≤ 100 := by
        rw [hcl]
        unfold Ref.path
        split
        · have h1 := write_bound 2 (Der.putInt [UInt8.ofNat path.toNat]) (by have := putInt_len [UInt8.ofNat path.toNat]; simp at this; omega)
          have h2 := putInt_len [UInt8.ofNat path.toNat]
          simp at h1 h2 ⊢
          omega
        · simp
      have hlel : le.length ≤ 2 := by
        have := congrArg List.length hle
        unfold Ref.path at this
        split at this <;> simp at this <;> omega
      have hse := hbe.size
      have HE := Lib.hid (And.intro hle (And.intro hbe hre))
      clear hxe hle hbe hre hcl HM k21
      apply_assumption
      go_wp2_with fail
      refine (refSeq_any E1 le.length f1 le _ HE.out.2.2 (by omega) (by omega)).mono ?_
      rintro en wa ⟨Fa, fn, fc, rfl, hoa, hba⟩
      have hla : (Ref.seq (le.map (·.2))).length = fn := ownB_len hoa
      have hfn : fn ≤ 200 := by
        have h1 := write_bound 48 (cat le) (by omega)
        have h2 : Ref.seq (le.map (·.2)) = Der.write 48 (cat le) := rfl
        rw [h2] at hla
        omega
      have hsa := hba.size
      have HA := Lib.hid (And.intro hoa hba)
      clear hoa hba hla
      go_wp2_with fail
      refine (refExt_any [85, 29, 19] Fa fn fc _ _ HA.out.1.rdx (by omega) (by simp)).mono ?_
      rintro en wb ⟨Fb, fm, fd, rfl, hob, hbb⟩
      have hsb := hbb.size
      have HBb := Lib.hid (And.intro hob hbb)
      clear hob hbb
      go_wp2_with (first
        | (at_builtin
           refine wpList_xs rfl (.tmp 68) (.tmp 72) rfl w8.heap.size _ _ (by rfl) XS.nil_ (by simp; omega) _ _ _ (by rfl) (cell_new1 _ _ _) (by simp) ((RdT.ownx HBb.out.1 (Nat.le_refl _)).alloc _) (by first | omega | (simp; done) | (simp; omega)) ?_
           intro v9 w9 hx9 hb9)
        | fail)
      go_meet
      refine ⟨_, hx9, ?_, ?_⟩
      · rw [List.nil_append, List.map_cons, List.map_nil, HE.out.1]; rfl
      · exact ((HE.out.2.1.trans (HA.out.2.mono hse)).trans (HBb.out.2.mono (by omega))).trans (Below.trans ((Below.refl _ _).alloc (by omega) _) hb9)
  case rest =>
    obtain ⟨l1, hx1, hl1x, hb1x⟩ := hcut
    obtain ⟨wp, hwp⟩ : ∃ wp, wp = wc := ⟨_, rfl⟩
    subst hwp
    have hs1x := hb1x.size
    have hlen1 : l1.length ≤ 1 := by have := congrArg List.length hl1x; simp only [List.length_map] at this; rw [this]; split <;> simp
    have HX1 := Lib.hid (And.intro hx1 (And.intro hl1x hb1x))
    have k22 : wp.cell? ⟨w.heap.size, 22, none⟩ = some (.int .i64 usage) := (HB8.out.below hb1x hw8).cell 22
    clear hx1 hl1x hb1x
    -- the usage
    apply_assumption
    refine wp_seq_k fun K hK => ?_
    go_cut [7] from 8 (fun s7 wx => ∃ l, XS wx w8.heap.size s7 l ∧ l.map (·.2) = (if ca then [Ref.ext [85, 29, 19] (Ref.seq ([1, 1, 255] :: Ref.path path))] else []) ++ (if 0 ≤ usage then [Ref.ext [85, 29, 15] (Ref.ubits usage.toNat)] else []) ∧ Below w8.heap.size w8 wx)
    case first =>
      by_cases huu : 0 ≤ usage
      · obtain ⟨q, rfl⟩ : ∃ q : Nat, usage = (q : Int) := ⟨usage.toNat, by omega⟩
        go_wp2_with fail
        refine (refUb_any q (by omega) _).mono ?_
        rintro en wa ⟨Fa, fn, fc, rfl, hoa, hba⟩
        have hfn : fn ≤ 200 := by
          have h1 : (Ref.ubits q).length = fn := ownB_len hoa
          have h2 := ubits_len q
          omega
        have hsa := hba.size
        have HA := Lib.hid (And.intro hoa hba)
        clear hoa hba
        go_wp2_with fail
        refine (refExt_any [85, 29, 15] Fa fn fc _ _ HA.out.1.rdx (by omega) (by simp)).mono ?_
        rintro en wb ⟨Fb, fm, fd, rfl, hob, hbb⟩
        have hsb := hbb.size
        have HBb := Lib.hid (And.intro hob hbb)
        have HXS := Lib.hid ((HX1.out.1.below HA.out.2).below hbb)
        clear hob hbb
        go_wp2_with (first
          | (at_builtin
             refine wpList_xs rfl (.tmp 77) (.tmp 82) rfl w8.heap.size _ _ (by rfl) (HXS.out.alloc _) (by simp; omega) _ _ _ (by rfl) (cell_new1 _ _ _) (by simp) ((RdT.ownx HBb.out.1 (Nat.le_refl _)).alloc _) (by first | omega | (simp; done) | (simp; omega)) ?_
             intro v9 w9 hx9 hb9)
          | fail)
        go_meet
        refine ⟨_, hx9, ?_, ?_⟩
        · rw [List.map_append, HX1.out.2.1, if_pos (show (0 : Int) ≤ (q : Int) by omega)]; rfl
        · exact ((HX1.out.2.2.trans (HA.out.2.mono hs1x)).trans (HBb.out.2.mono (by omega))).trans (Below.trans ((Below.refl _ _).alloc (by omega) _) hb9)
      · go_wp2_with fail
        go_meet
        exact ⟨l1, HX1.out.1, by rw [HX1.out.2.1, if_neg (show ¬ 0 ≤ usage by omega), List.append_nil], HX1.out.2.2⟩
    obtain ⟨l2, hx2, hl2x, hb2x⟩ := hcut
    obtain ⟨wq, hwq⟩ : ∃ wq, wq = wc := ⟨_, rfl⟩
    subst hwq
    have hs2x := hb2x.size
    have hlen2 : l2.length ≤ 2 := by have := congrArg List.length hl2x; simp only [List.length_map, List.length_append] at this; rw [this]; split <;> split <;> simp
    have HX2 := Lib.hid (And.intro hx2 (And.intro hl2x hb2x))
    have k23 : wq.cell? ⟨w.heap.size, 23, none⟩ = some (.bool code) := (HB8.out.below hb2x hw8).cell 23
    clear hx2 hl2x hb2x HX1 k22 hs1x hlen1
    -- the purposes
    apply_assumption
    refine wp_seq_k fun K hK => ?_
    go_cut [7] from 8 (fun s7 wx => ∃ l, XS wx w8.heap.size s7 l ∧ l.map (·.2) = Ref.exts ⟨ca, path, usage, code⟩ ∧ Below w8.heap.size w8 wx)
    case first =>
      cases code
      · have hcv := run_conv
        go_wp2_with fail
        have hbc : Below wq.heap.size wq (wq.alloc (.cells #[.int .u8 43, .int .u8 6, .int .u8 1, .int .u8 5, .int .u8 5, .int .u8 7, .int .u8 3, .int .u8 1] 5 (8, 9))) := (Below.refl _ _).alloc (Nat.le_refl _) _
        refine (refWrite_lit 6 6 rfl _ 8 8 Ref.forHost _ (Rd.conv wq Ref.forHost [.int .u8 43, .int .u8 6, .int .u8 1, .int .u8 5, .int .u8 5, .int .u8 7, .int .u8 3, .int .u8 1] 8 (8, 9) rfl rfl (by omega)) (by omega)).mono ?_
        rintro en w10 ⟨C1, q1, r1, rfl, ho, hb10⟩
        have hq1 : q1 ≤ 14 := by have h1 := write_bound 6 Ref.forHost (by decide); have h2 : (Der.write 6 Ref.forHost).length = q1 := ownB_len ho; have h3 : Ref.forHost.length = 8 := rfl; omega
        have hb10' : Below wq.heap.size wq w10 := Below.trans hbc (hb10.mono hbc.size)
        have hs10 := hb10'.size
        have HO := Lib.hid (And.intro ho hb10')
        clear ho hb10 hb10' hbc
        go_wp2_with fail
        refine (refSeq_any _ 1 1 [(.slice C1 q1 r1, Der.write 6 Ref.forHost)] _ (RdL.lit w10 _ _ _ _ 1 rfl rfl rfl (by omega) (fun v xs hm => ?_)) (by omega) ?_).mono ?_
        · simp only [List.mem_cons, List.not_mem_nil, or_false, Prod.mk.injEq] at hm
          obtain ⟨rfl, rfl⟩ := hm
          exact RdV.mk HO.out.1.rdx
        · have h1 := write_bound 6 Ref.forHost (by decide)
          have h3 : Ref.forHost.length = 8 := rfl
          simp [cat]
          omega
        rintro en wa ⟨Fa, fn, fc, rfl, hoa, hba⟩
        have hfn : fn ≤ 200 := by
          have h0 : (Ref.seq [Der.write 6 Ref.forHost]).length = fn := ownB_len hoa
          have h1 := write_bound 6 Ref.forHost (by decide)
          have h3 : Ref.forHost.length = 8 := rfl
          have h2 := write_bound 48 (Der.write 6 Ref.forHost) (by omega)
          unfold Ref.seq at h0
          simp only [List.flatten_cons, List.flatten_nil, List.append_nil] at h0
          omega
        have hba' : Below w10.heap.size w10 wa := Below.trans ((Below.refl _ _).alloc (Nat.le_refl _) _) (hba.mono (by simp))
        have hsa := hba'.size
        have HA := Lib.hid (And.intro hoa hba')
        clear hoa hba hba'
        go_wp2_with fail
        refine (refExt_any [85, 29, 37] Fa fn fc _ _ HA.out.1.rdx (by omega) (by simp)).mono ?_
        rintro en wb ⟨Fb, fm, fd, rfl, hob, hbb⟩
        have hsb := hbb.size
        have HBb := Lib.hid (And.intro hob hbb)
        have HXS := Lib.hid (((HX2.out.1.below HO.out.2).below HA.out.2).below hbb)
        clear hob hbb
        go_wp2_with (first
          | (at_builtin
             refine wpList_xs rfl (.tmp 87) (.tmp 94) rfl w8.heap.size _ _ (by rfl) (HXS.out.alloc _) (by simp; omega) _ _ _ (by rfl) (cell_new1 _ _ _) (by simp) ((RdT.ownx HBb.out.1 (Nat.le_refl _)).alloc _) (by first | omega | (simp; done) | (simp; omega)) ?_
             intro v9 w9 hx9 hb9)
          | fail)
        go_meet
        refine ⟨_, hx9, ?_, ?_⟩
        · rw [List.map_append, HX2.out.2.1]; rfl
        · exact (((HX2.out.2.2.trans (HO.out.2.mono hs2x)).trans (HA.out.2.mono (by omega))).trans (HBb.out.2.mono (by omega))).trans (Below.trans ((Below.refl _ _).alloc (by omega) _) hb9)
      · go_wp2_with fail
        go_meet
        exact ⟨l2, HX2.out.1, by rw [HX2.out.2.1]; unfold Ref.exts; simp, HX2.out.2.2⟩
    obtain ⟨l3, hx3, hl3x, hb3x⟩ := hcut
    obtain ⟨wr, hwr⟩ : ∃ wr, wr = wc := ⟨_, rfl⟩
    subst hwr
    have hs3x := hb3x.size
    obtain ⟨E1, f1, rfl, hre⟩ := hx3.rdl
    have hcl : cat l3 = (Ref.exts ⟨ca, path, usage, code⟩).flatten := by unfold cat; rw [hl3x]
    have hcl2 := exts_flat ⟨ca, path, usage, code⟩
    rw [← hcl] at hcl2
    obtain ⟨n9, hn9⟩ : ∃ n9, l3.length = n9 := ⟨_, rfl⟩
    have hlen3 : n9 ≤ 3 := by rw [← hn9]; have := congrArg List.length hl3x; simp only [List.length_map] at this; rw [this]; unfold Ref.exts; simp only [List.length_append]; split <;> split <;> split <;> simp
    have hz9 : n9 = 0 ↔ Ref.exts ⟨ca, path, usage, code⟩ = [] := by rw [← hl3x, ← hn9]; simp
    rw [hn9] at hre ⊢
    have HX3 := Lib.hid (And.intro hre (And.intro hl3x (And.intro hb3x hz9)))
    clear hre hl3x hb3x hz9 hx3 HX2 k23 hcl hn9 hs2x hlen2
    -- all of them
    apply_assumption
    refine wp_seq_k fun K hK => ?_
    go_cut [3] from 8 (fun s3 wx => RdV wx wx.heap.size s3 (Ref.extra ⟨ca, path, usage, code⟩) ∧ Below w8.heap.size w8 wx)
    case first =>
      by_cases h0 : 0 < n9
      · have h0' : (0 : Int) < (n9 : Int) := by omega
        go_wp2_with fail
        refine (refSeq_any E1 n9 f1 l3 _ HX3.out.1 (by omega) (by omega)).mono ?_
        rintro en wa ⟨Fa, fn, fc, rfl, hoa, hba⟩
        have hfn : fn ≤ 3000 := by
          have h1 : (Ref.seq (l3.map (·.2))).length = fn := ownB_len hoa
          have h2 := write_bound 48 (cat l3) (by omega)
          have h3 : Ref.seq (l3.map (·.2)) = Der.write 48 (cat l3) := rfl
          rw [h3] at h1
          omega
        have hsa := hba.size
        have HA := Lib.hid (And.intro hoa hba)
        clear hoa hba
        go_wp2_with fail
        refine (refWrite_lit 163 163 rfl Fa fn fc _ _ HA.out.1.rdx (by omega)).mono ?_
        rintro en wb ⟨Fb, fm, fd, rfl, hob, hbb⟩
        have HBb := Lib.hid (And.intro hob hbb)
        clear hob hbb
        go_wp2_with fail
        go_meet
        refine ⟨?_, (HX3.out.2.2.1.trans (HA.out.2.mono hs3x)).trans (HBb.out.2.mono (by omega))⟩
        have : Ref.extra ⟨ca, path, usage, code⟩ = Der.write 163 (Ref.seq (l3.map (·.2))) := by
          unfold Ref.extra
          rw [if_neg (fun h => by have := HX3.out.2.2.2.2 h; omega), HX3.out.2.1]
        rw [this]
        exact RdV.mk HBb.out.1.rdx
      · obtain rfl : n9 = 0 := by omega
        go_wp2_with fail
        go_meet
        refine ⟨?_, HX3.out.2.2.1⟩
        have : Ref.extra ⟨ca, path, usage, code⟩ = [] := by
          unfold Ref.extra
          rw [if_pos (HX3.out.2.2.2.1 trivial)]
        rw [this]
        exact RdV.mk Rd.none_
    obtain ⟨hv3, hb3x⟩ := hcut
    obtain ⟨wz, hwz⟩ : ∃ wz, wz = wc := ⟨_, rfl⟩
    subst hwz
    apply_assumption
    go_upto_region 18 with fail
    have HBz := Lib.hid (HB8.out.below hb3x hw8)
    have hszx := hb3x.size
    have hwz : w.heap.size < wz.heap.size := by omega
    have hbz := HR.out.2.1.trans (hb3x.mono hs8)
    have hser : ∀ W : World, Below wz.heap.size wz W → Rd W W.heap.size A3 n3 c3 ser := fun W h => ((H.out.2.2.1.below hbz).more hbz.size).up h
    have hiss : ∀ W : World, Below wz.heap.size wz W → Rd W W.heap.size A1 n1 c1 iss := fun W h => ((H.out.1.below hbz).more hbz.size).up h
    have hsub : ∀ W : World, Below wz.heap.size wz W → Rd W W.heap.size A2 n2 c2 sub := fun W h => ((H.out.2.1.below hbz).more hbz.size).up h
    have hbits : ∀ W : World, Below wz.heap.size wz W → Rd W W.heap.size B6 m6 d6 ([0] ++ Ref.rsa nn e) := fun W h => (HR.out.1.up hb3x).up h
    have hext : ∀ W : World, Below wz.heap.size wz W → RdV W W.heap.size u3 (Ref.extra ⟨ca, path, usage, code⟩) := fun W h => (hv3.below h).more h.size
    have hrl := HL7.out
    have hbl : ([0] ++ Ref.rsa nn e).length ≤ 1000000001 := by rw [List.length_append, hrl, List.length_singleton]; omega
    have htot := tbs_tot ser iss sub ([0] ++ Ref.rsa nn e) (Ref.extra ⟨ca, path, usage, code⟩) ⟨ay, amo, ad, ah, ami, as_⟩ ⟨by_, bmo, bd, bh, bmi, bs⟩ (by have := H.out.2.2.1.len; omega) (by have := H.out.1.len; omega) (by have := H.out.2.1.len; omega) hbl (extra_len _)
    clear hK
    refine wp_region_marked (TJ wz.heap.size w.heap.size (.slice A3 n3 c3) (.slice A1 n1 c1) (.slice A2 n2 c2) (.slice B6 m6 d6) u3 ser iss sub ([0] ++ Ref.rsa nn e) (Ref.extra ⟨ca, path, usage, code⟩) ⟨ay, amo, ad, ah, ami, as_⟩ ⟨by_, bmo, bd, bh, bmi, bs⟩) (Below wz.heap.size wz) (KR wz.heap.size) rfl (TJ.mono _ _ _ _ _ _ _ _ _ _ _ _ _ _) (fun w w' h1 h2 => h1.trans h2.1) (by show dstsOk _ 130 = true; decide +kernel) (by decide +kernel) (by decide +kernel) (Below.refl _ _).drew ⟨?_, ?_, ?_, ?_, ?_, ?_, ?_, ?_, ?_, ?_, ?_, ?_, ?_, ?_, ?_, ?_, ?_, ?_, ?_, ?_, ?_, ?_, ?_, ?_, ?_, ?_, ?_, ?_, ?_, trivial⟩ ?_
    · intro a W hfr hG hdep; exact S_lit (zs := (Ref.version).map fun x => (x.toNat : Int)) (xs := Ref.version) rfl (by simp) (by omega) (by omega) (hG.size) rfl rfl rfl (fun v w' h1 h2 => ⟨h1, h2⟩)
    · intro a W hfr hG hdep; have d := hdep 0 (by decide +kernel); exact S_conv rfl (by simp) rfl d.1 rfl (by omega) d.2 (fun w' h => h)
    · intro a W hfr hG hdep; exact S_fld rfl (by simp) (hfr 1 (by decide +kernel)) (fld_4 _ _) rfl
    · intro a W hfr hG hdep; have d : a.eval (.tmp 104) = .pointer (some ⟨w.heap.size, 4, none⟩) := hdep 2 (by decide +kernel); exact S_load rfl (by simp) d (load_fld ((hG.cell (p := ⟨w.heap.size, 4, none⟩) hwz).trans (HBz.out.cell 4))) rfl
    · intro a W hfr hG hdep; have d : a.eval (.tmp 105) = .slice A3 n3 c3 := hdep 3 (by decide +kernel); exact S_write (t := 2) (xs := ser) rfl (by simp) rfl rfl (by rw [d]; exact RdV.mk (hser W hG)) (by have := H.out.2.2.1.len; omega) (hG.size) (fun v w'' ho hs => ho.rd)
    · intro a W hfr hG hdep; exact S_lit (zs := (Ref.signAlg).map fun x => (x.toNat : Int)) (xs := Ref.signAlg) rfl (by simp) (by omega) (by omega) (hG.size) rfl rfl rfl (fun v w' h1 h2 => ⟨h1, h2⟩)
    · intro a W hfr hG hdep; have d := hdep 5 (by decide +kernel); exact S_conv rfl (by simp) rfl d.1 rfl (by omega) d.2 (fun w' h => h)
    · intro a W hfr hG hdep; exact S_fld rfl (by simp) (hfr 1 (by decide +kernel)) (fld_2 _ _) rfl
    · intro a W hfr hG hdep; have d : a.eval (.tmp 109) = .pointer (some ⟨w.heap.size, 2, none⟩) := hdep 7 (by decide +kernel); exact S_load rfl (by simp) d (load_fld ((hG.cell (p := ⟨w.heap.size, 2, none⟩) hwz).trans (HBz.out.cell 2))) rfl
    · intro a W hfr hG hdep; exact S_fld rfl (by simp) (hfr 1 (by decide +kernel)) (fld_5 _ _) rfl
    · intro a W hfr hG hdep; have d : a.eval (.tmp 111) = .pointer (some ⟨w.heap.size, 5, none⟩) := hdep 9 (by decide +kernel); exact S_load rfl (by simp) d (load_tm (t := ⟨ay, amo, ad, ah, ami, as_⟩) (cs := [.int .u16 (ay : Int), .int .u8 (amo : Int), .int .u8 (ad : Int), .int .u8 (ah : Int), .int .u8 (ami : Int), .int .u8 (as_ : Int)]) rfl (fun j v hv => (hG.cell (p := ⟨w.heap.size, 5 + j, none⟩) hwz).trans ((HBz.out.cell (5 + j)).trans (by match j, hv with | 0, hv | 1, hv | 2, hv | 3, hv | 4, hv | 5, hv => exact hv | j + 6, hv => simp at hv))) rfl) rfl
    · intro a W hfr hG hdep; have d : a.eval (.tmp 112) = _ := hdep 10 (by decide +kernel); exact S_gen rfl (by simp) d ha (hG.size) (fun v w'' ho hs => ho.rd)
    · intro a W hfr hG hdep; exact S_fld rfl (by simp) (hfr 1 (by decide +kernel)) (fld_6 _ _) rfl
    · intro a W hfr hG hdep; have d : a.eval (.tmp 114) = .pointer (some ⟨w.heap.size, 11, none⟩) := hdep 12 (by decide +kernel); exact S_load rfl (by simp) d (load_tm (t := ⟨by_, bmo, bd, bh, bmi, bs⟩) (cs := [.int .u16 (by_ : Int), .int .u8 (bmo : Int), .int .u8 (bd : Int), .int .u8 (bh : Int), .int .u8 (bmi : Int), .int .u8 (bs : Int)]) rfl (fun j v hv => (hG.cell (p := ⟨w.heap.size, 11 + j, none⟩) hwz).trans ((HBz.out.cell (11 + j)).trans (by match j, hv with | 0, hv | 1, hv | 2, hv | 3, hv | 4, hv | 5, hv => exact hv | j + 6, hv => simp at hv))) rfl) rfl
    · intro a W hfr hG hdep; have d : a.eval (.tmp 115) = _ := hdep 13 (by decide +kernel); exact S_gen rfl (by simp) d hb (hG.size) (fun v w'' ho hs => ho.rd)
    · intro a W hfr hG hdep; obtain ⟨R0, x0, y0, e0, r0⟩ : RdV W W.heap.size (a.eval (.tmp 113)) (Ref.general ⟨ay, amo, ad, ah, ami, as_⟩) := hdep 11 (by decide +kernel); obtain ⟨R1, x1, y1, e1, r1⟩ : RdV W W.heap.size (a.eval (.tmp 116)) (Ref.general ⟨by_, bmo, bd, bh, bmi, bs⟩) := hdep 14 (by decide +kernel); exact S_rows (l := [(.slice R0 x0 y0, Ref.general ⟨ay, amo, ad, ah, ami, as_⟩), (.slice R1 x1 y1, Ref.general ⟨by_, bmo, bd, bh, bmi, bs⟩)]) rfl (by simp) (by omega) (by omega) (hG.size) (by simp only [List.map_cons, List.map_nil, e0, e1]; rfl) rfl (by intro p hp; simp only [List.mem_cons, List.not_mem_nil, or_false] at hp; rcases hp with rfl | rfl <;> exact RdV.mk (by assumption)) (fun v w' h => h)
    · intro a W hfr hG hdep; exact S_seq rfl (by simp) (hdep 15 (by decide +kernel)) (by have h1 := gen_len ⟨ay, amo, ad, ah, ami, as_⟩; have h2 := gen_len ⟨by_, bmo, bd, bh, bmi, bs⟩; simp; omega) (by omega) (hG.size) (fun v w'' ho hs => ho.rd)
    · intro a W hfr hG hdep; exact S_fld rfl (by simp) (hfr 1 (by decide +kernel)) (fld_3 _ _) rfl
    · intro a W hfr hG hdep; have d : a.eval (.tmp 119) = .pointer (some ⟨w.heap.size, 3, none⟩) := hdep 17 (by decide +kernel); exact S_load rfl (by simp) d (load_fld ((hG.cell (p := ⟨w.heap.size, 3, none⟩) hwz).trans (HBz.out.cell 3))) rfl
    · intro a W hfr hG hdep; exact S_lit (zs := (Ref.keyAlg).map fun x => (x.toNat : Int)) (xs := Ref.keyAlg) rfl (by simp) (by omega) (by omega) (hG.size) rfl rfl rfl (fun v w' h1 h2 => ⟨h1, h2⟩)
    · intro a W hfr hG hdep; have d := hdep 19 (by decide +kernel); exact S_conv rfl (by simp) rfl d.1 rfl (by omega) d.2 (fun w' h => h)
    · intro a W hfr hG hdep; exact S_move rfl (by simp) (hfr 6 (by decide +kernel))
    · intro a W hfr hG hdep; have d : a.eval (.tmp 123) = .slice B6 m6 d6 := hdep 21 (by decide +kernel); exact S_write (t := 3) (xs := [0] ++ Ref.rsa nn e) rfl (by simp) rfl rfl (by rw [d]; exact RdV.mk (hbits W hG)) (by omega) (hG.size) (fun v w'' ho hs => ho.rd)
    · intro a W hfr hG hdep; obtain ⟨R0, x0, y0, e0, r0⟩ : RdV W W.heap.size (a.eval (.tmp 122)) (Ref.keyAlg) := hdep 20 (by decide +kernel); obtain ⟨R1, x1, y1, e1, r1⟩ : RdV W W.heap.size (a.eval (.tmp 124)) (Der.write 3 ([0] ++ Ref.rsa nn e)) := hdep 22 (by decide +kernel); exact S_rows (l := [(.slice R0 x0 y0, Ref.keyAlg), (.slice R1 x1 y1, Der.write 3 ([0] ++ Ref.rsa nn e))]) rfl (by simp) (by omega) (by omega) (hG.size) (by simp only [List.map_cons, List.map_nil, e0, e1]; rfl) rfl (by intro p hp; simp only [List.mem_cons, List.not_mem_nil, or_false] at hp; rcases hp with rfl | rfl <;> exact RdV.mk (by assumption)) (fun v w' h => h)
    · intro a W hfr hG hdep; exact S_seq rfl (by simp) (hdep 23 (by decide +kernel)) (by have h1 := write_bound 3 ([0] ++ Ref.rsa nn e) (by omega); simp only [List.flatten_cons, List.flatten_nil, List.append_nil, List.length_append]; have h2 : Ref.keyAlg.length = 15 := rfl; omega) (by omega) (hG.size) (fun v w'' ho hs => ho.rd)
    · intro a W hfr hG hdep; exact S_move rfl (by simp) (hfr 3 (by decide +kernel))
    · intro a W hfr hG hdep; obtain ⟨R0, x0, y0, e0, r0⟩ : RdV W W.heap.size (a.eval (.tmp 103)) (Ref.version) := hdep 1 (by decide +kernel); obtain ⟨R1, x1, y1, e1, r1⟩ : RdV W W.heap.size (a.eval (.tmp 106)) (Der.write 2 ser) := hdep 4 (by decide +kernel); obtain ⟨R2, x2, y2, e2, r2⟩ : RdV W W.heap.size (a.eval (.tmp 108)) (Ref.signAlg) := hdep 6 (by decide +kernel); obtain ⟨R3, x3, y3, e3, r3⟩ : RdV W W.heap.size (a.eval (.tmp 110)) (iss) := (by rw [show a.eval (.tmp 110) = .slice A1 n1 c1 from hdep 8 (by decide +kernel)]; exact RdV.mk (hiss W hG)); obtain ⟨R4, x4, y4, e4, r4⟩ : RdV W W.heap.size (a.eval (.tmp 118)) (Ref.seq [Ref.general ⟨ay, amo, ad, ah, ami, as_⟩, Ref.general ⟨by_, bmo, bd, bh, bmi, bs⟩]) := hdep 16 (by decide +kernel); obtain ⟨R5, x5, y5, e5, r5⟩ : RdV W W.heap.size (a.eval (.tmp 120)) (sub) := (by rw [show a.eval (.tmp 120) = .slice A2 n2 c2 from hdep 18 (by decide +kernel)]; exact RdV.mk (hsub W hG)); obtain ⟨R6, x6, y6, e6, r6⟩ : RdV W W.heap.size (a.eval (.tmp 126)) (Ref.seq [Ref.keyAlg, Der.write 3 ([0] ++ Ref.rsa nn e)]) := hdep 24 (by decide +kernel); obtain ⟨R7, x7, y7, e7, r7⟩ : RdV W W.heap.size (a.eval (.tmp 127)) (Ref.extra ⟨ca, path, usage, code⟩) := (by rw [show a.eval (.tmp 127) = u3 from hdep 25 (by decide +kernel)]; exact hext W hG); exact S_rows (l := [(.slice R0 x0 y0, Ref.version), (.slice R1 x1 y1, Der.write 2 ser), (.slice R2 x2 y2, Ref.signAlg), (.slice R3 x3 y3, iss), (.slice R4 x4 y4, Ref.seq [Ref.general ⟨ay, amo, ad, ah, ami, as_⟩, Ref.general ⟨by_, bmo, bd, bh, bmi, bs⟩]), (.slice R5 x5 y5, sub), (.slice R6 x6 y6, Ref.seq [Ref.keyAlg, Der.write 3 ([0] ++ Ref.rsa nn e)]), (.slice R7 x7 y7, Ref.extra ⟨ca, path, usage, code⟩)]) rfl (by simp) (by omega) (by omega) (hG.size) (by simp only [List.map_cons, List.map_nil, e0, e1, e2, e3, e4, e5, e6, e7]; rfl) rfl (by intro p hp; simp only [List.mem_cons, List.not_mem_nil, or_false] at hp; rcases hp with rfl | rfl | rfl | rfl | rfl | rfl | rfl | rfl <;> exact RdV.mk (by assumption)) (fun v w' h => h)
    · intro a W hfr hG hdep; exact S_seq rfl (by simp) (hdep 26 (by decide +kernel)) (by omega) (by omega) (hG.size) (fun v w'' ho hs => ho.mono hG.size (Nat.le_refl _))
    · intro a W hfr hG hdep; exact S_assign rfl (by simp) (hdep 27 (by decide +kernel))
    · intro a W hd hsz hfr hG hJ
      have h28 : OwnB W wz.heap.size W.heap.size (a.eval (.tmp 2)) (Ref.tbs iss sub ser nn ⟨ay, amo, ad, ah, ami, as_⟩ ⟨by_, bmo, bd, bh, bmi, bs⟩ e ⟨ca, path, usage, code⟩) := hJ 28 (by decide +kernel)
      obtain ⟨A', n', c', e', _⟩ := h28.rd
      simp only [Exit.then]
      apply_assumption
      refine wp_ret ?_
      refine bodyPost_ret (v := a.eval (.tmp 2)) (results_tmp Try.results53 _ _ _) hd ⟨A', n', c', by rw [e'], ?_, hbz.trans (hG.mono hbz.size)⟩
      rw [e'] at h28
      exact h28.mono hbz.size (Nat.le_refl _)
end Go.Proofs.Ytmnekhliblkibaa
end
