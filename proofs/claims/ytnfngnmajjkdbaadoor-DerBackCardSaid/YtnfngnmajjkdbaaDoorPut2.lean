/- The contract of der.PutOid. -/
import Derived.Test.YtnfngnmajjkdbaaDoorPut1
import Derived.BigQuiet
import Derived.BigRegion
import Derived.Deep.QuietTactic
import Derived.Deep.RegionHeld3
namespace Go.Proofs.YtnfngnmajjkdbaaDoor
open Go.RowKit
set_option maxRecDepth 100000
set_option linter.unusedVariables false
set_option linter.unusedSimpArgs false

/-- A slice of one-cell things, as it reads. -/
structure RdC (w : World) (B : Nat) (A : Option Addr) (n c : Nat) (cs : List Value) : Prop where
  len : cs.length = n
  cap : n ≤ c
  capm : c ≤ 9223372036854775807
  nil : A = none → c = 0
  spot : 0 < c → ∃ b o, A = some ⟨b, o, none⟩ ∧ b < B
  rds : Reads w B 1 A n cs

section
variable {w w' : World} {B B' n c : Nat} {A : Option Addr} {cs : List Value}
theorem RdC.keep (h : RdC w B A n c cs) (hk : ∀ p : Addr, p.block < B → w'.cell? p = w.cell? p) : RdC w' B A n c cs := ⟨h.len, h.cap, h.capm, h.nil, h.spot, h.rds.keep hk⟩
theorem RdC.below (h : RdC w B A n c cs) (hb : Below B w w') : RdC w' B A n c cs := h.keep fun _ hp => hb.cell hp
theorem RdC.more (h : RdC w B A n c cs) (hB : B ≤ B') : RdC w B' A n c cs :=
  ⟨h.len, h.cap, h.capm, h.nil, fun hc => by obtain ⟨b, o, e, hb⟩ := h.spot hc; exact ⟨b, o, e, by omega⟩, h.rds.more hB⟩
theorem RdC.up (h : RdC w w.heap.size A n c cs) (hb : Below w.heap.size w w') : RdC w' w'.heap.size A n c cs := (h.below hb).more hb.size
theorem RdC.get (h : RdC w B A n c cs) {k : Nat} (hk : k < n) : ∃ b o u, A = some ⟨b, o, none⟩ ∧ b < B ∧ cs[k]? = some u ∧ w.cell? ⟨b, o + k, none⟩ = some u := by
  obtain ⟨ad, u, rfl, hb, hu, hc⟩ := h.rds.at_ hk
  obtain ⟨b, o, e, _⟩ := h.spot (by have := h.cap; omega)
  injection e with e
  subst e
  rw [Addr.add_lit] at hc
  exact ⟨b, o, u, rfl, hb, hu, hc⟩
theorem RdC.drop (h : RdC w B A n c cs) {lo : Nat} (h1 : lo ≤ n) : RdC w B (if c = lo then A else A.map (·.add lo)) (n - lo) (c - lo) (cs.drop lo) := by
  have hc := h.cap
  have hl := h.len
  have hm := h.capm
  refine ⟨by simp; omega, by omega, by omega, fun hA => ?_, fun h0 => ?_, ?_⟩
  · by_cases e : c = lo
    · omega
    · rw [if_neg e] at hA
      have := h.nil (by cases A <;> simp_all)
      omega
  · obtain ⟨b, o, rfl, hb⟩ := h.spot (by omega)
    rw [if_neg (by omega)]
    exact ⟨b, o + lo, by simp [Addr.add_lit], hb⟩
  · have := h.rds.cut h1 hc
    simpa using this
end
theorem run_dropU {w : World} {B n c : Nat} {A : Option Addr} {cs : List Value} (h : RdC w B A n c cs) (lo : Nat) (l : Int) (hl : l = lo) (h1 : lo ≤ n) :
    ∃ A1, RdC w B A1 (n - lo) (c - lo) (cs.drop lo) ∧ (∀ W, (Instr.sliceAt 23 (.slice A n c) (some (.int .i64 l)) none none).run Tryd.prog W = .ok (.slice A1 (n - lo) (c - lo)) W) ∧
      ∀ W, (Instr.slice 23 (.slice A n c) (some (.int .i64 l)) none none).run Tryd.prog W = .ok (.slice A1 (n - lo) (c - lo)) W := by
  have hc := h.cap
  refine ⟨_, h.drop h1, fun W => ?_, fun W => ?_⟩ <;> subst hl <;> simp [go_sem, Tryd.underlying23, show (lo : Int) ≤ n by omega]

/-- A slice of numbers that reads as zs. -/
def RdU (w : World) (B : Nat) (A : Option Addr) (n c : Nat) (zs : List Nat) : Prop := RdC w B A n c (zs.map uv) ∧ ∀ z ∈ zs, z < 18446744073709551616
theorem RdU.get {w : World} {B n c : Nat} {A : Option Addr} {zs : List Nat} (h : RdU w B A n c zs) {k : Nat} (hk : k < n) : ∃ b o z, A = some ⟨b, o, none⟩ ∧ b < B ∧ zs[k]? = some z ∧ z < 18446744073709551616 ∧ w.cell? ⟨b, o + k, none⟩ = some (.int .u64 (z : Int)) := by
  obtain ⟨b, o, u, rfl, hb, hu, hc⟩ := h.1.get hk
  simp only [List.getElem?_map, Option.map_eq_some_iff] at hu
  obtain ⟨z, hz, rfl⟩ := hu
  exact ⟨b, o, z, rfl, hb, hz, h.2 z (List.mem_of_getElem? hz), hc⟩
theorem RdU.len {w : World} {B n c : Nat} {A : Option Addr} {zs : List Nat} (h : RdU w B A n c zs) : zs.length = n := by have := h.1.len; simpa using this

namespace Der
def putOk (a b : Nat) : Bool := decide (a ≤ 2) && (decide (2 ≤ a) || decide (b ≤ 39)) && decide (b ≤ 18446744073709551535)
def sevs (l : List Nat) : List UInt8 := l.flatMap sev
def putOid : List Nat → List UInt8
  | a :: b :: r => if putOk a b then sev (40 * a + b) ++ sevs r else []
  | _ => []
theorem sevs_take {l : List Nat} {k z : Nat} (h : l[k]? = some z) : sevs (l.take (k + 1)) = sevs (l.take k) ++ sev z := by
  rw [List.take_add_one, h]
  simp [sevs]
theorem sevs_len : ∀ (l : List Nat), (∀ z ∈ l, z < 18446744073709551616) → (sevs l).length ≤ 10 * l.length
  | [], _ => by simp [sevs]
  | z :: r, h => by
    have h1 := sev_len z (h z (by simp))
    have h2 := sevs_len r fun y hy => h y (by simp [hy])
    simp only [sevs, List.flatMap_cons, List.length_append, List.length_cons] at h2 ⊢
    omega
end Der

theorem putOid_ret {zs : List Nat} {w w' : World} (h : Der.putOid zs = []) (hb : Below w.heap.size w w') : RetOwn (Der.putOid zs) w (.returned (.slice none 0 0)) w' := by
  rw [h]; exact retOwn OwnB.nil_ hb

def big_ : Int := 18446744073709551535

theorem putOid_short (A : Option Addr) (n c : Nat) (zs : List Nat) (w : World) (h : RdU w w.heap.size A n c zs) (hn : n < 2) :
    Calls Tryd.prog 13 #[.slice A n c] w (RetOwn (Der.putOid zs) w) := by
  have hz : Der.putOid zs = [] := by
    have := h.len
    match zs, this with
    | [], _ => rfl
    | [_], _ => rfl
    | _ :: _ :: _, h => simp at h; omega
  have HZ := Lib.hid hz
  have hn' : (n : Int) < 2 := by omega
  clear h hz
  go_enter Tryd.func13, Tryd.ntmps13
  go_wp2
  exact bodyPost_ret (v := .slice none 0 0) (by simp [results, Tryd.results13, go_sem]) rfl (putOid_ret HZ.out (by (repeat (first | exact Below.refl _ _ | assumption | (refine Below.setCell ?_ (by first | omega | (simp; done) | (simp; omega)) _) | (refine Below.alloc ?_ (by first | omega | (simp; done) | (simp; omega)) _) | (refine below_drewN ?_ _) | (refine Below.drew ?_)))))

theorem putOid_no (b o n c x y : Nat) (zs : List Nat) (w : World) (hx : x < 18446744073709551616) (hy : y < 18446744073709551616) (hbw : b < w.heap.size) (h0 : w.cell? ⟨b, o, none⟩ = some (.int .u64 (x : Int))) (h1 : w.cell? ⟨b, o + 1, none⟩ = some (.int .u64 (y : Int))) (hz : Hid (Der.putOid zs = []))
    (hno : Der.putOk x y = false) (hn : 2 ≤ n) :
    Calls Tryd.prog 13 #[.slice (some ⟨b, o, none⟩) n c] w (RetOwn (Der.putOid zs) w) := by
  have hn' : ¬ (n : Int) < 2 := by omega
  have hn2 : (1 : Int) < n := by omega
  simp only [Der.putOk, Bool.and_eq_false_iff, Bool.or_eq_false_iff, decide_eq_false_iff_not] at hno
  by_cases hx2 : (2 : Int) < x
  · clear hno
    go_enter Tryd.func13, Tryd.ntmps13
    go_wp2
    exact bodyPost_ret (v := .slice none 0 0) (by simp [results, Tryd.results13, go_sem]) rfl (putOid_ret hz.out (by (repeat (first | exact Below.refl _ _ | assumption | (refine Below.setCell ?_ (by first | omega | (simp; done) | (simp; omega)) _) | (refine Below.alloc ?_ (by first | omega | (simp; done) | (simp; omega)) _) | (refine below_drewN ?_ _) | (refine Below.drew ?_)))))
  by_cases hx3 : (x : Int) < 2
  · by_cases hy2 : (39 : Int) < y
    · clear hno
      go_enter Tryd.func13, Tryd.ntmps13
      go_wp2
      exact bodyPost_ret (v := .slice none 0 0) (by simp [results, Tryd.results13, go_sem]) rfl (putOid_ret hz.out (by (repeat (first | exact Below.refl _ _ | assumption | (refine Below.setCell ?_ (by first | omega | (simp; done) | (simp; omega)) _) | (refine Below.alloc ?_ (by first | omega | (simp; done) | (simp; omega)) _) | (refine below_drewN ?_ _) | (refine Below.drew ?_)))))
    · exfalso; omega
  · have hy3 : (18446744073709551535 : Int) < y := by omega
    clear hno
    go_enter Tryd.func13, Tryd.ntmps13
    go_wp2
    exact bodyPost_ret (v := .slice none 0 0) (by simp [results, Tryd.results13, go_sem]) rfl (putOid_ret hz.out (by (repeat (first | exact Below.refl _ _ | assumption | (refine Below.setCell ?_ (by first | omega | (simp; done) | (simp; omega)) _) | (refine Below.alloc ?_ (by first | omega | (simp; done) | (simp; omega)) _) | (refine below_drewN ?_ _) | (refine Below.drew ?_)))))

theorem putSum_any (g x y : Nat) (v : Value) (xs : List UInt8) (w : World) (hB : Blk w g 22 #[v]) (ho : OwnB w (g + 1) w.heap.size v xs) (hN : 40 * x + y < 18446744073709551616) (hx : xs.length ≤ 17592186044416) :
    Calls Tryd.prog 25 #[.int .u64 (40 * (x : Int) + (y : Int)), .pointer (some ⟨g, 0, none⟩)] w (PutPost g xs (40 * x + y) w) := by
  have := put_any g (40 * x + y) v xs w hB ho hN hx
  rw [show ((40 * x + y : Nat) : Int) = 40 * (x : Int) + (y : Int) from by omega] at this
  exact this

set_option maxHeartbeats 2000000 in
theorem putOid_yes (b o n c x y : Nat) (rs : List Nat) (w : World) (h : RdU w w.heap.size (some ⟨b, o, none⟩) n c (x :: y :: rs)) (hx : x < 18446744073709551616) (hbw : b < w.heap.size) (h0 : w.cell? ⟨b, o, none⟩ = some (.int .u64 (x : Int))) (h1 : w.cell? ⟨b, o + 1, none⟩ = some (.int .u64 (y : Int)))
    (hok : Der.putOk x y = true) (hn : 2 ≤ n) (hn2 : n ≤ 1099511627) :
    Calls Tryd.prog 13 #[.slice (some ⟨b, o, none⟩) n c] w (RetOwn (Der.putOid (x :: y :: rs)) w) := by
  have hn' : ¬ (n : Int) < 2 := by omega
  have hn2 : (1 : Int) < n := by omega
  have hp : Der.putOid (x :: y :: rs) = Der.sev (40 * x + y) ++ Der.sevs rs := by rw [Der.putOid, if_pos hok]
  rw [hp]
  simp only [Der.putOk, Bool.and_eq_true, Bool.or_eq_true, decide_eq_true_eq] at hok
  have hx2 : ¬ (2 : Int) < x := by omega
  have hy3 : ¬ (18446744073709551535 : Int) < y := by omega
  have hlr : rs.length = n - 2 := by have := h.len; simp at this; omega
  obtain ⟨A1, hr1, c1, d1⟩ := run_dropU h.1 2 2 rfl (by omega)
  have hsm : 40 * x + y < 18446744073709551616 := by omega
  have hmul : IntKind.u64.wrap (40 * (x : Int)) = 40 * (x : Int) := by simp only [IntKind.wrap, IntKind.bits, IntKind.signed]; simp; omega
  have hcmp : ((x : Int) < 2 → ¬ (39 : Int) < y) := fun hlt => by omega
  have hn0 : 0 < n := by omega
  have hadd : IntKind.u64.wrap (40 * (x : Int) + (y : Int)) = 40 * (x : Int) + (y : Int) := by simp only [IntKind.wrap, IntKind.bits, IntKind.signed]; simp; omega
  have hmf : ∀ (fn : Fn) (first cap : Array Value) (w : World), (Instr.makeFunc fn first cap).run Tryd.prog w = .ok (.func fn first cap) w := fun _ _ _ _ => rfl
  have HR := Lib.hid (And.intro h (And.intro hr1 (And.intro hlr hsm)))
  clear hp hok h hr1 hlr
  by_cases hx3 : (x : Int) < 2
  all_goals
    try (have hy2 := hcmp hx3)
    clear hcmp
    go_enter Tryd.func13, Tryd.ntmps13
    go_wp2
    go_region_held3 (fun w' => w'.cell? ⟨b, o, none⟩ = some (.int .u64 (x : Int)) ∧ w'.cell? ⟨b, o + 1, none⟩ = some (.int .u64 (y : Int))) (go_keep)
      (first | (go_at_call 25; ((with_reducible refine (putSum_any w.heap.size x y (.slice none 0 0) [] _ (Blk.drew (Blk.new w 22 #[.slice none 0 0])) OwnB.nil_ HR.out.2.2.2 (by simp)).mono ?_); rintro e w2 ⟨rfl, v2, hB2, ho2, hb2⟩; have HP2 := Lib.hid (And.intro hB2 (And.intro ho2 hb2)); clear hB2 ho2; have k0 := (hb2.cell (p := ⟨b, o, none⟩) hbw).trans ((Below.drew (Below.alloc (Below.refl w.heap.size w) (Nat.le_refl _) (.cells #[.slice none 0 0] 22))).cell (p := ⟨b, o, none⟩) hbw |>.trans h0); have k1 := (hb2.cell (p := ⟨b, o + 1, none⟩) hbw).trans ((Below.drew (Below.alloc (Below.refl w.heap.size w) (Nat.le_refl _) (.cells #[.slice none 0 0] 22))).cell (p := ⟨b, o + 1, none⟩) hbw |>.trans h1))))
    go_wp2
    clear k0 k1 h0 h1
    have hbw2 : Below w.heap.size w w2 := Below.trans (by (repeat (first | exact Below.refl _ _ | assumption | (refine Below.setCell ?_ (by first | omega | (simp; done) | (simp; omega)) _) | (refine Below.alloc ?_ (by first | omega | (simp; done) | (simp; omega)) _) | (refine below_drewN ?_ _) | (refine Below.drew ?_)))) hb2
    have HW2 := Lib.hid hbw2
    clear hb2 hbw2
    go_loopw [47] (fun i wr => ∃ k : Nat, k ≤ n - 2 ∧ i = .int .i64 k ∧ ∃ v', Blk wr w.heap.size 22 #[v'] ∧ OwnB wr (w.heap.size + 1) wr.heap.size v' (Der.sev (40 * x + y) ++ Der.sevs (rs.take k)) ∧ Below w.heap.size w wr) (fun i _ => n - 2 - (intOf i).toNat)
    case atStart => exact ⟨0, by omega, rfl, v2, HP2.out.1, by simpa [Der.sevs] using HP2.out.2.1, HW2.out⟩
    case round =>
      obtain ⟨k, hk, rfl, v', hBv, hov, hbv⟩ := hrel
      by_cases hlt : k < n - 2
      · have hlt' : (k : Int) < (n : Int) - 2 := by omega
        have hlt2 : (k : Int) < ((n - 2 : Nat) : Int) := by omega
        obtain ⟨b2, o2, u, rfl, hb2, hu, hc⟩ := (HR.out.2.1.below hbv).get hlt
        have hz : ∃ z, rs[k]? = some z ∧ u = uv z := by
          simp only [List.map_cons, List.drop_succ_cons, List.drop_zero, List.getElem?_map, Option.map_eq_some_iff] at hu
          obtain ⟨z, h1, h2⟩ := hu
          exact ⟨z, h1, h2.symm⟩
        obtain ⟨z, hz, rfl⟩ := hz
        have hzl := HR.out.1.2 z (by simp [List.mem_of_getElem? hz])
        have hst := Der.sevs_take hz
        have hsl := Der.sevs_len (rs.take k) (fun q hq => HR.out.1.2 q (by simp [List.mem_of_mem_take hq]))
        have hs1 := Der.sev_len (40 * x + y) HR.out.2.2.2
        rw [List.length_take] at hsl
        have HB := Lib.hid (And.intro hBv (And.intro hov (And.intro hbv (And.intro hst (show (Der.sev (40 * x + y) ++ Der.sevs (rs.take k)).length ≤ 17592186044416 by rw [List.length_append]; omega)))))
        have hcz : wr.cell? ⟨b2, o2 + k, none⟩ = some (.int .u64 (z : Int)) := hc
        clear hBv hov hbv hst hu hz hc hsl hs1
        go_wp2_with fail
        refine (put_any w.heap.size z v' _ wr HB.out.1 HB.out.2.1 hzl HB.out.2.2.2.2).mono ?_
        rintro e w3 ⟨rfl, v3, hB3, ho3, hb3⟩
        have HC := Lib.hid (And.intro hB3 (And.intro ho3 hb3))
        clear hB3 ho3 hb3
        go_wp2
        go_roundw
        case rel => exact ⟨k + 1, by omega, by go_num, v3, HC.out.1, by rw [HB.out.2.2.2.1, ← List.append_assoc]; exact HC.out.2.1, HB.out.2.2.1.trans HC.out.2.2⟩
        case measure => simp [intOf]; omega
      · have hke : k = n - 2 := by omega
        have hge : ¬ (k : Int) < ((n - 2 : Nat) : Int) := by omega
        have htk : rs.take k = rs := List.take_of_length_le (by have := HR.out.2.2.1; omega)
        rw [htk] at hov
        obtain ⟨A5, n5, c5, rfl, _⟩ := hov.rd
        obtain ⟨hc0, hf0⟩ := hBv.facts
        have hB2 := (hBv.set_ 0 (.slice A5 n5 c5))
        obtain ⟨hc1, hf1⟩ := hB2.facts
        have HB := Lib.hid (And.intro hov hbv)
        clear hov hbv htk hBv hB2
        go_wp2
        exact bodyPost_ret (v := .slice A5 n5 c5) (by simp [results, Tryd.results13, go_sem, hc1]) rfl (retOwn (((HB.out.1.setCell (by simp) _).mono (by omega) (by simp))) (HB.out.2.setCell (by simp) _))

/-- PutOid, at any arcs. -/
theorem putOid_any (A : Option Addr) (n c : Nat) (zs : List Nat) (w : World) (h : RdU w w.heap.size A n c zs) (hn2 : n ≤ 1099511627) :
    Calls Tryd.prog 13 #[.slice A n c] w (RetOwn (Der.putOid zs) w) := by
  by_cases hn : n < 2
  · exact putOid_short A n c zs w h hn
  have hl := h.len
  obtain ⟨b, o, x, rfl, hb, hx, hxl, hc⟩ := h.get (k := 0) (by omega)
  obtain ⟨b', o', y, e, _, hy, hyl, hc'⟩ := h.get (k := 1) (by omega)
  injection e with e
  injection e with e1 e2
  subst e1 e2
  match zs, hl with
  | [], hl => simp at hl; omega
  | [_], hl => simp at hl; omega
  | p :: q :: rs, hl =>
    simp only [List.getElem?_cons_zero, List.getElem?_cons_succ, Option.some.injEq] at hx hy
    subst hx hy
    cases hok : Der.putOk p q with
    | true => exact putOid_yes b o n c p q rs w h hxl hb hc hc' hok (by omega) hn2
    | false => exact putOid_no b o n c p q _ w hxl hyl hb hc hc' (by rw [Hid, Der.putOid, if_neg (by rw [hok]; simp)]) hok (by omega)
end Go.Proofs.YtnfngnmajjkdbaaDoor
