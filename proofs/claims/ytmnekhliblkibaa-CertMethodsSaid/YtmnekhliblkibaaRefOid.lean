/- The contract of the reference's PutOid. -/
import Derived.Test.YtmnekhliblkibaaRefPut
import Derived.Test.YtmnekhliblkibaaCase2
import Derived.Deep.DeepAppendWide
import Derived.BigQuiet
import Derived.BigRegion
import Derived.Deep.QuietTactic
import Derived.Deep.RegionHeld3
namespace Go.Proofs.Ytmnekhliblkibaa
open Go.RowKit
set_option maxRecDepth 100000
set_option linter.unusedVariables false
set_option linter.unusedSimpArgs false

theorem wpList_appW {w : World} {ops : Array Oper} {rest : List Oper} {o : Oper} {a : Act} {Q : Exit → Act → World → Prop} (hgd : o.guard = none) (s x : Operand)
    (ho : o.op = .call { callee := .builtin .append, args := #[s, x], argTypes := #[22, 22] })
    (lo hi : Nat) (v : Value) (xs : List UInt8) (hs : a.eval s = v) (hown : OwnB w lo hi v xs) (hlo : lo ≤ w.heap.size)
    (B : Nat) (A : Option Addr) (m c : Nat) (news : List UInt8) (hx : a.eval x = .slice A m c) (hr : Reads w B 1 A m (news.map bv)) (hlen : xs.length + m ≤ 193514046488576)
    (h : ∀ v' w', OwnB w' lo w'.heap.size v' (xs ++ news) → Below lo w w' → wpList Try.prog ops Q rest (a.put o.dst v') w') :
    wpList Try.prog ops Q (o :: rest) a w := by
  obtain ⟨i0, hi0, hz0, hz1, hz2⟩ := info_parts u8_info
  have hm : news.length = m := by have := hr.1; simp at this; omega
  have hlt : ∀ k, v.ownBlock = some k → lo ≤ k := fun k hk => (hown.1.lt k hk).1
  obtain ⟨v', w', hrun, h2, h3⟩ : ∃ v' w', (Builtin.append_ #[22, 22] o.type #[v, .slice A m c]).run Try.prog w = .ok v' w' ∧ OwnB w' lo w'.heap.size v' (xs ++ news) ∧ w.grownBy w' v.ownBlock := by
    rcases A with _ | ad
    · have h0 : m = 0 := by
        rcases Nat.eq_zero_or_pos m with h0 | h0
        · exact h0
        · obtain ⟨ad, e, _⟩ := hr.2 h0
          cases e
      subst h0
      have hn : news = [] := List.eq_nil_of_length_eq_zero hm
      subst hn
      refine ⟨v, w, run_append_of_nil w lo 22 o.type 5 i0 1 Try.underlying22 hi0 v xs.length (xs.map bv) hown.1 c, ?_, World.grownBy.refl w _⟩
      rw [List.append_nil]
      exact OwnB.of hown.1
    · have hcells : ∀ j u, (news.map bv)[j]? = some u → w.cell? (ad.add j) = some u := by
        intro j u hu
        rcases Nat.eq_zero_or_pos m with h0 | h0
        · have hn : news = [] := List.eq_nil_of_length_eq_zero (by omega)
          subst hn
          simp at hu
        · obtain ⟨ad', e, _, hc⟩ := hr.2 h0
          injection e with e
          subst e
          exact hc j u hu
      obtain ⟨v', w', hrun, h2, h3, _⟩ := run_append_own_wide (P := Try.prog) w lo 22 o.type 5 i0 _ 1 1 Try.underlying22 hi0 hz0 hz1 hz2 rfl (by omega) v xs.length (xs.map bv) hown.1 ad m c (news.map bv) (by simp; omega) hcells (bv_one news) (by simp only [maxLen]; omega) (by omega) hlo
      exact ⟨v', w', hrun, OwnB.of (by rw [List.map_append]; exact h2), h3⟩
  exact wpList_append_run hgd s x 22 22 ho v (.slice A m c) v' hs hx hrun (h v' w' h2 ((Below.refl _ _).grown h3 hlo hlt))

/-- A slice of numbers that reads as zs. -/
structure RdU (w : World) (B : Nat) (A : Option Addr) (n c : Nat) (zs : List Nat) : Prop where
  len : zs.length = n
  few : n ≤ 17592186044416
  small : ∀ z ∈ zs, z < 18446744073709551616
  spot : 0 < n → ∃ b o, A = some ⟨b, o, none⟩ ∧ b < B ∧ ∀ (j z : Nat), zs[j]? = some z → w.cell? ⟨b, o + j, none⟩ = some (.int .u64 (z : Int))
theorem RdU.keep {w w' : World} {B : Nat} {A : Option Addr} {n c : Nat} {zs : List Nat} (h : RdU w B A n c zs) (hk : ∀ p : Addr, p.block < B → w'.cell? p = w.cell? p) : RdU w' B A n c zs := by
  refine ⟨h.len, h.few, h.small, fun h0 => ?_⟩
  obtain ⟨b, o, e, hB, hc⟩ := h.spot h0
  exact ⟨b, o, e, hB, fun j z hz => (hk ⟨b, o + j, none⟩ hB).trans (hc j z hz)⟩
theorem RdU.more {w : World} {B B' : Nat} {A : Option Addr} {n c : Nat} {zs : List Nat} (h : RdU w B A n c zs) (hB : B ≤ B') : RdU w B' A n c zs := by
  refine ⟨h.len, h.few, h.small, fun h0 => ?_⟩
  obtain ⟨b, o, e, hb, hc⟩ := h.spot h0
  exact ⟨b, o, e, by omega, hc⟩
theorem RdU.below {w w' : World} {B : Nat} {A : Option Addr} {n c : Nat} {zs : List Nat} (h : RdU w B A n c zs) (hb : Below B w w') : RdU w' B A n c zs := h.keep fun _ hp => hb.cell hp
theorem RdU.up {w w' : World} {A : Option Addr} {n c : Nat} {zs : List Nat} (h : RdU w w.heap.size A n c zs) (hb : Below w.heap.size w w') : RdU w' w'.heap.size A n c zs := (h.below hb).more hb.size
theorem RdU.get {w : World} {B : Nat} {A : Option Addr} {n c : Nat} {zs : List Nat} (h : RdU w B A n c zs) {k : Nat} (hk : k < n) : ∃ b o z, A = some ⟨b, o, none⟩ ∧ b < B ∧ zs[k]? = some z ∧ z < 18446744073709551616 ∧ w.cell? ⟨b, o + k, none⟩ = some (.int .u64 (z : Int)) := by
  obtain ⟨b, o, e, hB, hc⟩ := h.spot (by omega)
  have hz : zs[k]? = some (zs[k]'(by have := h.len; omega)) := List.getElem?_eq_getElem _
  exact ⟨b, o, _, e, hB, hz, h.small _ (List.getElem_mem _), hc k _ hz⟩

theorem sevs_take {l : List Nat} {k z : Nat} (h : l[k]? = some z) : Der.sevs (l.take (k + 1)) = Der.sevs (l.take k) ++ Der.sev z := by
  rw [List.take_add_one, h]
  simp [Der.sevs]
theorem sevs_len : ∀ (l : List Nat), (∀ z ∈ l, z < 18446744073709551616) → (Der.sevs l).length ≤ 10 * l.length
  | [], _ => by simp [Der.sevs]
  | z :: r, h => by
    have h1 := (sev_ten z (h z (by simp))).2
    have h2 := sevs_len r fun y hy => h y (by simp [hy])
    simp only [Der.sevs, List.flatMap_cons, List.length_append, List.length_cons] at h2 ⊢
    omega

theorem refOid_ret {zs : List Nat} {w w' : World} (h : Der.putOid zs = []) (hb : Below w.heap.size w w') : RetOwn (Der.putOid zs) w (.returned (.slice none 0 0)) w' := by
  rw [h]; exact retOwn OwnB.nil_ hb

theorem refOid_short (A : Option Addr) (n c : Nat) (zs : List Nat) (w : World) (h : RdU w w.heap.size A n c zs) (hn : n < 2) :
    Calls Try.prog 36 #[.slice A n c] w (RetOwn (Der.putOid zs) w) := by
  have hz : Der.putOid zs = [] := by
    have := h.len
    match zs, this with
    | [], _ => rfl
    | [_], _ => rfl
    | _ :: _ :: _, h => simp at h; omega
  have HZ := Lib.hid hz
  have hn' : (n : Int) < 2 := by omega
  clear h hz
  go_enter Try.func36, Try.ntmps36
  go_wp2
  go_ret
  exact refOid_ret HZ.out (Below.refl _ _)

theorem refOid_no (b o n c x y : Nat) (zs : List Nat) (w : World) (hx : x < 18446744073709551616) (hy : y < 18446744073709551616) (hbw : b < w.heap.size) (h0 : w.cell? ⟨b, o, none⟩ = some (.int .u64 (x : Int))) (h1 : w.cell? ⟨b, o + 1, none⟩ = some (.int .u64 (y : Int))) (hz : Hid (Der.putOid zs = []))
    (hno : Der.putOk x y = false) (hn : 2 ≤ n) :
    Calls Try.prog 36 #[.slice (some ⟨b, o, none⟩) n c] w (RetOwn (Der.putOid zs) w) := by
  have hn' : ¬ (n : Int) < 2 := by omega
  have hn2 : (1 : Int) < n := by omega
  have hn0 : 0 < n := by omega
  simp only [Der.putOk, Bool.and_eq_false_iff, Bool.or_eq_false_iff, decide_eq_false_iff_not] at hno
  by_cases hx2 : (2 : Int) < x
  · clear hno
    go_enter Try.func36, Try.ntmps36
    go_wp2
    go_ret
    exact refOid_ret hz.out (Below.refl _ _)
  by_cases hx3 : (x : Int) < 2
  · by_cases hy2 : (40 : Int) ≤ y
    · clear hno
      go_enter Try.func36, Try.ntmps36
      go_wp2
      go_ret
      exact refOid_ret hz.out (Below.refl _ _)
    · have hy3 : (18446744073709551535 : Int) < y := by omega
      exfalso; omega
  · have hy3 : (18446744073709551535 : Int) < y := by omega
    clear hno
    go_enter Try.func36, Try.ntmps36
    go_wp2
    go_ret
    exact refOid_ret hz.out (Below.refl _ _)

theorem sevsum_any (x y : Nat) (w : World) (h : 40 * x + y < 18446744073709551616) : Calls Try.prog 58 #[.int .u64 (40 * (x : Int) + (y : Int))] w (RetOwn (Der.sev (40 * x + y)) w) := by
  have := sevens_any (40 * x + y) w h
  rw [show ((40 * x + y : Nat) : Int) = 40 * (x : Int) + (y : Int) by omega] at this
  exact this

set_option maxHeartbeats 2000000 in
theorem refOid_yes (b o n c x y : Nat) (rs : List Nat) (w : World) (h : RdU w w.heap.size (some ⟨b, o, none⟩) n c (x :: y :: rs)) (hx : x < 18446744073709551616) (hbw : b < w.heap.size) (h0 : w.cell? ⟨b, o, none⟩ = some (.int .u64 (x : Int))) (h1 : w.cell? ⟨b, o + 1, none⟩ = some (.int .u64 (y : Int)))
    (hok : Der.putOk x y = true) (hn : 2 ≤ n) :
    Calls Try.prog 36 #[.slice (some ⟨b, o, none⟩) n c] w (RetOwn (Der.putOid (x :: y :: rs)) w) := by
  have hn' : ¬ (n : Int) < 2 := by omega
  have hn2 : (1 : Int) < n := by omega
  have hn44 := h.few
  have hp : Der.putOid (x :: y :: rs) = Der.sev (40 * x + y) ++ Der.sevs rs := by rw [Der.putOid, if_pos hok]
  rw [hp]
  simp only [Der.putOk, Bool.and_eq_true, Bool.or_eq_true, decide_eq_true_eq] at hok
  have hx2 : ¬ (2 : Int) < x := by omega
  have hy3 : ¬ (18446744073709551535 : Int) < y := by omega
  have hlr : rs.length = n - 2 := by have := h.len; simp at this; omega
  have hsm : 40 * x + y < 18446744073709551616 := by omega
  have hmul : IntKind.u64.wrap (40 * (x : Int)) = 40 * (x : Int) := by simp only [IntKind.wrap, IntKind.bits, IntKind.signed]; simp; omega
  have hcmp : ((x : Int) < 2 → ¬ (40 : Int) ≤ y) := fun hlt => by omega
  have hn0 : 0 < n := by omega
  have hadd : IntKind.u64.wrap (40 * (x : Int) + (y : Int)) = 40 * (x : Int) + (y : Int) := by simp only [IntKind.wrap, IntKind.bits, IntKind.signed]; simp; omega
  have HR := Lib.hid (And.intro h (And.intro hlr hsm))
  clear hp hok h hlr
  by_cases hx3 : (x : Int) < 2
  all_goals
    try (have hy2 := hcmp hx3)
    clear hcmp
    go_enter Try.func36, Try.ntmps36
    go_wp2
    go_region_held3 (fun w' => w'.cell? ⟨b, o, none⟩ = some (.int .u64 (x : Int)) ∧ w'.cell? ⟨b, o + 1, none⟩ = some (.int .u64 (y : Int))) (go_keep)
      (first | (go_at_call 58; ((with_reducible refine (sevsum_any x y _ HR.out.2.2).mono ?_); rintro en w1 ⟨A1, n1, c1, rfl, ho1, hb1⟩; have H1 := Lib.hid (And.intro ho1 (show Below w.heap.size w w1 from ⟨hb1.os, hb1.tape, hb1.output, hb1.size, hb1.block⟩)); have k0 : w1.cell? ⟨b, o, none⟩ = some (.int .u64 (x : Int)) := (hb1.cell (p := ⟨b, o, none⟩) hbw).trans h0; have k1 : w1.cell? ⟨b, o + 1, none⟩ = some (.int .u64 (y : Int)) := (hb1.cell (p := ⟨b, o + 1, none⟩) hbw).trans h1; have hs1 : w.heap.size ≤ w1.heap.size := hb1.size; clear ho1 hb1)))
    go_wp2
    clear k0 k1 h0 h1
    go_loopw [3, 4] (fun v i wr => ∃ k : Nat, 2 ≤ k ∧ k ≤ n ∧ i = .int .i64 k ∧ OwnB wr w.heap.size wr.heap.size v (Der.sev (40 * x + y) ++ Der.sevs (rs.take (k - 2))) ∧ Below w.heap.size w wr) (fun _ i _ => n - (intOf i).toNat)
    case atStart => exact ⟨2, by omega, by omega, rfl, by simpa [Der.sevs] using H1.out.1, H1.out.2⟩
    case round =>
      obtain ⟨k, hk2, hk, rfl, hov, hbv⟩ := hrel
      obtain ⟨Av, mv, dv, rfl, _⟩ := hov.rd
      by_cases hlt : k < n
      · have hlt' : (k : Int) < (n : Int) := by omega
        obtain ⟨b2, o2, z, e, hb2, hu, hzl, hc⟩ := (HR.out.1.below hbv).get hlt
        injection e with e
        injection e with e1 e2
        subst e1 e2
        have hz : rs[k - 2]? = some z := by
          obtain ⟨m, rfl⟩ : ∃ m, k = m + 2 := ⟨k - 2, by omega⟩
          simpa using hu
        have hst := sevs_take hz
        have hsl := sevs_len (rs.take (k - 2)) (fun q hq => HR.out.1.small q (by simp [List.mem_of_mem_take hq]))
        have hs1 := (sev_ten (40 * x + y) HR.out.2.2).2
        have hsz := (sev_ten z hzl).2
        rw [List.length_take] at hsl
        have hlen : (Der.sev (40 * x + y) ++ Der.sevs (rs.take (k - 2))).length + 10 ≤ 193514046488576 := by rw [List.length_append]; omega
        have HB := Lib.hid (And.intro hov (And.intro hbv (And.intro hst (And.intro hlen hsz))))
        have hbs := hbv.size
        clear hov hbv hst hu hz hsl hs1 hlen hsz
        go_wp2_with fail
        refine (sevens_any z wr hzl).mono ?_
        rintro en w3 ⟨A3, n3, c3, rfl, ho3, hb3⟩
        have hl3 := ownB_len ho3
        have hs3 := hb3.size
        have hov3 : OwnB w3 w.heap.size wr.heap.size (.slice Av mv dv) (Der.sev (40 * x + y) ++ Der.sevs (rs.take (k - 2))) := HB.out.1.below hb3 (Nat.le_refl _)
        have HC := Lib.hid (And.intro ho3.rdx (And.intro hov3 (And.intro hb3 hl3)))
        clear ho3 hov3 hb3 hl3
        go_wp2_with (first
          | (at_builtin; refine wpList_appW rfl (.tmp 47) (.tmp 52) rfl w.heap.size wr.heap.size _ _ rfl HC.out.2.1 (by omega) _ _ _ _ (Der.sev z) rfl HC.out.1.rds (by have := HB.out.2.2.2.1; have := HB.out.2.2.2.2; have := HC.out.2.2.2; omega) ?_; intro v4 w4 ho4 hb4; have HD := Lib.hid (And.intro ho4 hb4); clear ho4 hb4)
          | fail)
        go_roundw
        case rel => exact ⟨k + 1, by omega, by omega, by go_num, by rw [show k + 1 - 2 = (k - 2) + 1 by omega, HB.out.2.2.1, ← List.append_assoc]; exact HD.out.1, (HB.out.2.1.trans (HC.out.2.2.1.mono (by omega))).trans HD.out.2⟩
        case measure => simp [intOf]; omega
      · obtain rfl : k = n := by omega
        have htk : rs.take (k - 2) = rs := List.take_of_length_le (by have := HR.out.2.1; omega)
        rw [htk] at hov
        have HB := Lib.hid (And.intro hov hbv)
        clear hov hbv htk
        go_wp2
        go_ret
        exact retOwn HB.out.1 HB.out.2

/-- PutOid, at any arcs. -/
theorem refOid_any (A : Option Addr) (n c : Nat) (zs : List Nat) (w : World) (h : RdU w w.heap.size A n c zs) :
    Calls Try.prog 36 #[.slice A n c] w (RetOwn (Der.putOid zs) w) := by
  by_cases hn : n < 2
  · exact refOid_short A n c zs w h hn
  have hl := h.len
  obtain ⟨b, o, x, rfl, hb, hx, hxl, hc⟩ := h.get (k := 0) (by omega)
  obtain ⟨b', o', y, e, _, hy, hyl, hc'⟩ := h.get (k := 1) (by omega)
  injection e with e
  injection e with e1 e2
  subst e1 e2
  match zs, hl with
  | [], hl => simp at hl; omega
  | [_], hl => simp at hl; omega
  | p :: q :: rs, hl =>
    simp only [List.getElem?_cons_zero, List.getElem?_cons_succ, Option.some.injEq] at hx hy
    subst hx hy
    cases hok : Der.putOk p q with
    | true => exact refOid_yes b o n c p q rs w h hxl hb hc hc' hok (by omega)
    | false => exact refOid_no b o n c p q _ w hxl hyl hb hc hc' (by rw [Hid, Der.putOid, if_neg (by rw [hok]; simp)]) hok (by omega)
end Go.Proofs.Ytmnekhliblkibaa
