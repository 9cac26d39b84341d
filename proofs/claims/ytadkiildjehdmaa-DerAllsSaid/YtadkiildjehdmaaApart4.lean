/- The contracts of lintellaw10.apart, lintelref10.One. -/
import Derived.Test.YtadkiildjehdmaaApart3
import Derived.Test.YtadkiildjehdmaaElems
import Derived.Deep.RegionHeld3
import Derived.Deep.AppendLies
namespace Go.Proofs.Ytadkiildjehdmaa
open Go.RowKit
set_option maxRecDepth 100000
set_option linter.unusedVariables false
set_option linter.unusedSimpArgs false

/-- append, as one step of a region. -/
theorem step_appC {P : Program} {w : World} {ops : Array Oper} {o : Oper} {a : Act} {K : Act → World → Prop} {Q : Exit → Act → World → Prop} {E : Prop} (hgd : o.guard = none) (s x : Operand) (t : TypeId)
    (ho : o.op = .call { callee := .builtin .append, args := #[s, x], argTypes := #[t, t] })
    (e : TypeId) (z : Value) (size bytes : Nat) (hinfo : (P.info? e).map (fun i => (i.zero, i.size, i.bytes)) = some (some z, size, bytes)) (ht : P.underlying t = some (.slice e)) (hzs : z.cells.size = size) (hsz : 0 < size)
    (lo hi : Nat) (v : Value) (n : Nat) (xs : List Value) (hs : a.eval s = v) (hown : OwnC e size w lo hi v n xs) (hlo : lo ≤ w.heap.size)
    (B : Nat) (A : Option Addr) (m c : Nat) (news : List Value) (hx : a.eval x = .slice A m c) (hr : Reads w B size A m news) (h1 : ∀ u ∈ news, u.oneCell' = true) (h63 : n + m ≤ 9223372036854775807) (hlen : (n + m) * bytes ≤ 140737488355328)
    (h : ∀ v' w', OwnC e size w' lo w'.heap.size v' (n + m) (xs ++ news) → w.grownBy w' v.ownBlock → (v'.ownBlock = v.ownBlock ∨ v'.ownBlock = some w.heap.size) → Below lo w w' → K (a.put o.dst v') w') :
    if Region.wanted o (yielded ops a.tmps) = true then Oper.wp P o a w K Q else E := by
  obtain ⟨i0, hi0, hz0, hz1, hz2⟩ := info_parts hinfo
  refine step_append_any w hgd s x t ho lo e i0 z size bytes ht hi0 hz0 hz1 hz2 hzs hsz v n xs hs hown.1 B A m c news hx hr h1 (by simp only [maxLen]; omega) hlen hlo ?_
  intro v' w' g1 g2 g3
  exact h v' w' (OwnC.of g1) g2 g3 ((Below.refl _ _).grown g2 hlo fun k hk => (hown.1.lt k hk).1)

theorem reads_two (w : World) (t : TypeId) (a b : Value) : Reads (w.alloc (.cells #[a, b] t)) (w.heap.size + 1) 1 (some ⟨w.heap.size, 0, none⟩) 2 [a, b] := by
  refine ⟨rfl, fun _ => ⟨_, rfl, by simp, fun j x hx => ?_⟩⟩
  rw [Addr.add_lit]
  have := (Blk.new w t #[a, b]).cell (0 + j)
  rw [this, Nat.zero_add]
  simpa using hx

/-- The elements' cells. -/
def ElC (w : World) (A : Option Addr) (le : List EI) : Prop :=
  ∀ (k : Nat) (x : EI), le[k]? = some x → ∃ gl, A = some ⟨gl, 0, none⟩ ∧ gl < w.heap.size ∧ w.cell? ⟨gl, k * 3 + 1, none⟩ = some x.vb ∧ w.cell? ⟨gl, k * 3 + 2, none⟩ = some x.vr
def rowVals (le : List EI) : List Value := le.flatMap fun x => [x.vb, x.vr]
theorem rowVals_eq (le : List EI) : rowVals le = (le.flatMap EI.rows).map (·.1) := by
  unfold rowVals
  induction le with
  | nil => rfl
  | cons x r ih => simp only [List.flatMap_cons, List.map_append, ih]; rfl
theorem rowVals_len (le : List EI) : (rowVals le).length = 2 * le.length := by
  unfold rowVals
  induction le with
  | nil => rfl
  | cons x r ih => simp only [List.flatMap_cons, List.length_append, ih, List.length_cons, List.length_nil]; omega
theorem rows_len (le : List EI) : (le.flatMap EI.rows).length = 2 * le.length := by
  have := congrArg List.length (rowVals_eq le)
  rw [rowVals_len, List.length_map] at this
  exact this.symm
theorem rowVals_take {le : List EI} {k : Nat} {x : EI} (h : le[k]? = some x) : rowVals (le.take (k + 1)) = rowVals (le.take k) ++ [x.vb, x.vr] := by
  rw [List.take_add_one, h]
  simp [rowVals]

/-- The block and the cells of a row. -/
theorem OwnC.cells_ {e : TypeId} {n c : Nat} {w : World} {lo hi : Nat} {A : Option Addr} {cs : List Value} (h : OwnC e 1 w lo hi (.slice A n c) n cs) (hn : 0 < n) :
    ∃ g cur, A = some ⟨g, 0, none⟩ ∧ lo ≤ g ∧ g < hi ∧ Blk w g e cur ∧ ∀ (j : Nat) u, cs[j]? = some u → cur[j]? = some u := by
  rcases h.1.2 with ⟨_, e0⟩ | ⟨g, cap, cur, e1, hb, hg, hnc, hcm, hcs, ht⟩
  · omega
  · simp only [Value.slice.injEq] at e1
    obtain ⟨rfl, _, rfl⟩ := e1
    refine ⟨g, cur, rfl, hb, h.2 g rfl, hg, fun j u hu => ?_⟩
    rw [← ht, List.getElem?_take] at hu
    split at hu
    · simpa using hu
    · cases hu

set_option maxHeartbeats 2000000 in
theorem apart_any (lo hi : Nat) (A A' : Option Addr) (n c n' c' : Nat) (le : List EI) (lm : List (Value × List UInt8)) (w : World) (hl : le.length = n) (hE : ElC w A le) (hm : lm.length = n') (hm0 : 0 < n') (hM : Reads w w.heap.size 1 A' n' (lm.map (·.1)))
    (hr : ∀ p ∈ le.flatMap EI.rows ++ lm, OwnB w lo hi p.1 p.2) (hap : Apart' (le.flatMap EI.rows ++ lm)) (hlo : lo ≤ hi) (hhi : hi ≤ w.heap.size) (hn : 2 * n + n' ≤ 1099511627) (hx : ∀ p ∈ le.flatMap EI.rows ++ lm, p.2.length ≤ 1099511627) :
    Calls Try.prog 25 #[.slice A n c, .slice A' n' c'] w fun e w' => e = .returned (.bool true) ∧ Below lo w w' := by
  have H := Lib.hid (And.intro hl (And.intro hE (And.intro hm (And.intro hM (And.intro hr (And.intro hap hx))))))
  clear hl hE hm hM hr hap hx
  go_enter Try.func25, Try.ntmps25
  go_wp2
  go_loopw [5, 6] (fun v i wr => ∃ k : Nat, k ≤ n ∧ i = .int .i64 k ∧ OwnC 22 1 wr w.heap.size wr.heap.size v (2 * k) (rowVals (le.take k)) ∧ Below w.heap.size w wr) (fun _ i _ => n - (intOf i).toNat)
  case atStart => exact ⟨0, Nat.zero_le _, rfl, OwnC.nil_, Below.refl _ _⟩
  case round =>
    obtain ⟨k, hk, rfl, ho, hb⟩ := hrel
    have hsz := hb.size
    by_cases hlt : k < n
    · have hlt' : (k : Int) < n := by omega
      have hx : le[k]? = some (le[k]'(by have := H.out.1; omega)) := List.getElem?_eq_getElem _
      obtain ⟨x, hxe⟩ : ∃ x, le[k]'(by have := H.out.1; omega) = x := ⟨_, rfl⟩
      rw [hxe] at hx
      clear hxe
      obtain ⟨gl, rfl, hgl, hc1, hc2⟩ := H.out.2.1 k x hx
      have hmem := List.mem_of_getElem? hx
      obtain ⟨A1, n1, c1, e1, _⟩ := (H.out.2.2.2.2.1 (x.vb, x.body) (List.mem_append.2 (.inl (List.mem_flatMap.2 ⟨x, hmem, by simp [EI.rows]⟩)))).rd
      obtain ⟨A2, n2, c2, e2, _⟩ := (H.out.2.2.2.2.1 (x.vr, x.raw) (List.mem_append.2 (.inl (List.mem_flatMap.2 ⟨x, hmem, by simp [EI.rows]⟩)))).rd
      dsimp only at e1 e2
      have hrv := rowVals_take hx
      rw [e1] at hc1 hrv
      rw [e2] at hc2 hrv
      have k1 : wr.cell? ⟨gl, k * 3 + 1, none⟩ = some (.slice A1 n1 c1) := (hb.cell (p := ⟨gl, k * 3 + 1, none⟩) hgl).trans hc1
      have k2 : wr.cell? ⟨gl, k * 3 + 2, none⟩ = some (.slice A2 n2 c2) := (hb.cell (p := ⟨gl, k * 3 + 2, none⟩) hgl).trans hc2
      have HO := Lib.hid (And.intro ho (And.intro hb hrv))
      clear ho hb hrv e1 e2 hc1 hc2 hx hmem
      go_wp2
      go_region_held3 (fun w' => w'.cell? ⟨gl, k * 3 + 1, none⟩ = some (.slice A1 n1 c1) ∧ w'.cell? ⟨gl, k * 3 + 2, none⟩ = some (.slice A2 n2 c2))
        (first | go_keep | (refine ⟨(hb6.cell (p := ⟨gl, k * 3 + 1, none⟩) (by simp; omega)).trans ?_, (hb6.cell (p := ⟨gl, k * 3 + 2, none⟩) (by simp; omega)).trans ?_⟩ <;> go_keep))
        ((refine step_appC (by rfl) (.tmp 13) (.tmp 24) 35 (by rfl) 22 _ 1 24 bs_info Try.underlying35 rfl (by omega) w.heap.size wr.heap.size _ (2 * k) (rowVals (le.take k)) (by rfl) ((HO.out.1.alloc (Nat.le_refl _) _).drewN 1) (by simp; omega) _ _ 2 2 [.slice A1 n1 c1, .slice A2 n2 c2] (by rfl) (Reads.drewN (reads_two wr _ _ _) 1) (by simp [Value.oneCell']) (by omega) (by omega) ?_; intro v6 w6 ho6 hg6 hat6 hb6))
      go_wp2
      go_roundw
      case rel => exact ⟨k + 1, by omega, by go_num, by rw [HO.out.2.2]; exact ho6, HO.out.2.1.trans (Below.trans (by (repeat (first | exact Below.refl _ _ | assumption | (refine Below.setCell ?_ (by first | omega | (simp; done) | (simp; omega)) _) | (refine Below.alloc ?_ (by first | omega | (simp; done) | (simp; omega)) _) | (refine below_drewN ?_ _) | (refine Below.drew ?_)))) hb6)⟩
      case measure => simp [intOf]; omega
    · obtain rfl : n = k := by omega
      have hge : ¬ (n : Int) < n := by omega
      have ht : le.take n = le := List.take_of_length_le (by have := H.out.1; omega)
      rw [ht] at ho
      have HO := Lib.hid (And.intro ho hb)
      clear ho hb ht
      go_wp2_with
        (at_builtin
         refine wpList_appC rfl (.tmp 26) (.tmp 27) 35 rfl 22 _ 1 24 bs_info Try.underlying35 rfl (by omega) w.heap.size wr.heap.size _ (2 * n) (rowVals le) rfl HO.out.1 (by omega) w.heap.size A' n' c' (lm.map (·.1)) rfl (H.out.2.2.2.1.below HO.out.2) (fun u hu => by
           obtain ⟨p, hp, rfl⟩ := List.mem_map.1 hu
           obtain ⟨A3, n3, c3, e3, _⟩ := (H.out.2.2.2.2.1 p (List.mem_append.2 (.inr hp))).rd
           rw [e3]; rfl) (by omega) (by omega) ?_
         intro v6 w6 ho6 hg6 hat6 hb6
         obtain ⟨A6, c6, rfl, _, _, _, _⟩ := ho6.shape
         have H6 := Lib.hid (And.intro ho6 hb6)
         clear ho6 hg6 hat6 hb6)
      have hbw : Below w.heap.size w w6 := HO.out.2.trans H6.out.2
      obtain ⟨g6, cur, rfl, hg1, hg2, hB6, hcur⟩ := H6.out.1.cells_ (by omega)
      have hin : ApIn w6 lo hi g6 (2 * n + n') cur (le.flatMap EI.rows ++ lm) := {
        blk := hB6
        above := by omega
        len := by rw [List.length_append, rows_len, H.out.1, H.out.2.2.1]
        cells := fun j p hp => hcur j p.1 (by rw [rowVals_eq, ← List.map_append, List.getElem?_map, hp]; rfl)
        rows := fun p hp => (H.out.2.2.2.2.1 p hp).below hbw hhi
        apart := H.out.2.2.2.2.2.1
        lo_ := hlo
        size := hn
        sizes := H.out.2.2.2.2.2.2 }
      have HI := Lib.hid hin
      clear hin hcur hB6
      go_wp2_with fail
      refine (Apart_any _ _ _ _ _ _ _ _ HI.out).mono ?_
      rintro e w7 ⟨rfl, hb7⟩
      go_wp2
      go_ret
      exact ⟨rfl, (hbw.mono (by omega)).trans hb7⟩

/-- The same element? -/
theorem one_any (t : UInt8) (A1 A2 A3 A4 : Option Addr) (n1 c1 n2 c2 n3 c3 n4 c4 : Nat) (b r : List UInt8) (B : Nat) (w : World)
    (h1 : Rd w B A1 n1 c1 b) (h2 : Rd w B A2 n2 c2 r) (h3 : Rd w B A3 n3 c3 b) (h4 : Rd w B A4 n4 c4 r) (hB : B ≤ w.heap.size) :
    Calls Try.prog 22 #[.agg #[.int .u8 (t.toNat : Int), .slice A1 n1 c1, .slice A2 n2 c2], .agg #[.int .u8 (t.toNat : Int), .slice A3 n3 c3, .slice A4 n4 c4]] w fun e w' => e = .returned (.bool true) ∧ Below w.heap.size w w' := by
  have H := Lib.hid (And.intro h1 (And.intro h2 (And.intro h3 h4)))
  clear h1 h2 h3 h4
  go_enter Try.func22, Try.ntmps22
  go_wp2_with fail
  refine (eqbytes_same _ _ _ _ _ _ _ _ _ _ ((H.out.1.alloc hB _).alloc (by simp; omega) _) ((H.out.2.2.1.alloc hB _).alloc (by simp; omega) _)).mono ?_
  rintro e w1 ⟨rfl, rfl⟩
  go_wp2_with fail
  refine (eqbytes_same _ _ _ _ _ _ _ _ _ _ ((H.out.2.1.alloc hB _).alloc (by simp; omega) _) ((H.out.2.2.2.alloc hB _).alloc (by simp; omega) _)).mono ?_
  rintro e w1 ⟨rfl, rfl⟩
  go_wp2
  go_ret
  exact ⟨rfl, by (repeat (first | exact Below.refl _ _ | assumption | (refine Below.setCell ?_ (by first | omega | (simp; done) | (simp; omega)) _) | (refine Below.alloc ?_ (by first | omega | (simp; done) | (simp; omega)) _) | (refine below_drewN ?_ _) | (refine Below.drew ?_)))⟩
end Go.Proofs.Ytadkiildjehdmaa
