/- The sections put in the measure's order: slices.SortedFunc with the measure's own closure (XPeSort turned). -/
import Derived.Test.YtmpladnglfiejaaGreatDoorPK
namespace Go.Proofs.YtmpladnglfiejaaGreatDoor
open Go.RowKit Go.Shelf
open Go.Sort (Holds PermIn SortedIn SWO flatK get_flatK putRowK HoldsK)
set_option maxRecDepth 100000
set_option linter.unusedVariables false
set_option linter.unusedSimpArgs false
theorem secCmpM_any (x y : Nat × Nat) (W : World) : Calls Tryz.prog 39 #[.agg #[.int .u32 (x.1 : Int), .int .u32 (x.2 : Int)], .agg #[.int .u32 (y.1 : Int), .int .u32 (y.2 : Int)]] W fun e w' => e = .returned (.int .i64 (secCf x y)) ∧ ∃ q os', w' = Go.Sort.grow (W.drewN q) os' := by
  have hcon := fun W' => cmp_any x.1 y.1 W'
  unfold secCf
  generalize Lib.compareInt (x.1 : Int) (y.1 : Int) = r at hcon ⊢
  go_enter Tryz.func39, Tryz.ntmps39
  go_wp2_with (go_at_call 40; refine (hcon _).mono ?_; rintro e w' ⟨rfl, rfl⟩)
  go_ret
  exact ⟨rfl, 0, _, by rw [Go.Sort.alloc_eq_grow, Go.Sort.alloc_eq_grow, Go.Sort.grow_grow]; rfl⟩
theorem sortWorldK_ty (w : World) (blk off m : Nat) (dk : Array (Nat × Nat)) (os : Array Obj) {cur : Array Value} {t : TypeId} {fr : Nat × Nat} (h : w.heap[blk]? = some (.cells cur t fr)) : ∃ cs, (sortWorldK secC 2 w blk off m dk os).heap[blk]? = some (.cells cs t fr) := by
  unfold sortWorldK putRowK
  have hs : blk < w.heap.size := (Array.getElem?_eq_some_iff.1 h).1
  have hp : (Go.Sort.putRow id (Go.Sort.ahead w m) blk off (flatK secC 2 dk)).heap.size = w.heap.size := by rw [size_putRow]; rfl
  rw [Go.Sort.heap_grow_old _ _ (by rw [hp]; exact hs)]
  show ∃ cs, (w.heap.modify blk _)[blk]? = some (.cells cs t fr)
  rw [Array.getElem?_modify, if_pos rfl, h]
  exact ⟨_, rfl⟩
set_option maxHeartbeats 1000000 in
theorem sortSecM_any (g cap : Nat) (L : List (Nat × Nat)) (w : World) {n₀ : Nat} {cur : Array Value} (hB : w.heap[g]? = some (.cells cur 59 (0, 0))) (hcur : cur.toList.take (L.length * 2) = L.flatMap secC) (hn : n₀ ≤ g) (hsz : L.length ≤ 1099511627776) :
    Calls Tryz.prog 62 #[.slice (some ⟨g, 0, none⟩) L.length cap, .func (.func 39) #[] #[]] w fun e w' => e = .returned (.tuple #[]) ∧ Below n₀ w w' ∧
      ∃ L' : List (Nat × Nat), L'.Perm L ∧ Pe.Rising L' ∧ (∀ j v, (L'.flatMap secC)[j]? = some v → w'.cell? ⟨g, j, none⟩ = some v) ∧ ∃ cs, w'.heap[g]? = some (.cells cs 59 (0, 0)) := by
  have hg : g < w.heap.size := (Array.getElem?_eq_some_iff.1 hB).1
  have eg : ∀ args w, (callFunc 39 args).run Tryz.prog w = .ok (.enter 39 args) w := enters_of Tryz.func39 (by kernel_rfl) rfl
  have hcmp : CmpLays Tryz.prog 39 #[] secC 2 secCf g 0 L.toArray.size w := fun _ _ _ _ x y => secCmpM_any x y _
  have hH : HoldsK secC 2 w g 0 L.toArray := fun j hj => by
    have hj' : j < L.length * 2 := by simpa using hj
    have hv := sec_flat L j hj'
    rw [← hcur, List.getElem?_take, if_pos hj'] at hv
    rw [Nat.zero_add]
    refine ⟨?_, ?_⟩
    · simp only [World.cell?, hB]
      simpa using hv
    · simp [World.frozen?, hB]
  have hcon := AnyQ.slices_SortFunc Tryz.sortS 2 sec_isAgg sec_sizeOf secC (fun _ => rfl) (fun x v hv => by simp [secC] at hv; rcases hv with rfl | rfl <;> rfl) secCf sec_swo 39 #[] g 0 cap L.toArray w eg hcmp hH hg (by simp; omega)
  rw [List.size_toArray] at hcon
  refine hcon.mono ?_
  rintro e w' ⟨rfl, d', n, os, hp, hs, rfl⟩
  have hps : d'.size = L.length := by rw [hp.1]; simp
  have hpp : d'.toList.Perm L := by
    have h3 := hp.2.2
    rw [Array.extract_eq_self_of_le (by rw [hps]; exact Nat.le_refl _), Array.extract_eq_self_of_le (by simp)] at h3
    simpa using h3
  refine ⟨rfl, sortWorldK_below _ _ _ _ _ _ hn hg, d'.toList, hpp, ?_, ?_, sortWorldK_ty _ _ _ _ _ _ hB⟩
  · unfold Pe.Rising
    rw [List.pairwise_iff_getElem]
    intro i j hi hj hij
    have hi' : i < d'.size := by simpa using hi
    have hj' : j < d'.size := by simpa using hj
    have := hs i j (Nat.zero_le _) hij (by rw [← hps]; exact hj')
    rw [sec_lt, getElem!_pos d' i hi', getElem!_pos d' j hj'] at this
    simp at this
    simpa using this
  · intro j v hv
    have hjl : j < d'.toList.length * 2 := by
      have := (List.getElem?_eq_some_iff.1 hv).1
      rwa [secC_len] at this
    have hv2 := sec_flat d'.toList j hjl
    rw [hv] at hv2
    injection hv2 with hv2
    have hh := holdsK_sortWorldK_c secC 2 w g 0 L.toArray d' n os hH hg (by simpa using hps) j (by simpa using hjl)
    have h1 := hh.1
    rw [Nat.zero_add] at h1
    rw [h1, hv2]
    simp

/-- The sections in their order, in a row of the call's own. -/
def SortedPostM (L : List (Nat × Nat)) (w : World) (e : Ending) (w' : World) : Prop :=
  ∃ (A' : Option Addr) (m' c' : Nat) (L' : List (Nat × Nat)), e = .returned (.slice A' m' c') ∧ RdS w' w'.heap.size A' m' c' L' ∧ L'.Perm L ∧ Pe.Rising L' ∧ Below w.heap.size w w' ∧ ∀ b o, A' = some ⟨b, o, none⟩ → w.heap.size ≤ b ∧ ∃ cs, w'.heap[b]? = some (.cells cs 59 (0, 0))
set_option maxHeartbeats 1000000 in
theorem sortedSecM_any (Bn : Nat) (A : Option Addr) (m c : Nat) (L : List (Nat × Nat)) (w : World) (hr : RdS w w.heap.size A m c L) (hm : m ≤ 1099511627776) (hBn : w.cell? ⟨Bn, 0, none⟩ = some (.slice A m c)) (hBl : Bn < w.heap.size) :
    Calls Tryz.prog 37 #[.func (.func 63) #[] #[.pointer (some ⟨Bn, 0, none⟩)], .func (.func 39) #[] #[]] w (SortedPostM L w) := by
  have hlen := hr.len
  have hcol := collect_any Bn A m c L w hr hm hBn hBl
  go_enter Tryz.func37, Tryz.ntmps37
  go_wp2_with fail
  refine hcol.mono ?_
  rintro e w1 ⟨v, rfl, hrow, hb⟩
  rw [hlen] at hrow
  have HR := Lib.hid (And.intro hr hrow)
  clear hcol hr
  rcases hrow.2 with ⟨rfl, h0⟩ | ⟨g, cap, cur, rfl, hg0, hgb, hle, hmax, hcs, htk⟩
  · obtain rfl : L = [] := List.eq_nil_of_length_eq_zero (by omega)
    clear hrow
    go_wp2_with fail
    refine (sortNil_any none 0 _ w1).mono ?_
    rintro e w2 ⟨rfl, rfl⟩
    go_wp2
    go_ret
    exact ⟨none, 0, 0, [], rfl, RdS.none_, List.Perm.refl _, List.Pairwise.nil, hb, fun _ _ e => by cases e⟩
  · have HH := Lib.hid (And.intro hle (And.intro hmax (And.intro hgb (And.intro htk hb))))
    clear hrow hgb htk hcs hle hmax hb
    have hso := sortSecM_any g cap L w1 (n₀ := w.heap.size) HH.out.2.2.1 (by have := HH.out.2.2.2.1; rw [hlen]; exact this) hg0 (by omega)
    rw [hlen] at hso
    have HSO := Lib.hid hso
    clear hso
    go_wp2_with fail
    refine HSO.out.mono ?_
    rintro e w2 ⟨rfl, hb2, L', hp, ho, hc, hty⟩
    have H2 := Lib.hid (And.intro hb2 (And.intro hp (And.intro ho (And.intro hc hty))))
    clear hb2 hp ho hc hty
    go_wp2
    go_ret
    obtain ⟨hle, hmax, hgb, _, hb⟩ := HH.out
    obtain ⟨hb2, hp, ho, hc, hty⟩ := H2.out
    have hb3 := hb.trans hb2
    have hgl : g < w1.heap.size := (Array.getElem?_eq_some_iff.1 hgb).1
    have hg2 : g < _ := Nat.lt_of_lt_of_le hgl hb2.size
    refine ⟨_, _, _, L', rfl, ⟨hp.length_eq.trans hlen, by simpa using hle, by simpa [maxLen] using hmax, fun _ => ⟨g, 0, rfl, hg2⟩, ⟨by rw [secC_len, hp.length_eq, hlen], fun _ => ⟨_, rfl, hg2, ?_⟩⟩⟩, hp, ho, hb3, fun b o e => by injection e with e; injection e with e _; subst e; exact ⟨by omega, hty⟩⟩
    intro j u hu
    rw [Addr.add_lit, Nat.zero_add]
    exact hc j u hu
end Go.Proofs.YtmpladnglfiejaaGreatDoor
