/- slices.SortFunc at rows of bytes by bytes.Compare; slices.SortedFunc; der.Sets. -/
import Derived.Test.YtnfngnmajjkdbaaDoorSetC
import Derived.Test.YtnfngnmajjkdbaaDoorSetP
import Derived.Test.YtnfngnmajjkdbaaDoorCmp
import Derived.Test.YtnfngnmajjkdbaaDoorDer6
import Derived.Shelf.SlSortCmp.Whole1
import Derived.Shelf.Lay
import Derived.Ground.SlsfProg
namespace Go.Proofs.YtnfngnmajjkdbaaDoor
open Go.RowKit Go.Shelf
open Go.Sort (Holds PermIn SortedIn SWO)
set_option maxRecDepth 100000
set_option linter.unusedVariables false
set_option linter.unusedSimpArgs false

shelf_lay_g SlLaysF.n6 Slsf 6 at Tryd 40 as Tryd.sortB

theorem sortWorld_below {α : Type} [Inhabited α] (enc : α → Value) (w : World) (blk off m : Nat) (dk : Array α) (os : Array Obj) {B : Nat} (hB : B ≤ blk) (hs : blk < w.heap.size) : Below B w (sortWorld enc w blk off m dk os) := by
  unfold sortWorld
  have hp : (Go.Sort.putRow enc (Go.Sort.ahead w m) blk off dk).heap.size = w.heap.size := by rw [size_putRow]; rfl
  refine ⟨rfl, rfl, rfl, by rw [Go.Sort.size_grow, hp]; omega, fun k hk => ?_⟩
  rw [Go.Sort.heap_grow_old _ _ (by rw [hp]; omega)]
  show (w.heap.modify blk _)[k]? = _
  rw [Array.getElem?_modify, if_neg (by omega)]

/-- The parts of a list, each with its being there. -/
abbrev PL (L : List (Value × List UInt8)) : Type := { p : Value × List UInt8 // p ∈ L }
def PL.enc {L : List (Value × List UInt8)} (x : PL L) : Value := x.1.1
def PL.cf {L : List (Value × List UInt8)} (x y : PL L) : Int := Lib.compareBytes x.1.2 y.1.2
theorem PL.lt {L : List (Value × List UInt8)} (x y : PL L) : ltOf PL.cf x y = Op.bytesLess x.1.2 y.1.2 := cmp_neg _ _
theorem PL.swo {L : List (Value × List UInt8)} [Inhabited (PL L)] : SWO (ltOf (PL.cf (L := L))) where
  irrefl x := by rw [PL.lt]; exact bl_irrefl _
  trans x y z h1 h2 := by rw [PL.lt] at *; exact bl_trans _ _ _ h1 h2
  ntrans x y z h1 h2 := by rw [PL.lt] at *; exact bl_ntrans _ _ _ h1 h2

set_option maxHeartbeats 1000000 in
theorem sortRow_any (g cap : Nat) (L : List (Value × List UInt8)) (hne : L ≠ []) (w : World) {n₀ : Nat} {cur : Array Value} (hB : w.heap[g]? = some (.cells cur 22 (0, 0))) (hcur : cur.toList.take L.length = vals L) (hn : n₀ ≤ g)
    (hL : ∀ v xs, (v, xs) ∈ L → RdV w n₀ v xs) (hsz : L.length ≤ 1099511627776) :
    Calls Tryd.prog 40 #[.slice (some ⟨g, 0, none⟩) L.length cap, .func (.func 27) #[] #[]] w fun e w' => e = .returned (.tuple #[]) ∧ Below n₀ w w' ∧
      ∃ L' : List (Value × List UInt8), L'.Perm L ∧ Ord (L'.map (·.2)) ∧ ∀ j v, (vals L')[j]? = some v → w'.cell? ⟨g, j, none⟩ = some v := by
  obtain ⟨p0, hp0⟩ : ∃ p, p ∈ L := List.exists_mem_of_ne_nil L hne
  letI : Inhabited (PL L) := ⟨⟨p0, hp0⟩⟩
  have hg : g < w.heap.size := (Array.getElem?_eq_some_iff.1 hB).1
  have eg : ∀ args w, (callFunc 27 args).run Tryd.prog w = .ok (.enter 27 args) w := enters_of Tryd.func27 (by kernel_rfl) rfl
  have hds : L.attach.toArray.size = L.length := by simp
  have h1 : OneCell (PL.enc (L := L)) := fun x => by
    obtain ⟨A1, n1, c1, e1, _⟩ := hL x.1.1 x.1.2 x.2
    show x.1.1.oneCell' = true
    rw [e1]; rfl
  have hcmp : CmpLays1 Tryd.prog 27 #[] (PL.enc (L := L)) PL.cf g 0 L.attach.toArray.size w := fun m os dk _ x y => by
    obtain ⟨A1, n1, c1, e1, r1⟩ := hL x.1.1 x.1.2 x.2
    obtain ⟨A2, n2, c2, e2, r2⟩ := hL y.1.1 y.1.2 y.2
    have hb := sortWorld_below (PL.enc (L := L)) w g 0 m dk os hn hg
    show Calls _ _ (#[x.1.1, y.1.1] ++ #[]) _ _
    rw [e1, e2]
    exact (compare_any A1 A2 n1 c1 n2 c2 x.1.2 y.1.2 n₀ n₀ _ (r1.below hb) (r2.below hb)).mono fun e w' ⟨he, hw⟩ => ⟨he, 0, #[], by rw [hw, Go.Sort.grow_empty]; rfl⟩
  have hH : Holds (PL.enc (L := L)) w g 0 L.attach.toArray := fun j hj => by
    have hj' : j < L.length := by rw [← hds]; exact hj
    have hv : (vals L)[j]? = some L[j].1 := by simp [vals, hj']
    rw [← hcur, List.getElem?_take, if_pos hj'] at hv
    have he : (L.attach.toArray)[j]! = ⟨L[j], List.getElem_mem hj'⟩ := by
      rw [getElem!_pos _ j hj]; simp
    rw [he, Nat.zero_add]
    refine ⟨?_, ?_⟩
    · simp only [World.cell?, hB]
      simpa [PL.enc] using hv
    · simp [World.frozen?, hB]
  have hcon := Any.slices_SortFunc Tryd.sortB PL.enc h1 PL.cf PL.swo 27 #[] g 0 cap L.attach.toArray w eg hcmp hH hg (by rw [hds]; omega)
  rw [hds] at hcon
  refine hcon.mono ?_
  rintro e w' ⟨rfl, d', n, os, hp, hs, rfl⟩
  have hps : d'.size = L.length := by rw [hp.1, hds]
  have hpp : d'.toList.Perm L.attach := by
    have h3 := hp.2.2
    rw [Array.extract_eq_self_of_le (by rw [hps]; exact Nat.le_refl _), Array.extract_eq_self_of_le (by rw [hds]; exact Nat.le_refl _)] at h3
    simpa using h3
  refine ⟨rfl, sortWorld_below _ _ _ _ _ _ _ hn hg, d'.toList.map (·.1), ?_, ?_, ?_⟩
  · have := hpp.map (·.1)
    have e : L.attach.map (·.1) = L := List.attach_map_subtype_val L
    rw [e] at this
    exact this
  · unfold Ord
    rw [List.map_map, List.pairwise_map, List.pairwise_iff_getElem]
    intro i j hi hj hij
    have hi' : i < d'.size := by simpa using hi
    have hj' : j < d'.size := by simpa using hj
    have := hs i j (Nat.zero_le _) hij (by rw [← hps]; exact hj')
    rw [PL.lt, getElem!_pos d' i hi', getElem!_pos d' j hj'] at this
    simpa using this
  · intro j v hv
    have hjl : j < d'.size := by
      have := (List.getElem?_eq_some_iff.1 hv).1
      simpa [vals] using this
    have := (holds_sortWorld (PL.enc (L := L)) w g 0 n L.attach.toArray d' os hg hH (by rw [hds, hps]) j hjl).1
    rw [Nat.zero_add] at this
    rw [this, getElem!_pos d' j hjl]
    simp [vals, hjl] at hv
    rw [← hv]; rfl

/-! No element: nothing turns (the lines of the library's own proof, turned to this program). -/
set_option maxHeartbeats 1000000 in
theorem insNone_any (p : Option Addr) (cap : Nat) (fv : Value) (w : World) : Calls Tryd.prog 49 #[.slice p 0 cap, .int .i64 0, .int .i64 0, fv] w fun e w' => e = .returned (.tuple #[]) ∧ w' = w := by
  go_enter Tryd.func49, Tryd.ntmps49
  go_wp2
  refine wp_loop_rounds 1 ?_
  rw [rounds_succ]
  go_wp2
  go_end0
  exact ⟨rfl, rfl⟩
set_option maxHeartbeats 1000000 in
theorem pdqNone_any (p : Option Addr) (cap : Nat) (lim : Int) (fv : Value) (w : World) : Calls Tryd.prog 46 #[.slice p 0 cap, .int .i64 0, .int .i64 0, .int .i64 lim, fv] w fun e w' => e = .returned (.tuple #[]) ∧ w' = w := by
  have hi := fun W => insNone_any p cap fv W
  go_enter Tryd.func46, Tryd.ntmps46
  go_wp2
  refine wp_loop_rounds 1 ?_
  rw [rounds_succ]
  go_wp2_with (go_at_call 49; refine (hi _).mono ?_; rintro e w' ⟨rfl, rfl⟩)
  (try simp only [Exit.inBlock, Exit.then]); refine bodyPost_ret (results_none rfl _ _ _) rfl ?_
  exact ⟨rfl, rfl⟩
set_option maxHeartbeats 1000000 in
theorem sortNil_any (p : Option Addr) (cap : Nat) (fv : Value) (w : World) : Calls Tryd.prog 40 #[.slice p 0 cap, fv] w fun e w' => e = .returned (.tuple #[]) ∧ w' = w := by
  have hp := fun lim W => pdqNone_any p cap lim fv W
  have hl : ∀ W, Calls Tryd.prog 47 #[.int .u64 0] W fun e w' => e = .returned (.int .i64 (Lib.bitLen 0 : Nat)) ∧ w' = W := fun W => by
    have h := Any.bits_Len (SlLaysF0.n15.bits { Tryd.sortB with }) 0 W (by omega) (by omega)
    exact h
  go_enter Tryd.func40, Tryd.ntmps40
  go_wp2_with (first | (go_at_call 47; refine (hl _).mono ?_; rintro e w' ⟨rfl, rfl⟩) | (go_at_call 46; refine (hp _ _).mono ?_; rintro e w' ⟨rfl, rfl⟩))
  go_end0
  exact ⟨rfl, rfl⟩

set_option maxHeartbeats 1000000 in
theorem sortedFunc_any (Bn : Nat) (A : Option Addr) (m c : Nat) (L : List (Value × List UInt8)) (w : World) (hr : RdL w w.heap.size A m c L) (hm : m ≤ 1099511627776) (hBn : w.cell? ⟨Bn, 0, none⟩ = some (.slice A m c)) (hBl : Bn < w.heap.size) :
    Calls Tryd.prog 28 #[.func (.func 41) #[] #[.pointer (some ⟨Bn, 0, none⟩)], .func (.func 27) #[] #[]] w fun e w' => ∃ (A' : Option Addr) (m' c' : Nat) (L' : List (Value × List UInt8)),
      e = .returned (.slice A' m' c') ∧ RdL w' w'.heap.size A' m' c' L' ∧ L'.Perm L ∧ Ord (L'.map (·.2)) ∧ Below w.heap.size w w' := by
  have hlen := hr.len
  have hcol := collect_any Bn A m c L w hr hm hBn hBl
  go_enter Tryd.func28, Tryd.ntmps28
  go_wp2_with fail
  refine hcol.mono ?_
  rintro e w1 ⟨v, rfl, hrow, hb⟩
  rw [vals_len, hlen] at hrow
  have HR := Lib.hid (And.intro hr hrow)
  clear hcol hr
  rcases hrow.2 with ⟨rfl, h0⟩ | ⟨g, cap, cur, rfl, hg0, hgb, hle, hmax, hcs, htk⟩
  · obtain rfl : L = [] := List.eq_nil_of_length_eq_zero (by omega)
    clear hrow
    go_wp2_with fail
    refine (sortNil_any none 0 _ w1).mono ?_
    rintro e w2 ⟨rfl, rfl⟩
    go_wp2
    go_ret
    exact ⟨none, 0, 0, [], rfl, ⟨rfl, Nat.le_refl _, by omega, Reads.none_, fun _ _ h => by cases h⟩, List.Perm.refl _, List.Pairwise.nil, hb⟩
  · have HH := Lib.hid (And.intro hle (And.intro hmax (And.intro hgb (And.intro htk hb))))
    clear hrow hgb htk hcs hle hmax hb
    by_cases hm0 : m = 0
    · subst hm0
      obtain rfl : L = [] := List.eq_nil_of_length_eq_zero hlen
      clear hlen
      go_wp2_with fail
      refine (sortNil_any (some ⟨g, 0, none⟩) cap _ w1).mono ?_
      rintro e w2 ⟨rfl, rfl⟩
      go_wp2
      go_ret
      exact ⟨_, _, _, [], rfl, ⟨rfl, Nat.zero_le _, by simpa [maxLen] using HH.out.2.1, ⟨by simp, fun h => absurd h (by simp)⟩, fun _ _ h => by cases h⟩, List.Perm.refl _, List.Pairwise.nil, HH.out.2.2.2.2⟩
    · have hne : L ≠ [] := fun e => hm0 (by rw [← hlen, e]; rfl)
      have hso := sortRow_any g cap L hne w1 (n₀ := w.heap.size) HH.out.2.2.1 (by have := HH.out.2.2.2.1; rw [hlen]; simpa using this) hg0 (fun v xs h => (HR.out.1.each v xs h).below HH.out.2.2.2.2) (by omega)
      rw [hlen] at hso
      have HSO := Lib.hid hso
      clear hso
      go_wp2_with fail
      refine HSO.out.mono ?_
      rintro e w2 ⟨rfl, hb2, L', hp, ho, hc⟩
      have H2 := Lib.hid (And.intro hb2 (And.intro hp (And.intro ho hc)))
      clear hb2 hp ho hc
      go_wp2
      go_ret
      obtain ⟨hle, hmax, hgb, _, hb⟩ := HH.out
      obtain ⟨hb2, hp, ho, hc⟩ := H2.out
      have hb3 := hb.trans hb2
      have hgl : g < w1.heap.size := (Array.getElem?_eq_some_iff.1 hgb).1
      refine ⟨_, _, _, L', rfl, ⟨hp.length_eq.trans hlen, by simpa using hle, by simpa [maxLen] using hmax, ⟨by simp [hp.length_eq, hlen], fun _ => ⟨_, rfl, ?_, ?_⟩⟩, fun v xs h => ((HR.out.1.each v xs (hp.mem_iff.1 h)).below hb3).more hb3.size⟩, hp, ho, hb3⟩
      · exact Nat.lt_of_lt_of_le hgl hb2.size
      · intro j u hu
        rw [Addr.add_lit, Nat.zero_add]
        exact hc j u hu
end Go.Proofs.YtnfngnmajjkdbaaDoor
