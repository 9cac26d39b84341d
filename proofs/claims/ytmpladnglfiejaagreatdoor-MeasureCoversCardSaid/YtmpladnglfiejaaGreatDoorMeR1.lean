/- The measure's iterator: it hands on where the bytes lie. -/
import Derived.Test.YtmpladnglfiejaaGreatDoorMeSort
namespace Go.Proofs.YtmpladnglfiejaaGreatDoor
open Go.RowKit Go.Shelf
attribute [local go_sem] Oper.semAt_some
set_option maxRecDepth 100000
set_option linter.unusedVariables false
set_option linter.unusedSimpArgs false

def endOf (h : Nat) (S : List (Nat × Nat)) : Nat := S.foldl (fun _ s => s.1 + s.2) h
/-- The places, in numbers. -/
def rngs (ck dr hd last : Nat) (S : List (Nat × Nat)) : List (Nat × Nat) :=
  [(0, ck), (ck + 4, dr), (dr + 8, hd)] ++ S.map (fun s => (s.1, s.1 + s.2)) ++ (if endOf hd S < last then [(endOf hd S, last)] else [])
def base3 (ck dr hd : Nat) : List (Nat × Nat) := [(0, ck), (ck + 4, dr), (dr + 8, hd)]
def secR (s : Nat × Nat) : Nat × Nat := (s.1, s.1 + s.2)
theorem rngs_split (ck dr hd last : Nat) {S : List (Nat × Nat)} {k : Nat} {x : Nat × Nat} (h : S[k]? = some x) :
    (base3 ck dr hd ++ (S.take k).map secR) ++ secR x :: ((S.drop (k + 1)).map secR ++ (if endOf hd S < last then [(endOf hd S, last)] else [])) = rngs ck dr hd last S := by
  have e : S = S.take k ++ x :: S.drop (k + 1) := by
    obtain ⟨hk, hx⟩ := List.getElem?_eq_some_iff.1 h
    subst hx
    rw [List.getElem_cons_drop, List.take_append_drop]
  unfold rngs
  conv => rhs; rw [show S.map (fun s => (s.1, s.1 + s.2)) = (S.take k ++ x :: S.drop (k + 1)).map secR from by rw [← e]; rfl]
  rw [List.map_append, List.map_cons]
  simp [base3]
theorem rngs_end (ck dr hd last : Nat) (S : List (Nat × Nat)) :
    rngs ck dr hd last S = (base3 ck dr hd ++ S.map secR) ++ (if endOf hd S < last then [(endOf hd S, last)] else []) := rfl
theorem endOf_take {hd : Nat} {S : List (Nat × Nat)} {k : Nat} {x : Nat × Nat} (h : S[k]? = some x) : endOf hd (S.take (k + 1)) = x.1 + x.2 := by
  rw [take_snoc h, endOf, List.foldl_append]
  rfl
/-- Rows of sections are as they were. -/
def KSec (w w' : World) : Prop := ∀ (k : Nat) (cs : Array Value), w.heap[k]? = some (.cells cs 59 (0, 0)) → w'.heap[k]? = w.heap[k]?
def pairV (v : Nat × Nat) : Array Value := #[.int .i64 (v.1 : Int), .int .i64 (v.2 : Int)]
set_option maxHeartbeats 4000000 in
theorem rangesM_in (n : Nat) (hn : 1 ≤ n) (l Pn Bn : Nat) (C : IV) (Ab : Option Addr) (m c : Nat) (L S : List (Nat × Nat)) (hsec : C.secs = .slice Ab m c) (hm : m ≤ 1048576)
    (hS : ∀ S', S'.Perm L → Pe.Rising S' → S' = S) (N last : Nat) (hlast : (N : Int) - (C.length : Int) = (last : Int))
    (hck : C.check ≤ 4294967296) (hdr : C.dir ≤ 4294967296) (hhd : C.headers < 4294967296) (hlen : C.length < 4294967296) (hNl : N ≤ 4294967296) (hSl : ∀ s ∈ S, s.1 < 4294967296 ∧ s.2 < 4294967296)
    (J : List (Nat × Nat) → World → Prop) (hJb : ∀ s X, J s X → (∀ o, X.cell? ⟨Pn, o, none⟩ = C.cells[o]?) ∧ X.cell? ⟨Bn, 0, none⟩ = some (.int .i64 (N : Int)) ∧ RdS X X.heap.size Ab m c L) (hJa : ∀ s X Y, J s X → Below X.heap.size X Y → J s Y)
    (hY : ∀ pre v post W, J pre W → pre ++ v :: post = rngs C.check C.dir C.headers last S → YieldAt Fence.wide (n - 1) Tryz.prog l (pairV v) W fun e W' => e = .returned (.bool true) ∧ J (pre ++ [v]) W' ∧ KSec W W')
    (W : World) (h0 : J [] W) :
    CallsIn Fence.wide n Tryz.prog 36 #[.func (.yield l) #[] #[], .pointer (some ⟨Pn, 0, none⟩), .pointer (some ⟨Bn, 0, none⟩)] W fun e W' => (∃ v, e = .returned v) ∧ J (rngs C.check C.dir C.headers last S) W' := by
  have hb0 := hJb _ _ h0
  have c1 : W.cell? ⟨Pn, 1, none⟩ = some (.int .i64 (C.check : Int)) := hb0.1 1
  have c2 : W.cell? ⟨Pn, 2, none⟩ = some (.int .i64 (C.dir : Int)) := hb0.1 2
  have c3 : W.cell? ⟨Pn, 3, none⟩ = some (.int .u32 (C.headers : Int)) := hb0.1 3
  obtain ⟨ck, hck'⟩ : ∃ k, C.check = k := ⟨_, rfl⟩
  obtain ⟨dr, hdr'⟩ : ∃ k, C.dir = k := ⟨_, rfl⟩
  obtain ⟨hd, hhd'⟩ : ∃ k, C.headers = k := ⟨_, rfl⟩
  obtain ⟨ln, hln'⟩ : ∃ k, C.length = k := ⟨_, rfl⟩
  rw [hck'] at hck c1 hY ⊢
  rw [hdr'] at hdr c2 hY ⊢
  rw [hhd'] at hhd c3 hY ⊢
  rw [hln'] at hlen hlast
  obtain ⟨fn, tmps, assign, body, hy, hR⟩ := hY [] (0, ck) _ _ h0 rfl
  rw [show pairV (0, ck) = #[.int .i64 0, .int .i64 (ck : Int)] from rfl] at hy
  have HC := Lib.hid (And.intro trivial (And.intro trivial (And.intro hS (And.intro hJb (And.intro hJa (And.intro hY (And.intro hsec (And.intro hck' (And.intro hdr' (And.intro hhd' (And.intro hln' hSl)))))))))))
  clear hS hJb hJa hY hb0 h0 hsec hck' hdr' hhd' hln' hSl
  refine callsIn_of_wp Tryz.func36 rfl trivial ?_ rfl
  simp only [Tryz.ntmps36, List.size_toArray, List.length_cons, List.length_nil, Nat.reduceAdd, Nat.reduceSub, Array.replicate_succ, Array.replicate_zero, List.push_toArray, List.append_toArray, List.nil_append, List.cons_append]
  gi_wp2
  refine hR.mono ?_
  rintro e W1 ⟨rfl, hJ1, _⟩
  have hb1 := HC.out.2.2.2.1 _ _ hJ1
  have d1 : W1.cell? ⟨Pn, 1, none⟩ = some (.int .i64 (C.check : Int)) := hb1.1 1
  have d2 : W1.cell? ⟨Pn, 2, none⟩ = some (.int .i64 (C.dir : Int)) := hb1.1 2
  rw [HC.out.2.2.2.2.2.2.2.1] at d1
  rw [HC.out.2.2.2.2.2.2.2.2.1] at d2
  obtain ⟨fn1, tmps1, assign1, body1, hy1, hR1⟩ := HC.out.2.2.2.2.2.1 [(0, ck)] (ck + 4, dr) _ _ hJ1 rfl
  rw [show pairV (ck + 4, dr) = #[.int .i64 ((ck : Int) + 4), .int .i64 (dr : Int)] from rfl] at hy1
  have hR1 := Lib.hid hR1
  clear hR hy c1 c2 c3 hJ1 hb1
  gi_wp2
  refine hR1.out.mono ?_
  rintro e W2 ⟨rfl, hJ2, _⟩
  have hb2 := HC.out.2.2.2.1 _ _ hJ2
  have d1 : W2.cell? ⟨Pn, 1, none⟩ = some (.int .i64 (C.check : Int)) := hb2.1 1
  have d2 : W2.cell? ⟨Pn, 2, none⟩ = some (.int .i64 (C.dir : Int)) := hb2.1 2
  have d3 : W2.cell? ⟨Pn, 4, none⟩ = some C.secs := hb2.1 4
  rw [HC.out.2.2.2.2.2.2.2.1] at d1
  rw [HC.out.2.2.2.2.2.2.2.2.1] at d2
  rw [HC.out.2.2.2.2.2.2.1] at d3
  obtain ⟨fn2, tmps2, assign2, body2, hy2, hR2⟩ := HC.out.2.2.2.2.2.1 [(0, ck), (ck + 4, dr)] (dr + 8, hd) _ _ hJ2 rfl
  rw [show pairV (dr + 8, hd) = #[.int .i64 ((dr : Int) + 8), .int .i64 (hd : Int)] from rfl] at hy2
  have hR2 := Lib.hid hR2
  clear hR1 hy1 hJ2 hb2
  gi_wp2
  refine hR2.out.mono ?_
  rintro e W3 ⟨rfl, hJ3, _⟩
  clear hR2 hy2 d1 d2 d3
  have hb3 := HC.out.2.2.2.1 _ _ hJ3
  have d3 : W3.cell? ⟨Pn, 4, none⟩ = some C.secs := hb3.1 4
  rw [HC.out.2.2.2.2.2.2.1] at d3
  have hr4 : RdS (W3.alloc (.cells #[.slice Ab m c] 27)) (W3.alloc (.cells #[.slice Ab m c] 27)).heap.size Ab m c L := hb3.2.2.up ((Below.refl _ _).alloc (Nat.le_refl _) _)
  have hso := sortedSecM_any W3.heap.size Ab m c L _ hr4 (by omega) (by simp) (by simp)
  have H3 := Lib.hid (And.intro hJ3 (And.intro hb3 (And.intro trivial hso)))
  clear hJ3 hb3 hr4 hso
  gi_wp2
  refine ⟨trivial, (callsIn_wide.2 (secValues_any Ab m c W3)).mono ?_⟩
  rintro e W4 ⟨rfl, rfl⟩
  clear d3
  gi_wp2
  refine ⟨trivial, (callsIn_wide.2 H3.out.2.2.2).mono ?_⟩
  rintro e W5 ⟨A5, m5, c5, S5, rfl, hr5, hp5, hri5, hb45, hlo5⟩
  obtain rfl : S5 = S := HC.out.2.2.1 S5 hp5 hri5
  have hb35 : Below W3.heap.size W3 W5 := ((Below.refl _ _).alloc (Nat.le_refl _) _).trans (hb45.mono (by simp))
  have hJ5 := HC.out.2.2.2.2.1 _ _ _ H3.out.1 hb35
  have hm5 : m5 ≤ 1048576 := by rw [← hr5.len, hp5.length_eq, H3.out.2.1.2.2.len]; exact hm
  have hSm := hr5.len
  have H5 := Lib.hid (And.intro hr5 (And.intro hlo5 (And.intro hJ5 hSm)))
  clear hr5 hp5 hri5 hb45 hlo5 hb35 hJ5 hSm
  gi_wp2
  gi_loopw [4, 40] (fun en i wr => ∃ k : Nat, k ≤ m5 ∧ i = .int .i64 (k : Int) ∧ en = .int .i64 ((endOf hd (S5.take k) : Nat) : Int) ∧ J (base3 ck dr hd ++ (S5.take k).map secR) wr ∧ ∀ b o, A5 = some ⟨b, o, none⟩ → wr.heap[b]? = W5.heap[b]?) (fun _ i _ => m5 - (intOf i).toNat)
  case atStart => exact ⟨0, Nat.zero_le _, rfl, rfl, by simpa [base3] using H5.out.2.2.1, fun _ _ _ => rfl⟩
  case round =>
    obtain ⟨k, hk, rfl, rfl, hJs, hrow⟩ := hrel
    by_cases hlt : k < m5
    · obtain ⟨b, o, x, rfl, hb, hx, hc0, hc1⟩ := H5.out.1.get hlt
      have hrb := hrow b o rfl
      have hcx : wr.cell? ⟨b, o + k * 2, none⟩ = some (.int .u32 (x.1 : Int)) := by rw [← hc0]; simp only [World.cell?, hrb]
      have hcy : wr.cell? ⟨b, o + k * 2 + 1, none⟩ = some (.int .u32 (x.2 : Int)) := by rw [← hc1]; simp only [World.cell?, hrb]
      obtain ⟨_, cs5, hcs5⟩ := H5.out.2.1 b o rfl
      have hbl : b < wr.heap.size := (Array.getElem?_eq_some_iff.1 (hrb.trans hcs5)).1
      obtain ⟨x1, x2⟩ := x
      obtain ⟨hx1, hx2⟩ := HC.out.2.2.2.2.2.2.2.2.2.2.2 _ (List.mem_of_getElem? hx)
      dsimp only at hx1 hx2 hcx hcy
      have hJ1 := HC.out.2.2.2.2.1 _ _ (wr.alloc (.cells #[.int .u32 (x1 : Int), .int .u32 (x2 : Int)] 59)) hJs ((Below.refl _ _).alloc (Nat.le_refl _) _)
      obtain ⟨fn, tmps, assign, body, hy, hR⟩ := HC.out.2.2.2.2.2.1 _ _ _ _ hJ1 (rngs_split ck dr hd last hx)
      rw [show pairV (secR (x1, x2)) = #[.int .i64 (x1 : Int), .int .i64 ((x1 : Int) + (x2 : Int))] from rfl] at hy
      have hlt' : (k : Int) < m5 := by omega
      have HT := Lib.hid (And.intro hx (And.intro hrb (And.intro hcs5 hbl)))
      have HR := Lib.hid hR
      clear hx hc0 hc1 hrb hcs5 hJs hJ1 hrow hR hbl
      gi_wp2
      refine HR.out.mono ?_
      rintro e W7 ⟨rfl, hJ7, hKS⟩
      have hrow7 : W7.heap[b]? = W5.heap[b]? := ((hKS b cs5 ((Below.heap_alloc wr _ b HT.out.2.2.2).trans (HT.out.2.1.trans HT.out.2.2.1))).trans (Below.heap_alloc wr _ b HT.out.2.2.2)).trans HT.out.2.1
      have hJ8 : J (base3 ck dr hd ++ (S5.take (k + 1)).map secR) W7 := by
        rw [take_snoc HT.out.1, List.map_append, ← List.append_assoc]
        exact hJ7
      have hen : (x1 : Int) + (x2 : Int) = ((endOf hd (S5.take (k + 1)) : Nat) : Int) := by rw [endOf_take HT.out.1]; rfl
      have H7 := Lib.hid (And.intro hJ8 (And.intro hen hrow7))
      clear hJ7 hKS hrow7 hJ8 hen HR hy hcx hcy
      gi_wp2
      go_roundw
      case rel => exact ⟨k + 1, by omega, by simp, by rw [H7.out.2.1], H7.out.1, fun b' o' e => by injection e with e; injection e with e1 e2; subst e1; exact H7.out.2.2⟩
      case measure => simp [intOf]; omega
    · obtain rfl : k = m5 := by omega
      rw [List.take_of_length_le (by rw [H5.out.2.2.2]; exact Nat.le_refl _)] at hJs ⊢
      have hb9 := HC.out.2.2.2.1 _ _ hJs
      have d6 : wr.cell? ⟨Pn, 6, none⟩ = some (.int .u32 (C.length : Int)) := hb9.1 6
      have dn := hb9.2.1
      rw [HC.out.2.2.2.2.2.2.2.2.2.2.1] at d6
      obtain ⟨en, hen⟩ : ∃ q, endOf hd S5 = q := ⟨_, rfl⟩
      have hR9 := HC.out.2.2.2.2.2.1
      rw [rngs_end, hen] at hR9
      by_cases hlt : en < last
      · have hlt' : (en : Int) < last := by omega
        rw [if_pos hlt] at hR9
        obtain ⟨fn, tmps, assign, body, hy, hR⟩ := hR9 _ (en, last) [] _ hJs rfl
        rw [show pairV (en, last) = #[.int .i64 (en : Int), .int .i64 (last : Int)] from rfl] at hy
        have HR := Lib.hid hR
        clear hR hR9 hJs hrow hb9
        gi_wp2
        refine HR.out.mono ?_
        rintro e W7 ⟨rfl, hJ7, hKS⟩
        gi_wp2
        go_end0
        exact ⟨⟨_, rfl⟩, by rw [rngs_end, hen, if_pos hlt]; exact hJ7⟩
      · have hlt' : ¬ (en : Int) < last := by omega
        have HJ := Lib.hid hJs
        clear hR9 hJs hrow hb9
        gi_wp2
        go_end0
        exact ⟨⟨_, rfl⟩, by rw [rngs_end, hen, if_neg hlt, List.append_nil]; exact HJ.out⟩
end Go.Proofs.YtmpladnglfiejaaGreatDoor
