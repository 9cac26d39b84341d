/- What the calls of Ext and With, and written rows, owe. -/
import Derived.Test.YtmnekhliblkibaaLawOps
import Derived.Test.YtmnekhliblkibaaWith
namespace Go.Proofs.Ytmnekhliblkibaa
open Go.RowKit
set_option maxRecDepth 100000
set_option linter.unusedVariables false
set_option linter.unusedSimpArgs false

/-- A row of rows, written out. -/
def RX (xss : List (List UInt8)) (v : Value) (w : World) : Prop := ∃ (g : Nat) (l : List (Value × List UInt8)), v = .slice (some ⟨g, 0, none⟩) l.length l.length ∧ w.heap[g]? = some (.cells (l.map (·.1)).toArray 22 (0, 0)) ∧ l.map (·.2) = xss ∧ l.length ≤ 1000 ∧ ∀ p ∈ l, RdT w p.1 p.2
theorem RX.rn {xss : List (List UInt8)} {v : Value} {w w' : World} (h : RX xss v w) (hr : RN w w') : RX xss v w' := by
  obtain ⟨g, l, e, hg, hm, hl, hp⟩ := h
  exact ⟨g, l, e, (Below.block hr g (Array.getElem?_eq_some_iff.1 hg).1).trans hg, hm, hl, fun p h => (hp p h).below hr⟩
theorem RX.sn {B : Nat} {xss : List (List UInt8)} {v : Value} {w w' : World} (h : RX xss v w) (hr : SN B w w') : RX xss v w' := by
  obtain ⟨g, l, e, hg, hm, hl, hp⟩ := h
  exact ⟨g, l, e, (hr.2.2.1 g _ _ _ hg (by decide)).trans hg, hm, hl, fun p h => hr.rdt (hp p h)⟩
theorem RX.rdl {xss : List (List UInt8)} {v : Value} {w : World} (h : RX xss v w) : ∃ A n c l, v = .slice A n c ∧ RdL w w.heap.size A n c l ∧ l.map (·.2) = xss ∧ n ≤ 1000 := by
  obtain ⟨g, l, e, hg, hm, hl, hp⟩ := h
  have hB : Blk w g 22 (l.map (·.1)).toArray := hg
  refine ⟨_, _, _, l, e, ⟨rfl, Nat.le_refl _, by omega, ⟨by simp, fun h0 => ⟨_, rfl, hB.lt, fun j u hu => ?_⟩⟩, fun v xs hm => (hp _ hm).rdv⟩, hm, hl⟩
  rw [Addr.add_lit, Nat.zero_add, hB.cell j]
  simpa using hu
theorem Sta.rx (B : Nat) (xss : List (List UInt8)) : Sta1 B (RX xss) := ⟨fun _ _ _ hr h => h.rn hr, fun _ _ _ hr h => h.sn hr⟩
section
variable {o : Oper} {a : Act} {w : World} {Q : Exit → Act → World → Prop} {B : Nat}
theorem N_rows {n : Nat} {parts : Array (Nat × Operand)} {l : List (Value × List UInt8)} (ho : o.op = .buildSlice 39 n parts) (hd : o.dst ≠ none) (hn : 0 < n) (hm : n ≤ 1000)
    (hf : (parts.toList.map fun (i, x) => (i, a.eval x)) = ((l.map (·.1)).zipIdx 0).map fun x => (x.2, x.1)) (hl : l.length = n) (h : ∀ p ∈ l, RdT w p.1 p.2) : o.wp Try.prog a w (KN a o (RX (l.map (·.2))) w) Q := by
  obtain ⟨i0, hi0, hz0, hz1, hz2⟩ := info_parts bs_info2
  refine wp_buildSlice 39 22 n parts ho (l.map (·.1)).toArray i0 _ Try.underlying39 hi0 hz0 (by rw [hz1]; omega) (by rw [hz1]; omega) ?_ ⟨_, rfl, fun h => absurd h hd, ⟨_, l, by rw [hl], heap_alloc_new w _, rfl, by omega, fun p hp => (h p hp).alloc _⟩, (Below.refl _ _).alloc (Nat.le_refl _) _⟩
  rw [Array.toList_map, hf, hz1]
  exact Great.fill_flat _ _ (fun v hv => by
    obtain ⟨p, hp, rfl⟩ := List.mem_map.1 hv
    obtain ⟨A, n, c, e, _⟩ := h p hp
    rw [e]; rfl) (by simp [hl])
theorem N_row1 {x : Operand} {xs : List UInt8} (ho : o.op = .buildSlice 39 1 #[(0, x)]) (hd : o.dst ≠ none) (hx : RdT w (a.eval x) xs) : o.wp Try.prog a w (KN a o (RX [xs]) w) Q :=
  N_rows (l := [(a.eval x, xs)]) ho hd (by omega) (by omega) rfl rfl (fun p hp => by rw [List.mem_singleton.1 hp]; exact hx)
theorem N_row2 {x y : Operand} {xs ys : List UInt8} (ho : o.op = .buildSlice 39 2 #[(0, x), (1, y)]) (hd : o.dst ≠ none) (hx : RdT w (a.eval x) xs) (hy : RdT w (a.eval y) ys) : o.wp Try.prog a w (KN a o (RX [xs, ys]) w) Q :=
  N_rows (l := [(a.eval x, xs), (a.eval y, ys)]) ho hd (by omega) (by omega) rfl rfl (fun p hp => by
    simp only [List.mem_cons, List.not_mem_nil, or_false] at hp
    rcases hp with rfl | rfl
    · exact hx
    · exact hy)
theorem N_lit {n : Nat} {parts : Array (Nat × Operand)} {zs : List Int} {xs : List UInt8} (ho : o.op = .buildSlice 22 n parts) (hd : o.dst ≠ none) (hn : 0 < n) (hm : n ≤ 1000)
    (hf : parts.toList = (zs.zipIdx 0).map fun x => (x.2, Operand.const (Value.int .u8 x.1))) (hzs : zs = xs.map fun x => (x.toNat : Int)) (hl : zs.length = n) : o.wp Try.prog a w (KN a o (fun v w' => RdT w' v xs) w) Q := by
  obtain ⟨i0, hi0, hz0, hz1, hz2⟩ := info_parts u8_info
  have hcs : zs.map (Value.int .u8) = xs.map bv := by rw [hzs, List.map_map]; rfl
  have hxl : xs.length = n := by rw [← hl, hzs, List.length_map]
  refine wp_buildSlice 22 5 n parts ho (xs.map bv).toArray i0 _ Try.underlying22 hi0 hz0 (by rw [hz1]; omega) (by rw [hz1]; omega) ?_ ⟨_, rfl, fun h => absurd h hd, RdT.blk (heap_alloc_new w _) (Rd.lit w 5 xs _ _ n rfl rfl hxl (by omega)), (Below.refl _ _).alloc (Nat.le_refl _) _⟩
  rw [parts_eval a parts .u8 zs hf, hz1, hcs]
  exact Great.fill_flat _ _ (fun v hv => by obtain ⟨n, _, rfl⟩ := List.mem_map.1 hv; rfl) (by rw [← hcs]; simp [hl])
theorem N_seq {y : Operand} {ts : Array TypeId} {xss : List (List UInt8)} (ho : o.op = .call { callee := .value (.func 33), args := #[y], argTypes := ts }) (hd : o.dst ≠ none) (hy : RX xss (a.eval y) w) (hn : xss.flatten.length ≤ 1000000) :
    o.wp Try.prog a w (KN a o (fun v w' => RdT w' v (Ref.seq xss)) w) Q := by
  obtain ⟨A, n, c, l, e, hr, rfl, hl⟩ := hy.rdl
  exact N_call ho hd Try.func33 rfl (by decide) (args := #[.slice A n c]) (by simp [e]) (refSeq_any A n c l w hr (by omega) (by unfold cat; omega)) fun e w' h => h.rdt
theorem N_ext {x y z : Operand} {ts : Array TypeId} {oid oct : List UInt8} {q : Bool} {A1 A2 : Option Addr} {m1 d1 m2 d2 : Nat} (ho : o.op = .call { callee := .value (.func 30), args := #[x, y, z], argTypes := ts }) (hd : o.dst ≠ none)
    (hx : a.eval x = .slice A1 m1 d1) (hy : a.eval y = .bool q) (hz : a.eval z = .slice A2 m2 d2) (h1 : Rd w w.heap.size A1 m1 d1 oid) (h2 : Rd w w.heap.size A2 m2 d2 oct) (hn1 : oid.length ≤ 1000000) (hn2 : oct.length ≤ 1000000) :
    o.wp Try.prog a w (KN a o (fun v w' => RdT w' v (X.ext oid q oct)) w) Q :=
  N_call ho hd Try.func30 rfl (by decide) (args := #[.slice A1 m1 d1, .bool q, .slice A2 m2 d2]) (by simp [hx, hy, hz]) (ext_any A1 A2 m1 d1 m2 d2 oid oct q w h1 h2 (by have := h1.len; omega) (by have := h2.len; omega)) fun e w' h => h.rdt
theorem N_extT {x y z : Operand} {ts : Array TypeId} {oid oct : List UInt8} {q : Bool} (ho : o.op = .call { callee := .value (.func 30), args := #[x, y, z], argTypes := ts }) (hd : o.dst ≠ none)
    (hx : RdT w (a.eval x) oid) (hy : a.eval y = .bool q) (hz : RdT w (a.eval z) oct) (hn1 : oid.length ≤ 1000000) (hn2 : oct.length ≤ 1000000) :
    o.wp Try.prog a w (KN a o (fun v w' => RdT w' v (X.ext oid q oct)) w) Q := by
  obtain ⟨A1, m1, d1, e1, h1, _⟩ := hx
  obtain ⟨A2, m2, d2, e2, h2, _⟩ := hz
  exact N_ext ho hd e1 hy e2 h1 h2 hn1 hn2
theorem N_with {x y : Operand} {ts : Array TypeId} {xss : List (List UInt8)} {k : Kase} {A0 A1 A2 : Option Addr} {n0 c0 n1 c1 n2 c2 : Nat} (ho : o.op = .call { callee := .value (.func 29), args := #[x, y], argTypes := ts }) (hd : o.dst ≠ none)
    (hx : a.eval x = k.val (.slice A0 n0 c0) (.slice A1 n1 c1) (.slice A2 n2 c2)) (hy : RX xss (a.eval y) w) (hn : xss.flatten.length ≤ 1000000) (hk : k.come w A0 A1 A2 n0 c0 n1 c1 n2 c2) :
    o.wp Try.prog a w (KN a o (fun v w' => RdT w' v (Ref.wr (Ref.seq (k.els.map (·.2.2) ++ X.tail xss)) (k.sig.take 100))) w) Q := by
  obtain ⟨A, n, c, l, e, hr, rfl, hl⟩ := hy.rdl
  exact N_call ho hd Try.func29 rfl (by decide) (args := #[k.val (.slice A0 n0 c0) (.slice A1 n1 c1) (.slice A2 n2 c2), .slice A n c]) (by simp [hx, e])
    (with_any k A0 A1 A2 n0 c0 n1 c1 n2 c2 w hk A n c l hr hl (by unfold cat; omega)) fun e w' h => h.rdt
end
end Go.Proofs.Ytmnekhliblkibaa
