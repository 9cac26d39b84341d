/- SHA-256 of the program: bytes are put behind those ahead. -/
import Derived.Test.YtmpladnglfiejaaGreatDoorSh8
namespace Go.Proofs.YtmpladnglfiejaaGreatDoor
open Go.RowKit
set_option maxRecDepth 100000
set_option linter.unusedVariables false
set_option linter.unusedSimpArgs false
namespace Sha
def absorb (H : List Int) : Nat → List UInt8 → List Int
  | 0, _ => H
  | k + 1, bs => comp ktab (absorb H k bs) ((bs.drop (64 * k)).take 64)
theorem absorb_len (H : List Int) (h : H.length = 8) : ∀ k bs, (absorb H k bs).length = 8
  | 0, _ => h
  | k + 1, bs => comp_len _ _ _ (absorb_len H h k bs)
theorem absorb_front (H : List Int) : ∀ (k : Nat) (xs b : List UInt8), 64 * k ≤ xs.length → absorb H k (xs ++ b) = absorb H k xs
  | 0, _, _, _ => rfl
  | k + 1, xs, b, h => by
    rw [absorb, absorb, absorb_front H k xs b (by omega), List.drop_append_of_le_length (by omega), List.take_append_of_le_length (by rw [List.length_drop]; omega)]
theorem absorb_add (H : List Int) (m : Nat) (bs : List UInt8) : ∀ k, absorb H (m + k) bs = absorb (absorb H m bs) k (bs.drop (64 * m))
  | 0 => rfl
  | k + 1 => by
    rw [← Nat.add_assoc, absorb, absorb, absorb_add H m bs k, List.drop_drop, show 64 * m + 64 * k = 64 * (m + k) by omega]
/-- The words of bytes so far; the bytes that make no block. -/
def hsN (xs : List UInt8) : List Int := absorb htab (xs.length / 64) xs
def restOf (xs : List UInt8) : List UInt8 := xs.drop (64 * (xs.length / 64))
theorem hsN_len (xs : List UInt8) : (hsN xs).length = 8 := absorb_len _ htab_len _ _
theorem restOf_len (xs : List UInt8) : (restOf xs).length = xs.length % 64 := by unfold restOf; rw [List.length_drop]; omega
theorem drop_rest (xs b : List UInt8) : (xs ++ b).drop (64 * (xs.length / 64)) = restOf xs ++ b := by
  unfold restOf
  rw [List.drop_append_of_le_length (by omega)]
theorem hs_more (xs b : List UInt8) : hsN (xs ++ b) = absorb (hsN xs) ((restOf xs ++ b).length / 64) (restOf xs ++ b) ∧ restOf (xs ++ b) = (restOf xs ++ b).drop (64 * ((restOf xs ++ b).length / 64)) := by
  have h1 : (xs ++ b).length / 64 = xs.length / 64 + (restOf xs ++ b).length / 64 := by
    rw [List.length_append, List.length_append, restOf_len]
    omega
  refine ⟨?_, ?_⟩
  · unfold hsN
    rw [h1, absorb_add, drop_rest, absorb_front htab _ xs b (by omega)]
  · obtain ⟨k, hk⟩ : ∃ k, (restOf xs ++ b).length / 64 = k := ⟨_, rfl⟩
    rw [hk] at h1 ⊢
    rw [restOf, h1, ← drop_rest, List.drop_drop, Nat.mul_add]
end Sha
/-- A state that has taken bytes. -/
def StX (w : World) (g lo : Nat) (xs : List UInt8) (nn : Nat) : Prop := lo ≤ g ∧ ∃ v, Bst w g true Sha.ktab (Sha.hsN xs) v (nn : Int) ∧ OwnB w lo w.heap.size v (Sha.restOf xs)
theorem StX.below {w w' : World} {g lo nn : Nat} {xs : List UInt8} (h : StX w g lo xs nn) (hb : Below w.heap.size w w') : StX w' g lo xs nn := by
  obtain ⟨h1, v, h2, h3⟩ := h
  exact ⟨h1, v, h2.below hb h2.lt, (h3.below hb (Nat.le_refl _)).mono (Nat.le_refl _) hb.size⟩
theorem store_sth {w : World} {g : Nat} {K H H' : List Int} {rest : Value} {n : Int} (hK : K.length = 64) (hH : H.length = 8) (hH' : H'.length = 8) (h : Bst w g true K H rest n) : (storeVar 73 ⟨g, 65, none⟩ (.agg (H'.map u32v).toArray)).run Tryz.prog w = .ok () (w.setRow g (stL true K H' rest n).toArray) := by
  have := store_row 73 65 (H'.map u32v) (by rw [w8_info]; simp [hH']) h (by simp [stL_len hK hH, hH']) (u32v_one H')
  rwa [stL_layH hK hH hH'] at this
theorem RdT.cutB {w : World} {A : Option Addr} {n c : Nat} {xs : List UInt8} (h : RdT w (.slice A n c) xs) {k : Nat} (hk : k ≤ n) : RdT w (.slice (if c = k then A else A.map (·.add k)) (n - k) (c - k)) (xs.drop k) := by
  obtain ⟨A', n', c', e, hr, ht⟩ := h
  injection e with e1 e2 e3
  subst e1 e2 e3
  have hl := hr.len
  refine ⟨_, _, _, rfl, ?_, ?_⟩
  · have := hr.cut (lo := k) (hi := n) hk (Nat.le_refl _)
    rwa [List.take_of_length_le (by omega)] at this
  · intro ad e
    split at e
    · exact ht ad e
    · cases A with
      | none => cases e
      | some a =>
        injection e with e
        obtain ⟨cs, fr, hc⟩ := ht a rfl
        refine ⟨cs, fr, ?_⟩
        rw [← e]
        have hbk : (a.add k).block = a.block := by simp only [Addr.add]; split <;> rfl
        show w.heap[(a.add k).block]? = _
        rw [hbk]
        exact hc
theorem cutB_run {n c : Nat} {A : Option Addr} (lo : Nat) (l : Int) (hl : l = lo) (h1 : lo ≤ n) : (∀ W, (Instr.sliceAt 22 (.slice A n c) (some (.int .i64 l)) none none).run Tryz.prog W = .ok (.slice (if c = lo then A else A.map (·.add lo)) (n - lo) (c - lo)) W) ∧
      ∀ W, (Instr.slice 22 (.slice A n c) (some (.int .i64 l)) none none).run Tryz.prog W = .ok (.slice (if c = lo then A else A.map (·.add lo)) (n - lo) (c - lo)) W := by
  subst hl
  refine ⟨fun W => ?_, fun W => ?_⟩ <;> simp [go_sem, Tryz.underlying22, show (lo : Int) ≤ n by omega]
def slLen : Value → Nat
  | .slice _ n _ => n
  | _ => 0
theorem ownB_keepU8 {lo hi : Nat} {w w' : World} {v : Value} {xs : List UInt8} (h : OwnB w lo hi v xs) (hk : ∀ (k : Nat) (cur : Array Value) (fr : Nat × Nat), lo ≤ k → k < hi → w.heap[k]? = some (.cells cur 5 fr) → w'.heap[k]? = w.heap[k]?) : OwnB w' lo hi v xs := by
  refine ⟨⟨h.1.1, ?_⟩, h.2⟩
  rcases h.1.2 with h1 | ⟨g, cap, cur, rfl, hb, hg, hr⟩
  · exact .inl h1
  · exact .inr ⟨g, cap, cur, rfl, hb, (hk g cur _ hb (h.2 g rfl) hg).trans hg, hr⟩
/-- What is no row of bytes, the state apart, is as it was. -/
def KT (g : Nat) (w w' : World) : Prop := ∀ (k : Nat) (o : Obj), w.heap[k]? = some o → (∀ cs fr, o ≠ .cells cs 5 fr) → k ≠ g → w'.heap[k]? = w.heap[k]?
theorem KT.trans {g : Nat} {a b c : World} (h1 : KT g a b) (h2 : KT g b c) : KT g a c := fun k o hk ht hg => (h2 k o ((h1 k o hk ht hg).trans hk) ht hg).trans (h1 k o hk ht hg)
theorem KT.of_below {g : Nat} {a b : World} (h : Below a.heap.size a b) : KT g a b := fun k o hk _ _ => h.block k (Array.getElem?_eq_some_iff.1 hk).1
theorem KT.grown {g : Nat} {a b : World} (h : a.grownBy b (some g)) : KT g a b := fun k o hk _ hg => h.block k (Array.getElem?_eq_some_iff.1 hk).1 (fun e => hg (by injection e))
theorem KT.own {g lo hi : Nat} {a b : World} {v : Value} {xs : List UInt8} (h : a.grownBy b v.ownBlock) (ho : OwnB a lo hi v xs) : KT g a b := by
  intro k o hk ht hg
  refine h.block k (Array.getElem?_eq_some_iff.1 hk).1 (fun e => ?_)
  rcases ho.1.2 with ⟨h2, _⟩ | ⟨g', cap, cur, h2, _, h3, _⟩
  · subst h2
    simp [Value.ownBlock] at e
  · subst h2
    simp [Value.ownBlock] at e
    subst e
    rw [hk] at h3
    injection h3 with h3
    exact ht _ _ h3
def ShKept (g lo : Nat) (w w' : World) : Prop := Below lo w w' ∧ KT g w w'
set_option maxHeartbeats 4000000 in
theorem shaWrite_any (g lo nn : Nat) (A : Option Addr) (m c B : Nat) (xs b : List UInt8) (w : World) (hst : StX w g lo xs nn) (hm : b.length = m) (hr : ∀ u, Reads (w.setCell ⟨g, 74, none⟩ u) B 1 A m (b.map bv)) (hlo : lo ≤ w.heap.size) (hsz : nn + b.length ≤ 1099511627776) (hszb : xs.length + b.length ≤ 1099511627776) :
    Calls Tryz.prog 20 #[.pointer (some ⟨g, 0, none⟩), .slice A m c] w fun e w' => e = .returned (.tuple #[]) ∧ StX w' g lo (xs ++ b) (nn + b.length) ∧ ShKept g lo w w' := by
  obtain ⟨hlg, v0, hB, ho⟩ := hst
  obtain ⟨hs1, hs2⟩ := Sha.hs_more xs b
  have hrl := Sha.restOf_len xs
  have hHl := Sha.hsN_len xs
  have hc1 := fun W (h : Bst W g true Sha.ktab (Sha.hsN xs) v0 (nn : Int)) => made_any g W _ _ _ _ h
  have n74 : w.cell? ⟨g, 74, none⟩ = some (.int .u64 (nn : Int)) := (hB.cell 74).trans (by rw [List.getElem?_toArray]; exact stL_n Sha.ktab_len hHl)
  have f74 := hB.frozen 74
  have f73 := hB.frozen 73
  have r73 : w.cell? ⟨g, 73, none⟩ = some v0 := (hB.cell 73).trans (by rw [List.getElem?_toArray]; exact stL_rest Sha.ktab_len hHl)
  have hB2 := hB.set_ 74 (.int .u64 ((nn + m : Nat) : Int))
  rw [List.setIfInBounds_toArray, stL_setN Sha.ktab_len hHl] at hB2
  obtain ⟨n, hn⟩ : ∃ n, nn = n := ⟨_, rfl⟩
  rw [hn] at n74 hsz hB2
  have hsum : (n : Int) + (m : Int) = ((n + m : Nat) : Int) := by omega
  obtain ⟨nm, hnm⟩ : ∃ k, n + m = k := ⟨_, rfl⟩
  rw [hnm] at hsum hB2
  have hnl : n ≤ 1099511627776 ∧ m ≤ 1099511627776 ∧ nm ≤ 1099511627776 := by omega
  obtain ⟨hn1, hn2, hn3⟩ := hnl
  obtain ⟨w2, hw2⟩ : ∃ x, w.setCell ⟨g, 74, none⟩ (.int .u64 (nm : Int)) = x := ⟨_, rfl⟩
  rw [hw2] at hB2
  have e2 : ∀ k, k ≠ g → w2.heap[k]? = w.heap[k]? := fun k hk => by rw [← hw2]; exact Below.heap_setCell _ _ _ k hk
  have hz2 : w2.heap.size = w.heap.size := by rw [← hw2]; simp
  have tyk : ∀ (k : Nat) (cs : Array Value) (fr : Nat × Nat), w.heap[k]? = some (.cells cs 5 fr) → k ≠ g := fun k cs fr h1 e => by
    subst e
    unfold Bst Blk at hB
    rw [hB] at h1
    injection h1 with h1
    injection h1 with _ h5
    exact absurd h5 (by decide)
  have ho2 : OwnB w2 lo w2.heap.size v0 (Sha.restOf xs) := by
    rw [hz2]
    exact ownB_keepU8 ho fun k cur fr _ _ h2 => e2 k (tyk k cur fr h2)
  have hb2 : Below lo w w2 := by rw [← hw2]; exact (Below.refl lo w).grown (grownBy_set w ⟨g, 74, none⟩ _) hlo (fun k e => by cases e; exact hlg)
  have hb2 : ShKept g lo w w2 := ⟨hb2, fun k _ _ _ hk => e2 k hk⟩
  have hrds : Reads w2 B 1 A m (b.map bv) := by rw [← hw2]; exact hr _
  have H := Lib.hid (And.intro hB2 (And.intro ho2 (And.intro hb2 (And.intro hrds (And.intro hs1 (And.intro hs2 (And.intro hrl (And.intro hHl (And.intro hn hnm)))))))))
  have HB := Lib.hid (And.intro hB hc1)
  have hlo2 : lo ≤ w2.heap.size := by omega
  have q73 : w2.cell? ⟨g, 73, none⟩ = some v0 := by rw [H.out.1.cell, List.getElem?_toArray]; exact stL_rest Sha.ktab_len hHl
  clear hB hB2 ho ho2 hb2 hr hrds hs1 hs2 hrl hHl hc1 hn hnm tyk e2 r73
  obtain ⟨Av, nv, cv, ev, _⟩ := H.out.2.1.rd
  subst ev
  go_enter Tryz.func20, Tryz.ntmps20
  go_wp2_with fail
  refine (HB.out.2 w HB.out.1).mono ?_
  rintro e w1 ⟨rfl, rfl⟩
  go_upto_region 4 with (first
    | (at_builtin
       refine wpList_app rfl (.tmp 22) (.tmp 23) rfl lo w2.heap.size (.slice Av nv cv) (Sha.restOf xs) rfl H.out.2.1 hlo2 B A m c b rfl H.out.2.2.2.1 (by have := H.out.2.2.2.2.2.2.1; omega) ?_
       intro v3 w3 ho3 hg3 hat3 hb3
       have HA := Lib.hid (And.intro ho3 (And.intro hg3 hb3))
       clear ho3 hg3 hat3 hb3)
    | fail)
  obtain ⟨all, hall⟩ : ∃ l, Sha.restOf xs ++ b = l := ⟨_, rfl⟩
  have ht3 := RdT.own HA.out.1
  have hl3 : all.length ≤ 1099511627900 := by rw [← hall, List.length_append]; have := H.out.2.2.2.2.2.2.1; omega
  rw [hall] at ht3
  have hB3 : Bst w3 g true Sha.ktab (Sha.absorb (Sha.hsN xs) 0 all) (.slice Av nv cv) (nm : Int) := by
    have h1 := H.out.1
    refine h1.grown HA.out.2.1 (fun e => ?_)
    have ho := H.out.2.1.1.2
    rcases ho with ⟨h2, _⟩ | ⟨g', cap, cur, h2, _, h3, _⟩
    · injection h2 with h2
      subst h2
      simp [Value.ownBlock] at e
    · injection h2 with h2
      subst h2
      simp [Value.ownBlock] at e
      subst e
      unfold Blk at h1
      rw [h1] at h3
      injection h3 with h3
      injection h3 with _ h5
      exact absurd h5 (by decide)
  have hb3 : ShKept g lo w1 w3 := ⟨H.out.2.2.1.1.trans HA.out.2.2, H.out.2.2.1.2.trans (KT.own HA.out.2.1 H.out.2.1)⟩
  have HL := Lib.hid (And.intro hB3 (And.intro ht3 (And.intro hb3 (And.intro hall hl3))))
  clear hB3 ht3 hb3 hall hl3
  obtain ⟨A3, n3, c3, ev3, hr3, _⟩ := HL.out.2.1
  subst ev3
  have HN3 := Lib.hid hr3.len
  clear hr3
  go_loopw [4] (fun s4 wr => ∃ (j n' c' : Nat) (A' : Option Addr), s4 = .slice A' n' c' ∧ 64 * j ≤ all.length ∧ n' + 64 * j = all.length ∧ RdT wr (.slice A' n' c') (all.drop (64 * j)) ∧ Bst wr g true Sha.ktab (Sha.absorb (Sha.hsN xs) j all) (.slice Av nv cv) (nm : Int) ∧ ShKept g lo w1 wr) (fun s4 _ => slLen s4)
  case atStart => exact ⟨0, n3, c3, A3, rfl, by omega, by have := HN3.out; omega, HL.out.2.1, HL.out.1, HL.out.2.2.1⟩
  case round =>
    obtain ⟨j, n', c', A', rfl, hj, hn', hT, hB, hb⟩ := hrel
    have hl3 := HL.out.2.2.2.2
    have hT0 := hT
    obtain ⟨A'', n'', c'', eT, hrT, htT⟩ := hT0
    injection eT with x1 x2 x3
    subst x1 x2 x3
    have hHl := Sha.absorb_len (Sha.hsN xs) (Sha.hsN_len xs) j all
    by_cases h64 : 64 ≤ n'
    · have h64' : (64 : Int) ≤ n' := by omega
      have hup := hrT.upto 64 h64
      have hTc := hT.cutB (k := 64) h64
      obtain ⟨hcut1, hcut2⟩ := cutB_run (A := A') (c := c') 64 64 rfl h64
      obtain ⟨A1, hA1⟩ : ∃ A1, (if c' = 64 then A' else A'.map (·.add 64)) = A1 := ⟨_, rfl⟩
      obtain ⟨c1, hc1⟩ : ∃ c1, c' - 64 = c1 := ⟨_, rfl⟩
      obtain ⟨n1, hn1'⟩ : ∃ n1, n' - 64 = n1 := ⟨_, rfl⟩
      rw [hA1, hc1, hn1'] at hTc hcut1 hcut2
      have hTc2 : RdT wr (.slice A1 n1 c1) (all.drop (64 * (j + 1))) := by rw [List.drop_drop] at hTc; exact hTc
      have h1 := behind_any g A' c' _ _ _ _ _ wr Sha.ktab_len hHl hB hup
      have hn4 : n1 + 64 * (j + 1) = all.length ∧ n1 < n' := by omega
      have HJ := Lib.hid (And.intro h1 (And.intro hTc2 (And.intro hB (And.intro hb (And.intro hHl hn4)))))
      have hcc := hrT.cap
      clear h1 hTc hTc2 hB hb hT hup hrT htT hA1 hHl hn4 hc1 hn1'
      go_wp2_with fail
      refine HJ.out.1.mono ?_
      rintro e w5 ⟨rfl, hb5⟩
      have hB5 := HJ.out.2.2.1.below hb5 HJ.out.2.2.1.lt
      have hT5 := HJ.out.2.1.below hb5
      have hH' := Sha.absorb_len (Sha.hsN xs) (Sha.hsN_len xs) (j + 1) all
      have hst5 := store_sth (H' := Sha.absorb (Sha.hsN xs) (j + 1) all) Sha.ktab_len HJ.out.2.2.2.2.1 hH' hB5
      have hSR := setRow_blk (ds := (stL true Sha.ktab (Sha.absorb (Sha.hsN xs) (j + 1) all) (.slice Av nv cv) (nm : Int)).toArray) hB5
      obtain ⟨w6, hw6⟩ : ∃ x, w5.setRow g (stL true Sha.ktab (Sha.absorb (Sha.hsN xs) (j + 1) all) (.slice Av nv cv) (nm : Int)).toArray = x := ⟨_, rfl⟩
      rw [hw6] at hst5 hSR
      have hT6 : RdT w6 (.slice A1 n1 c1) (all.drop (64 * (j + 1))) := hT5.keep hSR.2.size fun k cs fr hk => hSR.2.block k (Array.getElem?_eq_some_iff.1 hk).1 (fun e => by
        injection e with e
        subst e
        have h1 := hB5
        unfold Blk at h1
        rw [h1] at hk
        injection hk with hk
        injection hk with _ h5
        exact absurd h5 (by decide))
      have hb6 : ShKept g lo w1 w6 := ⟨(HJ.out.2.2.2.1.1.trans (hb5.mono (Nat.le_trans hlo HJ.out.2.2.2.1.1.size))).grown hSR.2 (Nat.le_trans hlo (Nat.le_trans HJ.out.2.2.2.1.1.size hb5.size)) (fun k e => by cases e; exact hlg), HJ.out.2.2.2.1.2.trans ((KT.of_below hb5).trans (KT.grown hSR.2))⟩
      have H6 := Lib.hid (And.intro hst5 (And.intro hT6 (And.intro hSR.1 hb6)))
      clear hB5 hT5 hH' hst5 hSR hT6 hb6 hw6 hb5
      go_wp2_with (first
          | ((with_reducible refine at_store_t 73 ?_); refine wpList_store_row rfl 73 _ _ rfl ⟨g, 65, none⟩ (.agg ((Sha.absorb (Sha.hsN xs) (j + 1) all).map u32v).toArray) w6 rfl rfl H6.out.1 ?_)
          | fail)
      go_roundw
      case rel => exact ⟨j + 1, n1, c1, A1, rfl, by have := HJ.out.2.2.2.2.2.1; omega, HJ.out.2.2.2.2.2.1, H6.out.2.1, H6.out.2.2.1, H6.out.2.2.2⟩
      case measure => show n1 < n'; exact HJ.out.2.2.2.2.2.2
    · have h64' : ¬ (64 : Int) ≤ n' := by omega
      have hk : all.length / 64 = j := by omega
      have hn1k : n' ≤ 64 := by omega
      have hcl := clone_any A' n' c' (all.drop (64 * j)) wr hrT (by omega)
      have HJ := Lib.hid (And.intro hcl (And.intro hB (And.intro hb (And.intro hHl hk))))
      clear hcl hB hb hT hrT htT hHl hk
      go_wp2_with fail
      refine HJ.out.1.mono ?_
      rintro e w5 ⟨A5, n5, c5, rfl, ho5, hb5⟩
      have hB5 := HJ.out.2.1.below hb5 HJ.out.2.1.lt
      have q5 : w5.cell? ⟨g, 73, none⟩ = some (.slice Av nv cv) := (hB5.cell 73).trans (by rw [List.getElem?_toArray]; exact stL_rest Sha.ktab_len HJ.out.2.2.2.1)
      have f5 := hB5.frozen 73
      have hB6 := hB5.set_ 73 (.slice A5 n5 c5)
      rw [List.setIfInBounds_toArray, stL_setR Sha.ktab_len HJ.out.2.2.2.1] at hB6
      have ho6 : OwnB (w5.setCell ⟨g, 73, none⟩ (.slice A5 n5 c5)) lo (w5.setCell ⟨g, 73, none⟩ (.slice A5 n5 c5)).heap.size (.slice A5 n5 c5) (all.drop (64 * j)) := by
        have h1 := ownB_keepU8 ho5 (w' := w5.setCell ⟨g, 73, none⟩ (.slice A5 n5 c5)) fun k cur fr _ _ h2 => Below.heap_setCell _ _ _ k (fun e => by
          have e' : k = g := e
          subst e'
          have h1 := hB5
          unfold Blk at h1
          rw [h1] at h2
          injection h2 with h2
          injection h2 with _ h5
          exact absurd h5 (by decide))
        exact h1.mono (Nat.le_trans hlo HJ.out.2.2.1.1.size) (by simp)
      have hb6 : ShKept g lo w1 (w5.setCell ⟨g, 73, none⟩ (.slice A5 n5 c5)) := ⟨(HJ.out.2.2.1.1.trans (hb5.mono (Nat.le_trans hlo HJ.out.2.2.1.1.size))).grown (grownBy_set w5 ⟨g, 73, none⟩ _) (Nat.le_trans hlo (Nat.le_trans HJ.out.2.2.1.1.size hb5.size)) (fun k e => by cases e; exact hlg), HJ.out.2.2.1.2.trans ((KT.of_below hb5).trans (KT.grown (grownBy_set w5 ⟨g, 73, none⟩ _)))⟩
      have H6 := Lib.hid (And.intro hB6 (And.intro ho6 hb6))
      clear hB5 hB6 ho6 hb6 ho5 hb5
      go_wp2_with fail
      go_end0
      refine ⟨rfl, ⟨hlg, .slice A5 n5 c5, ?_, ?_⟩, H6.out.2.2⟩
      · rw [H.out.2.2.2.2.1, HL.out.2.2.2.1, HJ.out.2.2.2.2, hm, H.out.2.2.2.2.2.2.2.2.1, H.out.2.2.2.2.2.2.2.2.2]
        exact H6.out.1
      · rw [H.out.2.2.2.2.2.1, HL.out.2.2.2.1, HJ.out.2.2.2.2]
        exact H6.out.2.1
end Go.Proofs.YtmpladnglfiejaaGreatDoor
