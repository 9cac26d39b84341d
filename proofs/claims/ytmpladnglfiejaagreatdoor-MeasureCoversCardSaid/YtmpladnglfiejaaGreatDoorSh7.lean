/- SHA-256 of the program: a block's words. -/
import Derived.Test.YtmpladnglfiejaaGreatDoorSh6
namespace Go.Proofs.YtmpladnglfiejaaGreatDoor
open Go.RowKit
set_option maxRecDepth 100000
set_option linter.unusedVariables false
set_option linter.unusedSimpArgs false
namespace Sha
def beW (acc : Int) (c : UInt8) : Int := bits .or .u32 (IntKind.u32.wrap (acc * 256)) (c.toNat : Int)
def word (l : List UInt8) : Int := l.foldl beW 0
def w16 (bs : List UInt8) (k : Nat) : List Int := (List.range k).map fun i => word ((bs.drop (4 * i)).take 4)
def sg0 (x : Int) : Int := bits .xor .u32 (bits .xor .u32 (rot x 33554432 128) (rot x 16384 262144)) (x / 8)
def sg1 (y : Int) : Int := bits .xor .u32 (bits .xor .u32 (rot y 32768 131072) (rot y 8192 524288)) (y / 1024)
def addw (a b : Int) : Int := IntKind.u32.wrap (a + b)
def nextW (l : List Int) : Int := addw (addw (addw (l.getD (l.length - 16) 0) (sg0 (l.getD (l.length - 15) 0))) (l.getD (l.length - 7) 0)) (sg1 (l.getD (l.length - 2) 0))
def schedN (bs : List UInt8) : Nat → List Int
  | 0 => w16 bs 16
  | k + 1 => schedN bs k ++ [nextW (schedN bs k)]
/-- A block's words. -/
def sched (bs : List UInt8) : List Int := schedN bs 48
theorem w16_len (bs : List UInt8) (k : Nat) : (w16 bs k).length = k := by unfold w16; simp
theorem w16_succ (bs : List UInt8) (k : Nat) : w16 bs (k + 1) = w16 bs k ++ [word ((bs.drop (4 * k)).take 4)] := by unfold w16; rw [List.range_succ, List.map_append]; rfl
theorem schedN_len (bs : List UInt8) : ∀ k, (schedN bs k).length = 16 + k
  | 0 => w16_len bs 16
  | k + 1 => by rw [schedN, List.length_append, schedN_len bs k]; simp; omega
theorem sched_len (bs : List UInt8) : (sched bs).length = 64 := schedN_len bs 48
theorem word_snoc (l : List UInt8) (c : UInt8) : word (l ++ [c]) = beW (word l) c := by unfold word; rw [List.foldl_append]; rfl
theorem padL_zero {l : List Int} {n : Nat} (h : l.length < n) : padL n (l ++ [0]) 0 = padL n l 0 := by
  unfold padL
  obtain ⟨k, hk⟩ : ∃ k, n - l.length = k + 1 := ⟨n - l.length - 1, by omega⟩
  rw [hk, List.replicate_succ, List.length_append, show n - (l.length + [(0 : Int)].length) = k by simp; omega]
  simp
theorem padL_last {l : List Int} {n : Nat} (x y : Int) : (padL n (l ++ [x]) 0).set l.length y = padL n (l ++ [y]) 0 := by
  unfold padL
  rw [List.append_assoc, List.set_append_right _ _ (Nat.le_refl _), Nat.sub_self]
  simp
theorem padL_get {α : Type} {l : List α} {n i : Nat} {x z : α} (h : l[i]? = some x) : (padL n l z)[i]? = some x := by
  unfold padL
  rw [List.getElem?_append_left (List.getElem?_eq_some_iff.1 h).1, h]
end Sha
/-- An array of 64 words in memory. -/
abbrev Bw (w : World) (g : Nat) (l : List Int) : Prop := Blk w g 72 (l.map u32v).toArray
theorem Bw.at_ {w : World} {g : Nat} {l : List Int} (h : Bw w g l) {i : Nat} {x : Int} (hx : l[i]? = some x) : w.cell? ⟨g, i, none⟩ = some (.int .u32 x) := by
  rw [h.cell, List.getElem?_toArray, List.getElem?_map, hx]
  rfl
theorem Bw.put {w : World} {g : Nat} {l : List Int} (h : Bw w g l) (i : Nat) (x : Int) : Bw (w.setCell ⟨g, i, none⟩ (.int .u32 x)) g (l.set i x) := by
  have := h.set_ i (.int .u32 x)
  rw [List.setIfInBounds_toArray] at this
  unfold Bw
  rw [List.map_set]
  exact this
theorem w64_info : (Tryz.prog.info? 72).map (·.size) = some 64 := rfl
theorem load_w64 {w : World} {g : Nat} {l : List Int} (hl : l.length = 64) (h : Bw w g l) : (loadVar 72 ⟨g, 0, none⟩).run Tryz.prog w = .ok (.agg (l.map u32v).toArray) w :=
  load_row 72 0 (l.map u32v) _ Tryz.underlying72 rfl (by rw [w64_info]; simp [hl]) h (fun j v hv => by rw [Nat.zero_add, List.getElem?_toArray]; exact hv)
theorem u32v_one (l : List Int) : ∀ v ∈ l.map u32v, v.oneCell' = true := by
  intro v hv
  obtain ⟨x, _, rfl⟩ := List.mem_map.1 hv
  rfl
theorem store_w64 {w : World} {g : Nat} {l l' : List Int} (hl : l.length = 64) (hl' : l'.length = 64) (h : Bw w g l) : (storeVar 72 ⟨g, 0, none⟩ (.agg (l'.map u32v).toArray)).run Tryz.prog w = .ok () (w.setRow g (l'.map u32v).toArray) := by
  have := store_row 72 0 (l'.map u32v) (by rw [w64_info]; simp [hl']) h (by simp [hl, hl']) (u32v_one l')
  rwa [layAt_all (by simp [hl, hl'])] at this
set_option maxHeartbeats 4000000 in
theorem schedule_any (A : Option Addr) (c : Nat) (bs : List UInt8) (w : World) (h : Rd w w.heap.size A 64 c bs) :
    Calls Tryz.prog 59 #[.slice A 64 c] w fun e w' => e = .returned (.agg ((Sha.sched bs).map u32v).toArray) ∧ Below w.heap.size w w' := by
  have hlen := h.len
  have hcap := h.cap
  have hcapm := h.capm
  obtain ⟨b0, o, rfl, hb0, hcell⟩ := h.at_ (by omega)
  clear h
  have hw0 : Bw (w.alloc (.cells #[.int .u32 0, .int .u32 0, .int .u32 0, .int .u32 0, .int .u32 0, .int .u32 0, .int .u32 0, .int .u32 0, .int .u32 0, .int .u32 0, .int .u32 0, .int .u32 0, .int .u32 0, .int .u32 0, .int .u32 0, .int .u32 0, .int .u32 0, .int .u32 0, .int .u32 0, .int .u32 0, .int .u32 0, .int .u32 0, .int .u32 0, .int .u32 0, .int .u32 0, .int .u32 0, .int .u32 0, .int .u32 0, .int .u32 0, .int .u32 0, .int .u32 0, .int .u32 0, .int .u32 0, .int .u32 0, .int .u32 0, .int .u32 0, .int .u32 0, .int .u32 0, .int .u32 0, .int .u32 0, .int .u32 0, .int .u32 0, .int .u32 0, .int .u32 0, .int .u32 0, .int .u32 0, .int .u32 0, .int .u32 0, .int .u32 0, .int .u32 0, .int .u32 0, .int .u32 0, .int .u32 0, .int .u32 0, .int .u32 0, .int .u32 0, .int .u32 0, .int .u32 0, .int .u32 0, .int .u32 0, .int .u32 0, .int .u32 0, .int .u32 0, .int .u32 0] 72)) w.heap.size (Sha.padL 64 (Sha.w16 bs 0) 0) := Blk.new w _ _
  have hbl0 : Below w.heap.size w (w.alloc (.cells #[.int .u32 0, .int .u32 0, .int .u32 0, .int .u32 0, .int .u32 0, .int .u32 0, .int .u32 0, .int .u32 0, .int .u32 0, .int .u32 0, .int .u32 0, .int .u32 0, .int .u32 0, .int .u32 0, .int .u32 0, .int .u32 0, .int .u32 0, .int .u32 0, .int .u32 0, .int .u32 0, .int .u32 0, .int .u32 0, .int .u32 0, .int .u32 0, .int .u32 0, .int .u32 0, .int .u32 0, .int .u32 0, .int .u32 0, .int .u32 0, .int .u32 0, .int .u32 0, .int .u32 0, .int .u32 0, .int .u32 0, .int .u32 0, .int .u32 0, .int .u32 0, .int .u32 0, .int .u32 0, .int .u32 0, .int .u32 0, .int .u32 0, .int .u32 0, .int .u32 0, .int .u32 0, .int .u32 0, .int .u32 0, .int .u32 0, .int .u32 0, .int .u32 0, .int .u32 0, .int .u32 0, .int .u32 0, .int .u32 0, .int .u32 0, .int .u32 0, .int .u32 0, .int .u32 0, .int .u32 0, .int .u32 0, .int .u32 0, .int .u32 0, .int .u32 0] 72)) := (Below.refl _ _).alloc (Nat.le_refl _) _
  have H := Lib.hid (And.intro hcell (And.intro hw0 hbl0))
  clear hcell hw0 hbl0
  go_enter Tryz.func59, Tryz.ntmps59
  go_upto_region 2 with fail
  obtain ⟨w1, hw1⟩ : ∃ x, w.alloc (.cells #[.int .u32 0, .int .u32 0, .int .u32 0, .int .u32 0, .int .u32 0, .int .u32 0, .int .u32 0, .int .u32 0, .int .u32 0, .int .u32 0, .int .u32 0, .int .u32 0, .int .u32 0, .int .u32 0, .int .u32 0, .int .u32 0, .int .u32 0, .int .u32 0, .int .u32 0, .int .u32 0, .int .u32 0, .int .u32 0, .int .u32 0, .int .u32 0, .int .u32 0, .int .u32 0, .int .u32 0, .int .u32 0, .int .u32 0, .int .u32 0, .int .u32 0, .int .u32 0, .int .u32 0, .int .u32 0, .int .u32 0, .int .u32 0, .int .u32 0, .int .u32 0, .int .u32 0, .int .u32 0, .int .u32 0, .int .u32 0, .int .u32 0, .int .u32 0, .int .u32 0, .int .u32 0, .int .u32 0, .int .u32 0, .int .u32 0, .int .u32 0, .int .u32 0, .int .u32 0, .int .u32 0, .int .u32 0, .int .u32 0, .int .u32 0, .int .u32 0, .int .u32 0, .int .u32 0, .int .u32 0, .int .u32 0, .int .u32 0, .int .u32 0, .int .u32 0] 72) = x := ⟨_, rfl⟩
  rw [hw1] at H ⊢
  clear hw1
  go_loopw [9, 3, 18, 19, 20, 5] (fun ix _ _ _ _ _ wr => ∃ i : Nat, i ≤ 16 ∧ ix = .int .i64 (i : Int) ∧ Bw wr w.heap.size (Sha.padL 64 (Sha.w16 bs i) 0) ∧ Below w.heap.size w wr) (fun ix _ _ _ _ _ _ => 16 - (intOf ix).toNat)
  case atStart => exact ⟨0, by omega, rfl, H.out.2.1, H.out.2.2⟩
  case round =>
    obtain ⟨i, hi, rfl, hB, hb⟩ := hrel
    by_cases hlt : i < 16
    · have hlt' : (i : Int) < 16 := by omega
      obtain ⟨q, hq⟩ : ∃ q, 4 * i = q := ⟨_, rfl⟩
      have hqi : 4 * (i : Int) = (q : Int) := by omega
      have hq2 : q + 4 ≤ 64 := by omega
      have hcq : ¬ c = q := by omega
      have hqc : (q : Int) + 4 ≤ (c : Int) := by omega
      have HW := Lib.hid (And.intro hB (And.intro hb hq))
      clear hB hb hq
      go_upto_region 5 with fail
      obtain ⟨V, rfl⟩ : ∃ V, V = wr := ⟨_, rfl⟩
      go_loopw [20, 5] (fun jx _ wr => ∃ j : Nat, j ≤ 4 ∧ jx = .int .i64 (j : Int) ∧ Bw wr w.heap.size (Sha.padL 64 (Sha.w16 bs i ++ [Sha.word (((bs.drop q).take 4).take j)]) 0) ∧ Below w.heap.size w wr) (fun jx _ _ => 4 - (intOf jx).toNat)
      case atStart => exact ⟨0, by omega, rfl, by rw [List.take_zero]; show Bw V w.heap.size (Sha.padL 64 (Sha.w16 bs i ++ [0]) 0); rw [Sha.padL_zero (by rw [Sha.w16_len]; omega)]; exact HW.out.1, HW.out.2.1⟩
      case round =>
        obtain ⟨j, hj, rfl, hB, hb⟩ := hrel
        have hwl := Sha.w16_len bs i
        by_cases hjl : j < 4
        · have hjl' : (j : Int) < 4 := by omega
          obtain ⟨x, hx⟩ : ∃ x, bs[q + j]? = some x := ⟨_, List.getElem?_eq_getElem (by omega)⟩
          have hcx : wr.cell? ⟨b0, o + q + j, none⟩ = some (.int .u8 (x.toNat : Int)) := by
            have := (hb.cell (p := ⟨b0, o + (q + j), none⟩) hb0).trans (H.out.1 (q + j) x hx)
            rwa [← Nat.add_assoc] at this
          have hx2 : ((bs.drop q).take 4)[j]? = some x := by rw [List.getElem?_take, if_pos hjl, List.getElem?_drop]; exact hx
          obtain ⟨pt, hpt⟩ : ∃ pt, Sha.word (((bs.drop q).take 4).take j) = pt := ⟨_, rfl⟩
          have hnx : Sha.word (((bs.drop q).take 4).take (j + 1)) = Sha.beW pt x := by rw [take_snoc hx2, Sha.word_snoc, hpt]
          rw [hpt] at hB
          have hci : wr.cell? ⟨w.heap.size, i, none⟩ = some (.int .u32 pt) := hB.at_ (Sha.padL_get (by rw [List.getElem?_append_right (by omega), hwl, Nat.sub_self]; rfl))
          have hfi := hB.frozen i
          have hx256 : x.toNat < 256 := x.toNat_lt
          have hxw : IntKind.u32.wrap (x.toNat : Int) = (x.toNat : Int) := by rw [IntKind.wrap_u32']; omega
          have hB2 := hB.put i (Sha.beW pt x)
          have hpl := Sha.padL_last (l := Sha.w16 bs i) (n := 64) pt (Sha.beW pt x)
          rw [hwl] at hpl
          rw [hpl] at hB2
          have hB2 : Bw (wr.setCell ⟨w.heap.size, i, none⟩ (.int .u32 (Sha.beW pt x))) w.heap.size (Sha.padL 64 (Sha.w16 bs i ++ [Sha.word (((bs.drop q).take 4).take (j + 1))]) 0) := by rw [hnx]; exact hB2
          have hb2 : Below w.heap.size w (wr.setCell ⟨w.heap.size, i, none⟩ (.int .u32 (Sha.beW pt x))) := hb.grown (grownBy_set wr ⟨w.heap.size, i, none⟩ _) hb.size (fun j e => by injection e with e; exact Nat.le_of_eq e)
          have HJ := Lib.hid (And.intro hB2 hb2)
          clear hB2 hb2 hpl hnx hpt hB hb hx hx2
          go_wp2_with fail
          go_roundw
          case rel => exact ⟨j + 1, by omega, by go_num, HJ.out.1, HJ.out.2⟩
          case measure => simp [intOf]; omega
        · obtain rfl : j = 4 := by omega
          have hge4 : ¬ ((4 : Nat) : Int) < 4 := by omega
          rw [List.take_take, Nat.min_self] at hB
          have HJ := Lib.hid (And.intro hB (And.intro hb HW.out.2.2))
          clear hB hb
          go_wp2_with fail
          go_roundw
          case rel => exact ⟨i + 1, by omega, by go_num, by rw [Sha.w16_succ, HJ.out.2.2]; exact HJ.out.1, HJ.out.2.1⟩
          case measure => simp [intOf]; omega
    · obtain rfl : i = 16 := by omega
      have hge : ¬ ((16 : Nat) : Int) < 16 := by omega
      have HW := Lib.hid (And.intro hB hb)
      clear hB hb
      go_wp2_with fail
      obtain ⟨V, rfl⟩ : ∃ V, V = wr := ⟨_, rfl⟩
      go_loopw [6, 7, 8] (fun tx _ _ wr => ∃ k : Nat, k ≤ 48 ∧ tx = .int .i64 ((16 + k : Nat) : Int) ∧ Bw wr w.heap.size (Sha.padL 64 (Sha.schedN bs k) 0) ∧ Below w.heap.size w wr) (fun tx _ _ _ => 64 - (intOf tx).toNat)
      case atStart => exact ⟨0, by omega, rfl, HW.out.1, HW.out.2⟩
      case round =>
        obtain ⟨k, hk, rfl, hB, hb⟩ := hrel
        obtain ⟨T, hT⟩ : ∃ T, 16 + k = T := ⟨_, rfl⟩
        rw [hT]
        by_cases htl : T < 64
        · have htl' : (T : Int) < 64 := by omega
          have HK1 := Lib.hid (show k + 1 ≤ 48 by omega)
          obtain ⟨L, hL⟩ : ∃ L, Sha.schedN bs k = L := ⟨_, rfl⟩
          have hLl : L.length = T := by rw [← hL, Sha.schedN_len, hT]
          have get : ∀ d, 1 ≤ d → d ≤ 16 → ∃ v, L[T - d]? = some v ∧ L.getD (T - d) 0 = v := fun d h1 h2 => by
            refine ⟨L[T - d]'(by omega), List.getElem?_eq_getElem (by omega), ?_⟩
            rw [List.getD_eq_getElem?_getD, List.getElem?_eq_getElem (by omega)]
            rfl
          obtain ⟨a, ha, ha'⟩ := get 16 (by omega) (by omega)
          obtain ⟨x, hx, hx'⟩ := get 15 (by omega) (by omega)
          obtain ⟨bb, hbb, hbb'⟩ := get 7 (by omega) (by omega)
          obtain ⟨y, hy, hy'⟩ := get 2 (by omega) (by omega)
          rw [hL] at hB
          have hnx : Sha.schedN bs (k + 1) = L ++ [Sha.addw (Sha.addw (Sha.addw a (Sha.sg0 x)) bb) (Sha.sg1 y)] := by
            rw [Sha.schedN, hL]
            unfold Sha.nextW
            rw [hLl, ha', hx', hbb', hy']
          obtain ⟨m16, h16⟩ : ∃ m, T - 16 = m := ⟨_, rfl⟩
          obtain ⟨m15, h15⟩ : ∃ m, T - 15 = m := ⟨_, rfl⟩
          obtain ⟨m7, h7⟩ : ∃ m, T - 7 = m := ⟨_, rfl⟩
          obtain ⟨m2, h2⟩ : ∃ m, T - 2 = m := ⟨_, rfl⟩
          rw [h16] at ha
          rw [h15] at hx
          rw [h7] at hbb
          rw [h2] at hy
          have i16 : (T : Int) - 16 = (m16 : Int) := by omega
          have i15 : (T : Int) - 15 = (m15 : Int) := by omega
          have i7 : (T : Int) - 7 = (m7 : Int) := by omega
          have i2 : (T : Int) - 2 = (m2 : Int) := by omega
          have l16 : m16 < 64 := by omega
          have l15 : m15 < 64 := by omega
          have l7 : m7 < 64 := by omega
          have l2 : m2 < 64 := by omega
          have c16 : wr.cell? ⟨w.heap.size, m16, none⟩ = some (.int .u32 a) := hB.at_ (Sha.padL_get ha)
          have c15 : wr.cell? ⟨w.heap.size, m15, none⟩ = some (.int .u32 x) := hB.at_ (Sha.padL_get hx)
          have c7 : wr.cell? ⟨w.heap.size, m7, none⟩ = some (.int .u32 bb) := hB.at_ (Sha.padL_get hbb)
          have c2 : wr.cell? ⟨w.heap.size, m2, none⟩ = some (.int .u32 y) := hB.at_ (Sha.padL_get hy)
          have j15 : (m15 : Int) < 64 := by omega
          have j2 : (m2 : Int) < 64 := by omega
          have HT := Lib.hid (And.intro hB (And.intro hb (And.intro hLl (And.intro hnx (And.intro (And.intro c16 (And.intro c15 (And.intro c7 c2))) (And.intro hL hT))))))
          clear hB hb hLl hnx hL get ha hx hbb hy ha' hx' hbb' hy' h16 h15 h7 h2 hT
          go_upto_region 13 with fail
          go_quiet (fail)
          apply_assumption
          go_upto_region 14 with fail
          obtain ⟨VV, hVV⟩ : ∃ V, wr.drewN nq = V := ⟨_, rfl⟩
          have hG14 : Bw VV w.heap.size (Sha.padL 64 L 0) ∧ Below w.heap.size w VV := by rw [← hVV]; exact ⟨HT.out.1.drewN nq, below_drewN HT.out.2.1 nq⟩
          have k16 : VV.cell? ⟨w.heap.size, m16, none⟩ = some (.int .u32 a) := by rw [← hVV]; exact HT.out.2.2.2.2.1.1
          have k7 : VV.cell? ⟨w.heap.size, m7, none⟩ = some (.int .u32 bb) := by rw [← hVV]; exact HT.out.2.2.2.2.1.2.2.1
          rw [hVV]
          clear hVV c16 c15 c7 c2 nq
          have hr7 := fun W => right7_any x W
          have hr18 := fun W => right18_any x W
          have hr17 := fun W => right17_any y W
          have hr19 := fun W => right19_any y W
          obtain ⟨r7, e7⟩ : ∃ r, Sha.rot x 33554432 128 = r := ⟨_, rfl⟩
          obtain ⟨r18, e18⟩ : ∃ r, Sha.rot x 16384 262144 = r := ⟨_, rfl⟩
          obtain ⟨r17, e17⟩ : ∃ r, Sha.rot y 32768 131072 = r := ⟨_, rfl⟩
          obtain ⟨r19, e19⟩ : ∃ r, Sha.rot y 8192 524288 = r := ⟨_, rfl⟩
          rw [e7] at hr7
          rw [e18] at hr18
          rw [e17] at hr17
          rw [e19] at hr19
          have j16 : (m16 : Int) < 64 := by omega
          have j7 : (m7 : Int) < 64 := by omega
          have HC := Lib.hid (And.intro hr7 (And.intro hr18 (And.intro hr17 (And.intro hr19 (And.intro (And.intro e7 (And.intro e18 (And.intro e17 e19))) (And.intro hG14 (And.intro k16 k7)))))))
          clear hr7 hr18 hr17 hr19 e7 e18 e17 e19 hG14 k16 k7
          refine wp_region_reach 29 (fun zi v _ => v = (fun zi => ([.int .i64 (T : Int), .int .i64 (T : Int), .int .i64 (m16 : Int), .pointer (some ⟨w.heap.size, m16, none⟩), .int .u32 (a), .int .u32 (x), .int .u32 (r7), .int .u32 (x), .int .u32 (r18), .int .u32 (bits .xor .u32 (r7) (r18)), .int .u32 (x), .int .u32 (x / 8), .int .u32 (bits .xor .u32 (bits .xor .u32 (r7) (r18)) (x / 8)), .int .u32 (IntKind.u32.wrap (a + bits .xor .u32 (bits .xor .u32 (r7) (r18)) (x / 8))), .int .i64 (T : Int), .int .i64 (m7 : Int), .pointer (some ⟨w.heap.size, m7, none⟩), .int .u32 (bb), .int .u32 (IntKind.u32.wrap (IntKind.u32.wrap (a + bits .xor .u32 (bits .xor .u32 (r7) (r18)) (x / 8)) + bb)), .int .u32 (y), .int .u32 (r17), .int .u32 (y), .int .u32 (r19), .int .u32 (bits .xor .u32 (r17) (r19)), .int .u32 (y), .int .u32 (y / 1024), .int .u32 (bits .xor .u32 (bits .xor .u32 (r17) (r19)) (y / 1024)), .int .u32 (IntKind.u32.wrap (IntKind.u32.wrap (IntKind.u32.wrap (a + bits .xor .u32 (bits .xor .u32 (r7) (r18)) (x / 8)) + bb) + bits .xor .u32 (bits .xor .u32 (r17) (r19)) (y / 1024))), .pointer (some ⟨w.heap.size, T, none⟩)] : List Value).getD zi undef) zi) (fun W => Bw W w.heap.size (Sha.padL 64 L 0) ∧ Below w.heap.size w W ∧ W.cell? ⟨w.heap.size, m16, none⟩ = some (.int .u32 a) ∧ W.cell? ⟨w.heap.size, m7, none⟩ = some (.int .u32 bb)) (fun x y => Below x.heap.size x y) rfl (fun _ _ _ _ _ h => h) (fun W W' hW hR => ⟨hW.1.below hR hW.1.lt, hW.2.1.trans (hR.mono hW.2.1.size), (hR.cell (p := ⟨w.heap.size, m16, none⟩) hW.1.lt).trans hW.2.2.1, (hR.cell (p := ⟨w.heap.size, m7, none⟩) hW.1.lt).trans hW.2.2.2⟩) (by show dstsOk _ 77 = true; decide +kernel) (by decide +kernel) (by decide +kernel) rfl (by decide +kernel) (⟨HC.out.2.2.2.2.2.1.1.drew, HC.out.2.2.2.2.2.1.2.drew, HC.out.2.2.2.2.2.2.1, HC.out.2.2.2.2.2.2.2⟩) ⟨?_, ?_, ?_, ?_, ?_, ?_, ?_, ?_, ?_, ?_, ?_, ?_, ?_, ?_, ?_, ?_, ?_, ?_, ?_, ?_, ?_, ?_, ?_, ?_, ?_, ?_, ?_, ?_, ?_, trivial⟩ ?_
          · intro a' W hfr hG hdep; refine J_of (by simp) (fun _ => rfl) ?_; have d1 : a'.eval (.tmp 6) = .int .i64 (T : Int) := hfr 6 (by decide +kernel); exact F_move rfl d1 trivial (Below.refl _ _)
          · intro a' W hfr hG hdep; refine J_of (by simp) (fun _ => rfl) ?_; have d1 : a'.eval (.tmp 6) = .int .i64 (T : Int) := hfr 6 (by decide +kernel); exact F_move rfl d1 trivial (Below.refl _ _)
          · intro a' W hfr hG hdep; refine J_of (by simp) (fun _ => rfl) ?_; have d1 : a'.eval (.tmp 48) = .int .i64 (T : Int) := hdep 1 (by decide +kernel); refine F_val (v := .int .i64 (m16 : Int)) ?_ trivial (Below.refl _ _); simp only [execOp, d1]; first | (simp [go_sem, Act.eval, i16]; done) | (simp [go_sem, Act.eval]; rw [IntKind.wrap_i64]; omega)
          · intro a' W hfr hG hdep; refine J_of (by simp) (fun _ => rfl) ?_; have d1 : a'.eval (.tmp 2) = .pointer (some ⟨w.heap.size, 0, none⟩) := hfr 2 (by decide +kernel); have d2 : a'.eval (.tmp 49) = .int .i64 (m16 : Int) := hdep 2 (by decide +kernel); refine F_val (v := .pointer (some ⟨w.heap.size, m16, none⟩)) ?_ trivial (Below.refl _ _); simp only [execOp, d1, d2]; first | (simp [go_sem, Act.eval, j16]; done) | (simp [go_sem, Act.eval]; omega)
          · intro a' W hfr hG hdep; refine J_of (by simp) (fun _ => rfl) ?_; have d1 : a'.eval (.tmp 50) = .pointer (some ⟨w.heap.size, m16, none⟩) := hdep 3 (by decide +kernel); exact F_load rfl d1 (load_u32r (hG.2.2.1)) trivial (Below.refl _ _)
          · intro a' W hfr hG hdep; refine J_of (by simp) (fun _ => rfl) ?_; have d1 : a'.eval (.tmp 7) = .int .u32 (x) := hfr 7 (by decide +kernel); exact F_move rfl d1 trivial (Below.refl _ _)
          · intro a' W hfr hG hdep; refine J_of (by simp) (fun _ => rfl) ?_; have d1 : a'.eval (.tmp 52) = .int .u32 (x) := hdep 5 (by decide +kernel); refine F_call rfl Tryz.func60 rfl (by decide) (args := #[.int .u32 (x), .int .i64 7]) (by simp only [List.map_toArray, List.map_cons, List.map_nil, d1] <;> rfl) (HC.out.1 W) ?_; rintro e w' ⟨rfl, rfl⟩; exact ⟨rfl, trivial, Below.refl _ _⟩
          · intro a' W hfr hG hdep; refine J_of (by simp) (fun _ => rfl) ?_; have d1 : a'.eval (.tmp 7) = .int .u32 (x) := hfr 7 (by decide +kernel); exact F_move rfl d1 trivial (Below.refl _ _)
          · intro a' W hfr hG hdep; refine J_of (by simp) (fun _ => rfl) ?_; have d1 : a'.eval (.tmp 54) = .int .u32 (x) := hdep 7 (by decide +kernel); refine F_call rfl Tryz.func60 rfl (by decide) (args := #[.int .u32 (x), .int .i64 18]) (by simp only [List.map_toArray, List.map_cons, List.map_nil, d1] <;> rfl) (HC.out.2.1 W) ?_; rintro e w' ⟨rfl, rfl⟩; exact ⟨rfl, trivial, Below.refl _ _⟩
          · intro a' W hfr hG hdep; refine J_of (by simp) (fun _ => rfl) ?_; have d1 : a'.eval (.tmp 53) = .int .u32 (r7) := hdep 6 (by decide +kernel); have d2 : a'.eval (.tmp 55) = .int .u32 (r18) := hdep 8 (by decide +kernel); refine F_val (v := .int .u32 (bits .xor .u32 (r7) (r18))) ?_ trivial (Below.refl _ _); simp only [execOp, d1, d2]; first | (simp [go_sem, Act.eval]; done) | (simp [go_sem, Act.eval]; rfl)
          · intro a' W hfr hG hdep; refine J_of (by simp) (fun _ => rfl) ?_; have d1 : a'.eval (.tmp 7) = .int .u32 (x) := hfr 7 (by decide +kernel); exact F_move rfl d1 trivial (Below.refl _ _)
          · intro a' W hfr hG hdep; refine J_of (by simp) (fun _ => rfl) ?_; have d1 : a'.eval (.tmp 57) = .int .u32 (x) := hdep 10 (by decide +kernel); refine F_val (v := .int .u32 (x / 8)) ?_ trivial (Below.refl _ _); simp only [execOp, d1]; first | (simp [go_sem, Act.eval]; done) | (simp [go_sem, Act.eval]; rfl)
          · intro a' W hfr hG hdep; refine J_of (by simp) (fun _ => rfl) ?_; have d1 : a'.eval (.tmp 56) = .int .u32 (bits .xor .u32 (r7) (r18)) := hdep 9 (by decide +kernel); have d2 : a'.eval (.tmp 58) = .int .u32 (x / 8) := hdep 11 (by decide +kernel); refine F_val (v := .int .u32 (bits .xor .u32 (bits .xor .u32 (r7) (r18)) (x / 8))) ?_ trivial (Below.refl _ _); simp only [execOp, d1, d2]; first | (simp [go_sem, Act.eval]; done) | (simp [go_sem, Act.eval]; rfl)
          · intro a' W hfr hG hdep; refine J_of (by simp) (fun _ => rfl) ?_; have d1 : a'.eval (.tmp 51) = .int .u32 (a) := hdep 4 (by decide +kernel); have d2 : a'.eval (.tmp 59) = .int .u32 (bits .xor .u32 (bits .xor .u32 (r7) (r18)) (x / 8)) := hdep 12 (by decide +kernel); refine F_val (v := .int .u32 (IntKind.u32.wrap (a + bits .xor .u32 (bits .xor .u32 (r7) (r18)) (x / 8)))) ?_ trivial (Below.refl _ _); simp only [execOp, d1, d2]; first | (simp [go_sem, Act.eval]; done) | (simp [go_sem, Act.eval]; rfl)
          · intro a' W hfr hG hdep; refine J_of (by simp) (fun _ => rfl) ?_; have d1 : a'.eval (.tmp 6) = .int .i64 (T : Int) := hfr 6 (by decide +kernel); exact F_move rfl d1 trivial (Below.refl _ _)
          · intro a' W hfr hG hdep; refine J_of (by simp) (fun _ => rfl) ?_; have d1 : a'.eval (.tmp 61) = .int .i64 (T : Int) := hdep 14 (by decide +kernel); refine F_val (v := .int .i64 (m7 : Int)) ?_ trivial (Below.refl _ _); simp only [execOp, d1]; first | (simp [go_sem, Act.eval, i7]; done) | (simp [go_sem, Act.eval]; rw [IntKind.wrap_i64]; omega)
          · intro a' W hfr hG hdep; refine J_of (by simp) (fun _ => rfl) ?_; have d1 : a'.eval (.tmp 2) = .pointer (some ⟨w.heap.size, 0, none⟩) := hfr 2 (by decide +kernel); have d2 : a'.eval (.tmp 62) = .int .i64 (m7 : Int) := hdep 15 (by decide +kernel); refine F_val (v := .pointer (some ⟨w.heap.size, m7, none⟩)) ?_ trivial (Below.refl _ _); simp only [execOp, d1, d2]; first | (simp [go_sem, Act.eval, j7]; done) | (simp [go_sem, Act.eval]; omega)
          · intro a' W hfr hG hdep; refine J_of (by simp) (fun _ => rfl) ?_; have d1 : a'.eval (.tmp 63) = .pointer (some ⟨w.heap.size, m7, none⟩) := hdep 16 (by decide +kernel); exact F_load rfl d1 (load_u32r (hG.2.2.2)) trivial (Below.refl _ _)
          · intro a' W hfr hG hdep; refine J_of (by simp) (fun _ => rfl) ?_; have d1 : a'.eval (.tmp 60) = .int .u32 (IntKind.u32.wrap (a + bits .xor .u32 (bits .xor .u32 (r7) (r18)) (x / 8))) := hdep 13 (by decide +kernel); have d2 : a'.eval (.tmp 64) = .int .u32 (bb) := hdep 17 (by decide +kernel); refine F_val (v := .int .u32 (IntKind.u32.wrap (IntKind.u32.wrap (a + bits .xor .u32 (bits .xor .u32 (r7) (r18)) (x / 8)) + bb))) ?_ trivial (Below.refl _ _); simp only [execOp, d1, d2]; first | (simp [go_sem, Act.eval]; done) | (simp [go_sem, Act.eval]; rfl)
          · intro a' W hfr hG hdep; refine J_of (by simp) (fun _ => rfl) ?_; have d1 : a'.eval (.tmp 8) = .int .u32 (y) := hfr 8 (by decide +kernel); exact F_move rfl d1 trivial (Below.refl _ _)
          · intro a' W hfr hG hdep; refine J_of (by simp) (fun _ => rfl) ?_; have d1 : a'.eval (.tmp 66) = .int .u32 (y) := hdep 19 (by decide +kernel); refine F_call rfl Tryz.func60 rfl (by decide) (args := #[.int .u32 (y), .int .i64 17]) (by simp only [List.map_toArray, List.map_cons, List.map_nil, d1] <;> rfl) (HC.out.2.2.1 W) ?_; rintro e w' ⟨rfl, rfl⟩; exact ⟨rfl, trivial, Below.refl _ _⟩
          · intro a' W hfr hG hdep; refine J_of (by simp) (fun _ => rfl) ?_; have d1 : a'.eval (.tmp 8) = .int .u32 (y) := hfr 8 (by decide +kernel); exact F_move rfl d1 trivial (Below.refl _ _)
          · intro a' W hfr hG hdep; refine J_of (by simp) (fun _ => rfl) ?_; have d1 : a'.eval (.tmp 68) = .int .u32 (y) := hdep 21 (by decide +kernel); refine F_call rfl Tryz.func60 rfl (by decide) (args := #[.int .u32 (y), .int .i64 19]) (by simp only [List.map_toArray, List.map_cons, List.map_nil, d1] <;> rfl) (HC.out.2.2.2.1 W) ?_; rintro e w' ⟨rfl, rfl⟩; exact ⟨rfl, trivial, Below.refl _ _⟩
          · intro a' W hfr hG hdep; refine J_of (by simp) (fun _ => rfl) ?_; have d1 : a'.eval (.tmp 67) = .int .u32 (r17) := hdep 20 (by decide +kernel); have d2 : a'.eval (.tmp 69) = .int .u32 (r19) := hdep 22 (by decide +kernel); refine F_val (v := .int .u32 (bits .xor .u32 (r17) (r19))) ?_ trivial (Below.refl _ _); simp only [execOp, d1, d2]; first | (simp [go_sem, Act.eval]; done) | (simp [go_sem, Act.eval]; rfl)
          · intro a' W hfr hG hdep; refine J_of (by simp) (fun _ => rfl) ?_; have d1 : a'.eval (.tmp 8) = .int .u32 (y) := hfr 8 (by decide +kernel); exact F_move rfl d1 trivial (Below.refl _ _)
          · intro a' W hfr hG hdep; refine J_of (by simp) (fun _ => rfl) ?_; have d1 : a'.eval (.tmp 71) = .int .u32 (y) := hdep 24 (by decide +kernel); refine F_val (v := .int .u32 (y / 1024)) ?_ trivial (Below.refl _ _); simp only [execOp, d1]; first | (simp [go_sem, Act.eval]; done) | (simp [go_sem, Act.eval]; rfl)
          · intro a' W hfr hG hdep; refine J_of (by simp) (fun _ => rfl) ?_; have d1 : a'.eval (.tmp 70) = .int .u32 (bits .xor .u32 (r17) (r19)) := hdep 23 (by decide +kernel); have d2 : a'.eval (.tmp 72) = .int .u32 (y / 1024) := hdep 25 (by decide +kernel); refine F_val (v := .int .u32 (bits .xor .u32 (bits .xor .u32 (r17) (r19)) (y / 1024))) ?_ trivial (Below.refl _ _); simp only [execOp, d1, d2]; first | (simp [go_sem, Act.eval]; done) | (simp [go_sem, Act.eval]; rfl)
          · intro a' W hfr hG hdep; refine J_of (by simp) (fun _ => rfl) ?_; have d1 : a'.eval (.tmp 65) = .int .u32 (IntKind.u32.wrap (IntKind.u32.wrap (a + bits .xor .u32 (bits .xor .u32 (r7) (r18)) (x / 8)) + bb)) := hdep 18 (by decide +kernel); have d2 : a'.eval (.tmp 73) = .int .u32 (bits .xor .u32 (bits .xor .u32 (r17) (r19)) (y / 1024)) := hdep 26 (by decide +kernel); refine F_val (v := .int .u32 (IntKind.u32.wrap (IntKind.u32.wrap (IntKind.u32.wrap (a + bits .xor .u32 (bits .xor .u32 (r7) (r18)) (x / 8)) + bb) + bits .xor .u32 (bits .xor .u32 (r17) (r19)) (y / 1024)))) ?_ trivial (Below.refl _ _); simp only [execOp, d1, d2]; first | (simp [go_sem, Act.eval]; done) | (simp [go_sem, Act.eval]; rfl)
          · intro a' W hfr hG hdep; refine J_of (by simp) (fun _ => rfl) ?_; have d1 : a'.eval (.tmp 2) = .pointer (some ⟨w.heap.size, 0, none⟩) := hfr 2 (by decide +kernel); have d2 : a'.eval (.tmp 47) = .int .i64 (T : Int) := hdep 0 (by decide +kernel); refine F_val (v := .pointer (some ⟨w.heap.size, T, none⟩)) ?_ trivial (Below.refl _ _); simp only [execOp, d1, d2]; first | (simp [go_sem, Act.eval, htl']; done) | (simp [go_sem, Act.eval]; omega)
          intro o ho a' W hdd hsz hfr hG hJ
          have e1 : o.op = .store 26 (.tmp 75) (.tmp 74) ∧ o.dst = none := by cases ho; exact ⟨rfl, rfl⟩
          clear ho
          have hp1 : a'.eval (.tmp 75) = .pointer (some ⟨w.heap.size, T, none⟩) := hJ 28 (by decide)
          have hv1 : a'.eval (.tmp 74) = .int .u32 (IntKind.u32.wrap (IntKind.u32.wrap (IntKind.u32.wrap (a + bits .xor .u32 (bits .xor .u32 (r7) (r18)) (x / 8)) + bb) + bits .xor .u32 (bits .xor .u32 (r17) (r19)) (y / 1024))) := hJ 27 (by decide)
          have hz : (Sha.padL 64 L 0)[T]? = some 0 := by have := Sha.padL_at (n := 64) (l := L) (0 : Int) (by rw [HT.out.2.2.1]; exact htl); rwa [HT.out.2.2.1] at this
          refine wp_store_row 26 _ _ e1.1 _ _ _ hp1 hv1 (store_u32 (hG.1.at_ hz) (hG.1.frozen T) _ rfl) ?_
          rw [e1.2]
          have HG := Lib.hid hG
          clear hp1 hv1 e1 hG hz
          have e := act_of_slots (fun zi => ([.int .i64 (T : Int), .int .i64 (T : Int), .int .i64 (m16 : Int), .pointer (some ⟨w.heap.size, m16, none⟩), .int .u32 (a), .int .u32 (x), .int .u32 (r7), .int .u32 (x), .int .u32 (r18), .int .u32 (bits .xor .u32 (r7) (r18)), .int .u32 (x), .int .u32 (x / 8), .int .u32 (bits .xor .u32 (bits .xor .u32 (r7) (r18)) (x / 8)), .int .u32 (IntKind.u32.wrap (a + bits .xor .u32 (bits .xor .u32 (r7) (r18)) (x / 8))), .int .i64 (T : Int), .int .i64 (m7 : Int), .pointer (some ⟨w.heap.size, m7, none⟩), .int .u32 (bb), .int .u32 (IntKind.u32.wrap (IntKind.u32.wrap (a + bits .xor .u32 (bits .xor .u32 (r7) (r18)) (x / 8)) + bb)), .int .u32 (y), .int .u32 (r17), .int .u32 (y), .int .u32 (r19), .int .u32 (bits .xor .u32 (r17) (r19)), .int .u32 (y), .int .u32 (y / 1024), .int .u32 (bits .xor .u32 (bits .xor .u32 (r17) (r19)) (y / 1024)), .int .u32 (IntKind.u32.wrap (IntKind.u32.wrap (IntKind.u32.wrap (a + bits .xor .u32 (bits .xor .u32 (r7) (r18)) (x / 8)) + bb) + bits .xor .u32 (bits .xor .u32 (r17) (r19)) (y / 1024))), .pointer (some ⟨w.heap.size, T, none⟩)] : List Value).getD zi undef) (by show dstsOk _ 77 = true; decide +kernel) hdd hsz hfr (fun zj hj => by
            by_cases h : zj < 29
            · exact hJ zj h
            · obtain rfl : zj = 29 := by have hj' : zj < 30 := hj; omega
              rfl)
          clear hJ hfr hdd hsz
          have hrg : List.range 30 = [0, 1, 2, 3, 4, 5, 6, 7, 8, 9, 10, 11, 12, 13, 14, 15, 16, 17, 18, 19, 20, 21, 22, 23, 24, 25, 26, 27, 28, 29] := rfl
          simp only [layAll, List.map_cons, List.map_nil, List.size_toArray, List.length_cons, List.length_nil, Nat.reduceAdd, hrg, List.zip_cons_cons, List.zip_nil_left, List.foldl_cons, List.foldl_nil, List.getD_cons_zero, List.getD_cons_succ, List.getD_nil, Act.put, List.setIfInBounds_toArray, List.set_cons_zero, List.set_cons_succ] at e
          subst e
          clear hrg
          apply_assumption
          have hB6 := HG.out.1.put T (IntKind.u32.wrap (IntKind.u32.wrap (IntKind.u32.wrap (a + bits .xor .u32 (bits .xor .u32 (r7) (r18)) (x / 8)) + bb) + bits .xor .u32 (bits .xor .u32 (r17) (r19)) (y / 1024)))
          have hpl := Sha.padL_set (n := 64) (l := L) (0 : Int) (IntKind.u32.wrap (IntKind.u32.wrap (IntKind.u32.wrap (a + bits .xor .u32 (bits .xor .u32 (r7) (r18)) (x / 8)) + bb) + bits .xor .u32 (bits .xor .u32 (r17) (r19)) (y / 1024))) (by rw [HT.out.2.2.1]; exact htl)
          rw [HT.out.2.2.1] at hpl
          rw [hpl] at hB6
          have hnx : L ++ [IntKind.u32.wrap (IntKind.u32.wrap (IntKind.u32.wrap (a + bits .xor .u32 (bits .xor .u32 (r7) (r18)) (x / 8)) + bb) + bits .xor .u32 (bits .xor .u32 (r17) (r19)) (y / 1024))] = Sha.schedN bs (k + 1) := by rw [HT.out.2.2.2.1]; unfold Sha.addw Sha.sg0 Sha.sg1; rw [HC.out.2.2.2.2.1.1, HC.out.2.2.2.2.1.2.1, HC.out.2.2.2.2.1.2.2.1, HC.out.2.2.2.2.1.2.2.2]
          have hB7 : Bw (W.setCell ⟨w.heap.size, T, none⟩ (.int .u32 (IntKind.u32.wrap (IntKind.u32.wrap (IntKind.u32.wrap (a + bits .xor .u32 (bits .xor .u32 (r7) (r18)) (x / 8)) + bb) + bits .xor .u32 (bits .xor .u32 (r17) (r19)) (y / 1024))))) w.heap.size (Sha.padL 64 (Sha.schedN bs (k + 1)) 0) := by rw [← hnx]; exact hB6
          have hb6 : Below w.heap.size w (W.setCell ⟨w.heap.size, T, none⟩ (.int .u32 (IntKind.u32.wrap (IntKind.u32.wrap (IntKind.u32.wrap (a + bits .xor .u32 (bits .xor .u32 (r7) (r18)) (x / 8)) + bb) + bits .xor .u32 (bits .xor .u32 (r17) (r19)) (y / 1024))))) := HG.out.2.1.grown (grownBy_set W ⟨w.heap.size, T, none⟩ _) (by have := HG.out.2.1.size; simpa using this) (fun j e => by injection e with e; exact Nat.le_of_eq e)
          have H6 := Lib.hid (And.intro hB7 hb6)
          clear hB6 hpl hnx hB7 hb6
          obtain ⟨WW, hWW⟩ : ∃ zw, W.setCell ⟨w.heap.size, T, none⟩ (.int .u32 (IntKind.u32.wrap (IntKind.u32.wrap (IntKind.u32.wrap (a + bits .xor .u32 (bits .xor .u32 (r7) (r18)) (x / 8)) + bb) + bits .xor .u32 (bits .xor .u32 (r17) (r19)) (y / 1024)))) = zw := ⟨_, rfl⟩
          rw [hWW] at H6 ⊢
          clear hWW
          have hTk : ((16 + (k + 1) : Nat) : Int) = (T : Int) + 1 := by have := HT.out.2.2.2.2.2.2; omega
          have HTK := Lib.hid hTk
          clear hTk
          go_wp2_with fail
          go_roundw
          case rel => exact ⟨k + 1, HK1.out, by rw [HTK.out], H6.out.1, H6.out.2⟩
          case measure => simp [intOf]; omega
        · obtain rfl : T = 64 := by omega
          obtain rfl : k = 48 := by omega
          have hge6 : ¬ ((64 : Nat) : Int) < 64 := by omega
          have hsl := Sha.sched_len bs
          have hsc : Sha.padL 64 (Sha.schedN bs 48) 0 = Sha.sched bs := Sha.padL_full 0 hsl
          rw [hsc] at hB
          have HE := Lib.hid (And.intro hB (And.intro hb hsl))
          clear hB hb hsl hsc hT
          go_wp2_with (first
            | ((with_reducible refine at_load_t 72 ?_); refine wpList_load_row rfl 72 _ rfl ⟨w.heap.size, 0, none⟩ (.agg ((Sha.sched bs).map u32v).toArray) rfl (load_w64 HE.out.2.2 HE.out.1) ?_)
            | ((with_reducible refine at_store_t 72 ?_); refine wpList_store_row rfl 72 _ _ rfl ⟨w.heap.size, 0, none⟩ (.agg ((Sha.sched bs).map u32v).toArray) (wr.setRow w.heap.size ((Sha.sched bs).map u32v).toArray) rfl rfl (store_w64 HE.out.2.2 HE.out.2.2 HE.out.1) ?_)
            | fail)
          have hS := setRow_blk (ds := ((Sha.sched bs).map u32v).toArray) HE.out.1
          exact bodyPost_ret (results_row1 Tryz.results59 _ _ _ _ _ rfl (load_w64 HE.out.2.2 hS.1)) rfl ⟨rfl, HE.out.2.1.grown hS.2 HE.out.2.1.size (fun j e => by injection e with e; omega)⟩
end Go.Proofs.YtmpladnglfiejaaGreatDoor
