/- SHA-256 of the program: the sum. -/
import Derived.Test.YtmpladnglfiejaaGreatDoorSh10
namespace Go.Proofs.YtmpladnglfiejaaGreatDoor
open Go.RowKit
set_option maxRecDepth 100000
set_option linter.unusedVariables false
set_option linter.unusedSimpArgs false
namespace Sha
def zerosOf (n : Nat) : Nat := (119 - n % 64) % 64
def lenByte (n i : Nat) : UInt8 := UInt8.ofNat (8 * n / 2 ^ (56 - 8 * i))
def padOf (n : Nat) : List UInt8 := (128 :: List.replicate (zerosOf n) 0) ++ (List.range 8).map (lenByte n)
def outByte (h : List Int) (i : Nat) : Int := IntKind.u8.wrap (h.getD (i / 4) 0 / 2 ^ (24 - 8 * (i % 4)))
/-- The sum's bytes. -/
def sum (xs : List UInt8) : List Int := (List.range 32).map (outByte (hsN (xs ++ padOf xs.length)))
theorem out_get {f : Nat → Int} {v : Int → Value} {i : Nat} (hi : i < 32) : (List.map v ((List.range i).map f ++ List.replicate (32 - i) 0))[i]? = some (v 0) := by
  rw [List.getElem?_map, List.getElem?_append_right (by simp), List.length_map, List.length_range, Nat.sub_self, List.getElem?_replicate, if_pos (by omega)]
  rfl
theorem out_set {f : Nat → Int} {v : Int → Value} {i : Nat} (hi : i < 32) : (List.map v ((List.range i).map f ++ List.replicate (32 - i) 0)).set i (v (f i)) = List.map v ((List.range (i + 1)).map f ++ List.replicate (32 - (i + 1)) 0) := by
  have hl : (List.map v ((List.range i).map f)).length = i := by simp
  rw [show 32 - i = (32 - (i + 1)) + 1 from by omega, List.replicate_succ, List.map_append, List.map_cons, List.set_append, if_neg (by omega), hl, Nat.sub_self, List.set_cons_zero, List.range_succ, List.map_append, List.map_append, List.map_append]
  simp
theorem padOf_len (n : Nat) : (padOf n).length ≤ 72 := by unfold padOf zerosOf; simp; omega
end Sha
def u8v (x : Int) : Value := .int .u8 x
theorem u8v_one (l : List Int) : ∀ v ∈ l.map u8v, v.oneCell' = true := by
  intro v hv
  obtain ⟨x, _, rfl⟩ := List.mem_map.1 hv
  rfl
theorem b32_info : (Tryz.prog.info? 25).map (·.size) = some 32 := rfl
theorem load_b32 {w : World} {g : Nat} {l : List Int} (hl : l.length = 32) (h : Blk w g 25 (l.map u8v).toArray) : (loadVar 25 ⟨g, 0, none⟩).run Tryz.prog w = .ok (.agg (l.map u8v).toArray) w :=
  load_row 25 0 (l.map u8v) _ Tryz.underlying25 rfl (by rw [b32_info]; simp [hl]) h (fun j v hv => by rw [Nat.zero_add, List.getElem?_toArray]; exact hv)
theorem store_b32 {w : World} {g : Nat} {l l' : List Int} (hl : l.length = 32) (hl' : l'.length = 32) (h : Blk w g 25 (l.map u8v).toArray) : (storeVar 25 ⟨g, 0, none⟩ (.agg (l'.map u8v).toArray)).run Tryz.prog w = .ok () (w.setRow g (l'.map u8v).toArray) := by
  have := store_row 25 0 (l'.map u8v) (by rw [b32_info]; simp [hl']) h (by simp [hl, hl']) (u8v_one l')
  rwa [layAt_all (by simp [hl, hl'])] at this
/-- What the slots hold where a copy of a state is made. -/
def SmJ (g base : Nat) (K H : List Int) (v0 : Value) (rs : List UInt8) : Nat → Value → World → Prop
  | 0, v, _ => v = .pointer (some ⟨g, 0, none⟩)
  | 1, v, _ => v = .pointer (some ⟨g, 0, none⟩)
  | 2, v, _ => v = .pointer (some ⟨g, 1, none⟩)
  | 3, v, _ => v = .agg (K.map u32v).toArray
  | 4, v, _ => v = .pointer (some ⟨g, 0, none⟩)
  | 5, v, _ => v = .pointer (some ⟨g, 0, none⟩)
  | 6, v, _ => v = .pointer (some ⟨g, 65, none⟩)
  | 7, v, _ => v = .agg (H.map u32v).toArray
  | 8, v, _ => v = .pointer (some ⟨g, 0, none⟩)
  | 9, v, _ => v = .pointer (some ⟨g, 0, none⟩)
  | 10, v, _ => v = .pointer (some ⟨g, 73, none⟩)
  | 11, v, _ => v = v0
  | 12, v, W => ∃ A n c, v = .slice A n c ∧ OwnB W base W.heap.size (.slice A n c) rs
  | 13, v, W => ∃ A n c, v = .agg (stL true K H (.slice A n c) 0).toArray ∧ OwnB W base W.heap.size (.slice A n c) rs
  | 14, v, W => ∃ p, v = .pointer (some ⟨p, 0, none⟩) ∧ base ≤ p ∧ Bst W p false (List.replicate 64 0) (List.replicate 8 0) (.slice none 0 0) 0
  | _, _, _ => True
theorem SmJ.mono {g base : Nat} {K H : List Int} {v0 : Value} {rs : List UInt8} : ∀ (i : Nat) (v : Value) (w w' : World), Below w.heap.size w w' → SmJ g base K H v0 rs i v w → SmJ g base K H v0 rs i v w' := by
  intro i v w w' hb h
  unfold SmJ at h ⊢
  split <;> first | trivial | exact h | (obtain ⟨A, n, c, e, h1⟩ := h; exact ⟨A, n, c, e, (h1.below hb (Nat.le_refl _)).mono (Nat.le_refl _) hb.size⟩) | (obtain ⟨p, e, h1, h2⟩ := h; exact ⟨p, e, h1, h2.below hb h2.lt⟩)
theorem K_allocSt {o : Oper} {a : Act} {w : World} {K : Act → World → Prop} {Q : Exit → Act → World → Prop} (ho : o.op = .alloc 75) (h : K (a.put o.dst (.pointer (some ⟨w.heap.size, 0, none⟩))) (w.alloc (.cells (stL false (List.replicate 64 0) (List.replicate 8 0) (.slice none 0 0) 0).toArray 75))) : o.wp Tryz.prog a w K Q := by
  have hr : (Instr.alloc 75 true (.tuple #[])).run Tryz.prog w = .ok (.pointer (some ⟨w.heap.size, 0, none⟩)) (w.alloc (.cells (stL false (List.replicate 64 0) (List.replicate 8 0) (.slice none 0 0) 0).toArray 75)) := by
    simp [go_sem]
    try rfl
  unfold Oper.wp
  rw [show (execOp a.eval o).run Tryz.prog w = .ok (.value (.pointer (some ⟨w.heap.size, 0, none⟩))) (w.alloc (.cells (stL false (List.replicate 64 0) (List.replicate 8 0) (.slice none 0 0) 0).toArray 75)) from by simp only [execOp, ho]; simp [hr], Oper.upon_value]
  exact h
theorem st_info : (Tryz.prog.info? 75).map (·.size) = some 75 := rfl
theorem stL_one {made : Bool} {K H : List Int} {A : Option Addr} {n' c : Nat} {n : Int} : ∀ v ∈ stL made K H (.slice A n' c) n, v.oneCell' = true := by
  intro v hv
  unfold stL at hv
  simp only [List.mem_cons, List.mem_append, List.mem_map, List.not_mem_nil, or_false] at hv
  rcases hv with rfl | ⟨x, _, rfl⟩ | ⟨x, _, rfl⟩ | rfl | rfl <;> rfl
theorem store_st {w : World} {p : Nat} {K H : List Int} {A : Option Addr} {n' c : Nat} (hK : K.length = 64) (hH : H.length = 8) (h : Bst w p false (List.replicate 64 0) (List.replicate 8 0) (.slice none 0 0) 0) : (storeVar 75 ⟨p, 0, none⟩ (.agg (stL true K H (.slice A n' c) 0).toArray)).run Tryz.prog w = .ok () (w.setRow p (stL true K H (.slice A n' c) 0).toArray) := by
  have := store_row 75 0 (stL true K H (.slice A n' c) 0) (by rw [st_info, stL_len hK hH]) h (by rw [List.size_toArray, stL_len hK hH, stL_len (by simp) (by simp)]; omega) stL_one
  rwa [layAt_all (by rw [List.size_toArray, stL_len hK hH, stL_len (by simp) (by simp)])] at this
theorem load_stk {w : World} {g : Nat} {made : Bool} {K H : List Int} {rest : Value} {n : Int} (hK : K.length = 64) (h : Bst w g made K H rest n) : (loadVar 72 ⟨g, 1, none⟩).run Tryz.prog w = .ok (.agg (K.map u32v).toArray) w :=
  load_row 72 1 (K.map u32v) _ Tryz.underlying72 rfl (by rw [w64_info]; simp [hK]) h (fun j v hv => by
    rw [List.getElem?_map] at hv
    cases hx : K[j]? with
    | none => rw [hx] at hv; cases hv
    | some x =>
      rw [hx] at hv
      injection hv with hv
      subst hv
      rw [List.getElem?_toArray]
      exact stL_k hK hx)
theorem load_bytesU {w : World} {ad : Addr} {v : Value} (h : w.cell? ad = some v) : (loadVar 22 ad).run Tryz.prog w = .ok v w := by simp [go_sem, h]
set_option maxHeartbeats 4000000 in
theorem sum_any (g lo : Nat) (xs : List UInt8) (w : World) (hst : StX w g lo xs xs.length) (hsz : xs.length ≤ 1099511627000) :
    Calls Tryz.prog 22 #[.pointer (some ⟨g, 0, none⟩)] w fun e w' => e = .returned (.agg ((Sha.sum xs).map u8v).toArray) ∧ Below w.heap.size w w' := by
  obtain ⟨hlg, v0, hB, ho⟩ := hst
  have hgl := hB.lt
  have hHl := Sha.hsN_len xs
  obtain ⟨Av, nv, cv, ev, hrv⟩ := ho.rd
  subst ev
  have hnv := hrv.len
  have hrl := Sha.restOf_len xs
  obtain ⟨w1, hw1⟩ : ∃ x, w.alloc (.cells #[.int .u8 0, .int .u8 0, .int .u8 0, .int .u8 0, .int .u8 0, .int .u8 0, .int .u8 0, .int .u8 0, .int .u8 0, .int .u8 0, .int .u8 0, .int .u8 0, .int .u8 0, .int .u8 0, .int .u8 0, .int .u8 0, .int .u8 0, .int .u8 0, .int .u8 0, .int .u8 0, .int .u8 0, .int .u8 0, .int .u8 0, .int .u8 0, .int .u8 0, .int .u8 0, .int .u8 0, .int .u8 0, .int .u8 0, .int .u8 0, .int .u8 0, .int .u8 0] 25) = x := ⟨_, rfl⟩
  have hO1 : Blk w1 w.heap.size 25 ((List.replicate 32 (0 : Int)).map u8v).toArray := by rw [← hw1]; exact Blk.new w _ _
  have hb1 : Below w.heap.size w w1 := by rw [← hw1]; exact (Below.refl _ _).alloc (Nat.le_refl _) _
  have hs1 : w1.heap.size = w.heap.size + 1 := by rw [← hw1]; simp
  have hB1 := hB.below hb1 hgl
  have hst := fun W (hW : Below w1.heap.size w1 W) => hB1.below hW hB1.lt
  have hrd := fun W (hW : Below w1.heap.size w1 W) => (hrv.up (hb1.trans (hW.mono (by omega))))
  have hmk := made_any g w1 _ _ _ _ hB1
  have H := Lib.hid (And.intro hO1 (And.intro hb1 (And.intro hst (And.intro hrd (And.intro hmk (And.intro hHl hnv))))))
  clear hB ho hrv hO1 hb1 hB1 hst hrd hmk
  go_enter Tryz.func22, Tryz.ntmps22
  go_upto_region 3 with fail
  clear hw1
  go_wp2_with fail
  refine H.out.2.2.2.2.1.mono ?_
  rintro e wx ⟨rfl, rfl⟩
  go_upto_region 4 with fail
  go_cut [3] from 7 (fun s3 wy => ∃ p A n c, s3 = Value.pointer (some ⟨p, 0, none⟩) ∧ wx.heap.size ≤ p ∧ Bst wy p true Sha.ktab (Sha.hsN xs) (.slice A n c) 0 ∧ OwnB wy wx.heap.size wy.heap.size (.slice A n c) (Sha.restOf xs) ∧ Below wx.heap.size wx wy)
  case first =>
    refine wp_region_reach 15 (SmJ g wx.heap.size Sha.ktab (Sha.hsN xs) (.slice Av nv cv) (Sha.restOf xs)) (Below wx.heap.size wx) (fun x y => Below x.heap.size x y) rfl SmJ.mono (fun w w' h1 h2 => h1.trans (h2.mono h1.size)) (by show dstsOk _ 77 = true; decide +kernel) (by decide +kernel) (by decide +kernel) rfl (by decide +kernel) (Below.refl _ _).drew ⟨?_, ?_, ?_, ?_, ?_, ?_, ?_, ?_, ?_, ?_, ?_, ?_, ?_, ?_, ?_, trivial⟩ ?_
    · intro a' W hfr hG hdep; refine J_of (by simp) (fun _ => rfl) ?_; have d1 : a'.eval (.tmp 0) = .pointer (some ⟨g, 0, none⟩) := hfr 0 (by decide +kernel); exact F_move rfl d1 trivial (Below.refl _ _)
    · intro a' W hfr hG hdep; refine J_of (by simp) (fun _ => rfl) ?_; have d1 : a'.eval (.tmp 12) = .pointer (some ⟨g, 0, none⟩) := hdep 0 (by decide +kernel); refine F_val ?_ trivial (Below.refl _ _); simp only [execOp, d1]; simp [go_sem, Act.eval]
    · intro a' W hfr hG hdep; refine J_of (by simp) (fun _ => rfl) ?_; have d1 : a'.eval (.tmp 13) = .pointer (some ⟨g, 0, none⟩) := hdep 1 (by decide +kernel); refine F_val ?_ trivial (Below.refl _ _); simp only [execOp, d1]; simp [go_sem, Act.eval]
    · intro a' W hfr hG hdep; refine J_of (by simp) (fun _ => rfl) ?_; have d1 : a'.eval (.tmp 14) = .pointer (some ⟨g, 1, none⟩) := hdep 2 (by decide +kernel); exact F_load rfl d1 (load_stk Sha.ktab_len (H.out.2.2.1 W hG)) trivial (Below.refl _ _)
    · intro a' W hfr hG hdep; refine J_of (by simp) (fun _ => rfl) ?_; have d1 : a'.eval (.tmp 0) = .pointer (some ⟨g, 0, none⟩) := hfr 0 (by decide +kernel); exact F_move rfl d1 trivial (Below.refl _ _)
    · intro a' W hfr hG hdep; refine J_of (by simp) (fun _ => rfl) ?_; have d1 : a'.eval (.tmp 16) = .pointer (some ⟨g, 0, none⟩) := hdep 4 (by decide +kernel); refine F_val ?_ trivial (Below.refl _ _); simp only [execOp, d1]; simp [go_sem, Act.eval]
    · intro a' W hfr hG hdep; refine J_of (by simp) (fun _ => rfl) ?_; have d1 : a'.eval (.tmp 17) = .pointer (some ⟨g, 0, none⟩) := hdep 5 (by decide +kernel); refine F_val ?_ trivial (Below.refl _ _); simp only [execOp, d1]; simp [go_sem, Act.eval]
    · intro a' W hfr hG hdep; refine J_of (by simp) (fun _ => rfl) ?_; have d1 : a'.eval (.tmp 18) = .pointer (some ⟨g, 65, none⟩) := hdep 6 (by decide +kernel); exact F_load rfl d1 (load_sth Sha.ktab_len H.out.2.2.2.2.2.1 (H.out.2.2.1 W hG)) trivial (Below.refl _ _)
    · intro a' W hfr hG hdep; refine J_of (by simp) (fun _ => rfl) ?_; have d1 : a'.eval (.tmp 0) = .pointer (some ⟨g, 0, none⟩) := hfr 0 (by decide +kernel); exact F_move rfl d1 trivial (Below.refl _ _)
    · intro a' W hfr hG hdep; refine J_of (by simp) (fun _ => rfl) ?_; have d1 : a'.eval (.tmp 20) = .pointer (some ⟨g, 0, none⟩) := hdep 8 (by decide +kernel); refine F_val ?_ trivial (Below.refl _ _); simp only [execOp, d1]; simp [go_sem, Act.eval]
    · intro a' W hfr hG hdep; refine J_of (by simp) (fun _ => rfl) ?_; have d1 : a'.eval (.tmp 21) = .pointer (some ⟨g, 0, none⟩) := hdep 9 (by decide +kernel); refine F_val ?_ trivial (Below.refl _ _); simp only [execOp, d1]; simp [go_sem, Act.eval]
    · intro a' W hfr hG hdep; refine J_of (by simp) (fun _ => rfl) ?_; have d1 : a'.eval (.tmp 22) = .pointer (some ⟨g, 73, none⟩) := hdep 10 (by decide +kernel); exact F_load rfl d1 (load_bytesU (((H.out.2.2.1 W hG).cell 73).trans (by rw [List.getElem?_toArray]; exact stL_rest Sha.ktab_len H.out.2.2.2.2.2.1))) trivial (Below.refl _ _)
    · intro a' W hfr hG hdep; have d1 : a'.eval (.tmp 23) = .slice Av nv cv := hdep 11 (by decide +kernel); refine J_call (by simp) rfl Tryz.func35 rfl (by decide) (args := #[.slice Av nv cv]) (by simp only [List.map_toArray, List.map_cons, List.map_nil, d1]) (clone_any Av nv cv _ W (H.out.2.2.2.1 W hG) (by have := H.out.2.2.2.2.2.2; omega)) ?_; rintro e w' ⟨A, n, c, rfl, ho, hb⟩; exact ⟨_, rfl, ⟨A, n, c, rfl, ho.mono hG.size (Nat.le_refl _)⟩, hb⟩
    · intro a' W hfr hG hdep; have b1 : a'.eval (.tmp 15) = .agg (Sha.ktab.map u32v).toArray := hdep 3 (by decide +kernel); have b2 : a'.eval (.tmp 19) = .agg ((Sha.hsN xs).map u32v).toArray := hdep 7 (by decide +kernel); obtain ⟨A, n, c, b3, ho⟩ : ∃ A n c, a'.eval (.tmp 24) = .slice A n c ∧ OwnB W wx.heap.size W.heap.size (.slice A n c) (Sha.restOf xs) := hdep 12 (by decide +kernel); refine Oper.wp_mono (fun a'' w'' h => ⟨.agg (stL true Sha.ktab (Sha.hsN xs) (.slice A n c) 0).toArray, h.1, fun h => absurd h (by simp), ⟨A, n, c, rfl, (ho.below h.2.2 (Nat.le_refl _)).mono (Nat.le_refl _) h.2.2.size⟩, h.2.2⟩) (?_ : Oper.wp _ _ _ _ (RK _ a' W (.agg (stL true Sha.ktab (Sha.hsN xs) (.slice A n c) 0).toArray) (fun _ => True) (fun x y => Below x.heap.size x y)) _); refine F_val ?_ trivial (Below.refl _ _); have hbs := build_st Sha.ktab_len H.out.2.2.2.2.2.1 A n c W; simp only [execOp]; simp only [List.map_toArray, List.map_cons, List.map_nil, b1, b2, b3]; simp [hbs, Act.eval]
    · intro a' W hfr hG hdep; exact K_allocSt rfl ⟨_, rfl, fun h => absurd h (by simp), ⟨W.heap.size, rfl, hG.size, Blk.new W _ _⟩, (Below.refl _ _).alloc (Nat.le_refl _) _⟩
    · intro o ho' a' W hdd hsz' hfr hG hJ
      have e1 : o.op = .store 75 (.tmp 3) (.tmp 25) ∧ o.dst = none := by cases ho'; exact ⟨rfl, rfl⟩
      clear ho'
      obtain ⟨p, hp, hpl, hpz⟩ : ∃ p, a'.eval (.tmp 3) = .pointer (some ⟨p, 0, none⟩) ∧ wx.heap.size ≤ p ∧ Bst W p false (List.replicate 64 0) (List.replicate 8 0) (.slice none 0 0) 0 := hJ 14 (by decide)
      obtain ⟨A, n, c, hv, ho⟩ : ∃ A n c, a'.eval (.tmp 25) = .agg (stL true Sha.ktab (Sha.hsN xs) (.slice A n c) 0).toArray ∧ OwnB W wx.heap.size W.heap.size (.slice A n c) (Sha.restOf xs) := hJ 13 (by decide)
      have hS := setRow_blk (ds := (stL true Sha.ktab (Sha.hsN xs) (.slice A n c) 0).toArray) hpz
      refine wp_store_row 75 _ _ e1.1 _ _ _ hp hv (store_st Sha.ktab_len H.out.2.2.2.2.2.1 hpz) ?_
      rw [e1.2]
      have hfin : Below wx.heap.size wx (W.setRow p (stL true Sha.ktab (Sha.hsN xs) (.slice A n c) 0).toArray) := hG.grown hS.2 hG.size (fun j e => by injection e with e; omega)
      have ho2 : OwnB (W.setRow p (stL true Sha.ktab (Sha.hsN xs) (.slice A n c) 0).toArray) wx.heap.size (W.setRow p (stL true Sha.ktab (Sha.hsN xs) (.slice A n c) 0).toArray).heap.size (.slice A n c) (Sha.restOf xs) := (ownB_keepU8 ho fun k cur fr _ hk h2 => hS.2.block k hk (fun e => by
        injection e with e
        subst e
        unfold Bst Blk at hpz
        rw [hpz] at h2
        injection h2 with h2
        injection h2 with _ h5
        exact absurd h5 (by decide))).mono (Nat.le_refl _) hS.2.size
      have HF := Lib.hid (And.intro hpl (And.intro hS.1 (And.intro ho2 hfin)))
      obtain ⟨vs, hvs, e⟩ := act_of_some (by show dstsOk _ 77 = true; decide +kernel) hdd hsz' hfr
      have h14 : vs 14 = .pointer (some ⟨p, 0, none⟩) := (hvs 14).symm.trans hp
      clear hJ hfr hdd hsz' hG hvs hp hv hpz hS hfin e1 hpl ho ho2
      have hrg : List.range 16 = [0, 1, 2, 3, 4, 5, 6, 7, 8, 9, 10, 11, 12, 13, 14, 15] := rfl
      simp only [layAll, List.map_cons, List.map_nil, List.size_toArray, List.length_cons, List.length_nil, Nat.reduceAdd, hrg, List.zip_cons_cons, List.zip_nil_left, List.foldl_cons, List.foldl_nil, Act.put, List.setIfInBounds_toArray, List.set_cons_zero, List.set_cons_succ] at e
      subst e
      clear hrg
      apply_assumption
      go_meet
      exact ⟨p, A, n, c, h14, HF.out.1, HF.out.2.1, HF.out.2.2.1, HF.out.2.2.2⟩
  obtain ⟨p, A, nr, c, rfl, hp, hBp, hor, hbp⟩ := hcut
  apply_assumption
  obtain ⟨n, hn⟩ : ∃ n, xs.length = n := ⟨_, rfl⟩
  have hg73 : ∀ W, Below wx.heap.size wx W → W.cell? ⟨g, 73, none⟩ = some (.slice Av nv cv) := fun W hW => ((H.out.2.2.1 W hW).cell 73).trans (by rw [List.getElem?_toArray]; exact stL_rest Sha.ktab_len hHl)
  have hg74 : ∀ W, Below wx.heap.size wx W → W.cell? ⟨g, 74, none⟩ = some (.int .u64 (n : Int)) := fun W hW => ((H.out.2.2.1 W hW).cell 74).trans (by rw [List.getElem?_toArray, ← hn]; exact stL_n Sha.ktab_len hHl)
  have hnv64 : nv = n % 64 := by omega
  have hnvl : nv < 64 := by omega
  have hn40 : n ≤ 1099511627000 := by omega
  have hlit := OwnB.lit wc [128] [.int .u8 128] 1 rfl rfl (by omega)
  have hscx := hbp.size
  obtain ⟨w6, hw6⟩ : ∃ x, wc.alloc (.cells #[.int .u8 128] 5) = x := ⟨_, rfl⟩
  have ho6 : OwnB w6 wc.heap.size w6.heap.size (.slice (some ⟨wc.heap.size, 0, none⟩) 1 1) [128] := by rw [← hw6]; exact hlit.mono (Nat.le_refl _) (by simp)
  have hb6 : Below wc.heap.size wc w6 := by rw [← hw6]; exact (Below.refl _ _).alloc (Nat.le_refl _) _
  have HN := Lib.hid (And.intro hnv64 (And.intro hn hrl))
  have HC := Lib.hid (And.intro hg73 (And.intro hg74 (And.intro hBp (And.intro hor hbp))))
  have H6 := Lib.hid (And.intro ho6 hb6)
  clear hg73 hg74 hnv64 hn hrl hBp hor hbp hlit ho6 hb6 hsz hnv hHl
  go_upto_region 6 with fail
  clear hw6
  have wkeep : ∀ W, Below wc.heap.size wc W → Below wx.heap.size wx W := fun W hW => HC.out.2.2.2.2.trans (hW.mono hscx)
  have HW := Lib.hid wkeep
  clear wkeep
  go_loopw [4] (fun s4 wr => ∃ (z cz : Nat) (Az : Option Addr), s4 = .slice Az (z + 1) cz ∧ z ≤ Sha.zerosOf n ∧ OwnB wr wc.heap.size wr.heap.size (.slice Az (z + 1) cz) (128 :: List.replicate z 0) ∧ Below wc.heap.size wc wr) (fun s4 _ => 100 - slLen s4)
  case atStart => exact ⟨0, 1, some ⟨wc.heap.size, 0, none⟩, rfl, Nat.zero_le _, H6.out.1, H6.out.2⟩
  case round =>
    obtain ⟨z, cz, Az, rfl, hz, ho, hb⟩ := hrel
    have c73 := HC.out.1 wr (HW.out wr hb)
    have hzb : Sha.zerosOf n < 64 := by unfold Sha.zerosOf; omega
    have hmod : Int.tmod ((nv : Int) + ((z + 1 : Nat) : Int)) 64 = (((nv + (z + 1)) % 64 : Nat) : Int) := rfl
    obtain ⟨z1, hz1⟩ : ∃ k, z + 1 = k := ⟨_, rfl⟩
    rw [hz1] at ho hmod ⊢
    obtain ⟨r, hr⟩ : ∃ r, (nv + z1) % 64 = r := ⟨_, rfl⟩
    rw [hr] at hmod
    have hz1l : z1 ≤ 64 := by omega
    by_cases h56 : r = 56
    · have hb56 : ((r : Int) != 56) = false := by simp; omega
      have hzz : z = Sha.zerosOf n := by
        have h1 := HN.out.1
        unfold Sha.zerosOf at hz ⊢
        omega
      have HZ := Lib.hid (And.intro ho (And.intro hb (And.intro hzz hz1)))
      clear ho hb hzz hz1 hr h56 hz hzb
      go_wp2_with fail
      obtain ⟨V, rfl⟩ : ∃ V, V = wr := ⟨_, rfl⟩
      clear c73 hmod hb56
      go_loopw [40, 4, 5] (fun ix s4 _ wr => ∃ (i mz cz : Nat) (Az : Option Addr), i ≤ 8 ∧ ix = .int .i64 (i : Int) ∧ s4 = .slice Az mz cz ∧ OwnB wr wc.heap.size wr.heap.size (.slice Az mz cz) ((128 :: List.replicate (Sha.zerosOf n) 0) ++ (List.range i).map (Sha.lenByte n)) ∧ Below wc.heap.size wc wr) (fun ix _ _ _ => 8 - (intOf ix).toNat)
      case atStart => exact ⟨0, z1, cz, Az, by omega, rfl, rfl, by rw [List.range_zero, List.map_nil, List.append_nil, ← HZ.out.2.2.1]; exact HZ.out.1, HZ.out.2.1⟩
      case round =>
        obtain ⟨i, mz, cz, Az, hi, rfl, rfl, ho, hb⟩ := hrel
        by_cases hil : i < 8
        · have hil' : (i : Int) < 8 := by omega
          have c74 := HC.out.2.1 wr (HW.out wr hb)
          have hml : mz ≤ 80 := by
            obtain ⟨_, _, _, e1, h1⟩ := ho.rd
            injection e1 with _ e2 _
            have h2 := h1.len
            rw [List.length_append, List.length_cons, List.length_replicate, List.length_map, List.length_range] at h2
            have hzb : Sha.zerosOf n < 64 := by unfold Sha.zerosOf; omega
            omega
          obtain ⟨sh, hsh⟩ : ∃ k, 56 - 8 * i = k := ⟨_, rfl⟩
          have hshi : (56 : Int) - 8 * (i : Int) = (sh : Int) := by omega
          have hsh64 : sh ≤ 56 := by omega
          have hlb : bv (Sha.lenByte n i) = .int .u8 (8 * (n : Int) / 2 ^ sh % 256) := by
            unfold Sha.lenByte bv
            rw [hsh, UInt8.toNat_ofNat']
            congr 1
          have hrange : (128 :: List.replicate (Sha.zerosOf n) 0) ++ (List.range (i + 1)).map (Sha.lenByte n) = ((128 :: List.replicate (Sha.zerosOf n) 0) ++ (List.range i).map (Sha.lenByte n)) ++ [Sha.lenByte n i] := by
            rw [List.range_succ, List.map_append, ← List.append_assoc]
            rfl
          have HI := Lib.hid (And.intro ho (And.intro hb (And.intro hlb hrange)))
          have hsr := hb.size
          clear ho hb hlb hrange hsh
          go_upto_region 11 with fail
          go_wp2_with (
            (at_builtin
             refine wpList_app rfl (.tmp 43) (.tmp 54) rfl wc.heap.size wr.heap.size (.slice Az mz cz) ((128 :: List.replicate (Sha.zerosOf n) 0) ++ (List.range i).map (Sha.lenByte n)) rfl (HI.out.1.alloc (Nat.le_refl _) _) ?_ (wr.alloc (.cells #[.int .u8 (8 * (n : Int) / 2 ^ sh % 256)] 5)).heap.size (some ⟨wr.heap.size, 0, none⟩) 1 1 [Sha.lenByte n i] rfl ?_ ?_ ?_
             · (simp; omega)
             · have e := reads_block wr 5 [bv (Sha.lenByte n i)] _ rfl
               rw [HI.out.2.2.1] at e
               simp only [List.map_cons, List.map_nil, HI.out.2.2.1]
               exact e
             · have hzb : Sha.zerosOf n < 64 := by unfold Sha.zerosOf; omega
               simp; omega
             intro v7 w7 ho7 hg7 hat7 hb7
             have HA := Lib.hid (And.intro ho7 hb7)
             clear ho7 hg7 hat7 hb7))
          obtain ⟨A7, n7, c7, e7, hr7⟩ := HA.out.1.rd
          subst e7
          refine ⟨⟨i + 1, n7, c7, A7, by omega, by simp, rfl, ?_, HI.out.2.1.trans (((Below.refl _ _).alloc HI.out.2.1.size _).trans HA.out.2)⟩, ?_⟩
          · rw [HI.out.2.2.2]
            exact HA.out.1
          · simp only [intOf]
            omega
        · have hi8 : i = 8 := by omega
          subst hi8
          have hil' : ¬ (((8 : Nat) : Int) < 8) := by omega
          have hpl : p < wc.heap.size := HC.out.2.2.1.lt
          have hSt : StX wr p wx.heap.size xs 0 := ⟨hp, _, HC.out.2.2.1.below hb HC.out.2.2.1.lt, (HC.out.2.2.2.1.below hb (Nat.le_refl _)).mono (Nat.le_refl _) hb.size⟩
          have hpad : (128 :: List.replicate (Sha.zerosOf n) 0) ++ (List.range 8).map (Sha.lenByte n) = Sha.padOf n := rfl
          rw [hpad] at ho
          have hpl72 := Sha.padOf_len n
          have hml : (Sha.padOf n).length = mz := by
            obtain ⟨_, _, _, e1, h1⟩ := ho.rd
            injection e1 with _ e2 _
            rw [e2, h1.len]
          have hwr := shaWrite_any p wx.heap.size 0 Az mz cz wr.heap.size xs (Sha.padOf n) wr hSt hml (fun u => by
            obtain ⟨_, _, _, e1, h1⟩ := (ho.setCell (p := ⟨p, 74, none⟩) (Or.inl hpl) u).rd
            injection e1 with e1 e2 e3
            subst e1 e2 e3
            exact h1.rds) (Nat.le_trans hscx hb.size) (by omega) (by have := HN.out.2.1; omega)
          have HB := Lib.hid (And.intro hb (And.intro hwr hscx))
          clear hb ho hwr hSt hpad
          have hwr := HB.out.2.1
          go_wp2_with fail
          refine hwr.mono ?_
          rintro e wy ⟨rfl, ⟨_, v0, hBy, hoy⟩, hby, _⟩
          have hxy : Below w.heap.size w wy := H.out.2.1.trans (((HC.out.2.2.2.2.trans (HB.out.1.mono HB.out.2.2)).trans hby).mono (by omega))
          have hHl := Sha.hsN_len (xs ++ Sha.padOf n)
          obtain ⟨HH, hHH⟩ : ∃ h, Sha.hsN (xs ++ Sha.padOf n) = h := ⟨_, rfl⟩
          rw [hHH] at hBy hHl
          obtain ⟨nz, hnz⟩ : ∃ k, 0 + (Sha.padOf n).length = k := ⟨_, rfl⟩
          rw [hnz] at hBy
          have hBo : Blk wy w.heap.size 25 (List.map u8v (List.replicate 32 0)).toArray := by
            have h1 := H.out.1
            have h2 : Below wx.heap.size wx wy := (HC.out.2.2.2.2.trans (HB.out.1.mono HB.out.2.2)).trans hby
            exact (h2.block _ (by omega)).trans h1
          have hYs := hxy.size
          have HY := Lib.hid (And.intro hBo (And.intro hBy (And.intro hxy (And.intro hHl (And.intro hHH HN.out.2.1)))))
          clear hwr HB hBo hBy hoy hxy hby hHl hHH hnz hpl72 hml hil'
          apply_assumption
          go_upto_region 15 with fail
          go_loopw [6, 59, 60, 61, 62, 63, 64, 65, 66, 67, 68, 69, 70, 71, 72, 73, 74, 75] (fun _ ix _ _ _ _ _ _ _ _ _ _ _ _ _ _ _ _ wr => ∃ (i : Nat), i ≤ 32 ∧ ix = .int .i64 (i : Int) ∧ Blk wr w.heap.size 25 (List.map u8v ((List.range i).map (Sha.outByte HH) ++ List.replicate (32 - i) 0)).toArray ∧ Bst wr p true Sha.ktab HH v0 (nz : Int) ∧ Below w.heap.size w wr) (fun _ ix _ _ _ _ _ _ _ _ _ _ _ _ _ _ _ _ _ => 32 - (intOf ix).toNat)
          case atStart => exact ⟨0, by omega, rfl, HY.out.1, HY.out.2.1, HY.out.2.2.1⟩
          case round =>
            obtain ⟨i, hi, rfl, hO, hB, hb⟩ := hrel
            by_cases hil : i < 32
            · have hil' : (i : Int) < 32 := by omega
              obtain ⟨q, hq⟩ : ∃ k, i / 4 = k := ⟨_, rfl⟩
              obtain ⟨m, hm⟩ : ∃ k, i % 4 = k := ⟨_, rfl⟩
              have hqi : Int.tdiv (i : Int) 4 = (q : Int) := by rw [← hq]; rfl
              have hmi : Int.tmod (i : Int) 4 = (m : Int) := by rw [← hm]; rfl
              have hql : q < 8 := by omega
              have hml : m < 4 := by omega
              obtain ⟨sh, hsh⟩ : ∃ k, 24 - 8 * m = k := ⟨_, rfl⟩
              have hshi : (24 : Int) - 8 * (m : Int) = (sh : Int) := by omega
              have hsh32 : sh ≤ 24 := by omega
              obtain ⟨y, hy⟩ : ∃ y, HH[q]? = some y := ⟨HH[q]'(by rw [HY.out.2.2.2.1]; omega), by simp⟩
              have hyD : HH.getD q 0 = y := by rw [List.getD_eq_getElem?_getD, hy]; rfl
              have cq : wr.cell? ⟨p, 65 + q, none⟩ = some (.int .u32 y) := (hB.cell (65 + q)).trans (by rw [List.getElem?_toArray]; exact stL_h Sha.ktab_len HY.out.2.2.2.1 hy)
              have hout : Sha.outByte HH i = y / 2 ^ sh % 256 := by
                unfold Sha.outByte
                rw [hq, hm, hsh, hyD, IntKind.wrap_u8']
              have hfo := hO.frozen i
              have hlo : (List.map u8v ((List.range i).map (Sha.outByte HH) ++ List.replicate (32 - i) 0)).toArray.setIfInBounds i (u8v (y / 2 ^ sh % 256)) = (List.map u8v ((List.range (i + 1)).map (Sha.outByte HH) ++ List.replicate (32 - (i + 1)) 0)).toArray := by
                rw [List.setIfInBounds_toArray, ← hout]
                exact congrArg _ (Sha.out_set hil)
              have co : ∃ u, wr.cell? ⟨w.heap.size, i, none⟩ = some u := ⟨_, (hO.cell i).trans (by rw [List.getElem?_toArray]; exact Sha.out_get hil)⟩
              have HI := Lib.hid (And.intro hO (And.intro hB (And.intro hb hlo)))
              clear hO hB hb hlo hout hq hm hsh hy hyD
              obtain ⟨u0, hu0⟩ := co
              go_wp2_with fail
              exact ⟨⟨i + 1, by omega, by simp, by rw [← HI.out.2.2.2]; exact HI.out.1.set_ i _, Blk.far HI.out.2.1 (by show p ≠ w.heap.size; omega) _, HI.out.2.2.1.setCell (Nat.le_refl _) _⟩, by simp only [intOf]; omega⟩
            · obtain rfl : i = 32 := by omega
              have hil' : ¬ (((32 : Nat) : Int) < 32) := by omega
              have hz0 : (List.range 32).map (Sha.outByte HH) ++ List.replicate (32 - 32) 0 = Sha.sum xs := by
                unfold Sha.sum
                rw [HY.out.2.2.2.2.2, HY.out.2.2.2.2.1]
                exact List.append_nil _
              rw [hz0] at hO
              have hsl : (Sha.sum xs).length = 32 := by unfold Sha.sum; rw [List.length_map, List.length_range]
              have HE := Lib.hid (And.intro hO (And.intro hb hsl))
              clear hO hB hb hsl hz0
              go_wp2_with (first
                | ((with_reducible refine at_load_t 25 ?_); refine wpList_load_row rfl 25 _ rfl ⟨w.heap.size, 0, none⟩ (.agg ((Sha.sum xs).map u8v).toArray) rfl (load_b32 HE.out.2.2 HE.out.1) ?_)
                | ((with_reducible refine at_store_t 25 ?_); refine wpList_store_row rfl 25 _ _ rfl ⟨w.heap.size, 0, none⟩ (.agg ((Sha.sum xs).map u8v).toArray) (wr.setRow w.heap.size ((Sha.sum xs).map u8v).toArray) rfl rfl (store_b32 HE.out.2.2 HE.out.2.2 HE.out.1) ?_)
                | fail)
              have hS := setRow_blk (ds := ((Sha.sum xs).map u8v).toArray) HE.out.1
              exact bodyPost_ret (results_row1 Tryz.results22 _ _ _ _ _ rfl (load_b32 HE.out.2.2 hS.1)) rfl ⟨rfl, HE.out.2.1.grown hS.2 HE.out.2.1.size (fun j e => by injection e with e; omega)⟩
    · have hb56 : ((r : Int) != 56) = true := by simp; omega
      have hzz : z + 1 ≤ Sha.zerosOf n := by
        have h1 := HN.out.1
        unfold Sha.zerosOf at hz ⊢
        omega
      have ho2 : ∀ (o : Obj), OwnB (wr.alloc o) wc.heap.size wr.heap.size (.slice Az z1 cz) (128 :: List.replicate z 0) := fun o => ho.alloc (Nat.le_refl _) o
      have HZ := Lib.hid (And.intro ho2 (And.intro hb (And.intro hzz hz1)))
      have hsr := hb.size
      clear ho ho2 hb hzz hz1 hr h56 hz hzb
      go_wp2_with (
        (at_builtin
         refine wpList_app rfl (.tmp 37) (.tmp 38) rfl wc.heap.size wr.heap.size (.slice Az z1 cz) (128 :: List.replicate z 0) rfl (HZ.out.1 _) (by simp; omega) (wr.alloc (.cells #[.int .u8 0] 5)).heap.size (some ⟨wr.heap.size, 0, none⟩) 1 1 [0] rfl (reads_block wr 5 [.int .u8 0] _ rfl) (by have := HZ.out.2.2.2; simp; omega) ?_
         intro v7 w7 ho7 hg7 hat7 hb7
         have HA := Lib.hid (And.intro ho7 hb7)
         clear ho7 hg7 hat7 hb7))
      obtain ⟨A7, n7, c7, e7, hr7⟩ := HA.out.1.rd
      have hn7 : n7 = z + 1 + 1 := by have := hr7.len; rw [List.length_append, List.length_cons, List.length_replicate] at this; simp at this; omega
      subst e7
      subst hn7
      have hrel2 : OwnB w7 wc.heap.size w7.heap.size (.slice A7 (z + 1 + 1) c7) (128 :: List.replicate (z + 1) 0) := by
        rw [List.replicate_succ']
        exact HA.out.1
      have hb7' : Below wc.heap.size wc w7 := HZ.out.2.1.trans (((Below.refl _ _).alloc HZ.out.2.1.size _).trans HA.out.2)
      have hzn := HZ.out.2.2
      have hzb : Sha.zerosOf n < 64 := by unfold Sha.zerosOf; omega
      exact ⟨⟨z + 1, c7, A7, rfl, hzn.1, hrel2, hb7'⟩, by show 100 - (z + 1 + 1) < 100 - z1; omega⟩
end Go.Proofs.YtmpladnglfiejaaGreatDoor
