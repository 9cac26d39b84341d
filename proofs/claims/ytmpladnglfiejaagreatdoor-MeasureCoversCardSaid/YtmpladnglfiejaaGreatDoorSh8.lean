/- SHA-256 of the program: what a block makes of eight words. -/
import Derived.Test.YtmpladnglfiejaaGreatDoorSh7
namespace Go.Proofs.YtmpladnglfiejaaGreatDoor
open Go.RowKit
set_option maxRecDepth 100000
set_option linter.unusedVariables false
set_option linter.unusedSimpArgs false
namespace Sha
def bs1 (e : Int) : Int := bits .xor .u32 (bits .xor .u32 (rot e 67108864 64) (rot e 2097152 2048)) (rot e 128 33554432)
def bs0 (a : Int) : Int := bits .xor .u32 (bits .xor .u32 (rot a 1073741824 4) (rot a 524288 8192)) (rot a 1024 4194304)
def notw (e : Int) : Int := bits .xor .u32 4294967295 e
def chw (e f g : Int) : Int := bits .xor .u32 (bits .and .u32 e f) (bits .and .u32 (notw e) g)
def maj (a b c : Int) : Int := bits .xor .u32 (bits .xor .u32 (bits .and .u32 a b) (bits .and .u32 a c)) (bits .and .u32 b c)
def one (e f g h k w : Int) : Int := addw (addw (addw (addw h (bs1 e)) (chw e f g)) k) w
def two (a b c : Int) : Int := addw (bs0 a) (maj a b c)
def rnd (v : List Int) (k w : Int) : List Int := match v with
  | [a, b, c, d, e, f, g, h] => [addw (one e f g h k w) (two a b c), a, b, c, addw d (one e f g h k w), e, f, g]
  | v => v
def rnds (K W v : List Int) : Nat → List Int
  | 0 => v
  | t + 1 => rnd (rnds K W v t) (K.getD t 0) (W.getD t 0)
/-- What a block makes of eight words. -/
def comp (K H : List Int) (bs : List UInt8) : List Int := List.zipWith addw H (rnds K (sched bs) H 64)
theorem rnd_len (v : List Int) (k w : Int) (h : v.length = 8) : (rnd v k w).length = 8 := by
  unfold rnd
  split
  · rfl
  · exact h
theorem rnds_len (K W v : List Int) (h : v.length = 8) : ∀ t, (rnds K W v t).length = 8
  | 0 => h
  | t + 1 => rnd_len _ _ _ (rnds_len K W v h t)
theorem comp_len (K H : List Int) (bs : List UInt8) (h : H.length = 8) : (comp K H bs).length = 8 := by unfold comp; rw [List.length_zipWith, h, rnds_len _ _ _ h]; rfl
theorem eight (v : List Int) (h : v.length = 8) : ∃ a b c d e f g i, v = [a, b, c, d, e, f, g, i] := by
  match v, h with
  | [a, b, c, d, e, f, g, i], _ => exact ⟨a, b, c, d, e, f, g, i, rfl⟩
end Sha
/-- An array of eight words in memory. -/
abbrev B8 (w : World) (g : Nat) (l : List Int) : Prop := Blk w g 73 (l.map u32v).toArray
theorem B8.at_ {w : World} {g : Nat} {l : List Int} (h : B8 w g l) {i : Nat} {x : Int} (hx : l[i]? = some x) : w.cell? ⟨g, i, none⟩ = some (.int .u32 x) := by
  rw [h.cell, List.getElem?_toArray, List.getElem?_map, hx]
  rfl
theorem B8.put {w : World} {g : Nat} {l : List Int} (h : B8 w g l) (i : Nat) (x : Int) : B8 (w.setCell ⟨g, i, none⟩ (.int .u32 x)) g (l.set i x) := by
  have := h.set_ i (.int .u32 x)
  rw [List.setIfInBounds_toArray] at this
  unfold B8
  rw [List.map_set]
  exact this
theorem w8_info : (Tryz.prog.info? 73).map (·.size) = some 8 := rfl
theorem load_w8 {w : World} {g : Nat} {l : List Int} (hl : l.length = 8) (h : B8 w g l) : (loadVar 73 ⟨g, 0, none⟩).run Tryz.prog w = .ok (.agg (l.map u32v).toArray) w :=
  load_row 73 0 (l.map u32v) _ Tryz.underlying73 rfl (by rw [w8_info]; simp [hl]) h (fun j v hv => by rw [Nat.zero_add, List.getElem?_toArray]; exact hv)
theorem store_w8 {w : World} {g : Nat} {l l' : List Int} (hl : l.length = 8) (hl' : l'.length = 8) (h : B8 w g l) : (storeVar 73 ⟨g, 0, none⟩ (.agg (l'.map u32v).toArray)).run Tryz.prog w = .ok () (w.setRow g (l'.map u32v).toArray) := by
  have := store_row 73 0 (l'.map u32v) (by rw [w8_info]; simp [hl']) h (by simp [hl, hl']) (u32v_one l')
  rwa [layAt_all (by simp [hl, hl'])] at this
/-- The eight words of a state. -/
theorem load_sth {w : World} {g : Nat} {made : Bool} {K H : List Int} {rest : Value} {n : Int} (hK : K.length = 64) (hH : H.length = 8) (h : Bst w g made K H rest n) : (loadVar 73 ⟨g, 65, none⟩).run Tryz.prog w = .ok (.agg (H.map u32v).toArray) w :=
  load_row 73 65 (H.map u32v) _ Tryz.underlying73 rfl (by rw [w8_info]; simp [hH]) h (fun j v hv => by
    rw [List.getElem?_map] at hv
    cases hx : H[j]? with
    | none => rw [hx] at hv; cases hv
    | some x =>
      rw [hx] at hv
      injection hv with hv
      subst hv
      rw [List.getElem?_toArray]
      exact stL_h hK hH hx)
/-- What the slots hold where a block's words and the eight words are laid. -/
def BhJ (g lo : Nat) (sv : Value) (H sch : List Int) : Bool → Nat → Value → World → Prop
  | _, 0, v, _ => v = sv
  | _, 1, v, _ => v = .agg (sch.map u32v).toArray
  | _, 2, v, _ => v = .pointer (some ⟨g, 0, none⟩)
  | _, 3, v, _ => v = .pointer (some ⟨g, 0, none⟩)
  | _, 4, v, _ => v = .pointer (some ⟨g, 65, none⟩)
  | _, 5, v, _ => v = .agg (H.map u32v).toArray
  | false, 6, v, W => ∃ p, v = .pointer (some ⟨p, 0, none⟩) ∧ lo ≤ p ∧ Bw W p (List.replicate 64 0)
  | true, 6, v, W => ∃ p, v = .pointer (some ⟨p, 0, none⟩) ∧ lo ≤ p ∧ Bw W p sch
  | _, 7, v, W => ∃ p, v = .pointer (some ⟨p, 0, none⟩) ∧ lo ≤ p ∧ B8 W p (List.replicate 8 0)
  | _, _, _, _ => True
theorem BhJ.mono {g lo : Nat} {sv : Value} {H sch : List Int} : ∀ (b : Bool) (i : Nat) (v : Value) (w w' : World), Below w.heap.size w w' → BhJ g lo sv H sch b i v w → BhJ g lo sv H sch b i v w' := by
  intro b i v w w' hb h
  unfold BhJ at h ⊢
  split <;> first | trivial | exact h | (obtain ⟨p, e, h1, h2⟩ := h; exact ⟨p, e, h1, h2.below hb h2.lt⟩)
theorem Ph2_of {P : Program} {ops : Array Oper} {o : Oper} {a : Act} {w : World} {Q : Exit → Act → World → Prop} {JJ : Bool → Nat → Value → World → Prop} {GG : Bool → World → Prop} {b : Bool} {i : Nat} (v : Value) (hd : o.dst ≠ none) (hJ : ∀ w', JJ b i v w') (hm : ∀ (b : Bool) (i : Nat) (v : Value) (w w' : World), Below w.heap.size w w' → JJ b i v w → JJ b i v w') (hGR : ∀ w', Below w.heap.size w w' → GG b w')
    (h : o.wp P a w (RK o a w v (fun _ => True) (fun x y => Below x.heap.size x y)) Q) : o.wp P a w (fun a' w' => ∃ v, a' = a.put o.dst v ∧ (o.dst = none → v = undef) ∧ JJ b i v w' ∧ GG b w' ∧ ∀ j, JJ b j (slotOf ops a j) w → JJ b j (slotOf ops a j) w') Q :=
  Oper.wp_mono (fun a' w' ⟨e, m, r⟩ => ⟨v, e, fun h => absurd h hd, hJ w', hGR w' r, fun j hj => hm b j _ _ _ r hj⟩) h
theorem K_alloc64 {o : Oper} {a : Act} {w : World} {K : Act → World → Prop} {Q : Exit → Act → World → Prop} (ho : o.op = .alloc 72) (h : K (a.put o.dst (.pointer (some ⟨w.heap.size, 0, none⟩))) (w.alloc (.cells ((List.replicate 64 (0 : Int)).map u32v).toArray 72))) : o.wp Tryz.prog a w K Q := by
  have hr : (Instr.alloc 72 true (.tuple #[])).run Tryz.prog w = .ok (.pointer (some ⟨w.heap.size, 0, none⟩)) (w.alloc (.cells ((List.replicate 64 (0 : Int)).map u32v).toArray 72)) := by
    simp [go_sem]
    try rfl
  unfold Oper.wp
  rw [show (execOp a.eval o).run Tryz.prog w = .ok (.value (.pointer (some ⟨w.heap.size, 0, none⟩))) (w.alloc (.cells ((List.replicate 64 (0 : Int)).map u32v).toArray 72)) from by simp only [execOp, ho]; simp [hr], Oper.upon_value]
  exact h
theorem K_alloc8 {o : Oper} {a : Act} {w : World} {K : Act → World → Prop} {Q : Exit → Act → World → Prop} (ho : o.op = .alloc 73) (h : K (a.put o.dst (.pointer (some ⟨w.heap.size, 0, none⟩))) (w.alloc (.cells ((List.replicate 8 (0 : Int)).map u32v).toArray 73))) : o.wp Tryz.prog a w K Q := by
  have hr : (Instr.alloc 73 true (.tuple #[])).run Tryz.prog w = .ok (.pointer (some ⟨w.heap.size, 0, none⟩)) (w.alloc (.cells ((List.replicate 8 (0 : Int)).map u32v).toArray 73)) := by
    simp [go_sem]
    try rfl
  unfold Oper.wp
  rw [show (execOp a.eval o).run Tryz.prog w = .ok (.value (.pointer (some ⟨w.heap.size, 0, none⟩))) (w.alloc (.cells ((List.replicate 8 (0 : Int)).map u32v).toArray 73)) from by simp only [execOp, ho]; simp [hr], Oper.upon_value]
  exact h
set_option maxHeartbeats 4000000 in
theorem behind_any (g : Nat) (A : Option Addr) (c : Nat) (bs : List UInt8) (K H : List Int) (rest : Value) (n : Int) (w : World) (hK : K.length = 64) (hH : H.length = 8) (h : Bst w g true K H rest n) (hr : Rd w w.heap.size A 64 c bs) :
    Calls Tryz.prog 34 #[.pointer (some ⟨g, 0, none⟩), .slice A 64 c] w fun e w' => e = .returned (.agg ((Sha.comp K H bs).map u32v).toArray) ∧ Below w.heap.size w w' := by
  have hgl := h.lt
  have hw0 : B8 (w.alloc (.cells #[.int .u32 0, .int .u32 0, .int .u32 0, .int .u32 0, .int .u32 0, .int .u32 0, .int .u32 0, .int .u32 0] 73)) w.heap.size (List.replicate 8 0) := Blk.new w _ _
  obtain ⟨w1, hw1⟩ : ∃ x, w.alloc (.cells #[.int .u32 0, .int .u32 0, .int .u32 0, .int .u32 0, .int .u32 0, .int .u32 0, .int .u32 0, .int .u32 0] 73) = x := ⟨_, rfl⟩
  have hb1 : Below w.heap.size w w1 := by rw [← hw1]; exact (Below.refl _ _).alloc (Nat.le_refl _) _
  have hs1 : w1.heap.size = w.heap.size + 1 := by rw [← hw1]; simp
  rw [hw1] at hw0
  have hsch := fun W (hW : Below w1.heap.size w1 W) => schedule_any A c bs W ((hr.below (hb1.trans (hW.mono (by omega)))).more (by have := hW.size; omega))
  have hst := fun W (hW : Below w1.heap.size w1 W) => h.below (hb1.trans (hW.mono (by omega))) hgl
  have HH := Lib.hid (And.intro hw0 (And.intro hb1 (And.intro hsch (And.intro hst (And.intro hK hH)))))
  clear hw0 hb1 hsch hst h hr hK hH
  go_enter Tryz.func34, Tryz.ntmps34
  go_upto_region 1 with fail
  clear hw1
  go_cut [5, 6] from 13 (fun s5 s6 wx => ∃ p q, s5 = Value.pointer (some ⟨p, 0, none⟩) ∧ s6 = Value.pointer (some ⟨q, 0, none⟩) ∧ w1.heap.size ≤ p ∧ w1.heap.size ≤ q ∧ Bw wx p (Sha.sched bs) ∧ B8 wx q H ∧ Below w1.heap.size w1 wx)
  case first =>
    refine wp_region_phase2 9 8 (BhJ g w1.heap.size (.slice A 64 c) H (Sha.sched bs)) (fun _ W => Below w1.heap.size w1 W) rfl (by show dstsOk _ 119 = true; decide +kernel) (by decide +kernel) (by decide +kernel) (by decide +kernel) (by decide) (Below.refl _ _).drew ⟨?_, ?_, ?_, ?_, ?_, ?_, ?_, ?_, ?_, trivial⟩ ?_
    · refine ⟨?_, fun h => absurd h (by decide +kernel)⟩; intro a' W hfr hG hdep; refine Ph2_of (JJ := (BhJ g w1.heap.size (.slice A 64 c) H (Sha.sched bs))) (GG := fun _ W => Below w1.heap.size w1 W) (.slice A 64 c) (by simp) (fun _ => rfl) BhJ.mono (fun w' hw => hG.trans (hw.mono hG.size)) ?_; have d1 : a'.eval (.tmp 1) = .slice A 64 c := hfr 1 (by decide +kernel); exact F_move rfl d1 trivial (Below.refl _ _)
    · refine ⟨?_, fun h => absurd h (by decide +kernel)⟩; intro a' W hfr hG hdep; refine Ph2_of (JJ := (BhJ g w1.heap.size (.slice A 64 c) H (Sha.sched bs))) (GG := fun _ W => Below w1.heap.size w1 W) (.agg ((Sha.sched bs).map u32v).toArray) (by simp) (fun _ => rfl) BhJ.mono (fun w' hw => hG.trans (hw.mono hG.size)) ?_; have d1 : a'.eval (.tmp 13) = .slice A 64 c := hdep 0 (by decide +kernel); refine F_call rfl Tryz.func59 rfl (by decide) (args := #[.slice A 64 c]) (by simp only [List.map_toArray, List.map_cons, List.map_nil, d1]) (HH.out.2.2.1 W hG) ?_; rintro e w' ⟨rfl, hb⟩; exact ⟨rfl, trivial, hb⟩
    · refine ⟨?_, fun _ => ?_⟩ <;> (intro a' W hfr hG hdep; refine Ph2_of (JJ := (BhJ g w1.heap.size (.slice A 64 c) H (Sha.sched bs))) (GG := fun _ W => Below w1.heap.size w1 W) (.pointer (some ⟨g, 0, none⟩)) (by simp) (fun _ => rfl) BhJ.mono (fun w' hw => hG.trans (hw.mono hG.size)) ?_; have d1 : a'.eval (.tmp 0) = .pointer (some ⟨g, 0, none⟩) := hfr 0 (by decide +kernel); exact F_move rfl d1 trivial (Below.refl _ _))
    · refine ⟨?_, fun _ => ?_⟩ <;> (intro a' W hfr hG hdep; refine Ph2_of (JJ := (BhJ g w1.heap.size (.slice A 64 c) H (Sha.sched bs))) (GG := fun _ W => Below w1.heap.size w1 W) (.pointer (some ⟨g, 0, none⟩)) (by simp) (fun _ => rfl) BhJ.mono (fun w' hw => hG.trans (hw.mono hG.size)) ?_; have d1 : a'.eval (.tmp 15) = .pointer (some ⟨g, 0, none⟩) := hdep 2 (by decide +kernel); refine F_val ?_ trivial (Below.refl _ _); simp only [execOp, d1]; simp [go_sem, Act.eval])
    · refine ⟨?_, fun _ => ?_⟩ <;> (intro a' W hfr hG hdep; refine Ph2_of (JJ := (BhJ g w1.heap.size (.slice A 64 c) H (Sha.sched bs))) (GG := fun _ W => Below w1.heap.size w1 W) (.pointer (some ⟨g, 65, none⟩)) (by simp) (fun _ => rfl) BhJ.mono (fun w' hw => hG.trans (hw.mono hG.size)) ?_; have d1 : a'.eval (.tmp 16) = .pointer (some ⟨g, 0, none⟩) := hdep 3 (by decide +kernel); refine F_val ?_ trivial (Below.refl _ _); simp only [execOp, d1]; simp [go_sem, Act.eval])
    · refine ⟨?_, fun _ => ?_⟩ <;> (intro a' W hfr hG hdep; refine Ph2_of (JJ := (BhJ g w1.heap.size (.slice A 64 c) H (Sha.sched bs))) (GG := fun _ W => Below w1.heap.size w1 W) (.agg (H.map u32v).toArray) (by simp) (fun _ => rfl) BhJ.mono (fun w' hw => hG.trans (hw.mono hG.size)) ?_; have d1 : a'.eval (.tmp 17) = .pointer (some ⟨g, 65, none⟩) := hdep 4 (by decide +kernel); exact F_load rfl d1 (load_sth HH.out.2.2.2.2.1 HH.out.2.2.2.2.2 (HH.out.2.2.2.1 W hG)) trivial (Below.refl _ _))
    · refine ⟨?_, fun h => absurd h (by decide +kernel)⟩; intro a' W hfr hG hdep; have hba : Below W.heap.size W (W.alloc (.cells ((List.replicate 64 (0 : Int)).map u32v).toArray 72)) := (Below.refl _ _).alloc (Nat.le_refl _) _; exact K_alloc64 rfl ⟨_, rfl, fun h => absurd h (by simp), ⟨W.heap.size, rfl, hG.size, Blk.new W _ _⟩, hG.trans (hba.mono hG.size), fun j hj => BhJ.mono _ j _ _ _ hba hj⟩
    · refine ⟨?_, fun _ => ?_⟩ <;> (intro a' W hfr hG hdep; have hba : Below W.heap.size W (W.alloc (.cells ((List.replicate 8 (0 : Int)).map u32v).toArray 73)) := (Below.refl _ _).alloc (Nat.le_refl _) _; exact K_alloc8 rfl ⟨_, rfl, fun h => absurd h (by simp), ⟨W.heap.size, rfl, hG.size, Blk.new W _ _⟩, hG.trans (hba.mono hG.size), fun j hj => BhJ.mono _ j _ _ _ hba hj⟩)
    · intro a' W hfr hG hdep
      obtain ⟨p, d1, hpl, hpz⟩ : ∃ p, a'.eval (.tmp 5) = .pointer (some ⟨p, 0, none⟩) ∧ w1.heap.size ≤ p ∧ Bw W p (List.replicate 64 0) := hdep 6 (by decide +kernel)
      have d2 : a'.eval (.tmp 14) = .agg ((Sha.sched bs).map u32v).toArray := hdep 1 (by decide +kernel)
      have hS := setRow_blk (ds := ((Sha.sched bs).map u32v).toArray) hpz
      refine wp_store_row 72 _ _ rfl _ _ _ d1 d2 (store_w64 (by simp) (Sha.sched_len bs) hpz) ?_
      refine ⟨undef, rfl, fun _ => rfl, trivial, hG.grown hS.2 hG.size (fun j e => by injection e with e; omega), fun j hj => ?_⟩
      by_cases h6 : j = 6
      · subst h6
        exact ⟨p, d1, hpl, hS.1⟩
      · by_cases h7 : j = 7
        · subst h7
          obtain ⟨q, e, hq, hB⟩ := hj
          exact ⟨q, e, hq, hB.grown hS.2 (fun e => (hB.ne_ hpz (by decide)) (by injection e))⟩
        · unfold BhJ at hj ⊢
          split at hj <;> first | exact hj | trivial | (exact absurd rfl h6) | (exact absurd rfl h7) | (split <;> first | trivial | exact hj)
    · intro o ho a' W hdd hsz hfr hG hJ
      have e1 : o.op = .store 73 (.tmp 6) (.tmp 18) ∧ o.dst = none := by cases ho; exact ⟨rfl, rfl⟩
      clear ho
      obtain ⟨p, hp, hpl, hpz⟩ : ∃ p, a'.eval (.tmp 5) = .pointer (some ⟨p, 0, none⟩) ∧ w1.heap.size ≤ p ∧ Bw W p (Sha.sched bs) := hJ 6 (by decide)
      obtain ⟨q, hq, hql, hqz⟩ : ∃ p, a'.eval (.tmp 6) = .pointer (some ⟨p, 0, none⟩) ∧ w1.heap.size ≤ p ∧ B8 W p (List.replicate 8 0) := hJ 7 (by decide)
      have hv : a'.eval (.tmp 18) = .agg (H.map u32v).toArray := hJ 5 (by decide)
      have hS := setRow_blk (ds := (H.map u32v).toArray) hqz
      refine wp_store_row 73 _ _ e1.1 _ _ _ hq hv (store_w8 (by simp) HH.out.2.2.2.2.2 hqz) ?_
      rw [e1.2]
      have hfin : Below w1.heap.size w1 (W.setRow q (H.map u32v).toArray) := hG.grown hS.2 hG.size (fun j e => by injection e with e; omega)
      have HF := Lib.hid (And.intro hpl (And.intro hql (And.intro (hpz.grown hS.2 (fun e => (hpz.ne_ hqz (by decide)) (by injection e))) (And.intro hS.1 hfin))))
      obtain ⟨vs, hvs, e⟩ := act_of_some (by show dstsOk _ 119 = true; decide +kernel) hdd hsz hfr
      have h6 : vs 6 = .pointer (some ⟨p, 0, none⟩) := (hvs 6).symm.trans hp
      have h7 : vs 7 = .pointer (some ⟨q, 0, none⟩) := (hvs 7).symm.trans hq
      clear hJ hfr hdd hsz hG hvs hp hq hv hpz hqz hS hfin e1 hpl hql
      have hrg : List.range 10 = [0, 1, 2, 3, 4, 5, 6, 7, 8, 9] := rfl
      simp only [layAll, List.map_cons, List.map_nil, List.size_toArray, List.length_cons, List.length_nil, Nat.reduceAdd, hrg, List.zip_cons_cons, List.zip_nil_left, List.foldl_cons, List.foldl_nil, Act.put, List.setIfInBounds_toArray, List.set_cons_zero, List.set_cons_succ] at e
      subst e
      clear hrg
      apply_assumption
      go_meet
      exact ⟨p, q, h6, h7, HF.out.1, HF.out.2.1, HF.out.2.2.1, HF.out.2.2.2.1, HF.out.2.2.2.2⟩
  obtain ⟨p, q, rfl, rfl, hp, hq, hBp, hBq, hbc⟩ := hcut
  apply_assumption
  have HC := Lib.hid (And.intro hBp (And.intro hBq hbc))
  have hpq : p ≠ q := hBp.ne_ hBq (by decide)
  clear hBp hBq hbc
  have HS := Lib.hid (show (Sha.sched bs).length = 64 from Sha.sched_len bs)
  obtain ⟨S, hS⟩ : ∃ S, Sha.sched bs = S := ⟨_, rfl⟩
  have HSS := Lib.hid hS
  rw [hS] at HC HS
  clear hS
  go_wp2_with fail
  go_loopw [19, 7, 8, 9, 10, 11] (fun tx _ _ _ _ _ wr => ∃ t : Nat, t ≤ 64 ∧ tx = .int .i64 (t : Int) ∧ B8 wr q (Sha.rnds K S H t) ∧ Bw wr p S ∧ Below w1.heap.size w1 wr) (fun tx _ _ _ _ _ _ => 64 - (intOf tx).toNat)
  case atStart => exact ⟨0, by omega, rfl, HC.out.2.1, HC.out.1, HC.out.2.2⟩
  case round =>
    obtain ⟨t, ht, rfl, hB, hBS, hb⟩ := hrel
    by_cases htl : t < 64
    · have htl' : (t : Int) < 64 := by omega
      have hvl := Sha.rnds_len K S H HH.out.2.2.2.2.2 t
      obtain ⟨a, b, cc, d, e, f, gg, hh, hv⟩ := Sha.eight _ hvl
      obtain ⟨kt, hkt⟩ : ∃ x, K[t]? = some x := ⟨_, List.getElem?_eq_getElem (by have := HH.out.2.2.2.2.1; omega)⟩
      obtain ⟨st, hst⟩ : ∃ x, S[t]? = some x := ⟨_, List.getElem?_eq_getElem (by have := HS.out; omega)⟩
      have hnx : Sha.rnds K S H (t + 1) = [Sha.addw (Sha.one e f gg hh kt st) (Sha.two a b cc), a, b, cc, Sha.addw d (Sha.one e f gg hh kt st), e, f, gg] := by
        rw [Sha.rnds, hv, List.getD_eq_getElem?_getD, List.getD_eq_getElem?_getD, hkt, hst]
        rfl
      rw [hv] at hB
      have c0 : wr.cell? ⟨q, 0, none⟩ = some (.int .u32 a) := hB.at_ rfl
      have c4 : wr.cell? ⟨q, 4, none⟩ = some (.int .u32 e) := hB.at_ rfl
      have HR := Lib.hid (And.intro hB (And.intro hBS (And.intro hb (And.intro hkt (And.intro hst hnx)))))
      clear hB hBS hb hkt hst hnx hv hvl
      go_upto_region 5 with fail
      go_quiet (fail)
      apply_assumption
      obtain ⟨VV, hVV⟩ : ∃ V, wr.drewN nq = V := ⟨_, rfl⟩
      have hG6 : B8 VV q [a, b, cc, d, e, f, gg, hh] ∧ Bw VV p S ∧ Below w1.heap.size w1 VV := by rw [← hVV]; exact ⟨HR.out.1.drewN nq, HR.out.2.1.drewN nq, below_drewN HR.out.2.2.1 nq⟩
      rw [hVV]
      clear hVV c0 c4 nq
      have hr6 := fun W => right6_any e W
      have hr11 := fun W => right11_any e W
      have hr25 := fun W => right25_any e W
      have hr2 := fun W => right2_any a W
      have hr13 := fun W => right13_any a W
      have hr22 := fun W => right22_any a W
      obtain ⟨r6, e6⟩ : ∃ r, Sha.rot e 67108864 64 = r := ⟨_, rfl⟩
      obtain ⟨r11, e11⟩ : ∃ r, Sha.rot e 2097152 2048 = r := ⟨_, rfl⟩
      obtain ⟨r25, e25⟩ : ∃ r, Sha.rot e 128 33554432 = r := ⟨_, rfl⟩
      obtain ⟨r2, e2⟩ : ∃ r, Sha.rot a 1073741824 4 = r := ⟨_, rfl⟩
      obtain ⟨r13, e13⟩ : ∃ r, Sha.rot a 524288 8192 = r := ⟨_, rfl⟩
      obtain ⟨r22, e22⟩ : ∃ r, Sha.rot a 1024 4194304 = r := ⟨_, rfl⟩
      rw [e6] at hr6
      rw [e11] at hr11
      rw [e25] at hr25
      rw [e2] at hr2
      rw [e13] at hr13
      rw [e22] at hr22
      have hone : Sha.one e f gg hh kt st = IntKind.u32.wrap (IntKind.u32.wrap (IntKind.u32.wrap (IntKind.u32.wrap (hh + bits .xor .u32 (bits .xor .u32 r6 r11) r25) + bits .xor .u32 (bits .and .u32 e f) (bits .and .u32 (Sha.notw e) gg)) + kt) + st) := by
        unfold Sha.one Sha.addw Sha.bs1 Sha.chw
        rw [e6, e11, e25]
      have htwo : Sha.two a b cc = IntKind.u32.wrap (bits .xor .u32 (bits .xor .u32 r2 r13) r22 + bits .xor .u32 (bits .xor .u32 (bits .and .u32 a b) (bits .and .u32 a cc)) (bits .and .u32 b cc)) := by
        unfold Sha.two Sha.addw Sha.bs0 Sha.maj
        rw [e2, e13, e22]
      obtain ⟨o1, ho1⟩ : ∃ x, Sha.one e f gg hh kt st = x := ⟨_, rfl⟩
      obtain ⟨o2, ho2⟩ : ∃ x, Sha.two a b cc = x := ⟨_, rfl⟩
      rw [ho1] at hone
      rw [ho2] at htwo
      have HN := Lib.hid HR.out.2.2.2.2.2
      rw [ho1, ho2] at HN
      have hkc := fun W (hW : Below w1.heap.size w1 W) => (show W.cell? ⟨g, 1 + t, none⟩ = some (u32v kt) from ((HH.out.2.2.2.1 W hW).cell (1 + t)).trans (by rw [List.getElem?_toArray]; exact stL_k HH.out.2.2.2.2.1 HR.out.2.2.2.1))
      have HT := Lib.hid (And.intro (And.intro hr6 (And.intro hr11 hr25)) (And.intro (And.intro hr2 (And.intro hr13 hr22)) (And.intro hone (And.intro htwo (And.intro hG6 (And.intro hkc HR.out.2.2.2.2.1))))))
      clear hr6 hr11 hr25 hr2 hr13 hr22 e6 e11 e25 e2 e13 e22 hone htwo ho1 ho2 hG6 hkc
      go_upto_region 6 with fail
      refine wp_region_facts (fun zi => ((.pointer (some ⟨q, 7, none⟩)) :: (.int .u32 (hh)) :: (.int .u32 (e)) :: (.int .u32 (r6)) :: (.int .u32 (e)) :: (.int .u32 (r11)) :: (.int .u32 (bits .xor .u32 (r6) (r11))) :: (.int .u32 (e)) :: (.int .u32 (r25)) :: (.int .u32 (bits .xor .u32 (bits .xor .u32 (r6) (r11)) (r25))) :: (.int .u32 (IntKind.u32.wrap (hh + bits .xor .u32 (bits .xor .u32 (r6) (r11)) (r25)))) :: (.int .u32 (e)) :: (.pointer (some ⟨q, 5, none⟩)) :: (.int .u32 (f)) :: (.int .u32 (bits .and .u32 (e) (f))) :: (.int .u32 (e)) :: (.int .u32 (Sha.notw e)) :: (.pointer (some ⟨q, 6, none⟩)) :: (.int .u32 (gg)) :: (.int .u32 (bits .and .u32 (Sha.notw e) (gg))) :: (.int .u32 (bits .xor .u32 (bits .and .u32 (e) (f)) (bits .and .u32 (Sha.notw e) (gg)))) :: (.int .u32 (IntKind.u32.wrap (IntKind.u32.wrap (hh + bits .xor .u32 (bits .xor .u32 (r6) (r11)) (r25)) + bits .xor .u32 (bits .and .u32 (e) (f)) (bits .and .u32 (Sha.notw e) (gg))))) :: (.pointer (some ⟨g, 0, none⟩)) :: (.int .i64 (t : Int)) :: (.pointer (some ⟨g, 0, none⟩)) :: (.pointer (some ⟨g, 1, none⟩)) :: (.pointer (some ⟨g, 1 + t, none⟩)) :: (.int .u32 (kt)) :: (.int .u32 (IntKind.u32.wrap (IntKind.u32.wrap (IntKind.u32.wrap (hh + bits .xor .u32 (bits .xor .u32 (r6) (r11)) (r25)) + bits .xor .u32 (bits .and .u32 (e) (f)) (bits .and .u32 (Sha.notw e) (gg))) + kt))) :: (.int .i64 (t : Int)) :: (.pointer (some ⟨p, t, none⟩)) :: (.int .u32 (st)) :: (.int .u32 (o1)) :: (.int .u32 (o1)) :: [] : List Value).getD zi undef) (fun _ _ => True) (fun W => B8 W q [a, b, cc, d, e, f, gg, hh] ∧ Bw W p S ∧ Below w1.heap.size w1 W) (fun x y => y = x) rfl (fun _ => rfl) (fun _ _ h k => by rw [k]; exact h) (fun _ _ _ _ _ => trivial) (by show dstsOk _ 119 = true; decide +kernel) (by decide +kernel) (⟨HT.out.2.2.2.2.1.1.drew, HT.out.2.2.2.2.1.2.1.drew, HT.out.2.2.2.2.1.2.2.drew⟩) ⟨?_, ?_, ?_, ?_, ?_, ?_, ?_, ?_, ?_, ?_, ?_, ?_, ?_, ?_, ?_, ?_, ?_, ?_, ?_, ?_, ?_, ?_, ?_, ?_, ?_, ?_, ?_, ?_, ?_, ?_, ?_, ?_, ?_, ?_, trivial⟩ ?_
      · refine RStep.run (by simp) rfl ?_; intro a' W hfr hdep hG; have d1 : a'.eval (.tmp 6) = .pointer (some ⟨q, 0, none⟩) := hfr 6 (by decide +kernel); refine F_val (Mi := fun _ => True) (R := fun x y => y = x) (v := .pointer (some ⟨q, 7, none⟩)) ?_ trivial rfl; simp only [execOp, d1]; first | (simp [go_sem, Act.eval]; done) | (simp [go_sem, Act.eval]; rw [IntKind.wrap_i64]; omega) | (simp [go_sem, Act.eval]; omega)
      · refine RStep.run (by simp) rfl ?_; intro a' W hfr hdep hG; have d1 : a'.eval (.tmp 26) = .pointer (some ⟨q, 7, none⟩) := hdep 0 (by decide +kernel); exact F_load (Mi := fun _ => True) (R := fun x y => y = x) rfl d1 (load_u32r (hG.1.at_ rfl)) trivial rfl
      · refine RStep.run (by simp) rfl ?_; intro a' W hfr hdep hG; have d1 : a'.eval (.tmp 9) = .int .u32 (e) := hfr 9 (by decide +kernel); exact F_move (Mi := fun _ => True) (R := fun x y => y = x) rfl d1 trivial rfl
      · refine RStep.run (by simp) rfl ?_; intro a' W hfr hdep hG; have d1 : a'.eval (.tmp 28) = .int .u32 (e) := hdep 2 (by decide +kernel); refine F_call (Mi := fun _ => True) (R := fun x y => y = x) rfl Tryz.func60 rfl (by decide) (args := #[.int .u32 (e), .int .i64 6]) (by simp only [List.map_toArray, List.map_cons, List.map_nil, d1] <;> rfl) (HT.out.1.1 W) ?_; rintro e w' ⟨rfl, rfl⟩; exact ⟨rfl, trivial, rfl⟩
      · refine RStep.run (by simp) rfl ?_; intro a' W hfr hdep hG; have d1 : a'.eval (.tmp 9) = .int .u32 (e) := hfr 9 (by decide +kernel); exact F_move (Mi := fun _ => True) (R := fun x y => y = x) rfl d1 trivial rfl
      · refine RStep.run (by simp) rfl ?_; intro a' W hfr hdep hG; have d1 : a'.eval (.tmp 30) = .int .u32 (e) := hdep 4 (by decide +kernel); refine F_call (Mi := fun _ => True) (R := fun x y => y = x) rfl Tryz.func60 rfl (by decide) (args := #[.int .u32 (e), .int .i64 11]) (by simp only [List.map_toArray, List.map_cons, List.map_nil, d1] <;> rfl) (HT.out.1.2.1 W) ?_; rintro e w' ⟨rfl, rfl⟩; exact ⟨rfl, trivial, rfl⟩
      · refine RStep.run (by simp) rfl ?_; intro a' W hfr hdep hG; have d1 : a'.eval (.tmp 29) = .int .u32 (r6) := hdep 3 (by decide +kernel); have d2 : a'.eval (.tmp 31) = .int .u32 (r11) := hdep 5 (by decide +kernel); refine F_val (Mi := fun _ => True) (R := fun x y => y = x) (v := .int .u32 (bits .xor .u32 (r6) (r11))) ?_ trivial rfl; simp only [execOp, d1, d2]; first | (simp [go_sem, Act.eval]; done) | (simp [go_sem, Act.eval]; rfl)
      · refine RStep.run (by simp) rfl ?_; intro a' W hfr hdep hG; have d1 : a'.eval (.tmp 9) = .int .u32 (e) := hfr 9 (by decide +kernel); exact F_move (Mi := fun _ => True) (R := fun x y => y = x) rfl d1 trivial rfl
      · refine RStep.run (by simp) rfl ?_; intro a' W hfr hdep hG; have d1 : a'.eval (.tmp 33) = .int .u32 (e) := hdep 7 (by decide +kernel); refine F_call (Mi := fun _ => True) (R := fun x y => y = x) rfl Tryz.func60 rfl (by decide) (args := #[.int .u32 (e), .int .i64 25]) (by simp only [List.map_toArray, List.map_cons, List.map_nil, d1] <;> rfl) (HT.out.1.2.2 W) ?_; rintro e w' ⟨rfl, rfl⟩; exact ⟨rfl, trivial, rfl⟩
      · refine RStep.run (by simp) rfl ?_; intro a' W hfr hdep hG; have d1 : a'.eval (.tmp 32) = .int .u32 (bits .xor .u32 (r6) (r11)) := hdep 6 (by decide +kernel); have d2 : a'.eval (.tmp 34) = .int .u32 (r25) := hdep 8 (by decide +kernel); refine F_val (Mi := fun _ => True) (R := fun x y => y = x) (v := .int .u32 (bits .xor .u32 (bits .xor .u32 (r6) (r11)) (r25))) ?_ trivial rfl; simp only [execOp, d1, d2]; first | (simp [go_sem, Act.eval]; done) | (simp [go_sem, Act.eval]; rfl)
      · refine RStep.run (by simp) rfl ?_; intro a' W hfr hdep hG; have d1 : a'.eval (.tmp 27) = .int .u32 (hh) := hdep 1 (by decide +kernel); have d2 : a'.eval (.tmp 35) = .int .u32 (bits .xor .u32 (bits .xor .u32 (r6) (r11)) (r25)) := hdep 9 (by decide +kernel); refine F_val (Mi := fun _ => True) (R := fun x y => y = x) (v := .int .u32 (IntKind.u32.wrap (hh + bits .xor .u32 (bits .xor .u32 (r6) (r11)) (r25)))) ?_ trivial rfl; simp only [execOp, d1, d2]; first | (simp [go_sem, Act.eval]; done) | (simp [go_sem, Act.eval]; rfl)
      · refine RStep.run (by simp) rfl ?_; intro a' W hfr hdep hG; have d1 : a'.eval (.tmp 9) = .int .u32 (e) := hfr 9 (by decide +kernel); exact F_move (Mi := fun _ => True) (R := fun x y => y = x) rfl d1 trivial rfl
      · refine RStep.run (by simp) rfl ?_; intro a' W hfr hdep hG; have d1 : a'.eval (.tmp 6) = .pointer (some ⟨q, 0, none⟩) := hfr 6 (by decide +kernel); refine F_val (Mi := fun _ => True) (R := fun x y => y = x) (v := .pointer (some ⟨q, 5, none⟩)) ?_ trivial rfl; simp only [execOp, d1]; first | (simp [go_sem, Act.eval]; done) | (simp [go_sem, Act.eval]; rw [IntKind.wrap_i64]; omega) | (simp [go_sem, Act.eval]; omega)
      · refine RStep.run (by simp) rfl ?_; intro a' W hfr hdep hG; have d1 : a'.eval (.tmp 38) = .pointer (some ⟨q, 5, none⟩) := hdep 12 (by decide +kernel); exact F_load (Mi := fun _ => True) (R := fun x y => y = x) rfl d1 (load_u32r (hG.1.at_ rfl)) trivial rfl
      · refine RStep.run (by simp) rfl ?_; intro a' W hfr hdep hG; have d1 : a'.eval (.tmp 37) = .int .u32 (e) := hdep 11 (by decide +kernel); have d2 : a'.eval (.tmp 39) = .int .u32 (f) := hdep 13 (by decide +kernel); refine F_val (Mi := fun _ => True) (R := fun x y => y = x) (v := .int .u32 (bits .and .u32 (e) (f))) ?_ trivial rfl; simp only [execOp, d1, d2]; first | (simp [go_sem, Act.eval]; done) | (simp [go_sem, Act.eval]; rfl)
      · refine RStep.run (by simp) rfl ?_; intro a' W hfr hdep hG; have d1 : a'.eval (.tmp 9) = .int .u32 (e) := hfr 9 (by decide +kernel); exact F_move (Mi := fun _ => True) (R := fun x y => y = x) rfl d1 trivial rfl
      · refine RStep.run (by simp) rfl ?_; intro a' W hfr hdep hG; have d1 : a'.eval (.tmp 41) = .int .u32 (e) := hdep 15 (by decide +kernel); refine F_val (Mi := fun _ => True) (R := fun x y => y = x) (v := .int .u32 (Sha.notw e)) ?_ trivial rfl; simp only [execOp, d1]; first | rfl | (simp [go_sem, Act.eval]; rfl)
      · refine RStep.run (by simp) rfl ?_; intro a' W hfr hdep hG; have d1 : a'.eval (.tmp 6) = .pointer (some ⟨q, 0, none⟩) := hfr 6 (by decide +kernel); refine F_val (Mi := fun _ => True) (R := fun x y => y = x) (v := .pointer (some ⟨q, 6, none⟩)) ?_ trivial rfl; simp only [execOp, d1]; first | (simp [go_sem, Act.eval]; done) | (simp [go_sem, Act.eval]; rw [IntKind.wrap_i64]; omega) | (simp [go_sem, Act.eval]; omega)
      · refine RStep.run (by simp) rfl ?_; intro a' W hfr hdep hG; have d1 : a'.eval (.tmp 43) = .pointer (some ⟨q, 6, none⟩) := hdep 17 (by decide +kernel); exact F_load (Mi := fun _ => True) (R := fun x y => y = x) rfl d1 (load_u32r (hG.1.at_ rfl)) trivial rfl
      · refine RStep.run (by simp) rfl ?_; intro a' W hfr hdep hG; have d1 : a'.eval (.tmp 42) = .int .u32 (Sha.notw e) := hdep 16 (by decide +kernel); have d2 : a'.eval (.tmp 44) = .int .u32 (gg) := hdep 18 (by decide +kernel); refine F_val (Mi := fun _ => True) (R := fun x y => y = x) (v := .int .u32 (bits .and .u32 (Sha.notw e) (gg))) ?_ trivial rfl; simp only [execOp, d1, d2]; first | (simp [go_sem, Act.eval]; done) | (simp [go_sem, Act.eval]; rfl)
      · refine RStep.run (by simp) rfl ?_; intro a' W hfr hdep hG; have d1 : a'.eval (.tmp 40) = .int .u32 (bits .and .u32 (e) (f)) := hdep 14 (by decide +kernel); have d2 : a'.eval (.tmp 45) = .int .u32 (bits .and .u32 (Sha.notw e) (gg)) := hdep 19 (by decide +kernel); refine F_val (Mi := fun _ => True) (R := fun x y => y = x) (v := .int .u32 (bits .xor .u32 (bits .and .u32 (e) (f)) (bits .and .u32 (Sha.notw e) (gg)))) ?_ trivial rfl; simp only [execOp, d1, d2]; first | (simp [go_sem, Act.eval]; done) | (simp [go_sem, Act.eval]; rfl)
      · refine RStep.run (by simp) rfl ?_; intro a' W hfr hdep hG; have d1 : a'.eval (.tmp 36) = .int .u32 (IntKind.u32.wrap (hh + bits .xor .u32 (bits .xor .u32 (r6) (r11)) (r25))) := hdep 10 (by decide +kernel); have d2 : a'.eval (.tmp 46) = .int .u32 (bits .xor .u32 (bits .and .u32 (e) (f)) (bits .and .u32 (Sha.notw e) (gg))) := hdep 20 (by decide +kernel); refine F_val (Mi := fun _ => True) (R := fun x y => y = x) (v := .int .u32 (IntKind.u32.wrap (IntKind.u32.wrap (hh + bits .xor .u32 (bits .xor .u32 (r6) (r11)) (r25)) + bits .xor .u32 (bits .and .u32 (e) (f)) (bits .and .u32 (Sha.notw e) (gg))))) ?_ trivial rfl; simp only [execOp, d1, d2]; first | (simp [go_sem, Act.eval]; done) | (simp [go_sem, Act.eval]; rfl)
      · refine RStep.run (by simp) rfl ?_; intro a' W hfr hdep hG; have d1 : a'.eval (.tmp 0) = .pointer (some ⟨g, 0, none⟩) := hfr 0 (by decide +kernel); exact F_move (Mi := fun _ => True) (R := fun x y => y = x) rfl d1 trivial rfl
      · refine RStep.run (by simp) rfl ?_; intro a' W hfr hdep hG; have d1 : a'.eval (.tmp 7) = .int .i64 (t : Int) := hfr 7 (by decide +kernel); exact F_move (Mi := fun _ => True) (R := fun x y => y = x) rfl d1 trivial rfl
      · refine RStep.run (by simp) rfl ?_; intro a' W hfr hdep hG; have d1 : a'.eval (.tmp 48) = .pointer (some ⟨g, 0, none⟩) := hdep 22 (by decide +kernel); refine F_val (Mi := fun _ => True) (R := fun x y => y = x) (v := .pointer (some ⟨g, 0, none⟩)) ?_ trivial rfl; simp only [execOp, d1]; first | (simp [go_sem, Act.eval]; done) | (simp [go_sem, Act.eval]; rw [IntKind.wrap_i64]; omega) | (simp [go_sem, Act.eval]; omega)
      · refine RStep.run (by simp) rfl ?_; intro a' W hfr hdep hG; have d1 : a'.eval (.tmp 50) = .pointer (some ⟨g, 0, none⟩) := hdep 24 (by decide +kernel); refine F_val (Mi := fun _ => True) (R := fun x y => y = x) (v := .pointer (some ⟨g, 1, none⟩)) ?_ trivial rfl; simp only [execOp, d1]; first | (simp [go_sem, Act.eval]; done) | (simp [go_sem, Act.eval]; rw [IntKind.wrap_i64]; omega) | (simp [go_sem, Act.eval]; omega)
      · refine RStep.run (by simp) rfl ?_; intro a' W hfr hdep hG; have d1 : a'.eval (.tmp 51) = .pointer (some ⟨g, 1, none⟩) := hdep 25 (by decide +kernel); have d2 : a'.eval (.tmp 49) = .int .i64 (t : Int) := hdep 23 (by decide +kernel); refine F_val (Mi := fun _ => True) (R := fun x y => y = x) (v := .pointer (some ⟨g, 1 + t, none⟩)) ?_ trivial rfl; simp only [execOp, d1, d2]; first | (simp [go_sem, Act.eval, htl']; done) | (simp [go_sem, Act.eval]; omega)
      · refine RStep.run (by simp) rfl ?_; intro a' W hfr hdep hG; have d1 : a'.eval (.tmp 52) = .pointer (some ⟨g, 1 + t, none⟩) := hdep 26 (by decide +kernel); exact F_load (Mi := fun _ => True) (R := fun x y => y = x) rfl d1 (load_u32r (HT.out.2.2.2.2.2.1 W hG.2.2)) trivial rfl
      · refine RStep.run (by simp) rfl ?_; intro a' W hfr hdep hG; have d1 : a'.eval (.tmp 47) = .int .u32 (IntKind.u32.wrap (IntKind.u32.wrap (hh + bits .xor .u32 (bits .xor .u32 (r6) (r11)) (r25)) + bits .xor .u32 (bits .and .u32 (e) (f)) (bits .and .u32 (Sha.notw e) (gg)))) := hdep 21 (by decide +kernel); have d2 : a'.eval (.tmp 53) = .int .u32 (kt) := hdep 27 (by decide +kernel); refine F_val (Mi := fun _ => True) (R := fun x y => y = x) (v := .int .u32 (IntKind.u32.wrap (IntKind.u32.wrap (IntKind.u32.wrap (hh + bits .xor .u32 (bits .xor .u32 (r6) (r11)) (r25)) + bits .xor .u32 (bits .and .u32 (e) (f)) (bits .and .u32 (Sha.notw e) (gg))) + kt))) ?_ trivial rfl; simp only [execOp, d1, d2]; first | (simp [go_sem, Act.eval]; done) | (simp [go_sem, Act.eval]; rfl)
      · refine RStep.run (by simp) rfl ?_; intro a' W hfr hdep hG; have d1 : a'.eval (.tmp 7) = .int .i64 (t : Int) := hfr 7 (by decide +kernel); exact F_move (Mi := fun _ => True) (R := fun x y => y = x) rfl d1 trivial rfl
      · refine RStep.run (by simp) rfl ?_; intro a' W hfr hdep hG; have d1 : a'.eval (.tmp 5) = .pointer (some ⟨p, 0, none⟩) := hfr 5 (by decide +kernel); have d2 : a'.eval (.tmp 55) = .int .i64 (t : Int) := hdep 29 (by decide +kernel); refine F_val (Mi := fun _ => True) (R := fun x y => y = x) (v := .pointer (some ⟨p, t, none⟩)) ?_ trivial rfl; simp only [execOp, d1, d2]; first | (simp [go_sem, Act.eval, htl']; done) | (simp [go_sem, Act.eval]; omega)
      · refine RStep.run (by simp) rfl ?_; intro a' W hfr hdep hG; have d1 : a'.eval (.tmp 56) = .pointer (some ⟨p, t, none⟩) := hdep 30 (by decide +kernel); exact F_load (Mi := fun _ => True) (R := fun x y => y = x) rfl d1 (load_u32r (hG.2.1.at_ HT.out.2.2.2.2.2.2)) trivial rfl
      · refine RStep.run (by simp) rfl ?_; intro a' W hfr hdep hG; have d1 : a'.eval (.tmp 54) = .int .u32 (IntKind.u32.wrap (IntKind.u32.wrap (IntKind.u32.wrap (hh + bits .xor .u32 (bits .xor .u32 (r6) (r11)) (r25)) + bits .xor .u32 (bits .and .u32 (e) (f)) (bits .and .u32 (Sha.notw e) (gg))) + kt)) := hdep 28 (by decide +kernel); have d2 : a'.eval (.tmp 57) = .int .u32 (st) := hdep 31 (by decide +kernel); refine F_val (Mi := fun _ => True) (R := fun x y => y = x) (v := .int .u32 (o1)) ?_ trivial rfl; simp only [execOp, d1, d2]; simp only [HT.out.2.2.1]; first | rfl | (simp [go_sem, Act.eval]; done) | (simp [go_sem, Act.eval]; rfl)
      · refine RStep.run (by simp) rfl ?_; intro a' W hfr hdep hG; have d1 : a'.eval (.tmp 58) = .int .u32 (o1) := hdep 32 (by decide +kernel); exact F_assign (Mi := fun _ => True) (R := fun x y => y = x) rfl d1 trivial rfl
      intro a' w6 hdd hsz hfr hG hsl
      have e := act_of_slots (fun zi => ((.pointer (some ⟨q, 7, none⟩)) :: (.int .u32 (hh)) :: (.int .u32 (e)) :: (.int .u32 (r6)) :: (.int .u32 (e)) :: (.int .u32 (r11)) :: (.int .u32 (bits .xor .u32 (r6) (r11))) :: (.int .u32 (e)) :: (.int .u32 (r25)) :: (.int .u32 (bits .xor .u32 (bits .xor .u32 (r6) (r11)) (r25))) :: (.int .u32 (IntKind.u32.wrap (hh + bits .xor .u32 (bits .xor .u32 (r6) (r11)) (r25)))) :: (.int .u32 (e)) :: (.pointer (some ⟨q, 5, none⟩)) :: (.int .u32 (f)) :: (.int .u32 (bits .and .u32 (e) (f))) :: (.int .u32 (e)) :: (.int .u32 (Sha.notw e)) :: (.pointer (some ⟨q, 6, none⟩)) :: (.int .u32 (gg)) :: (.int .u32 (bits .and .u32 (Sha.notw e) (gg))) :: (.int .u32 (bits .xor .u32 (bits .and .u32 (e) (f)) (bits .and .u32 (Sha.notw e) (gg)))) :: (.int .u32 (IntKind.u32.wrap (IntKind.u32.wrap (hh + bits .xor .u32 (bits .xor .u32 (r6) (r11)) (r25)) + bits .xor .u32 (bits .and .u32 (e) (f)) (bits .and .u32 (Sha.notw e) (gg))))) :: (.pointer (some ⟨g, 0, none⟩)) :: (.int .i64 (t : Int)) :: (.pointer (some ⟨g, 0, none⟩)) :: (.pointer (some ⟨g, 1, none⟩)) :: (.pointer (some ⟨g, 1 + t, none⟩)) :: (.int .u32 (kt)) :: (.int .u32 (IntKind.u32.wrap (IntKind.u32.wrap (IntKind.u32.wrap (hh + bits .xor .u32 (bits .xor .u32 (r6) (r11)) (r25)) + bits .xor .u32 (bits .and .u32 (e) (f)) (bits .and .u32 (Sha.notw e) (gg))) + kt))) :: (.int .i64 (t : Int)) :: (.pointer (some ⟨p, t, none⟩)) :: (.int .u32 (st)) :: (.int .u32 (o1)) :: (.int .u32 (o1)) :: [] : List Value).getD zi undef) (by show dstsOk _ 119 = true; decide +kernel) hdd hsz hfr (fun zj hj => (hsl zj hj).1)
      have H6Z := Lib.hid hG
      clear hdd hsz hfr hsl hG
      have hrg : List.range 34 = [0, 1, 2, 3, 4, 5, 6, 7, 8, 9, 10, 11, 12, 13, 14, 15, 16, 17, 18, 19, 20, 21, 22, 23, 24, 25, 26, 27, 28, 29, 30, 31, 32, 33] := rfl
      simp only [layAll, List.map_cons, List.map_nil, List.size_toArray, List.length_cons, List.length_nil, Nat.reduceAdd, hrg, List.zip_cons_cons, List.zip_nil_left, List.foldl_cons, List.foldl_nil, List.getD_cons_zero, List.getD_cons_succ, Act.put, List.setIfInBounds_toArray, List.set_cons_zero, List.set_cons_succ] at e
      subst e
      clear hrg
      apply_assumption
      go_upto_region 7 with fail
      refine wp_region_facts (fun zi => ((.int .u32 (a)) :: (.int .u32 (r2)) :: (.int .u32 (a)) :: (.int .u32 (r13)) :: (.int .u32 (bits .xor .u32 (r2) (r13))) :: (.int .u32 (a)) :: (.int .u32 (r22)) :: (.int .u32 (bits .xor .u32 (bits .xor .u32 (r2) (r13)) (r22))) :: (.int .u32 (a)) :: (.pointer (some ⟨q, 1, none⟩)) :: (.int .u32 (b)) :: (.int .u32 (bits .and .u32 (a) (b))) :: (.int .u32 (a)) :: (.pointer (some ⟨q, 2, none⟩)) :: (.int .u32 (cc)) :: (.int .u32 (bits .and .u32 (a) (cc))) :: (.int .u32 (bits .xor .u32 (bits .and .u32 (a) (b)) (bits .and .u32 (a) (cc)))) :: (.pointer (some ⟨q, 1, none⟩)) :: (.int .u32 (b)) :: (.pointer (some ⟨q, 2, none⟩)) :: (.int .u32 (cc)) :: (.int .u32 (bits .and .u32 (b) (cc))) :: (.int .u32 (bits .xor .u32 (bits .xor .u32 (bits .and .u32 (a) (b)) (bits .and .u32 (a) (cc))) (bits .and .u32 (b) (cc)))) :: (.int .u32 (o2)) :: (.int .u32 (o2)) :: [] : List Value).getD zi undef) (fun _ _ => True) (fun W => B8 W q [a, b, cc, d, e, f, gg, hh] ∧ Bw W p S ∧ Below w1.heap.size w1 W) (fun x y => y = x) rfl (fun _ => rfl) (fun _ _ h k => by rw [k]; exact h) (fun _ _ _ _ _ => trivial) (by show dstsOk _ 119 = true; decide +kernel) (by decide +kernel) (⟨H6Z.out.1.drew, H6Z.out.2.1.drew, H6Z.out.2.2.drew⟩) ⟨?_, ?_, ?_, ?_, ?_, ?_, ?_, ?_, ?_, ?_, ?_, ?_, ?_, ?_, ?_, ?_, ?_, ?_, ?_, ?_, ?_, ?_, ?_, ?_, ?_, trivial⟩ ?_
      · refine RStep.run (by simp) rfl ?_; intro a' W hfr hdep hG; have d1 : a'.eval (.tmp 8) = .int .u32 (a) := hfr 8 (by decide +kernel); exact F_move (Mi := fun _ => True) (R := fun x y => y = x) rfl d1 trivial rfl
      · refine RStep.run (by simp) rfl ?_; intro a' W hfr hdep hG; have d1 : a'.eval (.tmp 59) = .int .u32 (a) := hdep 0 (by decide +kernel); refine F_call (Mi := fun _ => True) (R := fun x y => y = x) rfl Tryz.func60 rfl (by decide) (args := #[.int .u32 (a), .int .i64 2]) (by simp only [List.map_toArray, List.map_cons, List.map_nil, d1] <;> rfl) (HT.out.2.1.1 W) ?_; rintro e w' ⟨rfl, rfl⟩; exact ⟨rfl, trivial, rfl⟩
      · refine RStep.run (by simp) rfl ?_; intro a' W hfr hdep hG; have d1 : a'.eval (.tmp 8) = .int .u32 (a) := hfr 8 (by decide +kernel); exact F_move (Mi := fun _ => True) (R := fun x y => y = x) rfl d1 trivial rfl
      · refine RStep.run (by simp) rfl ?_; intro a' W hfr hdep hG; have d1 : a'.eval (.tmp 61) = .int .u32 (a) := hdep 2 (by decide +kernel); refine F_call (Mi := fun _ => True) (R := fun x y => y = x) rfl Tryz.func60 rfl (by decide) (args := #[.int .u32 (a), .int .i64 13]) (by simp only [List.map_toArray, List.map_cons, List.map_nil, d1] <;> rfl) (HT.out.2.1.2.1 W) ?_; rintro e w' ⟨rfl, rfl⟩; exact ⟨rfl, trivial, rfl⟩
      · refine RStep.run (by simp) rfl ?_; intro a' W hfr hdep hG; have d1 : a'.eval (.tmp 60) = .int .u32 (r2) := hdep 1 (by decide +kernel); have d2 : a'.eval (.tmp 62) = .int .u32 (r13) := hdep 3 (by decide +kernel); refine F_val (Mi := fun _ => True) (R := fun x y => y = x) (v := .int .u32 (bits .xor .u32 (r2) (r13))) ?_ trivial rfl; simp only [execOp, d1, d2]; first | (simp [go_sem, Act.eval]; done) | (simp [go_sem, Act.eval]; rfl)
      · refine RStep.run (by simp) rfl ?_; intro a' W hfr hdep hG; have d1 : a'.eval (.tmp 8) = .int .u32 (a) := hfr 8 (by decide +kernel); exact F_move (Mi := fun _ => True) (R := fun x y => y = x) rfl d1 trivial rfl
      · refine RStep.run (by simp) rfl ?_; intro a' W hfr hdep hG; have d1 : a'.eval (.tmp 64) = .int .u32 (a) := hdep 5 (by decide +kernel); refine F_call (Mi := fun _ => True) (R := fun x y => y = x) rfl Tryz.func60 rfl (by decide) (args := #[.int .u32 (a), .int .i64 22]) (by simp only [List.map_toArray, List.map_cons, List.map_nil, d1] <;> rfl) (HT.out.2.1.2.2 W) ?_; rintro e w' ⟨rfl, rfl⟩; exact ⟨rfl, trivial, rfl⟩
      · refine RStep.run (by simp) rfl ?_; intro a' W hfr hdep hG; have d1 : a'.eval (.tmp 63) = .int .u32 (bits .xor .u32 (r2) (r13)) := hdep 4 (by decide +kernel); have d2 : a'.eval (.tmp 65) = .int .u32 (r22) := hdep 6 (by decide +kernel); refine F_val (Mi := fun _ => True) (R := fun x y => y = x) (v := .int .u32 (bits .xor .u32 (bits .xor .u32 (r2) (r13)) (r22))) ?_ trivial rfl; simp only [execOp, d1, d2]; first | (simp [go_sem, Act.eval]; done) | (simp [go_sem, Act.eval]; rfl)
      · refine RStep.run (by simp) rfl ?_; intro a' W hfr hdep hG; have d1 : a'.eval (.tmp 8) = .int .u32 (a) := hfr 8 (by decide +kernel); exact F_move (Mi := fun _ => True) (R := fun x y => y = x) rfl d1 trivial rfl
      · refine RStep.run (by simp) rfl ?_; intro a' W hfr hdep hG; have d1 : a'.eval (.tmp 6) = .pointer (some ⟨q, 0, none⟩) := hfr 6 (by decide +kernel); refine F_val (Mi := fun _ => True) (R := fun x y => y = x) (v := .pointer (some ⟨q, 1, none⟩)) ?_ trivial rfl; simp only [execOp, d1]; first | (simp [go_sem, Act.eval]; done) | (simp [go_sem, Act.eval]; rw [IntKind.wrap_i64]; omega) | (simp [go_sem, Act.eval]; omega)
      · refine RStep.run (by simp) rfl ?_; intro a' W hfr hdep hG; have d1 : a'.eval (.tmp 68) = .pointer (some ⟨q, 1, none⟩) := hdep 9 (by decide +kernel); exact F_load (Mi := fun _ => True) (R := fun x y => y = x) rfl d1 (load_u32r (hG.1.at_ rfl)) trivial rfl
      · refine RStep.run (by simp) rfl ?_; intro a' W hfr hdep hG; have d1 : a'.eval (.tmp 67) = .int .u32 (a) := hdep 8 (by decide +kernel); have d2 : a'.eval (.tmp 69) = .int .u32 (b) := hdep 10 (by decide +kernel); refine F_val (Mi := fun _ => True) (R := fun x y => y = x) (v := .int .u32 (bits .and .u32 (a) (b))) ?_ trivial rfl; simp only [execOp, d1, d2]; first | (simp [go_sem, Act.eval]; done) | (simp [go_sem, Act.eval]; rfl)
      · refine RStep.run (by simp) rfl ?_; intro a' W hfr hdep hG; have d1 : a'.eval (.tmp 8) = .int .u32 (a) := hfr 8 (by decide +kernel); exact F_move (Mi := fun _ => True) (R := fun x y => y = x) rfl d1 trivial rfl
      · refine RStep.run (by simp) rfl ?_; intro a' W hfr hdep hG; have d1 : a'.eval (.tmp 6) = .pointer (some ⟨q, 0, none⟩) := hfr 6 (by decide +kernel); refine F_val (Mi := fun _ => True) (R := fun x y => y = x) (v := .pointer (some ⟨q, 2, none⟩)) ?_ trivial rfl; simp only [execOp, d1]; first | (simp [go_sem, Act.eval]; done) | (simp [go_sem, Act.eval]; rw [IntKind.wrap_i64]; omega) | (simp [go_sem, Act.eval]; omega)
      · refine RStep.run (by simp) rfl ?_; intro a' W hfr hdep hG; have d1 : a'.eval (.tmp 72) = .pointer (some ⟨q, 2, none⟩) := hdep 13 (by decide +kernel); exact F_load (Mi := fun _ => True) (R := fun x y => y = x) rfl d1 (load_u32r (hG.1.at_ rfl)) trivial rfl
      · refine RStep.run (by simp) rfl ?_; intro a' W hfr hdep hG; have d1 : a'.eval (.tmp 71) = .int .u32 (a) := hdep 12 (by decide +kernel); have d2 : a'.eval (.tmp 73) = .int .u32 (cc) := hdep 14 (by decide +kernel); refine F_val (Mi := fun _ => True) (R := fun x y => y = x) (v := .int .u32 (bits .and .u32 (a) (cc))) ?_ trivial rfl; simp only [execOp, d1, d2]; first | (simp [go_sem, Act.eval]; done) | (simp [go_sem, Act.eval]; rfl)
      · refine RStep.run (by simp) rfl ?_; intro a' W hfr hdep hG; have d1 : a'.eval (.tmp 70) = .int .u32 (bits .and .u32 (a) (b)) := hdep 11 (by decide +kernel); have d2 : a'.eval (.tmp 74) = .int .u32 (bits .and .u32 (a) (cc)) := hdep 15 (by decide +kernel); refine F_val (Mi := fun _ => True) (R := fun x y => y = x) (v := .int .u32 (bits .xor .u32 (bits .and .u32 (a) (b)) (bits .and .u32 (a) (cc)))) ?_ trivial rfl; simp only [execOp, d1, d2]; first | (simp [go_sem, Act.eval]; done) | (simp [go_sem, Act.eval]; rfl)
      · refine RStep.run (by simp) rfl ?_; intro a' W hfr hdep hG; have d1 : a'.eval (.tmp 6) = .pointer (some ⟨q, 0, none⟩) := hfr 6 (by decide +kernel); refine F_val (Mi := fun _ => True) (R := fun x y => y = x) (v := .pointer (some ⟨q, 1, none⟩)) ?_ trivial rfl; simp only [execOp, d1]; first | (simp [go_sem, Act.eval]; done) | (simp [go_sem, Act.eval]; rw [IntKind.wrap_i64]; omega) | (simp [go_sem, Act.eval]; omega)
      · refine RStep.run (by simp) rfl ?_; intro a' W hfr hdep hG; have d1 : a'.eval (.tmp 76) = .pointer (some ⟨q, 1, none⟩) := hdep 17 (by decide +kernel); exact F_load (Mi := fun _ => True) (R := fun x y => y = x) rfl d1 (load_u32r (hG.1.at_ rfl)) trivial rfl
      · refine RStep.run (by simp) rfl ?_; intro a' W hfr hdep hG; have d1 : a'.eval (.tmp 6) = .pointer (some ⟨q, 0, none⟩) := hfr 6 (by decide +kernel); refine F_val (Mi := fun _ => True) (R := fun x y => y = x) (v := .pointer (some ⟨q, 2, none⟩)) ?_ trivial rfl; simp only [execOp, d1]; first | (simp [go_sem, Act.eval]; done) | (simp [go_sem, Act.eval]; rw [IntKind.wrap_i64]; omega) | (simp [go_sem, Act.eval]; omega)
      · refine RStep.run (by simp) rfl ?_; intro a' W hfr hdep hG; have d1 : a'.eval (.tmp 78) = .pointer (some ⟨q, 2, none⟩) := hdep 19 (by decide +kernel); exact F_load (Mi := fun _ => True) (R := fun x y => y = x) rfl d1 (load_u32r (hG.1.at_ rfl)) trivial rfl
      · refine RStep.run (by simp) rfl ?_; intro a' W hfr hdep hG; have d1 : a'.eval (.tmp 77) = .int .u32 (b) := hdep 18 (by decide +kernel); have d2 : a'.eval (.tmp 79) = .int .u32 (cc) := hdep 20 (by decide +kernel); refine F_val (Mi := fun _ => True) (R := fun x y => y = x) (v := .int .u32 (bits .and .u32 (b) (cc))) ?_ trivial rfl; simp only [execOp, d1, d2]; first | (simp [go_sem, Act.eval]; done) | (simp [go_sem, Act.eval]; rfl)
      · refine RStep.run (by simp) rfl ?_; intro a' W hfr hdep hG; have d1 : a'.eval (.tmp 75) = .int .u32 (bits .xor .u32 (bits .and .u32 (a) (b)) (bits .and .u32 (a) (cc))) := hdep 16 (by decide +kernel); have d2 : a'.eval (.tmp 80) = .int .u32 (bits .and .u32 (b) (cc)) := hdep 21 (by decide +kernel); refine F_val (Mi := fun _ => True) (R := fun x y => y = x) (v := .int .u32 (bits .xor .u32 (bits .xor .u32 (bits .and .u32 (a) (b)) (bits .and .u32 (a) (cc))) (bits .and .u32 (b) (cc)))) ?_ trivial rfl; simp only [execOp, d1, d2]; first | (simp [go_sem, Act.eval]; done) | (simp [go_sem, Act.eval]; rfl)
      · refine RStep.run (by simp) rfl ?_; intro a' W hfr hdep hG; have d1 : a'.eval (.tmp 66) = .int .u32 (bits .xor .u32 (bits .xor .u32 (r2) (r13)) (r22)) := hdep 7 (by decide +kernel); have d2 : a'.eval (.tmp 81) = .int .u32 (bits .xor .u32 (bits .xor .u32 (bits .and .u32 (a) (b)) (bits .and .u32 (a) (cc))) (bits .and .u32 (b) (cc))) := hdep 22 (by decide +kernel); refine F_val (Mi := fun _ => True) (R := fun x y => y = x) (v := .int .u32 (o2)) ?_ trivial rfl; simp only [execOp, d1, d2]; simp only [HT.out.2.2.2.1]; first | rfl | (simp [go_sem, Act.eval]; done) | (simp [go_sem, Act.eval]; rfl)
      · refine RStep.run (by simp) rfl ?_; intro a' W hfr hdep hG; have d1 : a'.eval (.tmp 82) = .int .u32 (o2) := hdep 23 (by decide +kernel); exact F_assign (Mi := fun _ => True) (R := fun x y => y = x) rfl d1 trivial rfl
      intro a' w7 hdd hsz hfr hG hsl
      have e := act_of_slots (fun zi => ((.int .u32 (a)) :: (.int .u32 (r2)) :: (.int .u32 (a)) :: (.int .u32 (r13)) :: (.int .u32 (bits .xor .u32 (r2) (r13))) :: (.int .u32 (a)) :: (.int .u32 (r22)) :: (.int .u32 (bits .xor .u32 (bits .xor .u32 (r2) (r13)) (r22))) :: (.int .u32 (a)) :: (.pointer (some ⟨q, 1, none⟩)) :: (.int .u32 (b)) :: (.int .u32 (bits .and .u32 (a) (b))) :: (.int .u32 (a)) :: (.pointer (some ⟨q, 2, none⟩)) :: (.int .u32 (cc)) :: (.int .u32 (bits .and .u32 (a) (cc))) :: (.int .u32 (bits .xor .u32 (bits .and .u32 (a) (b)) (bits .and .u32 (a) (cc)))) :: (.pointer (some ⟨q, 1, none⟩)) :: (.int .u32 (b)) :: (.pointer (some ⟨q, 2, none⟩)) :: (.int .u32 (cc)) :: (.int .u32 (bits .and .u32 (b) (cc))) :: (.int .u32 (bits .xor .u32 (bits .xor .u32 (bits .and .u32 (a) (b)) (bits .and .u32 (a) (cc))) (bits .and .u32 (b) (cc)))) :: (.int .u32 (o2)) :: (.int .u32 (o2)) :: [] : List Value).getD zi undef) (by show dstsOk _ 119 = true; decide +kernel) hdd hsz hfr (fun zj hj => (hsl zj hj).1)
      have H7Z := Lib.hid hG
      clear hdd hsz hfr hsl hG
      have hrg : List.range 25 = [0, 1, 2, 3, 4, 5, 6, 7, 8, 9, 10, 11, 12, 13, 14, 15, 16, 17, 18, 19, 20, 21, 22, 23, 24] := rfl
      simp only [layAll, List.map_cons, List.map_nil, List.size_toArray, List.length_cons, List.length_nil, Nat.reduceAdd, hrg, List.zip_cons_cons, List.zip_nil_left, List.foldl_cons, List.foldl_nil, List.getD_cons_zero, List.getD_cons_succ, Act.put, List.setIfInBounds_toArray, List.set_cons_zero, List.set_cons_succ] at e
      subst e
      clear hrg
      apply_assumption
      have c1 : w7.cell? ⟨q, 1, none⟩ = some (.int .u32 b) := H7Z.out.1.at_ rfl
      have c2 : w7.cell? ⟨q, 2, none⟩ = some (.int .u32 cc) := H7Z.out.1.at_ rfl
      have c3 : w7.cell? ⟨q, 3, none⟩ = some (.int .u32 d) := H7Z.out.1.at_ rfl
      have c5 : w7.cell? ⟨q, 5, none⟩ = some (.int .u32 f) := H7Z.out.1.at_ rfl
      have c6 : w7.cell? ⟨q, 6, none⟩ = some (.int .u32 gg) := H7Z.out.1.at_ rfl
      have hSR := setRow_blk (ds := ([Sha.addw o1 o2, a, b, cc, Sha.addw d o1, e, f, gg].map u32v).toArray) H7Z.out.1
      have hst8 := store_w8 (l' := [Sha.addw o1 o2, a, b, cc, Sha.addw d o1, e, f, gg]) rfl rfl H7Z.out.1
      obtain ⟨w8, hw8⟩ : ∃ x, w7.setRow q ([Sha.addw o1 o2, a, b, cc, Sha.addw d o1, e, f, gg].map u32v).toArray = x := ⟨_, rfl⟩
      rw [hw8] at hSR hst8
      have hB8 : B8 w8 q (Sha.rnds K S H (t + 1)) := by rw [HN.out]; exact hSR.1
      have hS8 : Bw w8 p S := H7Z.out.2.1.grown hSR.2 (fun e => hpq (by injection e))
      have hb8 : Below w1.heap.size w1 w8 := H7Z.out.2.2.grown hSR.2 H7Z.out.2.2.size (fun j e => by injection e with e; omega)
      have H8 := Lib.hid (And.intro hst8 (And.intro hB8 (And.intro hS8 hb8)))
      clear hSR hw8 hst8 hB8 hS8 hb8
      go_wp2_with (first
        | ((with_reducible refine at_store_t 73 ?_); refine wpList_store_row rfl 73 _ _ rfl ⟨q, 0, none⟩ (.agg ([Sha.addw o1 o2, a, b, cc, Sha.addw d o1, e, f, gg].map u32v).toArray) w8 rfl rfl H8.out.1 ?_)
        | fail)
      go_roundw
      case rel => exact ⟨t + 1, by omega, by go_num, H8.out.2.1, H8.out.2.2.1, H8.out.2.2.2⟩
      case measure => simp [intOf]; omega
    · have hge : ¬ (t : Int) < 64 := by omega
      obtain rfl : t = 64 := by omega
      have hcomp : Sha.comp K H bs = List.zipWith Sha.addw H (Sha.rnds K S H 64) := by unfold Sha.comp; rw [HSS.out]
      obtain ⟨vv, hvv⟩ : ∃ v, Sha.rnds K S H 64 = v := ⟨_, rfl⟩
      have hvl : vv.length = 8 := by rw [← hvv]; exact Sha.rnds_len K S H HH.out.2.2.2.2.2 64
      rw [hvv] at hB hcomp
      obtain ⟨Z, hZ⟩ : ∃ z, Sha.comp K H bs = z := ⟨_, rfl⟩
      rw [hZ] at hcomp
      have hZl : Z.length = 8 := by rw [hcomp, List.length_zipWith, HH.out.2.2.2.2.2, hvl]; rfl
      have hRes : B8 wr w.heap.size (Sha.padL 8 (Z.take 0) 0) := HH.out.1.below hb (by omega)
      have HE := Lib.hid (And.intro hB (And.intro hb (And.intro hRes (And.intro hvl (And.intro hZl (And.intro hcomp hZ))))))
      clear hB hBS hb hRes hvl hZl hcomp hZ hvv
      obtain ⟨V0, rfl⟩ : ∃ V, V = wr := ⟨_, rfl⟩
      go_wp2_with fail
      go_loopw [102, 12] (fun ix _ wr => ∃ i : Nat, i ≤ 8 ∧ ix = .int .i64 (i : Int) ∧ B8 wr w.heap.size (Sha.padL 8 (Z.take i) 0) ∧ B8 wr q vv ∧ Bst wr g true K H rest n ∧ Below w.heap.size w wr) (fun ix _ _ => 8 - (intOf ix).toNat)
      case atStart => exact ⟨0, by omega, rfl, HE.out.2.2.1, HE.out.1, HH.out.2.2.2.1 V0 HE.out.2.1, HH.out.2.1.trans (HE.out.2.1.mono (by omega))⟩
      case round =>
        obtain ⟨i, hi, rfl, hR, hQ, hG, hb⟩ := hrel
        by_cases hil : i < 8
        · have hil' : (i : Int) < 8 := by omega
          obtain ⟨hx, hhx⟩ : ∃ x, H[i]? = some x := ⟨_, List.getElem?_eq_getElem (by have := HH.out.2.2.2.2.2; omega)⟩
          obtain ⟨vx, hvx⟩ : ∃ x, vv[i]? = some x := ⟨_, List.getElem?_eq_getElem (by have := HE.out.2.2.2.1; omega)⟩
          have hzx : Z[i]? = some (Sha.addw hx vx) := by rw [HE.out.2.2.2.2.2.1, List.getElem?_zipWith, hhx, hvx]
          have hZl := HE.out.2.2.2.2.1
          obtain ⟨KK, hKK⟩ : ∃ K, Sha.padL 8 (Z.take i) 0 = K := ⟨_, rfl⟩
          have hti : (Z.take i).length = i := by rw [List.length_take]; omega
          have hk0 : KK[i]? = some 0 := by rw [← hKK]; have := Sha.padL_at (n := 8) (l := Z.take i) (0 : Int) (by omega); rwa [hti] at this
          have hkn : KK.set i (Sha.addw hx vx) = Sha.padL 8 (Z.take (i + 1)) 0 := by rw [← hKK]; exact Sha.padL_take 0 hzx (by omega)
          rw [hKK] at hR
          have HI := Lib.hid (And.intro hR (And.intro hQ (And.intro hG (And.intro hb (And.intro hhx (And.intro hvx (And.intro hk0 hkn)))))))
          clear hR hQ hG hb hhx hvx hk0 hkn hKK hti hzx hZl
          have hqr : q ≠ w.heap.size := by omega
          have hgr : g ≠ w.heap.size := by omega
          go_upto_region 13 with fail
          refine wp_region_reach 12 (fun zi v _ => v = (fun zi => ((.int .i64 (i : Int)) :: (.pointer (some ⟨g, 0, none⟩)) :: (.int .i64 (i : Int)) :: (.pointer (some ⟨g, 0, none⟩)) :: (.pointer (some ⟨g, 65, none⟩)) :: (.pointer (some ⟨g, 65 + i, none⟩)) :: (.int .u32 (hx)) :: (.int .i64 (i : Int)) :: (.pointer (some ⟨q, i, none⟩)) :: (.int .u32 (vx)) :: (.int .u32 (IntKind.u32.wrap (hx + vx))) :: (.pointer (some ⟨w.heap.size, i, none⟩)) :: [] : List Value).getD zi undef) zi) (fun W => B8 W w.heap.size KK ∧ B8 W q vv ∧ Bst W g true K H rest n ∧ Below w.heap.size w W) (fun x y => Below x.heap.size x y) rfl (fun _ _ _ _ _ h => h) (fun W W' hW hR => ⟨hW.1.below hR hW.1.lt, hW.2.1.below hR hW.2.1.lt, hW.2.2.1.below hR hW.2.2.1.lt, hW.2.2.2.trans (hR.mono hW.2.2.2.size)⟩) (by show dstsOk _ 119 = true; decide +kernel) (by decide +kernel) (by decide +kernel) rfl (by decide +kernel) (⟨HI.out.1.drew, HI.out.2.1.drew, HI.out.2.2.1.drew, HI.out.2.2.2.1.drew⟩) ⟨?_, ?_, ?_, ?_, ?_, ?_, ?_, ?_, ?_, ?_, ?_, ?_, trivial⟩ ?_
          · intro a' W hfr hG hdep; refine J_of (by simp) (fun _ => rfl) ?_; have d1 : a'.eval (.tmp 12) = .int .i64 (i : Int) := hfr 12 (by decide +kernel); exact F_move rfl d1 trivial (Below.refl _ _)
          · intro a' W hfr hG hdep; refine J_of (by simp) (fun _ => rfl) ?_; have d1 : a'.eval (.tmp 0) = .pointer (some ⟨g, 0, none⟩) := hfr 0 (by decide +kernel); exact F_move rfl d1 trivial (Below.refl _ _)
          · intro a' W hfr hG hdep; refine J_of (by simp) (fun _ => rfl) ?_; have d1 : a'.eval (.tmp 12) = .int .i64 (i : Int) := hfr 12 (by decide +kernel); exact F_move rfl d1 trivial (Below.refl _ _)
          · intro a' W hfr hG hdep; refine J_of (by simp) (fun _ => rfl) ?_; have d1 : a'.eval (.tmp 106) = .pointer (some ⟨g, 0, none⟩) := hdep 1 (by decide +kernel); refine F_val (v := .pointer (some ⟨g, 0, none⟩)) ?_ trivial (Below.refl _ _); simp only [execOp, d1]; first | (simp [go_sem, Act.eval]; done) | (simp [go_sem, Act.eval]; rw [IntKind.wrap_i64]; omega) | (simp [go_sem, Act.eval]; omega)
          · intro a' W hfr hG hdep; refine J_of (by simp) (fun _ => rfl) ?_; have d1 : a'.eval (.tmp 108) = .pointer (some ⟨g, 0, none⟩) := hdep 3 (by decide +kernel); refine F_val (v := .pointer (some ⟨g, 65, none⟩)) ?_ trivial (Below.refl _ _); simp only [execOp, d1]; first | (simp [go_sem, Act.eval]; done) | (simp [go_sem, Act.eval]; rw [IntKind.wrap_i64]; omega) | (simp [go_sem, Act.eval]; omega)
          · intro a' W hfr hG hdep; refine J_of (by simp) (fun _ => rfl) ?_; have d1 : a'.eval (.tmp 109) = .pointer (some ⟨g, 65, none⟩) := hdep 4 (by decide +kernel); have d2 : a'.eval (.tmp 107) = .int .i64 (i : Int) := hdep 2 (by decide +kernel); refine F_val (v := .pointer (some ⟨g, 65 + i, none⟩)) ?_ trivial (Below.refl _ _); simp only [execOp, d1, d2]; first | (simp [go_sem, Act.eval, hil']; done) | (simp [go_sem, Act.eval]; omega)
          · intro a' W hfr hG hdep; refine J_of (by simp) (fun _ => rfl) ?_; have d1 : a'.eval (.tmp 110) = .pointer (some ⟨g, 65 + i, none⟩) := hdep 5 (by decide +kernel); exact F_load rfl d1 (load_u32r ((hG.2.2.1.cell (65 + i)).trans (by rw [List.getElem?_toArray]; exact stL_h HH.out.2.2.2.2.1 HH.out.2.2.2.2.2 HI.out.2.2.2.2.1))) trivial (Below.refl _ _)
          · intro a' W hfr hG hdep; refine J_of (by simp) (fun _ => rfl) ?_; have d1 : a'.eval (.tmp 12) = .int .i64 (i : Int) := hfr 12 (by decide +kernel); exact F_move rfl d1 trivial (Below.refl _ _)
          · intro a' W hfr hG hdep; refine J_of (by simp) (fun _ => rfl) ?_; have d1 : a'.eval (.tmp 6) = .pointer (some ⟨q, 0, none⟩) := hfr 6 (by decide +kernel); have d2 : a'.eval (.tmp 112) = .int .i64 (i : Int) := hdep 7 (by decide +kernel); refine F_val (v := .pointer (some ⟨q, i, none⟩)) ?_ trivial (Below.refl _ _); simp only [execOp, d1, d2]; first | (simp [go_sem, Act.eval, hil']; done) | (simp [go_sem, Act.eval]; omega)
          · intro a' W hfr hG hdep; refine J_of (by simp) (fun _ => rfl) ?_; have d1 : a'.eval (.tmp 113) = .pointer (some ⟨q, i, none⟩) := hdep 8 (by decide +kernel); exact F_load rfl d1 (load_u32r (hG.2.1.at_ HI.out.2.2.2.2.2.1)) trivial (Below.refl _ _)
          · intro a' W hfr hG hdep; refine J_of (by simp) (fun _ => rfl) ?_; have d1 : a'.eval (.tmp 111) = .int .u32 (hx) := hdep 6 (by decide +kernel); have d2 : a'.eval (.tmp 114) = .int .u32 (vx) := hdep 9 (by decide +kernel); refine F_val (v := .int .u32 (IntKind.u32.wrap (hx + vx))) ?_ trivial (Below.refl _ _); simp only [execOp, d1, d2]; first | (simp [go_sem, Act.eval]; done) | (simp [go_sem, Act.eval]; rfl)
          · intro a' W hfr hG hdep; refine J_of (by simp) (fun _ => rfl) ?_; have d1 : a'.eval (.tmp 4) = .pointer (some ⟨w.heap.size, 0, none⟩) := hfr 4 (by decide +kernel); have d2 : a'.eval (.tmp 105) = .int .i64 (i : Int) := hdep 0 (by decide +kernel); refine F_val (v := .pointer (some ⟨w.heap.size, i, none⟩)) ?_ trivial (Below.refl _ _); simp only [execOp, d1, d2]; first | (simp [go_sem, Act.eval, hil']; done) | (simp [go_sem, Act.eval]; omega)
          intro o ho a' W hdd hsz hfr hG hJ
          have e1 : o.op = .store 26 (.tmp 116) (.tmp 115) ∧ o.dst = none := by cases ho; exact ⟨rfl, rfl⟩
          clear ho
          have hp1 : a'.eval (.tmp 116) = .pointer (some ⟨w.heap.size, i, none⟩) := hJ 11 (by decide)
          have hv1 : a'.eval (.tmp 115) = .int .u32 (IntKind.u32.wrap (hx + vx)) := hJ 10 (by decide)
          refine wp_store_row 26 _ _ e1.1 _ _ _ hp1 hv1 (store_u32 (hG.1.at_ HI.out.2.2.2.2.2.2.1) (hG.1.frozen i) _ rfl) ?_
          rw [e1.2]
          have HG := Lib.hid hG
          clear hp1 hv1 e1 hG
          have e := act_of_slots (fun zi => ((.int .i64 (i : Int)) :: (.pointer (some ⟨g, 0, none⟩)) :: (.int .i64 (i : Int)) :: (.pointer (some ⟨g, 0, none⟩)) :: (.pointer (some ⟨g, 65, none⟩)) :: (.pointer (some ⟨g, 65 + i, none⟩)) :: (.int .u32 (hx)) :: (.int .i64 (i : Int)) :: (.pointer (some ⟨q, i, none⟩)) :: (.int .u32 (vx)) :: (.int .u32 (IntKind.u32.wrap (hx + vx))) :: (.pointer (some ⟨w.heap.size, i, none⟩)) :: [] : List Value).getD zi undef) (by show dstsOk _ 119 = true; decide +kernel) hdd hsz hfr (fun zj hj => by
            by_cases h : zj < 12
            · exact hJ zj h
            · obtain rfl : zj = 12 := by have hj' : zj < 13 := hj; omega
              rfl)
          clear hJ hfr hdd hsz
          have hrg : List.range 13 = [0, 1, 2, 3, 4, 5, 6, 7, 8, 9, 10, 11, 12] := rfl
          simp only [layAll, List.map_cons, List.map_nil, List.size_toArray, List.length_cons, List.length_nil, Nat.reduceAdd, hrg, List.zip_cons_cons, List.zip_nil_left, List.foldl_cons, List.foldl_nil, List.getD_cons_zero, List.getD_cons_succ, List.getD_nil, Act.put, List.setIfInBounds_toArray, List.set_cons_zero, List.set_cons_succ] at e
          subst e
          clear hrg
          apply_assumption
          have hB6 := HG.out.1.put i (IntKind.u32.wrap (hx + vx))
          rw [show KK.set i (IntKind.u32.wrap (hx + vx)) = Sha.padL 8 (Z.take (i + 1)) 0 from HI.out.2.2.2.2.2.2.2] at hB6
          have hQ6 := HG.out.2.1.far (p := ⟨w.heap.size, i, none⟩) hqr (.int .u32 (IntKind.u32.wrap (hx + vx)))
          have hG6 := HG.out.2.2.1.far (p := ⟨w.heap.size, i, none⟩) hgr (.int .u32 (IntKind.u32.wrap (hx + vx)))
          have hb6 : Below w.heap.size w (W.setCell ⟨w.heap.size, i, none⟩ (.int .u32 (IntKind.u32.wrap (hx + vx)))) := HG.out.2.2.2.grown (grownBy_set W ⟨w.heap.size, i, none⟩ _) (by have := HG.out.2.2.2.size; simpa using this) (fun j e => by injection e with e; exact Nat.le_of_eq e)
          obtain ⟨WW, hWW⟩ : ∃ zw, W.setCell ⟨w.heap.size, i, none⟩ (.int .u32 (IntKind.u32.wrap (hx + vx))) = zw := ⟨_, rfl⟩
          have H6 := Lib.hid (And.intro hB6 (And.intro hQ6 (And.intro hG6 hb6)))
          clear hB6 hQ6 hG6 hb6
          rw [hWW] at H6 ⊢
          clear hWW
          go_wp2_with fail
          go_roundw
          case rel => exact ⟨i + 1, by omega, by go_num, H6.out.1, H6.out.2.1, H6.out.2.2.1, H6.out.2.2.2⟩
          case measure => simp [intOf]; omega
        · have hge2 : ¬ (i : Int) < 8 := by omega
          obtain rfl : i = 8 := by omega
          have hzt : Sha.padL 8 (Z.take 8) 0 = Z := by
            rw [List.take_of_length_le (Nat.le_of_eq HE.out.2.2.2.2.1)]
            exact Sha.padL_full 0 HE.out.2.2.2.2.1
          rw [hzt] at hR
          have HL := Lib.hid (And.intro hR (And.intro hb (And.intro HE.out.2.2.2.2.1 HE.out.2.2.2.2.2.2)))
          clear hR hQ hG hb hzt
          go_wp2_with (first
            | ((with_reducible refine at_load_t 73 ?_); refine wpList_load_row rfl 73 _ rfl ⟨w.heap.size, 0, none⟩ (.agg (Z.map u32v).toArray) rfl (load_w8 HL.out.2.2.1 HL.out.1) ?_)
            | ((with_reducible refine at_store_t 73 ?_); refine wpList_store_row rfl 73 _ _ rfl ⟨w.heap.size, 0, none⟩ (.agg (Z.map u32v).toArray) (wr.setRow w.heap.size (Z.map u32v).toArray) rfl rfl (store_w8 HL.out.2.2.1 HL.out.2.2.1 HL.out.1) ?_)
            | fail)
          have hSR := setRow_blk (ds := (Z.map u32v).toArray) HL.out.1
          refine bodyPost_ret (results_row1 Tryz.results34 _ _ _ _ _ rfl (load_w8 HL.out.2.2.1 hSR.1)) rfl ⟨?_, HL.out.2.1.grown hSR.2 HL.out.2.1.size (fun j e => by injection e with e; omega)⟩
          rw [HL.out.2.2.2]
end Go.Proofs.YtmpladnglfiejaaGreatDoor
