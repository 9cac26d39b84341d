/- Which bytes of an image are hashed: plain Lean, no program in sight. -/
import Derived.Test.YtmpladnglfiejaaGreatDoorPC
namespace Go.Proofs.YtmpladnglfiejaaGreatDoor
set_option maxRecDepth 100000
set_option linter.unusedVariables false
set_option linter.unusedSimpArgs false
namespace Pe
theorem tiles_ge : ∀ (l : List (Nat × Nat)) (h : Nat), tiles h l = true → ∀ x ∈ l, h ≤ x.1
  | [], _, _, x, hx => by cases hx
  | (o, s) :: r, h, ht, x, hx => by
    rw [tiles, Bool.and_eq_true, beq_iff_eq] at ht
    rcases List.mem_cons.1 hx with rfl | hx
    · exact Nat.le_of_eq ht.1.symm
    · have := tiles_ge r (h + s) ht.2 x hx
      omega
/-- Sections that lie one behind the other are in one order alone. -/
theorem tiles_unique : ∀ (S S' : List (Nat × Nat)) (h : Nat), S.Perm S' → tiles h S = true → tiles h S' = true → (∀ x ∈ S, 0 < x.2) → S = S'
  | [], S', h, hp, _, _, _ => (List.nil_perm.1 hp).symm
  | (o, s) :: t, [], h, hp, _, _, _ => absurd hp.length_eq (by simp)
  | (o, s) :: t, (o', s') :: t', h, hp, h1, h2, hs => by
    have k1 := h1
    have k2 := h2
    rw [tiles, Bool.and_eq_true, beq_iff_eq] at h1 h2
    obtain ⟨rfl, g1⟩ := h1
    obtain ⟨rfl, g2⟩ := h2
    have hm : (o', s) ∈ (o', s') :: t' := hp.mem_iff.1 (by simp)
    have hm' : (o', s') ∈ (o', s) :: t := hp.mem_iff.2 (by simp)
    have he : s = s' := by
      rcases List.mem_cons.1 hm with e | hm
      · injection e
      · have a := tiles_ge t' _ g2 _ hm
        have b := hs _ hm'
        dsimp only at a b
        omega
    subst he
    rw [tiles_unique t t' (o' + s) (List.perm_cons _ |>.1 hp) g1 g2 fun x hx => hs x (by simp [hx])]
/-- Where what is hashed ends. -/
def last (xs : List UInt8) : Nat := if bare xs then xs.length else from_ xs
/-- Where the bytes lie that are hashed, the sections in some order. -/
def rangesOf (xs : List UInt8) (S : List (Nat × Nat)) : List (Nat × Nat) :=
  [(0, opt xs + 64), (opt xs + 68, dirs xs + 32), (dirs xs + 40, headers xs)] ++ S.map (fun s => (s.1, s.1 + s.2)) ++ (if end_ xs < last xs then [(end_ xs, last xs)] else [])
def ranges (xs : List UInt8) : List (Nat × Nat) := rangesOf xs (riseS (secs xs))
def cutR (xs : List UInt8) (r : Nat × Nat) : List UInt8 := (xs.drop r.1).take (r.2 - r.1)
def hashedOf (xs : List UInt8) (l : List (Nat × Nat)) : List UInt8 := l.flatMap (cutR xs)
def hashed (xs : List UInt8) : List UInt8 := hashedOf xs (ranges xs)
/-- The same bytes, in three rows. -/
def hashed3 (xs : List UInt8) : List UInt8 := cutR xs (0, opt xs + 64) ++ cutR xs (opt xs + 68, dirs xs + 32) ++ cutR xs (dirs xs + 40, last xs)
theorem laid_of {xs : List UInt8} (h : err xs = 0) : tiles (headers xs) (riseS (secs xs)) = true := by
  have hf := fine_of_err h
  unfold fine laid at hf
  simp only [Bool.and_eq_true] at hf
  exact hf.1.2.1
theorem sorted_eq {xs : List UInt8} (h : err xs = 0) {S : List (Nat × Nat)} (hp : S.Perm (secs xs)) (hr : Rising S) : S = riseS (secs xs) := by
  have ht := laid_of h
  have hpos := secs_pos xs
  refine tiles_unique S _ (headers xs) (hp.trans (riseS_perm _).symm) ?_ ht fun x hx => hpos x (hp.mem_iff.1 hx)
  rw [tiles_rise (headers xs) hp hr hpos]
  exact ht
theorem flat_tiles (xs : List UInt8) : ∀ (S : List (Nat × Nat)) (h : Nat), tiles h S = true → (S.map (fun s => (s.1, s.1 + s.2))).flatMap (cutR xs) = (xs.drop h).take (sizes S)
  | [], h, _ => by simp [sizes]
  | (o, s) :: t, h, ht => by
    rw [tiles, Bool.and_eq_true, beq_iff_eq] at ht
    obtain ⟨rfl, g⟩ := ht
    have e : sizes ((o, s) :: t) = s + sizes t := by unfold sizes; rw [List.map_cons, List.sum_cons]
    rw [List.map_cons, List.flatMap_cons, flat_tiles xs t (o + s) g, e, List.take_add, List.drop_drop]
    unfold cutR
    dsimp only
    rw [Nat.add_sub_cancel_left]
theorem cut_join (xs : List UInt8) {a b c : Nat} (h1 : a ≤ b) (h2 : b ≤ c) : cutR xs (a, b) ++ cutR xs (b, c) = cutR xs (a, c) := by
  unfold cutR
  dsimp only
  rw [show c - a = (b - a) + (c - b) by omega, List.take_add, List.drop_drop, show a + (b - a) = b by omega]
/-- What keeps of the places of a right image. -/
structure Laid3 (xs : List UInt8) : Prop where
  a : opt xs + 68 ≤ dirs xs + 32
  b : dirs xs + 40 ≤ headers xs
  c : headers xs ≤ end_ xs
  d : end_ xs ≤ last xs
  e : last xs ≤ xs.length
theorem laid3 {xs : List UInt8} (h : err xs = 0) : Laid3 xs := by
  have r := right_of h
  have h1 := r.fits
  have h2 := r.dir
  have h3 := r.headers
  refine ⟨h2, h3.1, Nat.le_add_right _ _, ?_, ?_⟩
  · unfold last
    split
    · exact h1
    · rename_i hb
      exact (r.tab (by simpa using hb)).2.2.1
  · unfold last
    split
    · exact Nat.le_refl _
    · rename_i hb
      have := (r.tab (by simpa using hb)).2.2.2.1
      omega
theorem hashed_eq {xs : List UInt8} (h : err xs = 0) : hashed xs = hashed3 xs := by
  have l := laid3 h
  have h1 := l.a
  have h2 := l.b
  have h3 := l.c
  have h4 := l.d
  unfold hashed hashedOf ranges rangesOf hashed3
  rw [List.flatMap_append, List.flatMap_append, flat_tiles xs _ _ (laid_of h), perm_sizes (riseS_perm (secs xs))]
  have e : (xs.drop (headers xs)).take (sizes (secs xs)) = cutR xs (headers xs, end_ xs) := by
    unfold cutR end_
    dsimp only
    rw [Nat.add_sub_cancel_left]
  have e2 : (if end_ xs < last xs then [(end_ xs, last xs)] else []).flatMap (cutR xs) = cutR xs (end_ xs, last xs) := by
    split
    · simp
    · have : end_ xs = last xs := by omega
      rw [this]
      unfold cutR
      simp
  rw [e, e2]
  simp only [List.flatMap_cons, List.flatMap_nil, List.append_nil, List.append_assoc]
  rw [cut_join xs h3 h4, cut_join xs h2 (Nat.le_trans h3 h4)]
end Pe
end Go.Proofs.YtmpladnglfiejaaGreatDoor
