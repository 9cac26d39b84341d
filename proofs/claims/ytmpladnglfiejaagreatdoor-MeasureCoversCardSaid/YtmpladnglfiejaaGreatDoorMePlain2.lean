/- Plain: the places of a shape's image; its hashed bytes say nothing of the signatures, nor of the checksum. -/
import Derived.Test.YtmpladnglfiejaaGreatDoorMeR0
import Derived.Test.YtmpladnglfiejaaGreatDoorJb
namespace Go.Proofs.YtmpladnglfiejaaGreatDoor
set_option maxRecDepth 100000
set_option linter.unusedVariables false
set_option linter.unusedSimpArgs false
namespace Pe
theorem Read.places {s : Shape} {c : List UInt8} (h : Read s c) (ho : s.Ok) : opt c = s.opt ∧ dirs c = s.table - 128 ∧ headers c = s.headers ∧ last c = if s.sigs = [] then c.length else s.from_ := by
  have hb : bare c = decide (s.sigs = []) := by
    unfold bare
    rw [h.made.tab_.1.trans h.from_, h.made.tab_.2.trans h.len]
    by_cases hs : s.sigs = []
    · simp [hs]
    · have : 0 < s.from_ := by
        obtain ⟨e1, e2, e3, e4, e5⟩ := s.sizes_
        unfold Shape.from_ up; omega
      simp [hs]; omega
  refine ⟨h.made.hd.opt_, h.made.hd.dirs_, h.made.hd.headers_, ?_⟩
  unfold last
  rw [hb]
  by_cases hs : s.sigs = []
  · simp [hs]
  · simp only [hs, decide_false, Bool.false_eq_true, if_false]
    rw [h.made.tab_.1.trans h.from_, if_neg hs]
theorem write_alike {s : Shape} (ho : s.Ok) (hs : s.sigs ≠ []) {p n : Nat} (h1 : p + n ≤ s.table - 96 ∨ s.table - 88 ≤ p) (h2 : p + n ≤ s.from_) : Alike (write s) (padded s.body) p n := by
  obtain ⟨e1, e2, e3, e4, e5⟩ := s.sizes_
  have hl : (padded s.body).length = s.from_ := by rw [padded_len, s.body_len ho]; rfl
  have hf : s.headers ≤ s.from_ := by unfold Shape.from_ up; omega
  unfold write
  rw [if_neg hs]
  refine (alike_append _ _ ?_).trans ((alike_putAt _ ?_ ?_).trans (alike_putAt _ ?_ ?_))
  · rw [putAt_len _ _ _ _ (by rw [putAt_len _ _ _ _ (by omega)]; omega), putAt_len _ _ _ _ (by omega)]; omega
  · rw [putAt_len _ _ _ _ (by omega)]; omega
  · omega
  · omega
  · omega
/-- Other signatures. -/
def Shape.resign (s : Shape) (g : List (List UInt8)) : Shape := { s with sigs := g }
theorem resign_ok {x y : Shape} (hx : x.Ok) (hy : y.Ok) : (x.resign y.sigs).Ok :=
  ⟨hx.stub, hx.fill, hx.one, hx.ten, hx.bodies, hx.behind, hy.sigs, hy.each⟩
theorem putAt_read {s : Shape} {b : List UInt8} (h : Read s b) (ho : s.Ok) (x : Nat) : Read s (putAt b (s.opt + 64) x 4) := by
  obtain ⟨e1, e2, e3, e4, e5⟩ := s.sizes_
  have hf := h.made.fits
  have hff : s.headers ≤ s.from_ := by unfold Shape.from_ up; omega
  exact h.keep ho (putAt_len _ _ _ _ (by omega)) (alike_putAt _ (by omega) (by omega)) (alike_putAt _ (by omega) (by omega)) (fun _ => alike_putAt _ (by omega) (by omega))
theorem blind {x y : Shape} (hx : x.Ok) (hy : y.Ok) (h8x : x.sigs.length ≤ 8) (h8 : y.sigs.length ≤ 8) (hxs : x.sigs ≠ []) (hys : y.sigs ≠ []) (k : Nat) :
    err (putAt (write (x.resign y.sigs)) (x.opt + 64) k 4) = 0 ∧ sigs (putAt (write (x.resign y.sigs)) (x.opt + 64) k 4) = y.sigs ∧ hashed (putAt (write (x.resign y.sigs)) (x.opt + 64) k 4) = hashed (write x) := by
  have hz := resign_ok hx hy
  have hr := Shape.write_read hx
  have hq := putAt_read (Shape.write_read hz) hz k
  have o : (x.resign y.sigs).opt = x.opt := rfl
  rw [o] at hq
  have e1 := (read_err hr hx h8x).1
  have e2 := read_err hq hz h8
  refine ⟨e2.1, congrArg Img.sigs e2.2, ?_⟩
  rw [hashed_eq e1, hashed_eq e2.1]
  obtain ⟨a1, a2, a3, a4⟩ := hr.places hx
  obtain ⟨b1, b2, b3, b4⟩ := hq.places hz
  have t : (x.resign y.sigs).table = x.table := rfl
  have f : (x.resign y.sigs).from_ = x.from_ := rfl
  have g : (x.resign y.sigs).sigs = y.sigs := rfl
  have bd : (x.resign y.sigs).body = x.body := rfl
  rw [if_neg hxs] at a4
  rw [g, if_neg hys, f] at b4
  rw [t] at b2
  rw [o] at b1
  obtain ⟨z1, z2, z3, z4, z5⟩ := x.sizes_
  have hf : x.headers ≤ x.from_ := by unfold Shape.from_ up; omega
  have hwl := Shape.write_len _ hz
  rw [g, if_neg hys, f] at hwl
  have al : ∀ p n, (p + n ≤ x.opt + 64 ∨ x.opt + 68 ≤ p) → (p + n ≤ x.table - 96 ∨ x.table - 88 ≤ p) → p + n ≤ x.from_ → Alike (putAt (write (x.resign y.sigs)) (x.opt + 64) k 4) (write x) p n := fun p n h1 h2 h3 => by
    refine (alike_putAt _ (by omega) (by omega)).trans ((write_alike hz (by rw [g]; exact hys) (by rw [t]; exact h2) (by rw [f]; exact h3)).trans ?_)
    rw [bd]
    exact (write_alike hx hxs h2 h3).symm
  unfold hashed3 cutR
  rw [a1, a2, a4, b1, b2, b4]
  dsimp only
  rw [cut_alike (al 0 (x.opt + 64 - 0) (by omega) (by omega) (by omega)), cut_alike (al (x.opt + 68) (x.table - 128 + 32 - (x.opt + 68)) (by omega) (by omega) (by omega)), cut_alike (al (x.table - 128 + 40) (x.from_ - (x.table - 128 + 40)) (by omega) (by omega) (by omega))]
theorem leN_get : ∀ (n x j : Nat) (u : UInt8), (leN n x)[j]? = some u → u.toNat = x / 2 ^ (8 * j) % 256
  | 0, x, j, u, h => by cases j <;> cases h
  | n + 1, x, 0, u, h => by
    simp only [leN, List.getElem?_cons_zero, Option.some.injEq] at h
    subst h
    simp
  | n + 1, x, j + 1, u, h => by
    rw [leN, List.getElem?_cons_succ] at h
    rw [leN_get n (x / 256) j u h, Nat.div_div_eq_div_mul, show 8 * (j + 1) = 8 * j + 8 by omega, Nat.pow_add, Nat.mul_comm (2 ^ (8 * j))]
theorem putTo_all (b : List UInt8) (p x : Nat) : putTo b p (leN 4 x) 4 = putAt b p x 4 := by
  unfold putTo putAt
  rw [show (leN 4 x).take 4 = leN 4 x from List.take_of_length_le (by rw [leN_len]; exact Nat.le_refl _)]
/-- The places, one by one. -/
theorem ranges_len (xs : List UInt8) : (ranges xs).length = 3 + (secs xs).length + if end_ xs < last xs then 1 else 0 := by
  unfold ranges rangesOf
  rw [List.length_append, List.length_append, List.length_map, (riseS_perm _).length_eq]
  split <;> rfl
theorem ranges_heads (xs : List UInt8) : (ranges xs)[0]? = some (0, opt xs + 64) ∧ (ranges xs)[1]? = some (opt xs + 68, dirs xs + 32) ∧ (ranges xs)[2]? = some (dirs xs + 40, headers xs) := ⟨rfl, rfl, rfl⟩
theorem ranges_sec (xs : List UInt8) {i : Nat} {x : Nat × Nat} (h : (riseS (secs xs))[i]? = some x) : (ranges xs)[3 + i]? = some (x.1, x.1 + x.2) := by
  unfold ranges rangesOf
  have hl := (List.getElem?_eq_some_iff.1 h).1
  rw [List.append_assoc, List.getElem?_append_right (by simp), List.getElem?_append_left (by simp; omega)]
  simp [h]
theorem ranges_last (xs : List UInt8) (h : end_ xs < last xs) : (ranges xs)[3 + (secs xs).length]? = some (end_ xs, last xs) := by
  unfold ranges rangesOf
  have hl : ([(0, opt xs + 64), (opt xs + 68, dirs xs + 32), (dirs xs + 40, headers xs)] ++ (riseS (secs xs)).map (fun s => (s.1, s.1 + s.2))).length = 3 + (secs xs).length := by
    rw [List.length_append, List.length_map, (riseS_perm (secs xs)).length_eq]
    rfl
  rw [if_pos h, List.getElem?_append_right (by omega), hl, Nat.sub_self]
  rfl
theorem tiles_at : ∀ (l : List (Nat × Nat)) (h i : Nat) (x : Nat × Nat), tiles h l = true → l[i]? = some x → x.1 = h + sizes (l.take i)
  | [], h, i, x, _, hx => by cases i <;> cases hx
  | (o, s) :: t, h, 0, x, ht, hx => by
    rw [tiles, Bool.and_eq_true, beq_iff_eq] at ht
    simp only [List.getElem?_cons_zero, Option.some.injEq] at hx
    subst hx
    simp [sizes, ht.1]
  | (o, s) :: t, h, i + 1, x, ht, hx => by
    rw [tiles, Bool.and_eq_true, beq_iff_eq] at ht
    obtain ⟨rfl, g⟩ := ht
    have := tiles_at t (o + s) i x g (by simpa using hx)
    rw [this, List.take_succ_cons]
    unfold sizes
    rw [List.map_cons, List.sum_cons]
    omega
theorem sizes_succ (l : List (Nat × Nat)) {i : Nat} {x : Nat × Nat} (h : l[i]? = some x) : sizes (l.take (i + 1)) = sizes (l.take i) + x.2 := by
  obtain ⟨hi, rfl⟩ := List.getElem?_eq_some_iff.1 h
  unfold sizes
  rw [List.take_succ_eq_append_getElem hi, List.map_append, List.sum_append]
  simp
/-- What is told of a section of an image that is right. -/
theorem sec_at {xs : List UInt8} (h : err xs = 0) {i : Nat} (hi : i < (secs xs).length) : ∃ x ∈ secs xs, (ranges xs)[3 + i]? = some (headers xs + sizes ((riseS (secs xs)).take i), headers xs + sizes ((riseS (secs xs)).take (i + 1))) ∧ x.1 = headers xs + sizes ((riseS (secs xs)).take i) ∧ x.1 + x.2 = headers xs + sizes ((riseS (secs xs)).take (i + 1)) := by
  have hl := (riseS_perm (secs xs)).length_eq
  obtain ⟨x, hx⟩ : ∃ x, (riseS (secs xs))[i]? = some x := ⟨_, List.getElem?_eq_getElem (by omega)⟩
  have h1 := tiles_at _ _ _ _ (laid_of h) hx
  have h2 := sizes_succ _ hx
  refine ⟨x, (riseS_perm _).mem_iff.1 (List.mem_of_getElem? hx), ?_, h1, by omega⟩
  rw [ranges_sec xs hx, h1, h2]
  congr 2
  omega
theorem end_eq (xs : List UInt8) : headers xs + sizes ((riseS (secs xs)).take (secs xs).length) = end_ xs := by
  rw [List.take_of_length_le (by rw [(riseS_perm _).length_eq]; exact Nat.le_refl _), perm_sizes (riseS_perm (secs xs))]
  rfl
end Pe
end Go.Proofs.YtmpladnglfiejaaGreatDoor
