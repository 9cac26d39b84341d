/- The places: what the iterator hands on is what is hashed. -/
import Derived.Test.YtmpladnglfiejaaGreatDoorMeR1
import Derived.Test.YtmpladnglfiejaaGreatDoorMePlain
namespace Go.Proofs.YtmpladnglfiejaaGreatDoor
set_option maxRecDepth 100000
set_option linter.unusedVariables false
set_option linter.unusedSimpArgs false
open Pe
theorem endOf_tiles : ∀ (S : List (Nat × Nat)) (h : Nat), tiles h S = true → endOf h S = h + sizes S
  | [], h, _ => by simp [endOf, sizes]
  | (o, s) :: t, h, ht => by
    rw [tiles, Bool.and_eq_true, beq_iff_eq] at ht
    obtain ⟨rfl, g⟩ := ht
    have e : sizes ((o, s) :: t) = s + sizes t := by unfold sizes; rw [List.map_cons, List.sum_cons]
    have e2 : endOf o ((o, s) :: t) = endOf (o + s) t := rfl
    rw [e2, endOf_tiles t (o + s) g, e]
    omega
theorem rngs_eq {xs : List UInt8} (h : err xs = 0) : rngs (opt xs + 64) (dirs xs + 32) (headers xs) (last xs) (riseS (secs xs)) = ranges xs := by
  have e : endOf (headers xs) (riseS (secs xs)) = end_ xs := by
    rw [endOf_tiles _ _ (laid_of h), perm_sizes (riseS_perm (secs xs))]
    rfl
  unfold rngs ranges rangesOf
  rw [e]
theorem rngs_len (ck dr hd last : Nat) (S : List (Nat × Nat)) : (rngs ck dr hd last S).length ≤ 4 + S.length := by
  unfold rngs
  rw [List.length_append, List.length_append, List.length_map]
  split <;> simp <;> omega
theorem last_eq {xs : List UInt8} (h : err xs = 0) : ((xs.length : Nat) : Int) - ((if bare xs then 0 else Pe.length xs : Nat) : Int) = (last xs : Int) := by
  have r := right_of h
  unfold last
  split
  · simp
  · rename_i hb
    have := (r.tab (by simpa using hb)).2.2.2.1
    omega
/-- The bounds that the iterator asks for. -/
structure MeB (xs : List UInt8) : Prop where
  ck : opt xs + 64 ≤ 4294967296
  dr : dirs xs + 32 ≤ 4294967296
  hd : headers xs < 4294967296
  ln : (if bare xs then 0 else Pe.length xs) < 4294967296
  many : (secs xs).length ≤ 96
  small : ∀ s ∈ riseS (secs xs), s.1 < 4294967296 ∧ s.2 < 4294967296
theorem meB {xs : List UInt8} (h : err xs = 0) (hn : xs.length ≤ 16777216) : MeB xs := by
  have r := right_of h
  have h1 := r.fits
  have h2 := r.dir
  have h3 := r.headers
  exact ⟨by omega, by omega, by omega, by split; omega; exact at_lt4 xs _, r.many, fun s hs => secs_small xs s ((riseS_perm _).mem_iff.1 hs)⟩
theorem ranges_fit {xs : List UInt8} (h : err xs = 0) : ∀ v ∈ ranges xs, v.1 ≤ v.2 ∧ v.2 ≤ xs.length := by
  have r := right_of h
  have l := laid3 h
  have h1 := l.a
  have h2 := l.b
  have h3 := l.c
  have h4 := l.d
  have h5 := l.e
  intro v hv
  unfold ranges rangesOf at hv
  rcases List.mem_append.1 hv with hv | hv
  · rcases List.mem_append.1 hv with hv | hv
    · simp only [List.mem_cons, List.not_mem_nil, or_false] at hv
      rcases hv with rfl | rfl | rfl <;> dsimp only <;> omega
    · obtain ⟨x, hx, rfl⟩ := List.mem_map.1 hv
      have := (r.each x ((riseS_perm _).mem_iff.1 hx)).2.2
      dsimp only
      omega
  · split at hv
    · simp only [List.mem_cons, List.not_mem_nil, or_false] at hv
      subst hv
      dsimp only
      omega
    · cases hv
theorem hashedOf_le (xs : List UInt8) : ∀ l : List (Nat × Nat), (hashedOf xs l).length ≤ l.length * xs.length
  | [] => by simp [hashedOf]
  | x :: l => by
    have ih := hashedOf_le xs l
    unfold hashedOf at ih ⊢
    rw [List.flatMap_cons, List.length_append, List.length_cons, Nat.succ_mul]
    have : (cutR xs x).length ≤ xs.length := by unfold cutR; rw [List.length_take, List.length_drop]; omega
    omega
end Go.Proofs.YtmpladnglfiejaaGreatDoor
