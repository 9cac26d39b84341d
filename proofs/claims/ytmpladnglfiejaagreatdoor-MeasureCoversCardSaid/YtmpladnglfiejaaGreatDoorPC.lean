/- Joined of: PeSpec PeMade PeLay PeBack PeLaws PeLaws2 PeParts PeRowsP. -/
import Derived.Test.YtmpladnglfiejaaGreatDoorPA
section
/- What bytes tell as an image: plain Lean, no program in sight. -/
namespace Go.Proofs.YtmpladnglfiejaaGreatDoor
set_option maxRecDepth 100000
set_option linter.unusedVariables false
set_option linter.unusedSimpArgs false
namespace Pe
/-- A number of bytes, the lowest first. -/
def num : List UInt8 → Nat
  | [] => 0
  | b :: r => b.toNat + 256 * num r
theorem num_append : ∀ (a b : List UInt8), num (a ++ b) = num a + 256 ^ a.length * num b
  | [], b => by simp [num]
  | x :: a, b => by
    rw [List.cons_append, num, num, num_append a b, List.length_cons, Nat.pow_succ, Nat.mul_add, Nat.add_assoc, Nat.mul_left_comm, Nat.mul_assoc]
theorem num_lt : ∀ (a : List UInt8), num a < 256 ^ a.length
  | [] => by simp [num]
  | x :: a => by
    have h1 := num_lt a
    have h2 := x.toNat_lt
    rw [num, List.length_cons, Nat.pow_succ]
    omega
/-- So many bytes at a place are within. -/
def inb (xs : List UInt8) (p n : Nat) : Bool := decide (p + n ≤ xs.length)
/-- The number of so many bytes at a place; 0 if they are not within. -/
def at_ (xs : List UInt8) (p n : Nat) : Nat := if p + n ≤ xs.length then num ((xs.drop p).take n) else 0
theorem at_lt (xs : List UInt8) (p n : Nat) : at_ xs p n < 256 ^ n := by
  unfold at_
  split
  · have := num_lt ((xs.drop p).take n)
    have hl : ((xs.drop p).take n).length = n := by simp; omega
    rwa [hl] at this
  · exact Nat.pow_pos (by omega)
theorem at_lt2 (xs : List UInt8) (p : Nat) : at_ xs p 2 < 65536 := at_lt xs p 2
theorem at_lt4 (xs : List UInt8) (p : Nat) : at_ xs p 4 < 4294967296 := at_lt xs p 4

/-- A number's bytes, the lowest first. -/
def leN : Nat → Nat → List UInt8
  | 0, _ => []
  | n + 1, x => UInt8.ofNat x :: leN n (x / 256)
theorem leN_len : ∀ (n x : Nat), (leN n x).length = n
  | 0, _ => rfl
  | n + 1, x => by rw [leN, List.length_cons, leN_len n]
theorem num_leN : ∀ (n x : Nat), num (leN n x) = x % 256 ^ n
  | 0, x => by simp [leN, num, Nat.mod_one]
  | n + 1, x => by
    rw [leN, num, num_leN n, Nat.pow_succ, UInt8.toNat_ofNat']
    have h1 : (2 : Nat) ^ 8 = 256 := rfl
    rw [h1, Nat.mul_comm (256 ^ n) 256, Nat.mod_mul]

/-- Sections, one behind the other from a place on. -/
def tiles : Nat → List (Nat × Nat) → Bool
  | _, [] => true
  | h, (o, s) :: r => (o == h) && tiles (h + s) r
def sizes (l : List (Nat × Nat)) : Nat := (l.map (·.2)).sum
def Rising (l : List (Nat × Nat)) : Prop := l.Pairwise fun a b => a.1 ≤ b.1
/-- Whatever sections of one list rise, they tell the same. -/
theorem tiles_same : ∀ (k : Nat) (S S' : List (Nat × Nat)) (h : Nat), S.length ≤ k → S.Perm S' → Rising S → Rising S' → (∀ x ∈ S, 0 < x.2) → tiles h S = tiles h S'
  | k, S, S', h, hk, hp, h1, h2, hs => by
    cases S with
    | nil =>
      have : S' = [] := List.nil_perm.1 hp
      subst this; rfl
    | cons x t =>
      cases k with
      | zero => simp at hk
      | succ k =>
        cases S' with
        | nil => exact absurd hp.length_eq (by simp)
        | cons y t' =>
          have hx := List.pairwise_cons.1 h1
          have hy := List.pairwise_cons.1 h2
          have hyS : y ∈ x :: t := hp.mem_iff.2 (by simp)
          have hxS : x ∈ y :: t' := hp.mem_iff.1 (by simp)
          by_cases hxy : x = y
          · subst hxy
            obtain ⟨o, s⟩ := x
            rw [tiles, tiles, tiles_same k t t' (h + s) (by simpa using hk) (List.perm_cons _ |>.1 hp) hx.2 hy.2 fun z hz => hs z (by simp [hz])]
          · have hyt : y ∈ t := by simpa [Ne.symm hxy] using hyS
            have hxt : x ∈ t' := by simpa [hxy] using hxS
            have hle : x.1 = y.1 := Nat.le_antisymm (hx.1 y hyt) (hy.1 x hxt)
            have no : ∀ (t : List (Nat × Nat)) (x y : Nat × Nat), 0 < x.2 → y ∈ t → Rising t → x.1 = y.1 → tiles h (x :: t) = false := by
              intro t x y hx0 hyt ht hle
              obtain ⟨o, s⟩ := x
              rw [tiles]
              by_cases ho : o = h
              · subst ho
                cases t with
                | nil => cases hyt
                | cons z t =>
                  obtain ⟨o', s'⟩ := z
                  have hz : o' ≤ y.1 := by
                    rcases List.mem_cons.1 hyt with rfl | hm
                    · exact Nat.le_refl _
                    · exact (List.pairwise_cons.1 ht).1 y hm
                  rw [tiles]
                  have : (o' == o + s) = false := by simp; dsimp only at hle hx0; omega
                  rw [this]; simp
              · have : (o == h) = false := by simpa using ho
                rw [this]; rfl
            rw [no t x y (hs x (by simp)) hyt hx.2 hle, no t' y x (hs y hyS) hxt hy.2 hle.symm]
theorem perm_sizes {l l' : List (Nat × Nat)} (h : l.Perm l') : sizes l = sizes l' := (h.map _).sum_nat
/-- One section put into those that rise. -/
def insS (x : Nat × Nat) : List (Nat × Nat) → List (Nat × Nat)
  | [] => [x]
  | y :: l => if x.1 < y.1 then x :: y :: l else y :: insS x l
def riseS : List (Nat × Nat) → List (Nat × Nat)
  | [] => []
  | x :: l => insS x (riseS l)
theorem insS_perm (x : Nat × Nat) : ∀ l, (insS x l).Perm (x :: l)
  | [] => List.Perm.refl _
  | y :: l => by
    rw [insS]
    split
    · exact List.Perm.refl _
    · exact ((insS_perm x l).cons y).trans (List.Perm.swap x y l)
theorem riseS_perm : ∀ l, (riseS l).Perm l
  | [] => List.Perm.refl _
  | x :: l => (insS_perm x _).trans ((riseS_perm l).cons x)
theorem insS_rises (x : Nat × Nat) : ∀ l, Rising l → Rising (insS x l)
  | [], _ => List.pairwise_singleton _ _
  | y :: l, h => by
    have h' := List.pairwise_cons.1 h
    rw [insS]
    split
    · rename_i hlt
      refine List.pairwise_cons.2 ⟨fun z hz => ?_, h⟩
      rcases List.mem_cons.1 hz with rfl | hz
      · omega
      · have := h'.1 z hz; omega
    · rename_i hge
      refine List.pairwise_cons.2 ⟨fun z hz => ?_, insS_rises x l h'.2⟩
      rcases List.mem_cons.1 ((insS_perm x l).mem_iff.1 hz) with rfl | hz
      · omega
      · exact h'.1 z hz
theorem riseS_rises : ∀ l, Rising (riseS l)
  | [] => List.Pairwise.nil
  | x :: l => insS_rises x _ (riseS_rises l)
theorem tiles_rise {S l : List (Nat × Nat)} (h : Nat) (hp : S.Perm l) (hr : Rising S) (hs : ∀ x ∈ l, 0 < x.2) : tiles h S = tiles h (riseS l) :=
  tiles_same S.length S (riseS l) h (Nat.le_refl _) (hp.trans (riseS_perm l).symm) hr (riseS_rises l) fun x hx => hs x (hp.mem_iff.1 hx)

/-- What is read of an image. -/
structure Img where
  plus : Bool
  check : Nat
  dir : Nat
  headers : Nat
  secs : List (Nat × Nat)
  table : Nat
  length : Nat
  sigs : List (List UInt8)
def Img.zero : Img := ⟨false, 0, 0, 0, [], 0, 0, []⟩

section
variable (xs : List UInt8)
def pe : Nat := at_ xs 60 4
def opt : Nat := pe xs + 24
def many : Nat := at_ xs (pe xs + 6) 2
def size : Nat := at_ xs (pe xs + 20) 2
def magic : Nat := at_ xs (opt xs) 2
def plus : Bool := magic xs == 523
def dirs : Nat := opt xs + if plus xs then 112 else 96
def kdirs : Nat := at_ xs (dirs xs - 4) 4
def headers : Nat := at_ xs (opt xs + 60) 4
def table : Nat := opt xs + size xs
def begins : Bool := xs.take 2 == [77, 90]
/-- The beginning is right. -/
def first : Bool := inb xs 60 4 && (decide (64 ≤ pe xs) && begins xs && (inb xs (pe xs) 4 && (at_ xs (pe xs) 4 == 17744)))
def second : Bool := inb xs (pe xs + 6) 2 && inb xs (pe xs + 20) 2 && inb xs (opt xs) 2 && (decide (1 ≤ many xs) && decide (many xs ≤ 96) && (magic xs == 523 || magic xs == 267))
def third : Bool := inb xs (dirs xs - 4) 4 && inb xs (opt xs + 60) 4 && (decide (5 ≤ kdirs xs) && (size xs == dirs xs - opt xs + 8 * kdirs xs) && decide (headers xs ≤ xs.length) && decide (table xs + 40 * many xs ≤ headers xs))
/-- The headers are right. -/
def head : Bool := first xs && second xs && third xs
def secAt (i : Nat) : Option (Nat × Nat) := if at_ xs (table xs + 40 * i + 16) 4 = 0 then none else some (at_ xs (table xs + 40 * i + 20) 4, at_ xs (table xs + 40 * i + 16) 4)
def secs : List (Nat × Nat) := (List.range (many xs)).filterMap (secAt xs)
def end_ : Nat := headers xs + sizes (secs xs)
def laid : Bool := tiles (headers xs) (riseS (secs xs)) && decide (end_ xs ≤ xs.length)
def from_ : Nat := at_ xs (dirs xs + 32) 4
def length : Nat := at_ xs (dirs xs + 36) 4
def bare : Bool := from_ xs == 0 && length xs == 0
def up (n : Nat) : Nat := (n + 7) / 8 * 8
/-- A signature's row, but for what fills it up. -/
def rowOk (a : Nat) : Bool := inb xs a 4 && (decide (8 < at_ xs a 4) && (inb xs (a + 4) 2 && (at_ xs (a + 4) 2 == 512)) && (inb xs (a + 6) 2 && (at_ xs (a + 6) 2 == 2)) && decide (up (at_ xs a 4) ≤ xs.length - a))
def fillOk (a : Nat) : Bool := ((xs.drop (a + at_ xs a 4)).take (up (at_ xs a 4) - at_ xs a 4)).all (· == 0)
def blob (a : Nat) : List UInt8 := (xs.drop (a + 8)).take (at_ xs a 4 - 8)
/-- The signatures from a place on, if their rows are right. -/
def rowsF : Nat → Nat → Option (List (List UInt8))
  | 0, _ => some []
  | k + 1, a => if a < xs.length then (if rowOk xs a && fillOk xs a then (rowsF k (a + up (at_ xs a 4))).map (blob xs a :: ·) else none) else some []
def rows (a : Nat) : Option (List (List UInt8)) := rowsF xs (xs.length - a) a
def tabled : Bool := decide (0 < length xs) && (from_ xs % 8 == 0) && decide (end_ xs ≤ from_ xs) && (from_ xs + length xs == xs.length)
def signed : Bool := bare xs || (tabled xs && (rows xs (from_ xs)).isSome)
/-- All is right. -/
def fine : Bool := head xs && laid xs && signed xs
def sigs : List (List UInt8) := if bare xs then [] else (rows xs (from_ xs)).getD []
def img : Img := ⟨plus xs, opt xs + 64, dirs xs + 32, headers xs, secs xs, if bare xs then 0 else from_ xs, if bare xs then 0 else length xs, sigs xs⟩
/-- What bytes tell as an image: the error's number and the image. -/
def err : Nat := if 16777216 < xs.length then 10 else if fine xs then (if 8 < (sigs xs).length then 10 else 0) else 9
def parse : Nat × Img := (err xs, if err xs = 0 then img xs else Img.zero)
end
theorem secs_pos (xs : List UInt8) : ∀ x ∈ secs xs, 0 < x.2 := fun x hx => by
  obtain ⟨i, _, hi⟩ := List.mem_filterMap.1 hx
  unfold secAt at hi
  split at hi
  · cases hi
  · injection hi with hi
    subst hi
    dsimp only
    omega
end Pe
end Go.Proofs.YtmpladnglfiejaaGreatDoor
end

section
/- The image of a shape, plain: its bytes, and what numbers stand where. -/
namespace Go.Proofs.YtmpladnglfiejaaGreatDoor
set_option maxRecDepth 100000
set_option linter.unusedVariables false
set_option linter.unusedSimpArgs false
namespace Pe
/-- A number laid at a place. -/
def putAt (b : List UInt8) (p x n : Nat) : List UInt8 := b.take p ++ leN n x ++ b.drop (p + n)
theorem putAt_len (b : List UInt8) (p x n : Nat) (h : p + n ≤ b.length) : (putAt b p x n).length = b.length := by
  unfold putAt
  simp [leN_len]; omega
theorem putAt_get (b : List UInt8) (p x n : Nat) (h : p + n ≤ b.length) (j : Nat) : (putAt b p x n)[j]? = if p ≤ j ∧ j < p + n then (leN n x)[j - p]? else b[j]? := by
  unfold putAt
  by_cases h1 : j < p
  · rw [if_neg (by omega), List.append_assoc, List.getElem?_append_left (by simp; omega), List.getElem?_take, if_pos h1]
  · by_cases h2 : j < p + n
    · rw [if_pos (by omega), List.getElem?_append_left (by simp [leN_len]; omega), List.getElem?_append_right (by simp; omega)]
      simp [Nat.min_eq_left (show p ≤ b.length by omega)]
    · rw [if_neg (by omega), List.getElem?_append_right (by simp [leN_len]; omega), List.getElem?_drop]
      congr 1
      simp [leN_len]; omega

/-! Bytes that are the same at some places. -/
/-- The same from a place on, so many. -/
def Alike (a b : List UInt8) (p n : Nat) : Prop := ∀ j, p ≤ j → j < p + n → a[j]? = b[j]?
theorem cut_alike {a b : List UInt8} {p n : Nat} (h : Alike a b p n) : (a.drop p).take n = (b.drop p).take n := by
  apply List.ext_getElem?
  intro j
  rw [List.getElem?_take, List.getElem?_take, List.getElem?_drop, List.getElem?_drop]
  split
  · exact h _ (by omega) (by omega)
  · rfl
theorem at_alike {a b : List UInt8} {p n : Nat} (h : Alike a b p n) (ha : p + n ≤ a.length) (hb : p + n ≤ b.length) : at_ a p n = at_ b p n := by
  unfold at_
  rw [if_pos ha, if_pos hb, cut_alike h]
theorem Alike.refl (a : List UInt8) (p n : Nat) : Alike a a p n := fun _ _ _ => rfl
theorem Alike.symm {a b : List UInt8} {p n : Nat} (h : Alike a b p n) : Alike b a p n := fun j h1 h2 => (h j h1 h2).symm
theorem Alike.trans {a b c : List UInt8} {p n : Nat} (h : Alike a b p n) (h' : Alike b c p n) : Alike a c p n := fun j h1 h2 => (h j h1 h2).trans (h' j h1 h2)
theorem Alike.less {a b : List UInt8} {p n q m : Nat} (h : Alike a b p n) (h1 : p ≤ q) (h2 : q + m ≤ p + n) : Alike a b q m := fun j h3 h4 => h j (by omega) (by omega)
theorem alike_append (a c : List UInt8) {p n : Nat} (h : p + n ≤ a.length) : Alike (a ++ c) a p n := fun j _ h2 => List.getElem?_append_left (by omega)
theorem alike_take (a : List UInt8) {p n c : Nat} (h : p + n ≤ c) : Alike (a.take c) a p n := fun j _ h2 => by rw [List.getElem?_take, if_pos (by omega)]
theorem alike_putAt (b : List UInt8) {p x n q m : Nat} (h : p + n ≤ b.length) (hd : q + m ≤ p ∨ p + n ≤ q) : Alike (putAt b p x n) b q m := fun j h1 h2 => by rw [putAt_get _ _ _ _ h, if_neg (by omega)]
theorem alike_set (b : List UInt8) {k q m : Nat} (v : UInt8) (hd : q + m ≤ k ∨ k < q) : Alike (b.set k v) b q m := fun j h1 h2 => List.getElem?_set_ne (by omega)
theorem at_append (a c : List UInt8) {p n : Nat} (h : p + n ≤ a.length) : at_ (a ++ c) p n = at_ a p n := at_alike (alike_append a c h) (by simp; omega) h
theorem at_put_other (b : List UInt8) {p x n q m : Nat} (h : p + n ≤ b.length) (hq : q + m ≤ b.length) (hd : q + m ≤ p ∨ p + n ≤ q) : at_ (putAt b p x n) q m = at_ b q m :=
  at_alike (alike_putAt b h hd) (by rw [putAt_len _ _ _ _ h]; exact hq) hq
theorem at_put_same (b : List UInt8) {p x n : Nat} (h : p + n ≤ b.length) : at_ (putAt b p x n) p n = x % 256 ^ n := by
  unfold at_
  rw [if_pos (by rw [putAt_len _ _ _ _ h]; exact h), ← num_leN]
  congr 1
  unfold putAt
  rw [List.append_assoc, List.drop_append_of_le_length (by simp; omega), List.drop_eq_nil_of_le (by simp; omega), List.nil_append, List.take_append_of_le_length (by rw [leN_len]; exact Nat.le_refl _), List.take_of_length_le (by rw [leN_len]; exact Nat.le_refl _)]
theorem at_zero (n m p : Nat) (h : p + m ≤ n) : at_ (List.replicate n 0) p m = 0 := by
  unfold at_
  rw [if_pos (by simpa using h)]
  have : ∀ (k : Nat), num (List.replicate k 0) = 0 := fun k => by
    induction k with
    | zero => rfl
    | succ k ih => rw [List.replicate_succ, num, ih]; rfl
  rw [List.drop_replicate, List.take_replicate]
  exact this _

/-- What an image is made of. -/
structure Shape where
  plus : Bool
  stub : List UInt8
  fill : List UInt8
  bodies : List (List UInt8)
  order : List Int
  behind : List UInt8
  sigs : List (List UInt8)
/-- Each of a list once, as it first comes. -/
def once : List Nat → List Nat → List Nat
  | out, [] => out
  | out, k :: l => if k ∈ out then once out l else once (out ++ [k]) l
/-- Places that are told, those that are places. -/
def places (n : Nat) (os : List Int) : List Nat := os.filterMap fun (z : Int) => if 0 ≤ z ∧ z < (n : Int) then some z.toNat else none
def orderOf (n : Nat) (os : List Int) : List Nat := once [] (places n os ++ List.range n)
theorem once_nodup : ∀ (l out : List Nat), out.Nodup → (once out l).Nodup
  | [], out, h => h
  | k :: l, out, h => by
    rw [once]
    split
    · exact once_nodup l out h
    · rename_i hk
      refine once_nodup l _ ?_
      rw [List.nodup_append]
      exact ⟨h, by simp, fun a ha b hb e => by simp at hb; subst hb; subst e; exact hk ha⟩
theorem once_mem : ∀ (l out : List Nat) (k : Nat), k ∈ once out l ↔ k ∈ out ∨ k ∈ l
  | [], out, k => by simp [once]
  | x :: l, out, k => by
    rw [once]
    split
    · rename_i hx
      rw [once_mem l out k]
      simp only [List.mem_cons]
      constructor
      · rintro (h | h)
        · exact .inl h
        · exact .inr (.inr h)
      · rintro (h | rfl | h)
        · exact .inl h
        · exact .inl hx
        · exact .inr h
    · rw [once_mem l _ k]
      simp only [List.mem_append, List.mem_cons, List.not_mem_nil, or_false]
      rw [or_assoc]
theorem order_nodup (n : Nat) (os : List Int) : (orderOf n os).Nodup := once_nodup _ _ List.nodup_nil
theorem order_mem (n : Nat) (os : List Int) (k : Nat) : k ∈ orderOf n os ↔ k < n := by
  unfold orderOf
  rw [once_mem]
  simp only [List.not_mem_nil, false_or, List.mem_append, List.mem_range, or_iff_right_iff_imp]
  intro h
  unfold places at h
  obtain ⟨z, _, hz⟩ := List.mem_filterMap.1 h
  split at hz
  · injection hz with hz; omega
  · cases hz

section
variable (s : Shape)
def Shape.size : Nat := (if s.plus then 112 else 96) + 128
def Shape.magic : Nat := if s.plus then 523 else 267
def Shape.pe : Nat := 64 + s.stub.length
def Shape.opt : Nat := s.pe + 24
def Shape.table : Nat := s.opt + s.size
def Shape.headers : Nat := s.table + 40 * s.bodies.length + s.fill.length
def dos (p : Nat) : List UInt8 := putAt (77 :: 90 :: List.replicate 62 0) 60 p 4
def Shape.bare : List UInt8 := dos s.pe ++ s.stub ++ List.replicate (s.headers - s.fill.length - s.pe) 0 ++ s.fill
def Shape.b1 : List UInt8 := putAt s.bare s.pe 17744 4
def Shape.b2 : List UInt8 := putAt s.b1 (s.pe + 6) s.bodies.length 2
def Shape.b3 : List UInt8 := putAt s.b2 (s.pe + 20) s.size 2
def Shape.b4 : List UInt8 := putAt s.b3 s.opt s.magic 2
def Shape.b5 : List UInt8 := putAt s.b4 (s.opt + 60) s.headers 4
def Shape.head : List UInt8 := putAt s.b5 (s.table - 132) 16 4
/-- A body behind what is there, its row told. -/
def Shape.lay (b : List UInt8) (k : Nat) : List UInt8 :=
  if (s.bodies.getD k []) = [] then b else putAt (putAt b (s.table + 40 * k + 16) (s.bodies.getD k []).length 4) (s.table + 40 * k + 20) b.length 4 ++ s.bodies.getD k []
def Shape.order' : List Nat := orderOf s.bodies.length s.order
def Shape.body : List UInt8 := s.order'.foldl s.lay s.head ++ s.behind
def pad (n : Nat) : Nat := (8 - n % 8) % 8
def padded (b : List UInt8) : List UInt8 := b ++ List.replicate (pad b.length) 0
/-- A certificate table. -/
def sigRow (b : List UInt8) : List UInt8 := padded (leN 4 (8 + b.length) ++ [0, 2, 2, 0] ++ b)
def sigTable (l : List (List UInt8)) : List UInt8 := (l.map sigRow).flatten
/-- The image of a shape. -/
def write : List UInt8 :=
  if s.sigs = [] then s.body else
    putAt (putAt (padded s.body) (s.table - 96) (padded s.body).length 4) (s.table - 92) (sigTable s.sigs).length 4 ++ sigTable s.sigs
end
end Pe
end Go.Proofs.YtmpladnglfiejaaGreatDoor
end

section
/- The image of a shape, plain: its headers and its sections. -/
namespace Go.Proofs.YtmpladnglfiejaaGreatDoor
set_option maxRecDepth 100000
set_option linter.unusedVariables false
set_option linter.unusedSimpArgs false
set_option linter.unusedSimpArgs false
namespace Pe
/-- A shape of the size that is made. -/
structure Shape.Ok (s : Shape) : Prop where
  stub : s.stub.length ≤ 200
  fill : s.fill.length ≤ 200
  one : 1 ≤ s.bodies.length
  ten : s.bodies.length ≤ 10
  bodies : ∀ b ∈ s.bodies, b.length ≤ 300
  behind : s.behind.length ≤ 500
  sigs : s.sigs.length ≤ 20
  each : ∀ b ∈ s.sigs, 1 ≤ b.length ∧ b.length ≤ 301
theorem Shape.size_or (s : Shape) : s.size = 224 ∨ s.size = 240 := by unfold Shape.size; split <;> omega
/-- Headers as they are made for a shape. -/
structure Hd (s : Shape) (b : List UInt8) : Prop where
  len : s.headers ≤ b.length
  mz : b.take 2 = [77, 90]
  p60 : at_ b 60 4 = s.pe
  mark : at_ b s.pe 4 = 17744
  many : at_ b (s.pe + 6) 2 = s.bodies.length
  size : at_ b (s.pe + 20) 2 = s.size
  magic : at_ b s.opt 2 = s.magic
  headers : at_ b (s.opt + 60) 4 = s.headers
  dirs : at_ b (s.table - 132) 4 = 16
section
variable {s : Shape} {b c : List UInt8}
theorem Shape.sizes_ (s : Shape) : s.pe = 64 + s.stub.length ∧ s.opt = s.pe + 24 ∧ s.table = s.opt + s.size ∧ s.headers = s.table + 40 * s.bodies.length + s.fill.length ∧ (s.size = 224 ∨ s.size = 240) := ⟨rfl, rfl, rfl, rfl, s.size_or⟩
/-- Headers stay, if nothing of them but the checksum and the tables' places turns. -/
theorem Hd.keep (h : Hd s b) (hl : s.headers ≤ c.length) (h1 : Alike c b 0 (s.opt + 64)) (h2 : Alike c b (s.table - 132) 4) : Hd s c := by
  obtain ⟨e1, e2, e3, e4, e5⟩ := s.sizes_
  have hb := h.len
  have go : ∀ p n, p + n ≤ s.opt + 64 → at_ c p n = at_ b p n := fun p n hp => at_alike (h1.less (Nat.zero_le _) (by omega)) (by omega) (by omega)
  refine ⟨hl, ?_, (go _ _ (by omega)).trans h.p60, (go _ _ (by omega)).trans h.mark, (go _ _ (by omega)).trans h.many, (go _ _ (by omega)).trans h.size, (go _ _ (by omega)).trans h.magic, (go _ _ (by omega)).trans h.headers, (at_alike h2 (by omega) (by omega)).trans h.dirs⟩
  have := cut_alike (h1.less (q := 0) (m := 2) (Nat.zero_le _) (by omega))
  simpa [h.mz] using this
theorem Hd.pe_ (h : Hd s b) : Pe.pe b = s.pe := h.p60
theorem Hd.opt_ (h : Hd s b) : Pe.opt b = s.opt := by rw [Pe.opt, h.pe_]; rfl
theorem Hd.many_ (h : Hd s b) : Pe.many b = s.bodies.length := by rw [Pe.many, h.pe_]; exact h.many
theorem Hd.size_ (h : Hd s b) : Pe.size b = s.size := by rw [Pe.size, h.pe_]; exact h.size
theorem Hd.magic_ (h : Hd s b) : Pe.magic b = s.magic := by rw [Pe.magic, h.opt_]; exact h.magic
theorem Hd.plus_ (h : Hd s b) : Pe.plus b = s.plus := by
  rw [Pe.plus, h.magic_]
  unfold Shape.magic
  cases s.plus <;> rfl
theorem Hd.dirs_ (h : Hd s b) : Pe.dirs b = s.table - 128 := by
  rw [Pe.dirs, h.opt_, h.plus_]
  unfold Shape.table Shape.size
  cases s.plus <;> simp <;> omega
theorem Hd.headers_ (h : Hd s b) : Pe.headers b = s.headers := by rw [Pe.headers, h.opt_]; exact h.headers
theorem Hd.table_ (h : Hd s b) : Pe.table b = s.table := by rw [Pe.table, h.opt_, h.size_]; rfl
theorem Hd.kdirs_ (h : Hd s b) : Pe.kdirs b = 16 := by
  obtain ⟨e1, e2, e3, e4, e5⟩ := s.sizes_
  rw [Pe.kdirs, h.dirs_, show s.table - 128 - 4 = s.table - 132 by omega]; exact h.dirs
theorem Hd.head_ (h : Hd s b) (ho : s.Ok) : Pe.head b = true := by
  obtain ⟨e1, e2, e3, e4, e5⟩ := s.sizes_
  have hl := h.len
  have h1 := ho.one
  have h2 := ho.ten
  have hm : s.magic = 523 ∨ s.magic = 267 := by unfold Shape.magic; cases s.plus <;> simp
  have hsz : s.size = s.table - 128 - s.opt + 128 := by omega
  unfold Pe.head Pe.first Pe.second Pe.third Pe.begins inb
  rw [h.pe_, h.opt_, h.many_, h.size_, h.magic_, h.dirs_, h.kdirs_, h.headers_, h.table_, h.mz, h.mark]
  simp only [Bool.and_eq_true, decide_eq_true_eq, beq_iff_eq, Bool.or_eq_true]
  and_intros <;> first | rfl | assumption | trivial | omega
end
theorem dos_len (p : Nat) : (dos p).length = 64 := by unfold dos; rw [putAt_len] <;> simp
theorem Shape.bare_len (s : Shape) : s.bare.length = s.headers := by
  obtain ⟨e1, e2, e3, e4, e5⟩ := s.sizes_
  unfold Shape.bare
  simp only [List.length_append, dos_len, List.length_replicate]
  omega
theorem Shape.b1_len (s : Shape) : s.b1.length = s.headers := by
  obtain ⟨e1, e2, e3, e4, e5⟩ := s.sizes_
  unfold Shape.b1; rw [putAt_len] <;> rw [s.bare_len]; omega
theorem Shape.b2_len (s : Shape) : s.b2.length = s.headers := by
  obtain ⟨e1, e2, e3, e4, e5⟩ := s.sizes_
  unfold Shape.b2; rw [putAt_len] <;> rw [s.b1_len]; omega
theorem Shape.b3_len (s : Shape) : s.b3.length = s.headers := by
  obtain ⟨e1, e2, e3, e4, e5⟩ := s.sizes_
  unfold Shape.b3; rw [putAt_len] <;> rw [s.b2_len]; omega
theorem Shape.b4_len (s : Shape) : s.b4.length = s.headers := by
  obtain ⟨e1, e2, e3, e4, e5⟩ := s.sizes_
  unfold Shape.b4; rw [putAt_len] <;> rw [s.b3_len]; omega
theorem Shape.b5_len (s : Shape) : s.b5.length = s.headers := by
  obtain ⟨e1, e2, e3, e4, e5⟩ := s.sizes_
  unfold Shape.b5; rw [putAt_len] <;> rw [s.b4_len]; omega
theorem Shape.head_len (s : Shape) : s.head.length = s.headers := by
  obtain ⟨e1, e2, e3, e4, e5⟩ := s.sizes_
  unfold Shape.head; rw [putAt_len] <;> rw [s.b5_len]; omega
theorem Shape.bare_zero (s : Shape) {p n : Nat} (h1 : s.pe ≤ p) (h2 : p + n ≤ s.headers - s.fill.length) : at_ s.bare p n = 0 := by
  obtain ⟨e1, e2, e3, e4, e5⟩ := s.sizes_
  have key : Alike s.bare (List.replicate (s.headers - s.fill.length) 0) p n := fun j h3 h4 => by
    unfold Shape.bare
    rw [List.getElem?_append_left (by simp only [List.length_append, dos_len, List.length_replicate]; omega), List.getElem?_append_right (by simp only [List.length_append, dos_len]; omega)]
    rw [List.getElem?_replicate, List.getElem?_replicate, if_pos (by simp only [List.length_append, dos_len]; omega), if_pos (by omega)]
  rw [at_alike key (by rw [s.bare_len]; omega) (by simp; omega)]
  exact at_zero _ _ _ h2
/-- The headers that are made. -/
theorem Shape.head_hd (s : Shape) (ho : s.Ok) : Hd s s.head := by
  obtain ⟨e1, e2, e3, e4, e5⟩ := s.sizes_
  have g1 := ho.stub
  have g2 := ho.fill
  have g3 := ho.ten
  have l0 := s.bare_len
  have l1 := s.b1_len
  have l2 := s.b2_len
  have l3 := s.b3_len
  have l4 := s.b4_len
  have l5 := s.b5_len
  have hm : s.magic < 65536 := by unfold Shape.magic; split <;> omega
  have k0 : Alike s.head s.b5 0 s.pe := alike_putAt _ (by omega) (by omega)
  have k1 : Alike s.b5 s.b4 0 s.pe := alike_putAt _ (by omega) (by omega)
  have k2 : Alike s.b4 s.b3 0 s.pe := alike_putAt _ (by omega) (by omega)
  have k3 : Alike s.b3 s.b2 0 s.pe := alike_putAt _ (by omega) (by omega)
  have k4 : Alike s.b2 s.b1 0 s.pe := alike_putAt _ (by omega) (by omega)
  have k5 : Alike s.b1 s.bare 0 s.pe := alike_putAt _ (by omega) (by omega)
  have hd : Alike s.head s.bare 0 s.pe := ((((k0.trans k1).trans k2).trans k3).trans k4).trans k5
  have hdos : Alike s.bare (dos s.pe) 0 64 := fun j h1 h2 => by
    unfold Shape.bare
    rw [List.getElem?_append_left (by simp only [List.length_append, dos_len, List.length_replicate]; omega), List.getElem?_append_left (by simp only [List.length_append, dos_len, List.length_replicate]; omega), List.getElem?_append_left (by simp only [dos_len]; omega)]
  have a6 : ∀ p n, p + n ≤ s.headers → (p + n ≤ s.table - 132 ∨ s.table - 132 + 4 ≤ p) → at_ s.head p n = at_ s.b5 p n := fun p n h1 h2 => at_put_other _ (by omega) (by omega) h2
  have a5 : ∀ p n, p + n ≤ s.headers → (p + n ≤ s.opt + 60 ∨ s.opt + 60 + 4 ≤ p) → at_ s.b5 p n = at_ s.b4 p n := fun p n h1 h2 => at_put_other _ (by omega) (by omega) h2
  have a4 : ∀ p n, p + n ≤ s.headers → (p + n ≤ s.opt ∨ s.opt + 2 ≤ p) → at_ s.b4 p n = at_ s.b3 p n := fun p n h1 h2 => at_put_other _ (by omega) (by omega) h2
  have a3 : ∀ p n, p + n ≤ s.headers → (p + n ≤ s.pe + 20 ∨ s.pe + 20 + 2 ≤ p) → at_ s.b3 p n = at_ s.b2 p n := fun p n h1 h2 => at_put_other _ (by omega) (by omega) h2
  have a2 : ∀ p n, p + n ≤ s.headers → (p + n ≤ s.pe + 6 ∨ s.pe + 6 + 2 ≤ p) → at_ s.b2 p n = at_ s.b1 p n := fun p n h1 h2 => at_put_other _ (by omega) (by omega) h2
  have z1 : at_ s.b1 s.pe 4 = 17744 := (at_put_same _ (by omega)).trans (by omega)
  have z2 : at_ s.b2 (s.pe + 6) 2 = s.bodies.length := (at_put_same _ (by omega)).trans (by omega)
  have z3 : at_ s.b3 (s.pe + 20) 2 = s.size := (at_put_same _ (by omega)).trans (by omega)
  have z4 : at_ s.b4 s.opt 2 = s.magic := (at_put_same _ (by omega)).trans (by omega)
  have z5 : at_ s.b5 (s.opt + 60) 4 = s.headers := (at_put_same _ (by omega)).trans (by omega)
  have z6 : at_ s.head (s.table - 132) 4 = 16 := (at_put_same _ (by omega)).trans (by omega)
  refine ⟨by rw [s.head_len]; exact Nat.le_refl _, ?_, ?_, ?_, ?_, ?_, ?_, ?_, ?_⟩
  · have := cut_alike ((hd.less (q := 0) (m := 2) (by omega) (by omega)).trans (hdos.less (by omega) (by omega)))
    rw [List.drop_zero, List.drop_zero] at this
    rw [this]; unfold dos putAt; simp
  · rw [at_alike ((hd.less (q := 60) (m := 4) (by omega) (by omega)).trans (hdos.less (by omega) (by omega))) (by rw [s.head_len]; omega) (by rw [dos_len]; omega)]
    unfold dos
    rw [at_put_same _ (by simp)]
    omega
  · rw [a6 _ _ (by omega) (by omega), a5 _ _ (by omega) (by omega), a4 _ _ (by omega) (by omega), a3 _ _ (by omega) (by omega), a2 _ _ (by omega) (by omega), z1]
  · rw [a6 _ _ (by omega) (by omega), a5 _ _ (by omega) (by omega), a4 _ _ (by omega) (by omega), a3 _ _ (by omega) (by omega), z2]
  · rw [a6 _ _ (by omega) (by omega), a5 _ _ (by omega) (by omega), a4 _ _ (by omega) (by omega), z3]
  · rw [a6 _ _ (by omega) (by omega), a5 _ _ (by omega) (by omega), z4]
  · rw [a6 _ _ (by omega) (by omega), z5]
  · exact z6
/-- What the headers that are made leave empty. -/
theorem Shape.head_zero (s : Shape) {p n : Nat} (h1 : s.table - 128 ≤ p) (h2 : p + n ≤ s.headers - s.fill.length) : at_ s.head p n = 0 := by
  obtain ⟨e1, e2, e3, e4, e5⟩ := s.sizes_
  have l0 := s.bare_len
  have l1 := s.b1_len
  have l2 := s.b2_len
  have l3 := s.b3_len
  have l4 := s.b4_len
  have l5 := s.b5_len
  rw [← s.bare_zero (p := p) (n := n) (by omega) h2]
  have k0 : Alike s.head s.b5 p n := alike_putAt _ (by omega) (by omega)
  have k1 : Alike s.b5 s.b4 p n := alike_putAt _ (by omega) (by omega)
  have k2 : Alike s.b4 s.b3 p n := alike_putAt _ (by omega) (by omega)
  have k3 : Alike s.b3 s.b2 p n := alike_putAt _ (by omega) (by omega)
  have k4 : Alike s.b2 s.b1 p n := alike_putAt _ (by omega) (by omega)
  have k5 : Alike s.b1 s.bare p n := alike_putAt _ (by omega) (by omega)
  exact at_alike (((((k0.trans k1).trans k2).trans k3).trans k4).trans k5) (by rw [s.head_len]; omega) (by omega)
/-! The sections, laid one behind the other. -/
section
variable (s : Shape)
def Shape.len (k : Nat) : Nat := (s.bodies.getD k []).length
/-- Where a section lies. -/
def Shape.pos : Nat → List Nat → Nat → Nat
  | h, [], _ => h
  | h, x :: r, k => if x = k then h else Shape.pos (h + s.len x) r k
def Shape.sec (h : Nat) (l : List Nat) (k : Nat) : Option (Nat × Nat) := if s.len k = 0 then none else some (s.pos h l k, s.len k)
def Shape.total (l : List Nat) : Nat := (l.map s.len).sum
theorem Shape.pos_ge : ∀ (l : List Nat) (h k : Nat), h ≤ s.pos h l k
  | [], h, _ => Nat.le_refl _
  | x :: r, h, k => by
    rw [Shape.pos]
    split
    · exact Nat.le_refl _
    · exact Nat.le_trans (Nat.le_add_right _ _) (Shape.pos_ge r _ k)
theorem Shape.pos_le : ∀ (l : List Nat) (h k : Nat), k ∈ l → s.pos h l k + s.len k ≤ h + s.total l
  | [], h, _, hk => by cases hk
  | x :: r, h, k, hk => by
    rw [Shape.pos, Shape.total, List.map_cons, List.sum_cons]
    split
    · rename_i e; subst e; omega
    · rename_i e
      have := Shape.pos_le r (h + s.len x) k (by rcases List.mem_cons.1 hk with rfl | h; exact absurd rfl e; exact h)
      unfold Shape.total at this
      omega
theorem filterMap_same {α β : Type} : ∀ {l : List α} {f g : α → Option β}, (∀ x ∈ l, f x = g x) → l.filterMap f = l.filterMap g
  | [], _, _, _ => rfl
  | x :: l, f, g, h => by
    rw [List.filterMap_cons, List.filterMap_cons, h x (by simp), filterMap_same fun y hy => h y (by simp [hy])]
theorem Shape.tiled : ∀ (l : List Nat) (h : Nat), l.Nodup → tiles h (l.filterMap (s.sec h l)) = true ∧ Rising (l.filterMap (s.sec h l)) ∧ (∀ x ∈ l.filterMap (s.sec h l), h ≤ x.1) ∧ sizes (l.filterMap (s.sec h l)) = s.total l
  | [], h, _ => ⟨rfl, List.Pairwise.nil, (fun _ h => by cases h), rfl⟩
  | x :: r, h, hn => by
    have hn' := List.nodup_cons.1 hn
    obtain ⟨h1, h2, h3, h4⟩ := Shape.tiled r (h + s.len x) hn'.2
    have e : r.filterMap (s.sec h (x :: r)) = r.filterMap (s.sec (h + s.len x) r) := by
      refine filterMap_same fun k hk => ?_
      have e1 : s.pos h (x :: r) k = s.pos (h + s.len x) r k := by rw [Shape.pos, if_neg (fun e => hn'.1 (by rw [e]; exact hk))]
      unfold Shape.sec
      rw [e1]
    have e0 : s.pos h (x :: r) x = h := by rw [Shape.pos, if_pos rfl]
    rw [List.filterMap_cons]
    by_cases hz : s.len x = 0
    · have : s.sec h (x :: r) x = none := by unfold Shape.sec; rw [if_pos hz]
      rw [this, e]
      rw [hz, Nat.add_zero] at h1 h2 h3 h4 ⊢
      refine ⟨h1, h2, h3, ?_⟩
      rw [h4, Shape.total, Shape.total, List.map_cons, List.sum_cons, hz, Nat.zero_add]
    · have : s.sec h (x :: r) x = some (h, s.len x) := by unfold Shape.sec; rw [if_neg hz, e0]
      rw [this, e]
      refine ⟨?_, ?_, ?_, ?_⟩
      · rw [tiles, h1]; simp
      · exact List.pairwise_cons.2 ⟨fun y hy => by have := h3 y hy; dsimp only; omega, h2⟩
      · intro y hy
        rcases List.mem_cons.1 hy with rfl | hy
        · exact Nat.le_refl _
        · have := h3 y hy; omega
      · have : sizes ((h, s.len x) :: r.filterMap (s.sec (h + s.len x) r)) = s.len x + sizes (r.filterMap (s.sec (h + s.len x) r)) := by unfold sizes; rw [List.map_cons, List.sum_cons]
        rw [this, h4, Shape.total, Shape.total, List.map_cons, List.sum_cons]
/-- One more body laid. -/
theorem Shape.lay_len (b : List UInt8) (k : Nat) (hk : s.table + 40 * k + 24 ≤ b.length) : (s.lay b k).length = b.length + s.len k := by
  unfold Shape.lay Shape.len
  split
  · rename_i h; rw [h]; rfl
  · rw [List.length_append, putAt_len _ _ _ _ (by rw [putAt_len _ _ _ _ (by omega)]; omega), putAt_len _ _ _ _ (by omega)]
theorem Shape.lay_alike (b : List UInt8) (k p n : Nat) (hk : s.table + 40 * k + 24 ≤ b.length) (hp : p + n ≤ b.length) (hd : p + n ≤ s.table + 40 * k + 16 ∨ s.table + 40 * k + 24 ≤ p) : Alike (s.lay b k) b p n := by
  unfold Shape.lay
  split
  · exact Alike.refl _ _ _
  · have h1 : (putAt b (s.table + 40 * k + 16) (s.bodies.getD k []).length 4).length = b.length := putAt_len _ _ _ _ (by omega)
    have h2 : (putAt (putAt b (s.table + 40 * k + 16) (s.bodies.getD k []).length 4) (s.table + 40 * k + 20) b.length 4).length = b.length := by rw [putAt_len _ _ _ _ (by omega), h1]
    exact ((alike_append _ _ (by omega)).trans (alike_putAt _ (by omega) (by omega))).trans (alike_putAt _ (by omega) (by omega))
theorem Shape.lay_row (b : List UInt8) (k : Nat) (hk : s.table + 40 * k + 24 ≤ b.length) (hl : s.len k < 4294967296) (hb : b.length < 4294967296) (h0 : s.len k ≠ 0) :
    at_ (s.lay b k) (s.table + 40 * k + 16) 4 = s.len k ∧ at_ (s.lay b k) (s.table + 40 * k + 20) 4 = b.length ∧ ((s.lay b k).drop b.length).take (s.len k) = s.bodies.getD k [] := by
  unfold Shape.lay
  have hne : s.bodies.getD k [] ≠ [] := fun e => h0 (by unfold Shape.len; rw [e]; rfl)
  rw [if_neg hne]
  have h1 : (putAt b (s.table + 40 * k + 16) (s.bodies.getD k []).length 4).length = b.length := putAt_len _ _ _ _ (by omega)
  have h2 : (putAt (putAt b (s.table + 40 * k + 16) (s.bodies.getD k []).length 4) (s.table + 40 * k + 20) b.length 4).length = b.length := by rw [putAt_len _ _ _ _ (by omega), h1]
  unfold Shape.len at hl ⊢
  refine ⟨?_, ?_, ?_⟩
  · rw [at_append _ _ (by omega), at_put_other _ (by omega) (by omega) (by omega), at_put_same _ (by omega)]; omega
  · rw [at_append _ _ (by omega), at_put_same _ (by omega)]; omega
  · rw [List.drop_append_of_le_length (by omega), List.drop_eq_nil_of_le (by omega), List.nil_append, List.take_length]
theorem Shape.fold_lay : ∀ (l : List Nat) (b : List UInt8), l.Nodup → (∀ k ∈ l, k < s.bodies.length) → s.table + 40 * s.bodies.length ≤ b.length → b.length + s.total l < 4294967296 →
    (l.foldl s.lay b).length = b.length + s.total l ∧
    (∀ p n, p + n ≤ b.length → (∀ k ∈ l, p + n ≤ s.table + 40 * k + 16 ∨ s.table + 40 * k + 24 ≤ p) → Alike (l.foldl s.lay b) b p n) ∧
    ∀ k ∈ l, s.len k ≠ 0 → at_ (l.foldl s.lay b) (s.table + 40 * k + 16) 4 = s.len k ∧ at_ (l.foldl s.lay b) (s.table + 40 * k + 20) 4 = s.pos b.length l k ∧ ((l.foldl s.lay b).drop (s.pos b.length l k)).take (s.len k) = s.bodies.getD k []
  | [], b, _, _, _, _ => ⟨rfl, fun _ _ _ _ => Alike.refl _ _ _, fun _ h => by cases h⟩
  | x :: r, b, hn, hl, hb, ht => by
    have hn' := List.nodup_cons.1 hn
    have hx := hl x (by simp)
    have htt : s.total (x :: r) = s.len x + s.total r := by unfold Shape.total; rw [List.map_cons, List.sum_cons]
    have hb' := s.lay_len b x (by omega)
    obtain ⟨h1, h2, h3⟩ := Shape.fold_lay r (s.lay b x) hn'.2 (fun k hk => hl k (by simp [hk])) (by omega) (by omega)
    rw [List.foldl_cons]
    refine ⟨by omega, fun p n hp hd => ?_, fun k hk h0 => ?_⟩
    · exact (h2 p n (by omega) fun k hk => hd k (by simp [hk])).trans (s.lay_alike b x p n (by omega) hp (hd x (by simp)))
    · by_cases hkx : x = k
      · subst hkx
        obtain ⟨g1, g2, g3⟩ := s.lay_row b x (by omega) (by omega) (by omega) h0
        have hrow : ∀ k ∈ r, s.table + 40 * x + 24 ≤ s.table + 40 * k + 16 ∨ s.table + 40 * k + 24 ≤ s.table + 40 * x + 16 := fun k hk => by
          have : k ≠ x := fun e => hn'.1 (by rw [← e]; exact hk)
          omega
        have ha := h2 (s.table + 40 * x + 16) 8 (by omega) (fun k hk => by have := hrow k hk; omega)
        have hrest := h2 b.length (s.len x) (by omega) (fun k hk => by have := hl k (by simp [hk]); omega)
        rw [Shape.pos, if_pos rfl]
        refine ⟨?_, ?_, ?_⟩
        · rw [at_alike (ha.less (Nat.le_refl _) (by omega)) (by omega) (by omega), g1]
        · rw [at_alike (ha.less (by omega) (by omega)) (by omega) (by omega), g2]
        · rw [cut_alike hrest, g3]
      · have hkr : k ∈ r := by
          rcases List.mem_cons.1 hk with rfl | h
          · exact absurd rfl hkx
          · exact h
        have := h3 k hkr h0
        rw [hb'] at this
        rw [Shape.pos, if_neg hkx]
        exact this
end
end Pe
end Go.Proofs.YtmpladnglfiejaaGreatDoor
end

section
/- The image of a shape, plain: what it is read as. -/
namespace Go.Proofs.YtmpladnglfiejaaGreatDoor
set_option maxRecDepth 100000
set_option linter.unusedVariables false
set_option linter.unusedSimpArgs false
set_option linter.unusedSimpArgs false
set_option linter.unusedVariables false
namespace Pe
section
variable {s : Shape} {b c : List UInt8}
theorem Shape.order_perm (s : Shape) : (List.range s.bodies.length).Perm s.order' := by
  refine (List.perm_ext_iff_of_nodup List.nodup_range (order_nodup _ _)).2 fun k => ?_
  rw [List.mem_range]
  exact (order_mem _ _ k).symm
theorem Shape.order_lt (s : Shape) : ∀ k ∈ s.order', k < s.bodies.length := fun k hk => (order_mem _ _ k).1 hk
theorem Shape.len_le (ho : s.Ok) (k : Nat) : s.len k ≤ 300 := by
  unfold Shape.len
  rw [List.getD_eq_getElem?_getD]
  cases h : s.bodies[k]? with
  | none => simp
  | some x => exact ho.bodies x (List.mem_of_getElem? h)
theorem sum_le {m : Nat} : ∀ (l : List Nat), (∀ x ∈ l, x ≤ m) → l.sum ≤ l.length * m
  | [], _ => by simp
  | x :: l, h => by
    have h1 := sum_le l fun y hy => h y (by simp [hy])
    have h2 := h x (by simp)
    rw [List.sum_cons, List.length_cons, Nat.succ_mul]; omega
theorem Shape.total_le (ho : s.Ok) : s.total s.order' ≤ 3000 := by
  have h1 : s.total s.order' ≤ (s.order'.map s.len).length * 300 := sum_le _ fun x hx => by
    obtain ⟨k, _, rfl⟩ := List.mem_map.1 hx
    exact Shape.len_le ho k
  have h2 := s.order_perm.length_eq
  rw [List.length_map, ← h2, List.length_range] at h1
  have := ho.ten
  omega
/-- Sections as they are made for a shape. -/
structure Made (s : Shape) (b : List UInt8) : Prop where
  hd : Hd s b
  row : ∀ k, k < s.bodies.length → s.len k ≠ 0 → at_ b (s.table + 40 * k + 16) 4 = s.len k ∧ at_ b (s.table + 40 * k + 20) 4 = s.pos s.headers s.order' k
  row0 : ∀ k, k < s.bodies.length → s.len k = 0 → at_ b (s.table + 40 * k + 16) 4 = 0
  fits : s.headers + s.total s.order' ≤ b.length
def Shape.secs (s : Shape) : List (Nat × Nat) := (List.range s.bodies.length).filterMap (s.sec s.headers s.order')
theorem Made.keep (h : Made s b) (hl : s.headers + s.total s.order' ≤ c.length) (h1 : Alike c b 0 (s.opt + 64)) (h2 : Alike c b (s.table - 132) 4) (h3 : Alike c b s.table (40 * s.bodies.length)) : Made s c := by
  obtain ⟨e1, e2, e3, e4, e5⟩ := s.sizes_
  have hf := h.fits
  have go : ∀ k q, k < s.bodies.length → q = 16 ∨ q = 20 → at_ c (s.table + 40 * k + q) 4 = at_ b (s.table + 40 * k + q) 4 := fun k q hk hq =>
    at_alike (h3.less (by omega) (by omega)) (by omega) (by omega)
  refine ⟨h.hd.keep (by omega) h1 h2, fun k hk h0 => ?_, fun k hk h0 => ?_, hl⟩
  · rw [go k 16 hk (.inl rfl), go k 20 hk (.inr rfl)]; exact h.row k hk h0
  · rw [go k 16 hk (.inl rfl)]; exact h.row0 k hk h0
theorem Made.secs_ (h : Made s b) : Pe.secs b = s.secs := by
  unfold Pe.secs Shape.secs
  rw [h.hd.many_]
  refine filterMap_same fun k hk => ?_
  have hk := List.mem_range.1 hk
  unfold secAt Shape.sec
  rw [h.hd.table_]
  by_cases h0 : s.len k = 0
  · rw [if_pos (h.row0 k hk h0), if_pos h0]
  · obtain ⟨g1, g2⟩ := h.row k hk h0
    rw [g1, g2]
theorem Shape.secs_tile (s : Shape) : tiles s.headers (riseS s.secs) = true ∧ sizes s.secs = s.total s.order' := by
  have hp : (s.order'.filterMap (s.sec s.headers s.order')).Perm s.secs := (s.order_perm.symm.filterMap _)
  obtain ⟨h1, h2, h3, h4⟩ := s.tiled s.order' s.headers (order_nodup _ _)
  refine ⟨?_, by rw [← h4]; exact perm_sizes hp.symm⟩
  rw [← tiles_rise s.headers hp h2, h1]
  intro x hx
  obtain ⟨k, _, hk⟩ := List.mem_filterMap.1 hx
  unfold Shape.sec at hk
  split at hk
  · cases hk
  · injection hk with hk; subst hk; dsimp only; omega
theorem Made.end__ (h : Made s b) : Pe.end_ b = s.headers + s.total s.order' := by
  rw [Pe.end_, h.hd.headers_, h.secs_, s.secs_tile.2]
theorem Made.laid_ (h : Made s b) : Pe.laid b = true := by
  unfold Pe.laid
  rw [h.hd.headers_, h.secs_, s.secs_tile.1, h.end__]
  simpa using h.fits
theorem Made.dir_ (h : Made s b) : Pe.dirs b + 32 = s.table - 96 ∧ Pe.dirs b + 36 = s.table - 92 := by
  obtain ⟨e1, e2, e3, e4, e5⟩ := s.sizes_
  rw [h.hd.dirs_]; omega
theorem Made.tab_ (h : Made s b) : Pe.from_ b = at_ b (s.table - 96) 4 ∧ Pe.length b = at_ b (s.table - 92) 4 := by
  unfold Pe.from_ Pe.length
  rw [h.dir_.1, h.dir_.2]; exact ⟨rfl, rfl⟩
/-- The headers and the sections, laid. -/
theorem Shape.laid_made (s : Shape) (ho : s.Ok) : Made s (s.order'.foldl s.lay s.head) ∧ (s.order'.foldl s.lay s.head).length = s.headers + s.total s.order' ∧ at_ (s.order'.foldl s.lay s.head) (s.table - 96) 4 = 0 ∧ at_ (s.order'.foldl s.lay s.head) (s.table - 92) 4 = 0 ∧
    ∀ k, k < s.bodies.length → s.len k ≠ 0 → ((s.order'.foldl s.lay s.head).drop (s.pos s.headers s.order' k)).take (s.len k) = s.bodies.getD k [] := by
  obtain ⟨e1, e2, e3, e4, e5⟩ := s.sizes_
  have ht := Shape.total_le ho
  have g1 := ho.stub
  have g2 := ho.fill
  have g3 := ho.ten
  have hl := s.head_len
  obtain ⟨f1, f2, f3⟩ := s.fold_lay s.order' s.head (order_nodup _ _) s.order_lt (by omega) (by omega)
  rw [hl] at f1 f3
  have a0 : ∀ p n, p + n ≤ s.headers → p + n ≤ s.table → Alike (s.order'.foldl s.lay s.head) s.head p n := fun p n h1 h2 => f2 p n (by omega) (fun k hk => by omega)
  have hh : Hd s (s.order'.foldl s.lay s.head) := (s.head_hd ho).keep (by omega) (a0 _ _ (by omega) (by omega)) (a0 _ _ (by omega) (by omega))
  refine ⟨⟨hh, fun k hk h0 => ?_, fun k hk h0 => ?_, by omega⟩, f1, ?_, ?_, fun k hk h0 => ?_⟩
  · have := f3 k ((order_mem _ _ k).2 hk) h0
    exact ⟨this.1, this.2.1⟩
  · have : Alike (s.order'.foldl s.lay s.head) s.head (s.table + 40 * k + 16) 4 := by
      have key : ∀ (l : List Nat) (b : List UInt8), (∀ j ∈ l, j < s.bodies.length) → s.table + 40 * s.bodies.length ≤ b.length → Alike (l.foldl s.lay b) b (s.table + 40 * k + 16) 4 := by
        intro l
        induction l with
        | nil => intro b _ _; exact Alike.refl _ _ _
        | cons x r ih =>
          intro b hl hb
          have hx := hl x (by simp)
          have hb' := s.lay_len b x (by omega)
          refine (ih (s.lay b x) (fun j hj => hl j (by simp [hj])) (by omega)).trans ?_
          by_cases hxk : x = k
          · subst hxk
            unfold Shape.lay
            rw [if_pos (List.eq_nil_of_length_eq_zero h0)]
            exact Alike.refl _ _ _
          · exact s.lay_alike b x _ _ (by omega) (by omega) (by omega)
      exact key _ _ s.order_lt (by omega)
    rw [at_alike this (by omega) (by omega), s.head_zero (by omega) (by omega)]
  · rw [at_alike (a0 _ _ (by omega) (by omega)) (by omega) (by omega), s.head_zero (by omega) (by omega)]
  · rw [at_alike (a0 _ _ (by omega) (by omega)) (by omega) (by omega), s.head_zero (by omega) (by omega)]
  · exact (f3 k ((order_mem _ _ k).2 hk) h0).2.2
end
/-! Signatures. -/
theorem at_drop (xs : List UInt8) (a q m : Nat) (h : a ≤ xs.length) : at_ xs (a + q) m = at_ (xs.drop a) q m := by
  unfold at_
  rw [List.length_drop, List.drop_drop]
  by_cases h1 : a + q + m ≤ xs.length
  · rw [if_pos h1, if_pos (by omega)]
  · rw [if_neg h1, if_neg (by omega)]
theorem padded_len (b : List UInt8) : (padded b).length = up b.length := by
  unfold padded pad up
  rw [List.length_append, List.length_replicate]; omega
theorem sigRow_len (b : List UInt8) : (sigRow b).length = up (8 + b.length) := by
  unfold sigRow
  rw [padded_len]
  simp only [List.length_append, leN_len]
  simp
theorem leN_four (x : Nat) : ∃ a b c d, leN 4 x = [a, b, c, d] := ⟨_, _, _, _, rfl⟩
theorem sig_row (b r : List UInt8) (hb : 8 + b.length < 4294967296) :
    at_ (sigRow b ++ r) 0 4 = 8 + b.length ∧ at_ (sigRow b ++ r) 4 2 = 512 ∧ at_ (sigRow b ++ r) 6 2 = 2 ∧ ((sigRow b ++ r).drop 8).take b.length = b ∧ ((sigRow b ++ r).drop (8 + b.length)).take (up (8 + b.length) - (8 + b.length)) = List.replicate (pad (8 + b.length)) 0 ∧ (sigRow b ++ r).drop (up (8 + b.length)) = r := by
  obtain ⟨x0, x1, x2, x3, e⟩ := leN_four (8 + b.length)
  have hn := num_leN 4 (8 + b.length)
  rw [e] at hn
  have hs : sigRow b = x0 :: x1 :: x2 :: x3 :: 0 :: 2 :: 2 :: 0 :: (b ++ List.replicate (pad (8 + b.length)) 0) := by
    unfold sigRow padded
    rw [e]
    have : ([x0, x1, x2, x3] ++ [0, 2, 2, 0] ++ b).length = 8 + b.length := by simp; omega
    rw [this]; rfl
  have hlen := sigRow_len b
  refine ⟨?_, ?_, ?_, ?_, ?_, ?_⟩
  · rw [hs]; unfold at_
    rw [if_pos (by simp)]
    simp only [List.drop_zero, List.cons_append, List.take_succ_cons, List.take_zero]
    rw [hn]; omega
  · rw [hs]; unfold at_
    rw [if_pos (by simp)]
    simp [num]
  · rw [hs]; unfold at_
    rw [if_pos (by simp)]
    simp [num]
  · rw [hs]; simp [List.append_assoc]
  · rw [hs]
    have : pad (8 + b.length) = up (8 + b.length) - (8 + b.length) := by unfold pad up; omega
    rw [← this, Nat.add_comm 8, List.drop_append_of_le_length (by simp)]
    simp [List.append_assoc]
  · rw [← hlen]; simp
theorem rows_table (xs : List UInt8) : ∀ (l : List (List UInt8)) (a k : Nat), (∀ b ∈ l, 1 ≤ b.length ∧ b.length ≤ 301) → a ≤ xs.length → xs.drop a = sigTable l → xs.length - a ≤ k → rowsF xs k a = some l
  | [], a, k, _, ha, hd, hk => by
    have : xs.length ≤ a := by simpa [sigTable] using hd
    cases k with
    | zero => rfl
    | succ k => rw [rowsF, if_neg (by omega)]
  | b :: l, a, k, hb, ha, hd, hk => by
    have hd' : xs.drop a = sigRow b ++ sigTable l := hd
    obtain ⟨b1, b2⟩ := hb b (by simp)
    have hl := sigRow_len b
    have hxl : xs.length - a = up (8 + b.length) + (sigTable l).length := by rw [← List.length_drop, hd', List.length_append, hl]
    have hu : 8 + b.length ≤ up (8 + b.length) := by unfold up; omega
    obtain ⟨g1, g2, g3, g4, g5, g6⟩ := sig_row b (sigTable l) (by omega)
    have h0 : at_ xs a 4 = 8 + b.length := by have := at_drop xs a 0 4 ha; rw [hd', g1] at this; exact this
    have h4 : at_ xs (a + 4) 2 = 512 := by rw [at_drop xs a 4 2 ha, hd', g2]
    have h6 : at_ xs (a + 6) 2 = 2 := by rw [at_drop xs a 6 2 ha, hd', g3]
    have hbl : blob xs a = b := by unfold blob; rw [h0, ← List.drop_drop, hd', Nat.add_sub_cancel_left, g4]
    have hfi : fillOk xs a = true := by
      unfold fillOk
      rw [h0, ← List.drop_drop, hd', g5]
      simp
    have hro : rowOk xs a = true := by
      unfold rowOk inb
      rw [h0, h4, h6]
      simp only [Bool.and_eq_true, decide_eq_true_eq, beq_self_eq_true, and_true]
      omega
    cases k with
    | zero => omega
    | succ k =>
      rw [rowsF, if_pos (by omega), hro, hfi, h0, hbl]
      rw [rows_table xs l (a + up (8 + b.length)) k (fun b hb' => hb b (by simp [hb'])) (by omega) (by rw [← List.drop_drop, hd', g6]) (by omega)]
      rfl
theorem sigTable_len (l : List (List UInt8)) (h : ∀ b ∈ l, 1 ≤ b.length ∧ b.length ≤ 301) : (sigTable l).length ≤ 320 * l.length ∧ 16 * l.length ≤ (sigTable l).length := by
  induction l with
  | nil => simp [sigTable]
  | cons b l ih =>
    have h1 := ih fun b hb => h b (by simp [hb])
    have h2 := h b (by simp)
    have e : (sigTable (b :: l)).length = (sigRow b).length + (sigTable l).length := by
      unfold sigTable
      rw [List.map_cons, List.flatten_cons, List.length_append]
    rw [e, sigRow_len, List.length_cons]
    unfold up
    omega
section
variable (s : Shape)
def Shape.from_ : Nat := up (s.headers + s.total s.order' + s.behind.length)
/-- What an image of a shape is read as. -/
def Shape.img : Img := ⟨s.plus, s.opt + 64, s.table - 96, s.headers, s.secs, if s.sigs = [] then 0 else s.from_, if s.sigs = [] then 0 else (sigTable s.sigs).length, s.sigs⟩
theorem Shape.body_len (ho : s.Ok) : s.body.length = s.headers + s.total s.order' + s.behind.length := by
  unfold Shape.body
  rw [List.length_append, (s.laid_made ho).2.1]
theorem Shape.headers_le (ho : s.Ok) : s.headers ≤ 1128 := by
  obtain ⟨e1, e2, e3, e4, e5⟩ := s.sizes_
  have g1 := ho.stub
  have g2 := ho.fill
  have g3 := ho.ten
  omega
theorem Shape.write_len (ho : s.Ok) : (Pe.write s).length = if s.sigs = [] then s.headers + s.total s.order' + s.behind.length else s.from_ + (sigTable s.sigs).length := by
  obtain ⟨e1, e2, e3, e4, e5⟩ := s.sizes_
  have hb := s.body_len ho
  unfold Pe.write
  split
  · exact hb
  · have hp := padded_len s.body
    have hu : s.body.length ≤ up s.body.length := by unfold up; omega
    rw [List.length_append, putAt_len _ _ _ _ (by rw [putAt_len _ _ _ _ (by omega)]; omega), putAt_len _ _ _ _ (by omega), hp, hb]
    rfl
theorem Shape.write_small (ho : s.Ok) : (Pe.write s).length ≤ 11100 := by
  have h1 := s.headers_le ho
  have h2 := Shape.total_le ho
  have h3 := ho.behind
  have h4 := (sigTable_len s.sigs ho.each).1
  have h5 := ho.sigs
  have h6 : s.from_ ≤ s.headers + s.total s.order' + s.behind.length + 7 := by unfold Shape.from_ up; omega
  rw [s.write_len ho]
  split <;> omega
theorem Shape.write_made (ho : s.Ok) : Made s (Pe.write s) ∧
    (∀ k, k < s.bodies.length → s.len k ≠ 0 → ((Pe.write s).drop (s.pos s.headers s.order' k)).take (s.len k) = s.bodies.getD k []) ∧
    at_ (Pe.write s) (s.table - 96) 4 = (if s.sigs = [] then 0 else s.from_) ∧ at_ (Pe.write s) (s.table - 92) 4 = (if s.sigs = [] then 0 else (sigTable s.sigs).length) ∧
    (s.sigs ≠ [] → (Pe.write s).drop s.from_ = sigTable s.sigs) := by
  obtain ⟨e1, e2, e3, e4, e5⟩ := s.sizes_
  obtain ⟨m1, m2, m3, m4, m5⟩ := s.laid_made ho
  have hb := s.body_len ho
  have hw := s.write_small ho
  have hwl := s.write_len ho
  have hpos : ∀ k, k < s.bodies.length → s.headers ≤ s.pos s.headers s.order' k ∧ s.pos s.headers s.order' k + s.len k ≤ s.headers + s.total s.order' := fun k hk => ⟨s.pos_ge _ _ _, s.pos_le _ _ _ ((order_mem _ _ k).2 hk)⟩
  by_cases hs : s.sigs = []
  · have e : Pe.write s = s.order'.foldl s.lay s.head ++ s.behind := by unfold Pe.write; rw [if_pos hs]; rfl
    have al : ∀ p n, p + n ≤ s.headers + s.total s.order' → Alike (Pe.write s) (s.order'.foldl s.lay s.head) p n := fun p n h => by rw [e]; exact alike_append _ _ (by omega)
    rw [if_pos hs] at hwl
    refine ⟨m1.keep (by omega) (al _ _ (by omega)) (al _ _ (by omega)) (al _ _ (by omega)), fun k hk h0 => ?_, ?_, ?_, fun h => absurd hs h⟩
    · rw [cut_alike (al _ _ (by have := hpos k hk; omega)), m5 k hk h0]
    · rw [if_pos hs, at_alike (al _ _ (by omega)) (by omega) (by omega), m3]
    · rw [if_pos hs, at_alike (al _ _ (by omega)) (by omega) (by omega), m4]
  · rw [if_neg hs] at hwl
    have hp := padded_len s.body
    have hu : s.body.length ≤ up s.body.length := by unfold up; omega
    have hfr : (padded s.body).length = s.from_ := by rw [hp, hb]; rfl
    obtain ⟨P, hP⟩ : ∃ P, padded s.body = P := ⟨_, rfl⟩
    obtain ⟨Q, hQ⟩ : ∃ Q, putAt P (s.table - 96) P.length 4 = Q := ⟨_, rfl⟩
    obtain ⟨R, hR⟩ : ∃ R, putAt Q (s.table - 92) (sigTable s.sigs).length 4 = R := ⟨_, rfl⟩
    have e : Pe.write s = R ++ sigTable s.sigs := by unfold Pe.write; rw [if_neg hs, hP, hQ, hR]
    rw [hP] at hp hfr
    have lQ : Q.length = P.length := by rw [← hQ]; exact putAt_len _ _ _ _ (by omega)
    have lR : R.length = P.length := by rw [← hR, putAt_len _ _ _ _ (by omega)]; exact lQ
    have aQ : ∀ p n, p + n ≤ P.length → (p + n ≤ s.table - 96 ∨ s.table - 92 ≤ p) → Alike Q P p n := fun p n h1 h2 => by rw [← hQ]; exact alike_putAt _ (by omega) (by omega)
    have aR : ∀ p n, p + n ≤ P.length → (p + n ≤ s.table - 92 ∨ s.table - 88 ≤ p) → Alike R Q p n := fun p n h1 h2 => by rw [← hR]; exact alike_putAt _ (by omega) (by omega)
    have aW : ∀ p n, p + n ≤ P.length → Alike (Pe.write s) R p n := fun p n h => by rw [e]; exact alike_append _ _ (by omega)
    have aP : ∀ p n, p + n ≤ s.headers + s.total s.order' → Alike P (s.order'.foldl s.lay s.head) p n := fun p n h => by
      rw [← hP]; unfold padded Shape.body
      rw [List.append_assoc]; exact alike_append _ _ (by omega)
    have al : ∀ p n, p + n ≤ s.headers + s.total s.order' → (p + n ≤ s.table - 96 ∨ s.table - 88 ≤ p) → Alike (Pe.write s) (s.order'.foldl s.lay s.head) p n := fun p n h1 h2 =>
      (((aW p n (by omega)).trans (aR p n (by omega) (by omega))).trans (aQ p n (by omega) (by omega))).trans (aP p n h1)
    refine ⟨m1.keep (by omega) (al _ _ (by omega) (by omega)) (al _ _ (by omega) (by omega)) (al _ _ (by omega) (by omega)), fun k hk h0 => ?_, ?_, ?_, fun h => ?_⟩
    · have := hpos k hk
      rw [cut_alike (al _ _ (by omega) (by omega)), m5 k hk h0]
    · rw [if_neg hs, at_alike (aW _ _ (by omega)) (by omega) (by omega), at_alike (aR _ _ (by omega) (by omega)) (by omega) (by omega), ← hQ, at_put_same _ (by omega)]
      omega
    · have := (sigTable_len s.sigs ho.each).1
      have := ho.sigs
      rw [if_neg hs, at_alike (aW _ _ (by omega)) (by omega) (by omega), ← hR, at_put_same _ (by omega)]
      omega
    · rw [e, ← hfr, ← lR]; simp
/-- THE PLAIN LAW: the image of a shape is read as what it says. -/
theorem Shape.read (ho : s.Ok) : Pe.fine (Pe.write s) = true ∧ Pe.img (Pe.write s) = s.img ∧ Pe.sigs (Pe.write s) = s.sigs := by
  obtain ⟨e1, e2, e3, e4, e5⟩ := s.sizes_
  obtain ⟨m1, _, m3, m4, m5⟩ := s.write_made ho
  have hwl := s.write_len ho
  have hfr := m1.tab_.1.trans m3
  have hln := m1.tab_.2.trans m4
  have hb : Pe.bare (Pe.write s) = decide (s.sigs = []) := by
    unfold Pe.bare
    rw [hfr, hln]
    by_cases hs : s.sigs = []
    · simp [hs]
    · have : 0 < s.from_ := by unfold Shape.from_ up; omega
      simp [hs]; omega
  have hrows : s.sigs ≠ [] → Pe.rows (Pe.write s) s.from_ = some s.sigs := fun hs => by
    rw [if_neg hs] at hwl
    exact Pe.rows_table _ _ _ _ ho.each (by omega) (m5 hs) (Nat.le_refl _)
  have hsig : Pe.sigs (Pe.write s) = s.sigs := by
    unfold Pe.sigs
    rw [hb]
    by_cases hs : s.sigs = []
    · simp [hs]
    · simp only [hs, decide_false, Bool.false_eq_true, if_false]
      rw [hfr, if_neg hs, hrows hs]; rfl
  refine ⟨?_, ?_, hsig⟩
  · unfold Pe.fine
    rw [m1.hd.head_ ho, m1.laid_]
    unfold Pe.signed
    rw [hb]
    by_cases hs : s.sigs = []
    · simp [hs]
    · have ht := (sigTable_len s.sigs ho.each).2
      have hsl : 0 < s.sigs.length := List.length_pos_iff.2 hs
      have hu : s.from_ % 8 = 0 ∧ s.headers + s.total s.order' ≤ s.from_ := by unfold Shape.from_ up; omega
      rw [if_neg hs] at hwl
      simp only [hs, decide_false, Bool.false_or, Bool.true_and]
      rw [hfr, if_neg hs, hrows hs]
      unfold Pe.tabled
      rw [hfr, hln, if_neg hs, if_neg hs, m1.end__, hwl]
      simp only [Bool.and_eq_true, decide_eq_true_eq, beq_iff_eq, Option.isSome_some, and_true]
      omega
  · unfold Pe.img Shape.img
    rw [m1.hd.plus_, m1.hd.opt_, m1.dir_.1, m1.hd.headers_, m1.secs_, hfr, hln, hsig, hb]
    by_cases hs : s.sigs = [] <;> simp [hs]
theorem Shape.parse_ (ho : s.Ok) : Pe.parse (Pe.write s) = if 8 < s.sigs.length then (10, Img.zero) else (0, s.img) := by
  obtain ⟨h1, h2, h3⟩ := s.read ho
  have h4 := s.write_small ho
  have he : Pe.err (Pe.write s) = if 8 < s.sigs.length then 10 else 0 := by
    unfold Pe.err
    rw [if_neg (by omega), h1, h3]; rfl
  unfold Pe.parse
  rw [he, h2]
  split <;> rfl
end
end Pe
end Go.Proofs.YtmpladnglfiejaaGreatDoor
end

section
/- The laws of images, plain: what turns when bytes of a made image turn. -/
namespace Go.Proofs.YtmpladnglfiejaaGreatDoor
set_option maxRecDepth 100000
set_option linter.unusedVariables false
set_option linter.unusedSimpArgs false
set_option linter.unusedSimpArgs false
set_option linter.unusedVariables false
namespace Pe
/-- Bytes that are read as the image of a shape is. -/
structure Read (s : Shape) (c : List UInt8) : Prop where
  made : Made s c
  from_ : at_ c (s.table - 96) 4 = if s.sigs = [] then 0 else s.from_
  len : at_ c (s.table - 92) 4 = if s.sigs = [] then 0 else (sigTable s.sigs).length
  rest : s.sigs ≠ [] → c.drop s.from_ = sigTable s.sigs
  size : c.length = (Pe.write s).length
section
variable {s : Shape} {b c : List UInt8}
theorem Shape.write_read (ho : s.Ok) : Read s (Pe.write s) := by
  obtain ⟨m1, _, m3, m4, m5⟩ := s.write_made ho
  exact ⟨m1, m3, m4, m5, rfl⟩
theorem Read.fine_ (h : Read s c) (ho : s.Ok) : Pe.fine c = true ∧ Pe.img c = s.img ∧ Pe.sigs c = s.sigs := by
  obtain ⟨e1, e2, e3, e4, e5⟩ := s.sizes_
  have m1 := h.made
  have hwl := h.size.trans (s.write_len ho)
  have hfr := m1.tab_.1.trans h.from_
  have hln := m1.tab_.2.trans h.len
  have hb : Pe.bare c = decide (s.sigs = []) := by
    unfold Pe.bare
    rw [hfr, hln]
    by_cases hs : s.sigs = []
    · simp [hs]
    · have : 0 < s.from_ := by unfold Shape.from_ up; omega
      simp [hs]; omega
  have hrows : s.sigs ≠ [] → Pe.rows c s.from_ = some s.sigs := fun hs => by
    rw [if_neg hs] at hwl
    exact Pe.rows_table _ _ _ _ ho.each (by omega) (h.rest hs) (Nat.le_refl _)
  have hsig : Pe.sigs c = s.sigs := by
    unfold Pe.sigs
    rw [hb]
    by_cases hs : s.sigs = []
    · simp [hs]
    · simp only [hs, decide_false, Bool.false_eq_true, if_false]
      rw [hfr, if_neg hs, hrows hs]; rfl
  refine ⟨?_, ?_, hsig⟩
  · unfold Pe.fine
    rw [m1.hd.head_ ho, m1.laid_]
    unfold Pe.signed
    rw [hb]
    by_cases hs : s.sigs = []
    · simp [hs]
    · have ht := (sigTable_len s.sigs ho.each).2
      have hsl : 0 < s.sigs.length := List.length_pos_iff.2 hs
      have hu : s.from_ % 8 = 0 ∧ s.headers + s.total s.order' ≤ s.from_ := by unfold Shape.from_ up; omega
      rw [if_neg hs] at hwl
      simp only [hs, decide_false, Bool.false_or, Bool.true_and]
      rw [hfr, if_neg hs, hrows hs]
      unfold Pe.tabled
      rw [hfr, hln, if_neg hs, if_neg hs, m1.end__, hwl]
      simp only [Bool.and_eq_true, decide_eq_true_eq, beq_iff_eq, Option.isSome_some, and_true]
      omega
  · unfold Pe.img Shape.img
    rw [m1.hd.plus_, m1.hd.opt_, m1.dir_.1, m1.hd.headers_, m1.secs_, hfr, hln, hsig, hb]
    by_cases hs : s.sigs = [] <;> simp [hs]
theorem Read.parse_ (h : Read s c) (ho : s.Ok) : Pe.parse c = if 8 < s.sigs.length then (10, Img.zero) else (0, s.img) := by
  obtain ⟨h1, h2, h3⟩ := h.fine_ ho
  have h4 := s.write_small ho
  have he : Pe.err c = if 8 < s.sigs.length then 10 else 0 := by
    unfold Pe.err
    rw [if_neg (by rw [h.size]; omega), h1, h3]; rfl
  unfold Pe.parse
  rw [he, h2]
  split <;> rfl
/-- Whatever turns in the checksum, in the sections' bytes and behind them: it is read as it was. -/
theorem Read.keep (h : Read s b) (ho : s.Ok) (hl : c.length = b.length) (h1 : Alike c b 0 (s.opt + 64)) (h2 : Alike c b (s.opt + 68) (s.headers - (s.opt + 68))) (h3 : s.sigs ≠ [] → Alike c b s.from_ (b.length - s.from_)) : Read s c := by
  obtain ⟨e1, e2, e3, e4, e5⟩ := s.sizes_
  have hf := h.made.fits
  refine ⟨h.made.keep (by omega) h1 (h2.less (by omega) (by omega)) (h2.less (by omega) (by omega)), ?_, ?_, fun hs => ?_, hl.trans h.size⟩
  · rw [at_alike (h2.less (by omega) (by omega)) (by omega) (by omega), h.from_]
  · rw [at_alike (h2.less (by omega) (by omega)) (by omega) (by omega), h.len]
  · rw [← h.rest hs]
    have := cut_alike (h3 hs)
    rwa [List.take_of_length_le (by simp; omega), List.take_of_length_le (by simp)] at this
theorem err_of_fine {c : List UInt8} (h : Pe.fine c = false) (hl : c.length ≤ 16777216) : Pe.err c = 9 := by
  unfold Pe.err
  rw [if_neg (by omega), h]; rfl
theorem fine_of_err {c : List UInt8} (h : Pe.err c = 0) : Pe.fine c = true := by
  unfold Pe.err at h
  split at h
  · cases h
  · split at h
    · assumption
    · cases h
/-! A cut image. -/
theorem at_cut (xs : List UInt8) (c p n : Nat) (h : inb (xs.take c) p n = true) : at_ (xs.take c) p n = at_ xs p n ∧ inb xs p n = true := by
  unfold inb at h ⊢
  rw [decide_eq_true_eq, List.length_take] at h
  exact ⟨at_alike (alike_take _ (by omega)) (by simp; omega) (by omega), by simp; omega⟩
theorem head_parts {xs : List UInt8} (h : Pe.head xs = true) : Pe.pe xs + 8 ≤ xs.length ∧ Pe.headers xs ≤ xs.length ∧ Pe.dirs xs + 40 ≤ Pe.headers xs ∧ Pe.opt xs + 64 ≤ xs.length ∧ 60 + 4 ≤ xs.length ∧ Pe.size xs = Pe.dirs xs - Pe.opt xs + 8 * Pe.kdirs xs ∧ Pe.table xs + 40 * Pe.many xs ≤ Pe.headers xs := by
  unfold Pe.head Pe.first Pe.second Pe.third inb at h
  simp only [Bool.and_eq_true, decide_eq_true_eq, beq_iff_eq] at h
  have : Pe.table xs = Pe.opt xs + Pe.size xs := rfl
  have : Pe.opt xs ≤ Pe.dirs xs := Nat.le_add_right _ _
  omega
/-- Of two images with certificate tables one is not the beginning of the other. -/
theorem cut_not {xs : List UInt8} {c : Nat} (hc : c < xs.length) (h : Pe.fine xs = true) (h' : Pe.fine (xs.take c) = true) : Pe.bare xs = true ∧ Pe.bare (xs.take c) = true := by
  unfold Pe.fine at h h'
  simp only [Bool.and_eq_true] at h h'
  obtain ⟨⟨g1, g2⟩, g3⟩ := h
  obtain ⟨⟨k1, k2⟩, k3⟩ := h'
  have q := head_parts k1
  have hl : (xs.take c).length = c := by simp; omega
  have al : ∀ p n, p + n ≤ c → at_ (xs.take c) p n = at_ xs p n := fun p n hp => at_alike (alike_take _ hp) (by omega) (by omega)
  rw [hl] at q
  have e1 : Pe.pe (xs.take c) = Pe.pe xs := al _ _ (by omega)
  have e2 : Pe.opt (xs.take c) = Pe.opt xs := by unfold Pe.opt; rw [e1]
  have e3 : Pe.magic (xs.take c) = Pe.magic xs := by unfold Pe.magic; rw [e2]; exact al _ _ (by rw [← e2]; omega)
  have e4 : Pe.dirs (xs.take c) = Pe.dirs xs := by unfold Pe.dirs Pe.plus; rw [e2, e3]
  have e5 : Pe.from_ (xs.take c) = Pe.from_ xs := by unfold Pe.from_; rw [e4]; exact al _ _ (by rw [← e4]; omega)
  have e6 : Pe.length (xs.take c) = Pe.length xs := by unfold Pe.length; rw [e4]; exact al _ _ (by rw [← e4]; omega)
  have e7 : Pe.bare (xs.take c) = Pe.bare xs := by unfold Pe.bare; rw [e5, e6]
  rw [e7]
  cases hb : Pe.bare xs with
  | true => exact ⟨rfl, rfl⟩
  | false =>
    unfold Pe.signed at g3 k3
    rw [e7, hb, Bool.false_or, Bool.and_eq_true] at k3
    rw [hb, Bool.false_or, Bool.and_eq_true] at g3
    have a := g3.1
    have b := k3.1
    unfold Pe.tabled at a b
    rw [e5, e6, hl] at b
    simp only [Bool.and_eq_true, beq_iff_eq] at a b
    omega
theorem Shape.bare_ (ho : s.Ok) (hs : s.sigs ≠ []) : Pe.bare (Pe.write s) = false := by
  have h := s.write_read ho
  have : 0 < s.from_ := by
    obtain ⟨e1, e2, e3, e4, e5⟩ := s.sizes_
    unfold Shape.from_ up; omega
  unfold Pe.bare
  rw [h.made.tab_.1, h.from_, if_neg hs]
  have : (s.from_ == 0) = false := by simp; omega
  rw [this, Bool.false_and]
/-- An image with signatures, cut, is none. -/
theorem Shape.cut_ (ho : s.Ok) (hs : s.sigs ≠ []) {k : Nat} (hk : k < (Pe.write s).length) : Pe.err ((Pe.write s).take k) = 9 := by
  have hw := s.write_small ho
  refine err_of_fine ?_ (by simp; omega)
  cases hf : Pe.fine ((Pe.write s).take k) with
  | false => rfl
  | true =>
    have := (cut_not hk ((s.write_read ho).fine_ ho).1 hf).1
    rw [Shape.bare_ ho hs] at this
    cases this
/-- An image with signatures with something behind it is none. -/
theorem Shape.more_ (ho : s.Ok) (hs : s.sigs ≠ []) (m : List UInt8) (hm : m ≠ []) : Pe.err (Pe.write s ++ m) ≠ 0 := by
  intro he
  have hf := fine_of_err he
  have hl : 0 < m.length := List.length_pos_iff.2 hm
  have ht : (Pe.write s ++ m).take (Pe.write s).length = Pe.write s := by simp
  have := (cut_not (xs := Pe.write s ++ m) (c := (Pe.write s).length) (by simp; omega) hf (by rw [ht]; exact ((s.write_read ho).fine_ ho).1)).2
  rw [ht, Shape.bare_ ho hs] at this
  cases this
/-! A section told to lie elsewhere. -/
def covers (p : Nat) (x : Nat × Nat) : Bool := decide (x.1 ≤ p ∧ p < x.1 + x.2)
theorem tiles_cover : ∀ (l : List (Nat × Nat)) (h p : Nat), tiles h l = true → l.countP (covers p) = if h ≤ p ∧ p < h + sizes l then 1 else 0
  | [], h, p, _ => by
    rw [if_neg (by simp [sizes])]; rfl
  | (o, s) :: l, h, p, ht => by
    rw [tiles, Bool.and_eq_true, beq_iff_eq] at ht
    obtain ⟨rfl, ht⟩ := ht
    have ih := tiles_cover l (o + s) p ht
    have e : sizes ((o, s) :: l) = s + sizes l := by unfold sizes; rw [List.map_cons, List.sum_cons]
    rw [List.countP_cons, ih, e]
    unfold covers
    simp only [decide_eq_true_eq]
    split <;> split <;> split <;> omega
theorem one_place {h : Nat} {A B : List (Nat × Nat)} {o o' s : Nat} (hs : 0 < s) (h1 : tiles h (riseS (A ++ (o, s) :: B)) = true) (h2 : tiles h (riseS (A ++ (o', s) :: B)) = true) : o = o' := by
  have z : sizes (A ++ (o, s) :: B) = sizes (A ++ (o', s) :: B) := by unfold sizes; simp
  have key : ∀ p, covers p (o, s) = covers p (o', s) := fun p => by
    have c1 := tiles_cover _ h p h1
    have c2 := tiles_cover _ h p h2
    rw [perm_sizes (riseS_perm _), (riseS_perm _).countP_eq, List.countP_append, List.countP_cons] at c1 c2
    rw [z] at c1
    cases e1 : covers p (o, s) <;> cases e2 : covers p (o', s) <;> simp [e1, e2] at c1 c2 ⊢ <;> omega
  have k1 := key o
  have k2 := key o'
  unfold covers at k1 k2
  simp only [decide_eq_decide] at k1 k2
  omega
theorem filterMap_split {α β : Type} {f : α → Option β} {l : List α} {k : Nat} {x : α} {y : β} (hk : l[k]? = some x) (hf : f x = some y) : l.filterMap f = (l.take k).filterMap f ++ y :: (l.drop (k + 1)).filterMap f := by
  have e : l = l.take k ++ x :: l.drop (k + 1) := by
    obtain ⟨h1, h2⟩ := List.getElem?_eq_some_iff.1 hk
    subst h2
    rw [List.getElem_cons_drop, List.take_append_drop]
  conv => lhs; rw [e]
  rw [List.filterMap_append, List.filterMap_cons, hf]
/-- A section that has bytes is read where it lies alone. -/
theorem Read.gap (h : Read s b) (ho : s.Ok) {k : Nat} (hk : k < s.bodies.length) (h0 : s.len k ≠ 0) {off : Nat} (hoff : off < 4294967296) (hne : off ≠ s.pos s.headers s.order' k) : Pe.err (putAt b (s.table + 40 * k + 20) off 4) = 9 := by
  obtain ⟨e1, e2, e3, e4, e5⟩ := s.sizes_
  have hf := h.made.fits
  have hw := s.write_small ho
  have hsz := h.size
  obtain ⟨c, hc⟩ : ∃ c, putAt b (s.table + 40 * k + 20) off 4 = c := ⟨_, rfl⟩
  have hl : c.length = b.length := by rw [← hc]; exact putAt_len _ _ _ _ (by omega)
  have al : ∀ p n, (p + n ≤ s.table + 40 * k + 20 ∨ s.table + 40 * k + 24 ≤ p) → Alike c b p n := fun p n hd => by rw [← hc]; exact alike_putAt _ (by omega) (by omega)
  have hsame : at_ c (s.table + 40 * k + 20) 4 = off := by rw [← hc, at_put_same _ (by omega)]; omega
  have hd : Hd s c := h.made.hd.keep (by omega) (al _ _ (by omega)) (al _ _ (by omega))
  rw [hc]
  refine err_of_fine ?_ (by omega)
  cases hfi : Pe.fine c with
  | false => rfl
  | true =>
    exfalso
    unfold Pe.fine at hfi
    simp only [Bool.and_eq_true] at hfi
    have h2 := hfi.1.2
    unfold Pe.laid at h2
    rw [Bool.and_eq_true, hd.headers_] at h2
    have h1 := s.secs_tile.1
    have es : s.sec s.headers s.order' k = some (s.pos s.headers s.order' k, s.len k) := by unfold Shape.sec; rw [if_neg h0]
    have ek : secAt c k = some (off, s.len k) := by
      unfold secAt
      rw [hd.table_, hsame, at_alike (al _ _ (by omega)) (by omega) (by omega), (h.made.row k hk h0).1, if_neg h0]
    have eo : ∀ j, j < s.bodies.length → j ≠ k → secAt c j = s.sec s.headers s.order' j := fun j hj hjk => by
      have b1 := h.made.secs_
      unfold secAt Shape.sec
      rw [hd.table_, at_alike (al _ _ (by omega)) (by omega) (by omega), at_alike (al _ _ (by omega)) (by omega) (by omega)]
      by_cases hj0 : s.len j = 0
      · rw [if_pos (h.made.row0 j hj hj0), if_pos hj0]
      · obtain ⟨g1, g2⟩ := h.made.row j hj hj0
        rw [g1, g2]
    have hrk : (List.range s.bodies.length)[k]? = some k := by rw [List.getElem?_range hk]
    have hL1 : s.secs = ((List.range s.bodies.length).take k).filterMap (s.sec s.headers s.order') ++ (s.pos s.headers s.order' k, s.len k) :: ((List.range s.bodies.length).drop (k + 1)).filterMap (s.sec s.headers s.order') := filterMap_split hrk es
    have hL2 : Pe.secs c = ((List.range s.bodies.length).take k).filterMap (s.sec s.headers s.order') ++ (off, s.len k) :: ((List.range s.bodies.length).drop (k + 1)).filterMap (s.sec s.headers s.order') := by
      have : Pe.secs c = (List.range s.bodies.length).filterMap (secAt c) := by unfold Pe.secs; rw [hd.many_]
      rw [this, filterMap_split hrk ek]
      congr 1
      · refine filterMap_same fun j hj => ?_
        obtain ⟨i, hi⟩ := List.getElem?_of_mem hj
        rw [List.getElem?_take] at hi
        split at hi
        · rw [List.getElem?_range (by omega)] at hi
          injection hi with hi
          exact eo j (by omega) (by omega)
        · cases hi
      · congr 1
        refine filterMap_same fun j hj => ?_
        obtain ⟨i, hi⟩ := List.getElem?_of_mem hj
        rw [List.getElem?_drop] at hi
        have hlt : k + 1 + i < s.bodies.length := by have := (List.getElem?_eq_some_iff.1 hi).1; simpa using this
        rw [List.getElem?_range hlt] at hi
        injection hi with hi
        exact eo j (by omega) (by omega)
    rw [hL1] at h1
    rw [hL2] at h2
    exact hne (one_place (by omega) h2.1 h1)
theorem Read.gap_same (h : Read s b) (ho : s.Ok) {k : Nat} (hk : k < s.bodies.length) {off : Nat} (hoff : off < 4294967296) (hx : s.len k ≠ 0 → off = s.pos s.headers s.order' k) : Read s (putAt b (s.table + 40 * k + 20) off 4) := by
  obtain ⟨e1, e2, e3, e4, e5⟩ := s.sizes_
  have hf := h.made.fits
  obtain ⟨c, hc⟩ : ∃ c, putAt b (s.table + 40 * k + 20) off 4 = c := ⟨_, rfl⟩
  have hl : c.length = b.length := by rw [← hc]; exact putAt_len _ _ _ _ (by omega)
  have al : ∀ p n, (p + n ≤ s.table + 40 * k + 20 ∨ s.table + 40 * k + 24 ≤ p) → Alike c b p n := fun p n hd => by rw [← hc]; exact alike_putAt _ (by omega) (by omega)
  have hsame : at_ c (s.table + 40 * k + 20) 4 = off := by rw [← hc, at_put_same _ (by omega)]; omega
  have hd : Hd s c := h.made.hd.keep (by omega) (al _ _ (by omega)) (al _ _ (by omega))
  rw [hc]
  refine ⟨⟨hd, fun j hj hj0 => ?_, fun j hj hj0 => ?_, by omega⟩, ?_, ?_, fun hs => ?_, hl.trans h.size⟩
  · obtain ⟨g1, g2⟩ := h.made.row j hj hj0
    rw [at_alike (al (s.table + 40 * j + 16) 4 (by omega)) (by omega) (by omega)]
    refine ⟨g1, ?_⟩
    by_cases hjk : j = k
    · subst hjk; rw [hsame]; exact hx hj0
    · rw [at_alike (al (s.table + 40 * j + 20) 4 (by omega)) (by omega) (by omega)]; exact g2
  · rw [at_alike (al (s.table + 40 * j + 16) 4 (by omega)) (by omega) (by omega)]; exact h.made.row0 j hj hj0
  · rw [at_alike (al _ _ (by omega)) (by omega) (by omega)]; exact h.from_
  · rw [at_alike (al _ _ (by omega)) (by omega) (by omega)]; exact h.len
  · have hge : s.headers ≤ s.from_ := by unfold Shape.from_ up; omega
    rw [← h.rest hs]
    have := cut_alike (al s.from_ (b.length - s.from_) (by omega))
    rwa [List.take_of_length_le (by simp; omega), List.take_of_length_le (by simp)] at this
end
end Pe
end Go.Proofs.YtmpladnglfiejaaGreatDoor
end

section
/- The laws of images, plain: the certificate table, what fills it up, the numbers of the headers. -/
namespace Go.Proofs.YtmpladnglfiejaaGreatDoor
set_option maxRecDepth 100000
set_option linter.unusedVariables false
set_option linter.unusedSimpArgs false
set_option linter.unusedSimpArgs false
set_option linter.unusedVariables false
namespace Pe
theorem putAt_self {b : List UInt8} {p n x : Nat} (h : p + n ≤ b.length) (hx : at_ b p n = x) : putAt b p x n = b := by
  have key : ∀ (l : List UInt8), leN l.length (num l) = l := by
    intro l
    induction l with
    | nil => rfl
    | cons a l ih =>
      have ha := a.toNat_lt
      rw [List.length_cons, num, leN]
      have h1 : (a.toNat + 256 * num l) / 256 = num l := by omega
      rw [h1, ih]
      congr 1
      apply UInt8.toNat_inj.1
      rw [UInt8.toNat_ofNat']
      omega
  unfold at_ at hx
  rw [if_pos h] at hx
  have hl : ((b.drop p).take n).length = n := by simp; omega
  have := key ((b.drop p).take n)
  rw [hl, hx] at this
  unfold putAt
  rw [this, List.append_assoc, ← List.drop_drop, List.take_append_drop, List.take_append_drop]
theorem img_table (xs : List UInt8) : (Pe.img xs).table = if Pe.bare xs then 0 else Pe.from_ xs := rfl
theorem img_length (xs : List UInt8) : (Pe.img xs).length = if Pe.bare xs then 0 else Pe.length xs := rfl
section
variable {s : Shape} {b c : List UInt8}
/-- The certificate table told to lie elsewhere. -/
def Shape.tabs (b : List UInt8) (s : Shape) (off len : Nat) : List UInt8 := putAt (putAt b (s.table - 96) off 4) (s.table - 92) len 4
theorem Read.tabs_made (h : Read s b) (ho : s.Ok) (off len : Nat) (h1 : off < 4294967296) (h2 : len < 4294967296) :
    Made s (s.tabs b off len) ∧ Pe.from_ (s.tabs b off len) = off ∧ Pe.length (s.tabs b off len) = len ∧ (s.tabs b off len).length = b.length := by
  obtain ⟨e1, e2, e3, e4, e5⟩ := s.sizes_
  have hf := h.made.fits
  have l1 : (putAt b (s.table - 96) off 4).length = b.length := putAt_len _ _ _ _ (by omega)
  have l2 : (s.tabs b off len).length = b.length := (putAt_len _ _ _ _ (by omega)).trans l1
  have al : ∀ p n, (p + n ≤ s.table - 96 ∨ s.table - 88 ≤ p) → Alike (s.tabs b off len) b p n := fun p n hd => by
    have k1 : Alike (s.tabs b off len) (putAt b (s.table - 96) off 4) p n := alike_putAt _ (by omega) (by omega)
    have k2 : Alike (putAt b (s.table - 96) off 4) b p n := alike_putAt _ (by omega) (by omega)
    exact k1.trans k2
  have m : Made s (s.tabs b off len) := h.made.keep (by omega) (al _ _ (by omega)) (al _ _ (by omega)) (al _ _ (by omega))
  refine ⟨m, ?_, ?_, l2⟩
  · rw [m.tab_.1]
    have k1 : Alike (s.tabs b off len) (putAt b (s.table - 96) off 4) (s.table - 96) 4 := alike_putAt _ (by omega) (by omega)
    rw [at_alike k1 (by omega) (by omega), at_put_same _ (by omega)]
    omega
  · rw [m.tab_.2]
    have : at_ (s.tabs b off len) (s.table - 92) 4 = len % 256 ^ 4 := at_put_same _ (by omega)
    rw [this]
    omega
theorem Read.tabs_none (h : Read s b) (ho : s.Ok) : Pe.parse (s.tabs b 0 0) = (0, ⟨s.plus, s.opt + 64, s.table - 96, s.headers, s.secs, 0, 0, []⟩) := by
  obtain ⟨m, h1, h2, hl⟩ := h.tabs_made ho 0 0 (by omega) (by omega)
  have hw := s.write_small ho
  have hsz := h.size
  have hb : Pe.bare (s.tabs b 0 0) = true := by unfold Pe.bare; rw [h1, h2]; rfl
  have hs : Pe.sigs (s.tabs b 0 0) = [] := by unfold Pe.sigs; rw [hb]; rfl
  have hf : Pe.fine (s.tabs b 0 0) = true := by
    unfold Pe.fine
    rw [m.hd.head_ ho, m.laid_]
    unfold Pe.signed
    rw [hb]; rfl
  have he : Pe.err (s.tabs b 0 0) = 0 := by
    unfold Pe.err
    rw [if_neg (by omega), hf, hs]; rfl
  unfold Pe.parse
  rw [he]
  unfold Pe.img
  rw [m.hd.plus_, m.hd.opt_, m.dir_.1, m.hd.headers_, m.secs_, hs, hb]
  rfl
theorem Read.tabs_same (h : Read s b) (ho : s.Ok) : s.tabs b s.img.table s.img.length = b := by
  obtain ⟨e1, e2, e3, e4, e5⟩ := s.sizes_
  have hf := h.made.fits
  have g1 : s.img.table = if s.sigs = [] then 0 else s.from_ := rfl
  have g2 : s.img.length = if s.sigs = [] then 0 else (sigTable s.sigs).length := rfl
  unfold Shape.tabs
  rw [g1, g2, putAt_self (by omega) h.from_, putAt_self (by omega) h.len]
theorem Read.tabs_other (h : Read s b) (ho : s.Ok) {off len : Nat} (h1 : off < 4294967296) (h2 : len < 4294967296) (h0 : ¬ (off = 0 ∧ len = 0)) (he : Pe.err (s.tabs b off len) = 0) :
    (Pe.img (s.tabs b off len)).table = off ∧ (Pe.img (s.tabs b off len)).length = len ∧ off + len = b.length := by
  obtain ⟨m, g1, g2, hl⟩ := h.tabs_made ho off len h1 h2
  have hf := fine_of_err he
  have hb : Pe.bare (s.tabs b off len) = false := by
    unfold Pe.bare
    rw [g1, g2]
    cases e : (off == 0 && len == 0) with
    | false => rfl
    | true =>
      rw [Bool.and_eq_true, beq_iff_eq, beq_iff_eq] at e
      exact absurd e h0
  unfold Pe.fine Pe.signed at hf
  rw [hb, Bool.false_or] at hf
  simp only [Bool.and_eq_true] at hf
  have ht := hf.2.1
  unfold Pe.tabled at ht
  rw [g1, g2, hl] at ht
  simp only [Bool.and_eq_true, beq_iff_eq] at ht
  rw [img_table, img_length, hb, g1, g2]
  exact ⟨rfl, rfl, ht.2⟩
/-! Numbers of the headers. -/
theorem Hd.front (h : Hd s b) (hl : s.headers ≤ c.length) (h1 : Alike c b 0 (s.opt + 60)) : Pe.pe c = s.pe ∧ Pe.opt c = s.opt ∧ Pe.many c = s.bodies.length ∧ Pe.size c = s.size ∧ Pe.plus c = s.plus ∧ Pe.dirs c = s.table - 128 ∧ Pe.table c = s.table := by
  obtain ⟨e1, e2, e3, e4, e5⟩ := s.sizes_
  have hb := h.len
  have go : ∀ p n, p + n ≤ s.opt + 60 → at_ c p n = at_ b p n := fun p n hp => at_alike (h1.less (Nat.zero_le _) (by omega)) (by omega) (by omega)
  have k1 : Pe.pe c = s.pe := (go _ _ (by omega)).trans h.p60
  have k2 : Pe.opt c = s.opt := by rw [Pe.opt, k1]; rfl
  have k3 : Pe.many c = s.bodies.length := by rw [Pe.many, k1]; exact (go _ _ (by omega)).trans h.many
  have k4 : Pe.size c = s.size := by rw [Pe.size, k1]; exact (go _ _ (by omega)).trans h.size
  have k5 : Pe.magic c = s.magic := by rw [Pe.magic, k2]; exact (go _ _ (by omega)).trans h.magic
  have k6 : Pe.plus c = s.plus := by
    rw [Pe.plus, k5]
    unfold Shape.magic
    cases s.plus <;> rfl
  have k7 : Pe.dirs c = s.table - 128 := by
    rw [Pe.dirs, k2, k6]
    unfold Shape.table Shape.size
    cases s.plus <;> simp <;> omega
  exact ⟨k1, k2, k3, k4, k6, k7, by rw [Pe.table, k2, k4]; rfl⟩
theorem Read.count (h : Read s b) (ho : s.Ok) {k : Nat} (hk : k < 4294967296) (hne : k ≠ 16) : Pe.err (putAt b (s.table - 132) k 4) = 9 := by
  obtain ⟨e1, e2, e3, e4, e5⟩ := s.sizes_
  have hf := h.made.fits
  have hw := s.write_small ho
  have hsz := h.size
  obtain ⟨c, hc⟩ : ∃ c, putAt b (s.table - 132) k 4 = c := ⟨_, rfl⟩
  have hl : c.length = b.length := by rw [← hc]; exact putAt_len _ _ _ _ (by omega)
  have hat : at_ c (s.table - 132) 4 = k := by rw [← hc, at_put_same _ (by omega)]; omega
  obtain ⟨k1, k2, k3, k4, k5, k6, k7⟩ := h.made.hd.front (c := c) (by omega) (by rw [← hc]; exact alike_putAt _ (by omega) (by omega))
  rw [hc]
  refine err_of_fine ?_ (by omega)
  cases hfi : Pe.fine c with
  | false => rfl
  | true =>
    exfalso
    unfold Pe.fine at hfi
    simp only [Bool.and_eq_true] at hfi
    have hp := head_parts hfi.1.1
    have : Pe.kdirs c = k := by rw [Pe.kdirs, k6, show s.table - 128 - 4 = s.table - 132 by omega]; exact hat
    rw [k2, k4, k6, this] at hp
    omega
theorem Read.count_same (h : Read s b) (ho : s.Ok) : putAt b (s.table - 132) 16 4 = b := by
  obtain ⟨e1, e2, e3, e4, e5⟩ := s.sizes_
  have hf := h.made.fits
  exact putAt_self (by omega) h.made.hd.dirs
theorem Read.heads (h : Read s b) (ho : s.Ok) {k : Nat} (hk : k < 4294967296) (he : Pe.err (putAt b (s.opt + 60) k 4) = 0) : (Pe.img (putAt b (s.opt + 60) k 4)).headers = k ∧ s.table + 40 * s.bodies.length ≤ k ∧ k ≤ b.length := by
  obtain ⟨e1, e2, e3, e4, e5⟩ := s.sizes_
  have hf := h.made.fits
  obtain ⟨c, hc⟩ : ∃ c, putAt b (s.opt + 60) k 4 = c := ⟨_, rfl⟩
  have hl : c.length = b.length := by rw [← hc]; exact putAt_len _ _ _ _ (by omega)
  have hat : at_ c (s.opt + 60) 4 = k := by rw [← hc, at_put_same _ (by omega)]; omega
  obtain ⟨k1, k2, k3, k4, k5, k6, k7⟩ := h.made.hd.front (c := c) (by omega) (by rw [← hc]; exact alike_putAt _ (by omega) (by omega))
  rw [hc] at he ⊢
  have hfi := fine_of_err he
  unfold Pe.fine at hfi
  simp only [Bool.and_eq_true] at hfi
  have hp := head_parts hfi.1.1
  have hh : Pe.headers c = k := by rw [Pe.headers, k2]; exact hat
  rw [hh, k7, k3] at hp
  refine ⟨hh, by omega, by omega⟩
theorem Read.heads_same (h : Read s b) (ho : s.Ok) : putAt b (s.opt + 60) s.headers 4 = b := by
  obtain ⟨e1, e2, e3, e4, e5⟩ := s.sizes_
  have hf := h.made.fits
  exact putAt_self (by omega) h.made.hd.headers
/-! What stands beside a signature. -/
/-- A byte of the one signature's row turned, of those that say its kind or that fill it up: no image. -/
theorem Read.fill (h : Read s b) (ho : s.Ok) {g : List UInt8} (hg : s.sigs = [g]) {k : Nat} {v : UInt8} (hv : b[k]? ≠ some v) (hk : (s.from_ + 4 ≤ k ∧ k < s.from_ + 8) ∨ (s.from_ + 8 + g.length ≤ k ∧ k < b.length)) : Pe.err (b.set k v) = 9 := by
  obtain ⟨e1, e2, e3, e4, e5⟩ := s.sizes_
  have hf := h.made.fits
  have hw := s.write_small ho
  have hsz := h.size
  have hwl := s.write_len ho
  have hs : s.sigs ≠ [] := by rw [hg]; simp
  have hge : s.headers + s.total s.order' ≤ s.from_ := by unfold Shape.from_ up; omega
  rw [if_neg hs] at hwl
  have hrest := h.rest hs
  have htab : sigTable s.sigs = sigRow g ++ [] := by rw [hg]; simp [sigTable]
  have htl : (sigTable s.sigs).length = up (8 + g.length) := by rw [htab, List.append_nil, sigRow_len]
  have hgl := (ho.each g (by rw [hg]; simp))
  have hu : 8 + g.length ≤ up (8 + g.length) := by unfold up; omega
  have hkl : k < b.length := by omega
  obtain ⟨c, hc⟩ : ∃ c, b.set k v = c := ⟨_, rfl⟩
  have hl : c.length = b.length := by rw [← hc]; simp
  have al : ∀ p n, (p + n ≤ k ∨ k < p) → Alike c b p n := fun p n hd => by rw [← hc]; exact alike_set _ _ hd
  have m : Made s c := h.made.keep (by omega) (al _ _ (by omega)) (al _ _ (by omega)) (al _ _ (by omega))
  have hfr : Pe.from_ c = s.from_ := by rw [m.tab_.1, at_alike (al _ _ (by omega)) (by omega) (by omega), h.from_, if_neg hs]
  have h0 : at_ b s.from_ 4 = 8 + g.length := by
    have := at_drop b s.from_ 0 4 (by omega)
    rw [hrest, htab, (sig_row g [] (by omega)).1] at this
    exact this
  have h0c : at_ c s.from_ 4 = 8 + g.length := by rw [at_alike (al _ _ (by omega)) (by omega) (by omega)]; exact h0
  rw [hc]
  refine err_of_fine ?_ (by omega)
  cases hfi : Pe.fine c with
  | false => rfl
  | true =>
    exfalso
    unfold Pe.fine Pe.signed at hfi
    have hb : Pe.bare c = false := by
      unfold Pe.bare
      rw [hfr]
      have : (s.from_ == 0) = false := by simp; omega
      rw [this]; rfl
    rw [hb, Bool.false_or] at hfi
    simp only [Bool.and_eq_true] at hfi
    have hr := hfi.2.2
    rw [hfr] at hr
    unfold Pe.rows at hr
    obtain ⟨n, hn⟩ : ∃ n, c.length - s.from_ = n + 1 := ⟨c.length - s.from_ - 1, by omega⟩
    rw [hn, rowsF, if_pos (by omega)] at hr
    cases hok : (rowOk c s.from_ && fillOk c s.from_) with
    | false => rw [hok] at hr; cases hr
    | true =>
      rw [Bool.and_eq_true] at hok
      obtain ⟨r1, r2⟩ := hok
      have num2 : ∀ p x, p + 2 ≤ c.length → at_ c p 2 = x → c[p]? = some (UInt8.ofNat x) ∧ c[p + 1]? = some (UInt8.ofNat (x / 256)) := fun p x hp hx => by
        have := putAt_self (by omega) hx
        have g0 := putAt_get c p x 2 (by omega) p
        have g1 := putAt_get c p x 2 (by omega) (p + 1)
        rw [this, if_pos (by omega)] at g0 g1
        rw [g0, g1]
        simp [leN]
      have num2b : ∀ p x, p + 2 ≤ b.length → at_ b p 2 = x → b[p]? = some (UInt8.ofNat x) ∧ b[p + 1]? = some (UInt8.ofNat (x / 256)) := fun p x hp hx => by
        have := putAt_self (by omega) hx
        have g0 := putAt_get b p x 2 (by omega) p
        have g1 := putAt_get b p x 2 (by omega) (p + 1)
        rw [this, if_pos (by omega)] at g0 g1
        rw [g0, g1]
        simp [leN]
      have hck : c[k]? = some v := by rw [← hc, List.getElem?_set_self hkl]
      obtain ⟨q1, q2, q3, q4, q5, q6⟩ := sig_row g [] (by omega)
      have b4 : at_ b (s.from_ + 4) 2 = 512 := by rw [at_drop b _ 4 2 (by omega), hrest, htab, q2]
      have b6 : at_ b (s.from_ + 6) 2 = 2 := by rw [at_drop b _ 6 2 (by omega), hrest, htab, q3]
      rcases hk with hk | hk
      · unfold rowOk at r1
        simp only [Bool.and_eq_true, beq_iff_eq] at r1
        have c4 := num2 _ _ (by omega) r1.2.1.1.2.2
        have c6 := num2 _ _ (by omega) r1.2.1.2.2
        have d4 := num2b _ _ (by omega) b4
        have d6 := num2b _ _ (by omega) b6
        have : k = s.from_ + 4 ∨ k = s.from_ + 4 + 1 ∨ k = s.from_ + 6 ∨ k = s.from_ + 6 + 1 := by omega
        apply hv
        rcases this with rfl | rfl | rfl | rfl
        · rw [d4.1, ← c4.1, hck]
        · rw [d4.2, ← c4.2, hck]
        · rw [d6.1, ← c6.1, hck]
        · rw [d6.2, ← c6.2, hck]
      · unfold fillOk at r2
        rw [h0c, List.all_eq_true] at r2
        have hbk : b[k]? = some 0 := by
          have : (b.drop (s.from_ + (8 + g.length))).take (up (8 + g.length) - (8 + g.length)) = List.replicate (pad (8 + g.length)) 0 := by rw [← List.drop_drop, hrest, htab, q5]
          have h1 := congrArg (·[k - (s.from_ + (8 + g.length))]?) this
          simp only [List.getElem?_take, List.getElem?_drop, List.getElem?_replicate] at h1
          have hp : pad (8 + g.length) = up (8 + g.length) - (8 + g.length) := by unfold pad up; omega
          rw [if_pos (by omega), if_pos (by omega), show s.from_ + (8 + g.length) + (k - (s.from_ + (8 + g.length))) = k by omega] at h1
          exact h1
        have hvm : v ∈ (c.drop (s.from_ + (8 + g.length))).take (up (8 + g.length) - (8 + g.length)) := by
          refine List.mem_of_getElem? (i := k - (s.from_ + (8 + g.length))) ?_
          rw [List.getElem?_take, if_pos (by omega), List.getElem?_drop, show s.from_ + (8 + g.length) + (k - (s.from_ + (8 + g.length))) = k by omega]
          exact hck
        have := r2 v hvm
        rw [beq_iff_eq] at this
        apply hv
        rw [hbk, this]
end
end Pe
end Go.Proofs.YtmpladnglfiejaaGreatDoor
end

section
/- What keeps of any image that is read: plain. -/
namespace Go.Proofs.YtmpladnglfiejaaGreatDoor
set_option maxRecDepth 100000
set_option linter.unusedVariables false
set_option linter.unusedSimpArgs false
set_option linter.unusedSimpArgs false
set_option linter.unusedVariables false
namespace Pe
def Apart2 (a b : Nat × Nat) : Prop := a.1 + a.2 ≤ b.1 ∨ b.1 + b.2 ≤ a.1
theorem tiles_in : ∀ (l : List (Nat × Nat)) (h : Nat), tiles h l = true → (∀ x ∈ l, h ≤ x.1 ∧ x.1 + x.2 ≤ h + sizes l) ∧ l.Pairwise Apart2
  | [], _, _ => ⟨fun _ h => (List.not_mem_nil h).elim, List.Pairwise.nil⟩
  | (o, s) :: l, h, ht => by
    rw [tiles, Bool.and_eq_true, beq_iff_eq] at ht
    obtain ⟨rfl, ht⟩ := ht
    obtain ⟨h1, h2⟩ := tiles_in l (o + s) ht
    have e : sizes ((o, s) :: l) = s + sizes l := by unfold sizes; rw [List.map_cons, List.sum_cons]
    rw [e]
    refine ⟨fun x hx => ?_, List.pairwise_cons.2 ⟨fun y hy => ?_, h2⟩⟩
    · rcases List.mem_cons.1 hx with rfl | hx
      · exact ⟨Nat.le_refl _, by dsimp only; omega⟩
      · have := h1 x hx; omega
    · have := h1 y hy
      exact .inl this.1
theorem laid_in {xs : List UInt8} (h : Pe.laid xs = true) : (∀ x ∈ Pe.secs xs, Pe.headers xs ≤ x.1 ∧ x.1 + x.2 ≤ Pe.end_ xs) ∧ (Pe.secs xs).Pairwise Apart2 ∧ Pe.end_ xs ≤ xs.length := by
  unfold Pe.laid at h
  rw [Bool.and_eq_true, decide_eq_true_eq] at h
  obtain ⟨h1, h2⟩ := tiles_in _ _ h.1
  rw [perm_sizes (riseS_perm _)] at h1
  refine ⟨fun x hx => h1 x ((riseS_perm _).mem_iff.2 hx), (riseS_perm _).pairwise h2 ?_, h.2⟩
  intro a b hab
  exact hab.symm
/-- What keeps of an image that is read. -/
structure Right (xs : List UInt8) : Prop where
  each : ∀ x ∈ Pe.secs xs, 0 < x.2 ∧ Pe.headers xs ≤ x.1 ∧ x.1 + x.2 ≤ Pe.end_ xs
  apart : (Pe.secs xs).Pairwise Apart2
  fits : Pe.end_ xs ≤ xs.length
  check : 64 ≤ Pe.opt xs
  dir : Pe.opt xs + 68 ≤ Pe.dirs xs + 32
  headers : Pe.dirs xs + 40 ≤ Pe.headers xs ∧ Pe.headers xs ≤ xs.length
  many : (Pe.secs xs).length ≤ 96
  sigs : (Pe.sigs xs).length ≤ 8
  bare : Pe.bare xs = true → Pe.sigs xs = []
  tab : Pe.bare xs = false → 0 < Pe.length xs ∧ Pe.from_ xs % 8 = 0 ∧ Pe.end_ xs ≤ Pe.from_ xs ∧ Pe.from_ xs + Pe.length xs = xs.length ∧ 0 < (Pe.sigs xs).length
theorem right_of {xs : List UInt8} (h : Pe.err xs = 0) : Right xs := by
  have hf := fine_of_err h
  have hs : (Pe.sigs xs).length ≤ 8 := by
    unfold Pe.err at h
    split at h
    · cases h
    · split at h
      · cases h
      · omega
  unfold Pe.fine at hf
  simp only [Bool.and_eq_true] at hf
  obtain ⟨⟨h1, h2⟩, h3⟩ := hf
  have hp := head_parts h1
  obtain ⟨l1, l2, l3⟩ := laid_in h2
  have hd : Pe.opt xs + 96 ≤ Pe.dirs xs := by unfold Pe.dirs; split <;> omega
  have h64 : 64 ≤ Pe.pe xs ∧ Pe.many xs ≤ 96 := by
    unfold Pe.head Pe.first Pe.second at h1
    simp only [Bool.and_eq_true, decide_eq_true_eq] at h1
    exact ⟨h1.1.1.2.1.1, h1.1.2.2.1.2⟩
  refine ⟨fun x hx => ⟨secs_pos xs x hx, l1 x hx⟩, l2, l3, by unfold Pe.opt; omega, by omega, ⟨by omega, by omega⟩, ?_, hs, fun hb => by unfold Pe.sigs; rw [hb]; rfl, fun hb => ?_⟩
  · have : (Pe.secs xs).length ≤ (List.range (Pe.many xs)).length := List.length_filterMap_le _ _
    rw [List.length_range] at this
    omega
  · unfold Pe.signed at h3
    rw [hb, Bool.false_or, Bool.and_eq_true] at h3
    have ht := h3.1
    unfold Pe.tabled at ht
    simp only [Bool.and_eq_true, decide_eq_true_eq, beq_iff_eq] at ht
    refine ⟨ht.1.1.1, ht.1.1.2, ht.1.2, ht.2, ?_⟩
    unfold Pe.sigs
    rw [hb]
    simp only [Bool.false_eq_true, if_false]
    have hr := h3.2
    unfold Pe.rows at hr ⊢
    obtain ⟨n, hn⟩ : ∃ n, xs.length - Pe.from_ xs = n + 1 := ⟨xs.length - Pe.from_ xs - 1, by omega⟩
    rw [hn, rowsF, if_pos (by omega)] at hr ⊢
    cases hok : (rowOk xs (Pe.from_ xs) && fillOk xs (Pe.from_ xs)) with
    | false => rw [hok] at hr; cases hr
    | true =>
      rw [hok] at hr
      simp only [if_true, Option.isSome_map] at hr ⊢
      obtain ⟨q, hq⟩ := Option.isSome_iff_exists.1 hr
      rw [hq]
      simp
end Pe
end Go.Proofs.YtmpladnglfiejaaGreatDoor
end

section
/- Signatures' rows, one by one: plain. -/
namespace Go.Proofs.YtmpladnglfiejaaGreatDoor
set_option maxRecDepth 100000
set_option linter.unusedVariables false
set_option linter.unusedSimpArgs false
namespace Pe
theorem rowOk_parts {xs : List UInt8} {a : Nat} (h : rowOk xs a = true) : 8 < at_ xs a 4 ∧ up (at_ xs a 4) ≤ xs.length - a ∧ at_ xs a 4 ≤ up (at_ xs a 4) ∧ 16 ≤ up (at_ xs a 4) := by
  unfold rowOk at h
  simp only [Bool.and_eq_true, decide_eq_true_eq] at h
  have h1 := h.2.1.1.1
  have h2 := h.2.2
  refine ⟨h1, h2, ?_, ?_⟩ <;> unfold up <;> omega
theorem rowsF_succ (xs : List UInt8) (k a : Nat) : rowsF xs (k + 1) a = if a < xs.length then (if rowOk xs a && fillOk xs a then (rowsF xs k (a + up (at_ xs a 4))).map (blob xs a :: ·) else none) else some [] := rfl
theorem rowsF_more : ∀ (k : Nat) (xs : List UInt8) (a : Nat), xs.length - a ≤ k → rowsF xs (k + 1) a = rowsF xs k a
  | 0, xs, a, h => by rw [rowsF_succ, if_neg (by omega)]; rfl
  | k + 1, xs, a, h => by
    rw [rowsF_succ xs (k + 1) a, rowsF_succ xs k a]
    by_cases ha : a < xs.length
    · rw [if_pos ha, if_pos ha]
      cases hok : (rowOk xs a && fillOk xs a) with
      | false => rfl
      | true =>
        rw [Bool.and_eq_true] at hok
        have := rowOk_parts hok.1
        rw [if_pos rfl, if_pos rfl, rowsF_more k xs _ (by omega)]
    · rw [if_neg ha, if_neg ha]
theorem rowsF_enough {k : Nat} {xs : List UInt8} {a : Nat} (h : xs.length - a ≤ k) : rowsF xs k a = rows xs a := by
  have key : ∀ j, rowsF xs (xs.length - a + j) a = rows xs a := by
    intro j
    induction j with
    | zero => rfl
    | succ j ih => rw [← Nat.add_assoc, rowsF_more _ _ _ (by omega), ih]
  have := key (k - (xs.length - a))
  rwa [show xs.length - a + (k - (xs.length - a)) = k by omega] at this
theorem rows_end {xs : List UInt8} {a : Nat} (h : xs.length ≤ a) : rows xs a = some [] := by
  unfold rows
  rw [show xs.length - a = 0 by omega]; rfl
theorem rows_bad {xs : List UInt8} {a : Nat} (h : a < xs.length) (hb : (rowOk xs a && fillOk xs a) = false) : rows xs a = none := by
  unfold rows
  obtain ⟨n, hn⟩ : ∃ n, xs.length - a = n + 1 := ⟨xs.length - a - 1, by omega⟩
  rw [hn, rowsF, if_pos h, hb]; rfl
theorem rows_good {xs : List UInt8} {a : Nat} (h : a < xs.length) (hb : (rowOk xs a && fillOk xs a) = true) : rows xs a = (rows xs (a + up (at_ xs a 4))).map (blob xs a :: ·) := by
  have hb' := hb
  rw [Bool.and_eq_true] at hb'
  have hp := rowOk_parts hb'.1
  unfold rows
  obtain ⟨n, hn⟩ : ∃ n, xs.length - a = n + 1 := ⟨xs.length - a - 1, by omega⟩
  rw [hn, rowsF, if_pos h, hb, if_pos rfl, rowsF_enough (by omega)]
  rfl
end Pe
end Go.Proofs.YtmpladnglfiejaaGreatDoor
end
