/- The walk of the law DerBack. -/
import Derived.Test.YtnfngnmajjkdbaaDoorSetT
import Derived.Test.YtnfngnmajjkdbaaDoorEqU
import Derived.Test.YtnfngnmajjkdbaaDoorBackP
import Derived.Test.YtnfngnmajjkdbaaDoorBackS2
import Derived.Test.YtnfngnmajjkdbaaDoorBackO
import Derived.Test.YtnfngnmajjkdbaaDoorAlls4
import Derived.Test.YtnfngnmajjkdbaaDoorElems
import Derived.Test.YtnfngnmajjkdbaaDoorWorks
import Derived.Test.YtnfngnmajjkdbaaDoorPutInt
import Derived.Deep.Cut
import Derived.Deep.RegionHeld3
import Derived.BigQuiet
import Derived.Deep.QuietTactic
namespace Go.Proofs.YtnfngnmajjkdbaaDoor
open Go.RowKit
set_option maxRecDepth 1000000
set_option linter.unusedVariables false
set_option linter.unusedSimpArgs false

theorem eqbytes_same (A A' : Option Addr) (n c n' c' : Nat) (xs : List UInt8) (B B' : Nat) (w : World) (h : Rd w B A n c xs) (h' : Rd w B' A' n' c' xs) :
    Calls Tryd.prog 9 #[.slice A n c, .slice A' n' c'] w fun e w' => e = .returned (.bool true) ∧ w' = w :=
  (eqbytes_any A A' n c n' c' xs xs B B' w h h').mono fun _ _ ⟨he, hw⟩ => ⟨by rw [he, eqB_self], hw⟩
theorem IntPost.one {xs : List UInt8} {w w' : World} {e : Ending} (h : IntPost xs w e w') :
    ∃ A n c, e = .returned (.tuple #[.slice A n c, .bool (Der.int xs).isSome]) ∧ Rd w' w'.heap.size A n c ((Der.int xs).getD []) ∧ Below w.heap.size w w' := by
  obtain ⟨hb, ⟨hno, rfl⟩ | ⟨ys, A, n, c, hs, rfl, ho⟩⟩ := h
  · exact ⟨none, 0, 0, by rw [hno]; rfl, by rw [hno]; exact Rd.none_, hb⟩
  · exact ⟨A, n, c, by rw [hs]; rfl, by rw [hs]; exact Rd.of_own ho, hb⟩
theorem rdOf {w : World} {lo hi B n c : Nat} {A : Option Addr} {xs : List UInt8} (h : OwnB w lo hi (.slice A n c) xs) (hB : hi ≤ B) : Rd w B A n c xs := (Rd.of_own h).more hB
theorem ParsePost.one {er : Int} {xs : List UInt8} {w w' : World} {e : Ending} (h : ParsePost er xs w e w') :
    ∃ (t : UInt8) (b r rest : List UInt8) (A1 : Option Addr) (n1 c1 : Nat) (A2 : Option Addr) (n2 c2 : Nat) (A3 : Option Addr) (n3 c3 : Nat) (er' : Int), ((Der.elem xs = some (t, b, r, rest) ∧ er' = 0) ∨ (Der.elem xs = none ∧ er' = er)) ∧
      e = .returned (.tuple #[.agg #[.int .u8 (t.toNat : Int), .slice A1 n1 c1, .slice A2 n2 c2], .slice A3 n3 c3, .int .i64 er']) ∧
      OwnB w' w.heap.size w'.heap.size (.slice A1 n1 c1) b ∧ OwnB w' w.heap.size w'.heap.size (.slice A2 n2 c2) r ∧ OwnB w' w.heap.size w'.heap.size (.slice A3 n3 c3) rest ∧ Below w.heap.size w w' := by
  obtain ⟨hb, ⟨hno, rfl⟩ | ⟨t, body, raw, rest, A1, n1, c1, A2, n2, c2, A3, n3, c3, hs, rfl, ho⟩⟩ := h
  · exact ⟨0, [], [], [], none, 0, 0, none, 0, 0, none, 0, 0, er, .inr ⟨hno, rfl⟩, rfl, OwnB.nil_, OwnB.nil_, OwnB.nil_, hb⟩
  · exact ⟨t, body, raw, rest, A1, n1, c1, A2, n2, c2, A3, n3, c3, 0, .inl ⟨hs, rfl⟩, rfl, Owns.rd ho (by simp), Owns.rd ho (by simp), Owns.rd ho (by simp), hb⟩
theorem oidStep_small {s s' : Der.OidS} {c : UInt8} (h : Der.oidStep s c = some s') (ha : ∀ z ∈ s.arcs, z < 18446744073709551616) : (∀ z ∈ s'.arcs, z < 18446744073709551616) ∧ s'.arcs.length ≤ s.arcs.length + 2 := by
  unfold Der.oidStep at h
  split at h
  · cases h
  · rename_i h1
    split at h
    · injection h with h; subst h; exact ⟨ha, by simp⟩
    · split at h
      · injection h with h; subst h
        refine ⟨fun z hz => ?_, by simp⟩
        simp only [List.mem_cons, List.not_mem_nil, or_false] at hz
        have := c.toNat_lt
        rcases hz with rfl | rfl <;> omega
      · injection h with h; subst h
        refine ⟨fun z hz => ?_, by simp⟩
        have := c.toNat_lt
        rcases List.mem_append.1 hz with hz | hz
        · exact ha z hz
        · rw [List.mem_singleton] at hz; subst hz; omega
theorem oidFrom_small : ∀ (xs : List UInt8) (s s' : Der.OidS), Der.oidFrom s xs = some s' → (∀ z ∈ s.arcs, z < 18446744073709551616) → (∀ z ∈ s'.arcs, z < 18446744073709551616) ∧ s'.arcs.length ≤ s.arcs.length + 2 * xs.length
  | [], s, s', h, ha => by injection h with h; subst h; exact ⟨ha, by simp⟩
  | c :: r, s, s', h, ha => by
    rw [Der.oidFrom] at h
    cases hs : Der.oidStep s c with
    | none => rw [hs] at h; cases h
    | some s1 =>
      rw [hs] at h
      obtain ⟨h1, h2⟩ := oidStep_small hs ha
      obtain ⟨h3, h4⟩ := oidFrom_small r s1 s' h h1
      exact ⟨h3, by rw [List.length_cons]; omega⟩
theorem oid_small {xs : List UInt8} {l : List Nat} (h : Der.oid xs = some l) : (∀ z ∈ l, z < 18446744073709551616) ∧ l.length ≤ 2 * xs.length := by
  unfold Der.oid at h
  split at h
  · cases h
  · rename_i s hs
    split at h
    · cases h
    · injection h with h; subst h
      have := oidFrom_small xs _ s hs (by simp)
      exact ⟨this.1, by simpa using this.2⟩
theorem rdU_own {w : World} {lo hi B : Nat} {v : Value} {zs : List Nat} (h : OwnU w lo hi v zs) (hB : hi ≤ B) (hz : ∀ z ∈ zs, z < 18446744073709551616) : ∃ A c, v = .slice A zs.length c ∧ RdU w B A zs.length c zs := by
  obtain ⟨A, c, rfl, h1, h2, h3, h4⟩ := OwnC.shape h
  refine ⟨A, c, rfl, ⟨by simp, h1, by simpa [maxLen] using h2, fun e => ?_, fun hc => ?_, h4.more hB⟩, hz⟩
  · rcases h.1.2 with ⟨e1, _⟩ | ⟨g, cap, cur, e1, _⟩
    · injection e1
    · injection e1 with e1; subst e; cases e1
  · rcases h.1.2 with ⟨e1, _⟩ | ⟨g, cap, cur, e1, hb, hg, _⟩
    · injection e1; omega
    · injection e1 with e1
      subst e1
      exact ⟨g, 0, rfl, Nat.lt_of_lt_of_le (h.2 g rfl) hB⟩
theorem OidPost.one {xs : List UInt8} {w w' : World} {e : Ending} (h : OidPost xs w e w') :
    ∃ A n c, e = .returned (.tuple #[.slice A n c, .bool (Der.oid xs).isSome]) ∧ RdU w' w'.heap.size A n c ((Der.oid xs).getD []) ∧ n ≤ 2 * xs.length ∧ Below w.heap.size w w' := by
  obtain ⟨hb, ⟨hno, rfl⟩ | ⟨arcs, v, hs, rfl, ho⟩⟩ := h
  · exact ⟨none, 0, 0, by rw [hno]; rfl, by rw [hno]; exact ⟨⟨rfl, Nat.le_refl _, by omega, fun _ => rfl, fun h => absurd h (by omega), Reads.none_⟩, fun z h => (List.not_mem_nil h).elim⟩, by omega, hb⟩
  · obtain ⟨hz, hl⟩ := oid_small hs
    obtain ⟨A, c, rfl, hr⟩ := rdU_own ho (Nat.le_refl _) hz
    exact ⟨A, arcs.length, c, by rw [hs]; rfl, by rw [hs]; exact hr, hl, hb⟩
theorem RdU.up {w w' : World} {A : Option Addr} {n c : Nat} {zs : List Nat} (h : RdU w w.heap.size A n c zs) (hb : Below w.heap.size w w') : RdU w' w'.heap.size A n c zs := ⟨h.1.up hb, h.2⟩

/-- What came in, as it is read at a later world. -/
structure BK (w : World) (A1 : Option Addr) (n1 c1 : Nat) (xs : List UInt8) (A2 : Option Addr) (n2 c2 : Nat) (ys : List UInt8) (A3 : Option Addr) (n3 c3 : Nat) (zs : List Nat) (W : World) : Prop where
  below : Below w.heap.size w W
  b : Rd W W.heap.size A1 n1 c1 xs
  more : Rd W W.heap.size A2 n2 c2 ys
  arcs : RdU W W.heap.size A3 n3 c3 zs
theorem BK.step {w W W' : World} {A1 A2 A3 : Option Addr} {n1 c1 n2 c2 n3 c3 : Nat} {xs ys : List UInt8} {zs : List Nat} (h : BK w A1 n1 c1 xs A2 n2 c2 ys A3 n3 c3 zs W) (hb : Below W.heap.size W W') : BK w A1 n1 c1 xs A2 n2 c2 ys A3 n3 c3 zs W' :=
  ⟨h.below.trans (hb.mono h.below.size), h.b.up hb, h.more.up hb, h.arcs.up hb⟩
theorem putInt_len (xs : List UInt8) : (Der.putInt xs).length ≤ xs.length + 1 := by have := trim_len xs; unfold Der.putInt; split; (rw [List.length_cons]; omega); omega
theorem int_len (xs : List UInt8) : ((Der.int xs).getD []).length ≤ xs.length := by
  match xs with
  | [] => simp [Der.int]
  | [b0] =>
    by_cases h1 : 128 ≤ b0.toNat
    · simp [Der.int, h1]
    · by_cases h2 : b0.toNat = 0 <;> simp [Der.int, h1, h2]
  | b0 :: b1 :: r =>
    by_cases h1 : 128 ≤ b0.toNat
    · simp [Der.int, h1]
    · by_cases h2 : b0.toNat = 0
      · by_cases h3 : b1.toNat < 128 <;> simp [Der.int, h2, h3]
      · simp [Der.int, h1, h2]
theorem putOid_len (zs : List Nat) (hz : ∀ z ∈ zs, z < 18446744073709551616) : (Der.putOid zs).length ≤ 10 * zs.length := by
  match zs with
  | [] => simp [Der.putOid]
  | [_] => simp [Der.putOid]
  | a :: b :: r =>
    rw [Der.putOid]
    split
    · rename_i h
      have h1 := Der.sev_len (40 * a + b) (by unfold Der.putOk at h; simp at h; omega)
      have h2 := Der.sevs_len r (fun z hz' => hz z (by simp [hz']))
      simp only [List.length_append, List.length_cons]
      omega
    · simp
/-- Cells of the elements of a list. -/
theorem OwnE.at_ {w wr : World} {lo hi B n c : Nat} {A : Option Addr} {l : List EI} (h : OwnE w lo hi (.slice A n c) l) (hb : Below B w wr) (hB : hi ≤ B) {k : Nat} (hk : k < n) :
    ∃ g t A1 n1 c1 body A2 n2 c2 raw, A = some ⟨g, 0, none⟩ ∧ g < hi ∧ l[k]? = some ⟨t, .slice A1 n1 c1, body, .slice A2 n2 c2, raw⟩ ∧
      wr.cell? ⟨g, k * 3, none⟩ = some (.int .u8 (t.toNat : Int)) ∧ wr.cell? ⟨g, k * 3 + 1, none⟩ = some (.slice A1 n1 c1) ∧ wr.cell? ⟨g, k * 3 + 2, none⟩ = some (.slice A2 n2 c2) ∧
      Rd wr hi A1 n1 c1 body ∧ Rd wr hi A2 n2 c2 raw := by
  obtain ⟨g, t, A1, n1, c1, body, A2, n2, c2, raw, rfl, hg, hx, q0, q1, q2, r1, r2⟩ := h.get hk
  rw [Nat.mul_comm 3 k] at q0 q1 q2
  have hk' : ∀ p : Addr, p.block < hi → wr.cell? p = w.cell? p := fun p hp => hb.cell (by omega)
  exact ⟨g, t, A1, n1, c1, body, A2, n2, c2, raw, rfl, hg, hx, (hk' ⟨g, k * 3, none⟩ hg).trans q0, (hk' ⟨g, k * 3 + 1, none⟩ hg).trans q1, (hk' ⟨g, k * 3 + 2, none⟩ hg).trans q2, r1.keep hk', r2.keep hk'⟩
theorem perm_map_inv {α β : Type} {f : α → β} {L S : List β} (h : L.Perm S) : ∀ (l : List α), L = l.map f → ∃ l' : List α, l'.Perm l ∧ S = l'.map f := by
  induction h with
  | nil => intro l hl; exact ⟨l, List.Perm.refl _, hl⟩
  | cons x h ih =>
    intro l hl
    cases l with
    | nil => cases hl
    | cons a l =>
      simp only [List.map_cons, List.cons.injEq] at hl
      obtain ⟨rfl, hl⟩ := hl
      obtain ⟨l', hp, rfl⟩ := ih l hl
      exact ⟨a :: l', hp.cons a, rfl⟩
  | swap x y L =>
    intro l hl
    match l, hl with
    | a :: b :: l, hl =>
      simp only [List.map_cons, List.cons.injEq] at hl
      obtain ⟨rfl, rfl, rfl⟩ := hl
      exact ⟨b :: a :: l, List.Perm.swap a b l, rfl⟩
  | trans h1 h2 ih1 ih2 =>
    intro l hl
    obtain ⟨l1, hp1, h1⟩ := ih1 l hl
    obtain ⟨l2, hp2, h2⟩ := ih2 l1 h1
    exact ⟨l2, hp2.trans hp1, h2⟩
theorem cat_le {m : Nat} : ∀ (L : List (Value × List UInt8)), (∀ p ∈ L, p.2.length ≤ m) → (cat L).length ≤ L.length * m
  | [], _ => by simp [cat]
  | p :: L, h => by
    have ih := cat_le L fun q hq => h q (List.mem_cons_of_mem _ hq)
    have h1 := h p (List.mem_cons_self ..)
    have e : cat (p :: L) = p.2 ++ cat L := by simp [cat]
    rw [e, List.length_append, List.length_cons, Nat.succ_mul]
    omega
/-- The elements' raw bytes, put in their order, are a set. -/
theorem set_sorted {ys : List UInt8} {l : List EI} {S : List (Value × List UInt8)} (hs : Der.seq ys = l.map (fun x => some x.dat)) (hp : S.Perm (l.map fun x => (x.vr, x.raw))) (ho : Ord (S.map (·.2))) : Der.chain [] (Der.seq (cat S)) = true := by
  obtain ⟨l', hp', rfl⟩ := perm_map_inv hp.symm l rfl
  have hg : ∀ x ∈ l.map EI.dat, GoodEl x := good_all ys.length ys (l.map EI.dat) (Nat.le_refl _) (by rw [hs, List.map_map]; rfl)
  have hg' : ∀ x ∈ l'.map EI.dat, GoodEl x := fun x hx => hg x ((hp'.map EI.dat).mem_iff.1 hx)
  have e1 : cat (l'.map fun x => (x.vr, x.raw)) = ((l'.map EI.dat).map (·.2.2)).flatten := by
    unfold cat
    rw [List.map_map, List.map_map]; rfl
  have e2 : (l'.map fun x => ((x.vr, x.raw) : Value × List UInt8)).map (·.2) = (l'.map EI.dat).map (·.2.2) := by
    rw [List.map_map, List.map_map]; rfl
  rw [e1, seq_good _ hg']
  rw [e2] at ho
  exact chain_sorted _ ho
theorem rdTwo {w : World} {A A' : Option Addr} {n c n' c' : Nat} {xs ys : List UInt8} (h : Rd w w.heap.size A n c xs) (h' : Rd w w.heap.size A' n' c' ys) : ∀ v zs, (v, zs) ∈ [(Value.slice A n c, xs), (Value.slice A' n' c', ys)] → RdV w w.heap.size v zs := by
  intro v zs' hm
  simp only [List.mem_cons, Prod.mk.injEq, List.not_mem_nil, or_false] at hm
  rcases hm with ⟨rfl, rfl⟩ | ⟨rfl, rfl⟩
  · exact RdV.mk h
  · exact RdV.mk h'
/-- What Parse has told, its element in a variable. -/
structure PX (zs : List UInt8) (w wx : World) (X : Nat) (er : Int) (t : UInt8) (b r rest : List UInt8) (A6 : Option Addr) (n6 c6 : Nat) (A7 : Option Addr) (n7 c7 : Nat) (A8 : Option Addr) (n8 c8 : Nat) : Prop where
  told : (Der.elem zs = some (t, b, r, rest) ∧ er = 0) ∨ (Der.elem zs = none ∧ er = 9)
  blk : Blk wx X 30 #[.int .u8 (t.toNat : Int), .slice A6 n6 c6, .slice A7 n7 c7]
  lo : w.heap.size ≤ X
  body : Rd wx wx.heap.size A6 n6 c6 b
  raw : Rd wx wx.heap.size A7 n7 c7 r
  rest : Rd wx wx.heap.size A8 n8 c8 rest
  below : Below w.heap.size w wx
def BackPost (w : World) (e : Ending) (w' : World) : Prop := e = .returned (.bool true) ∧ Below w.heap.size w w'

set_option maxHeartbeats 4000000 in
theorem back_large (t : UInt8) (A1 A2 A3 : Option Addr) (n1 c1 n2 c2 n3 c3 : Nat) (w : World) (h : (8192 : Int) < n1 ∨ (8192 : Int) < n2 ∨ (100 : Int) < n3) :
    Calls Tryd.prog 3 #[.agg #[.int .u8 (t.toNat : Int), .slice A1 n1 c1, .slice A2 n2 c2, .slice A3 n3 c3]] w (BackPost w) := by
  have hb0 := (Below.refl w.heap.size w).alloc (Nat.le_refl _) (.cells #[.int .u8 (t.toNat : Int), .slice A1 n1 c1, .slice A2 n2 c2, .slice A3 n3 c3] 25)
  have H := Lib.hid hb0
  clear hb0
  go_enter Tryd.func3, Tryd.ntmps3
  by_cases h1 : (8192 : Int) < n1
  · clear h
    go_wp2_with fail
    refine (large_any A1 n1 c1 _).mono ?_
    rintro e w1 ⟨he, rfl⟩
    rw [decide_eq_true h1] at he
    subst he
    go_wp2_with fail
    refine (works_any _).mono ?_
    rintro e w1 ⟨rfl, hb1⟩
    go_wp2
    go_ret
    exact ⟨rfl, H.out.trans (hb1.mono H.out.size)⟩
  · by_cases h2 : (8192 : Int) < n2
    · clear h
      go_wp2_with fail
      refine (large_any A1 n1 c1 _).mono ?_
      rintro e w1 ⟨he, rfl⟩
      rw [decide_eq_false (show ¬ (8192 : Int) < n1 by omega)] at he
      subst he
      go_wp2_with fail
      refine (large_any A2 n2 c2 _).mono ?_
      rintro e w1 ⟨he, rfl⟩
      rw [decide_eq_true h2] at he
      subst he
      go_wp2_with fail
      refine (works_any _).mono ?_
      rintro e w1 ⟨rfl, hb1⟩
      go_wp2
      go_ret
      exact ⟨rfl, H.out.trans (hb1.mono H.out.size)⟩
    · have h3 : (100 : Int) < n3 := by omega
      clear h
      go_wp2_with fail
      refine (large_any A1 n1 c1 _).mono ?_
      rintro e w1 ⟨he, rfl⟩
      rw [decide_eq_false (show ¬ (8192 : Int) < n1 by omega)] at he
      subst he
      go_wp2_with fail
      refine (large_any A2 n2 c2 _).mono ?_
      rintro e w1 ⟨he, rfl⟩
      rw [decide_eq_false (show ¬ (8192 : Int) < n2 by omega)] at he
      subst he
      go_wp2_with fail
      refine (works_any _).mono ?_
      rintro e w1 ⟨rfl, hb1⟩
      go_wp2
      go_ret
      exact ⟨rfl, H.out.trans (hb1.mono H.out.size)⟩

set_option maxHeartbeats 8000000 in
theorem back_main (t : UInt8) (A1 A2 A3 : Option Addr) (n1 c1 n2 c2 n3 c3 : Nat) (xs ys : List UInt8) (zs : List Nat) (w : World) (r1 : Rd w w.heap.size A1 n1 c1 xs) (r2 : Rd w w.heap.size A2 n2 c2 ys) (r3 : RdU w w.heap.size A3 n3 c3 zs)
    (h1 : ¬ (8192 : Int) < n1) (h2 : ¬ (8192 : Int) < n2) (h3 : ¬ (100 : Int) < n3) :
    Calls Tryd.prog 3 #[.agg #[.int .u8 (t.toNat : Int), .slice A1 n1 c1, .slice A2 n2 c2, .slice A3 n3 c3]] w (BackPost w) := by
  have l1 := r1.len
  have l2 := r2.len
  have l3 := r3.len
  have g1 : n1 ≤ 8192 := by omega
  have g2 : n2 ≤ 8192 := by omega
  have g3 : n3 ≤ 100 := by omega
  have hb0 := (Below.refl w.heap.size w).alloc (Nat.le_refl _) (.cells #[.int .u8 (t.toNat : Int), .slice A1 n1 c1, .slice A2 n2 c2, .slice A3 n3 c3] 25)
  have R0 : Hid (∀ W : World, Below w.heap.size w W → BK w A1 n1 c1 xs A2 n2 c2 ys A3 n3 c3 zs W) := Lib.hid fun W hb => BK.mk hb (r1.up hb) (r2.up hb) (r3.up hb)
  have K0 := Lib.hid (R0.out _ hb0)
  have HL := Lib.hid (And.intro l1 (And.intro l2 l3))
  clear r1 r2 r3 hb0 l1 l2 l3
  go_enter Tryd.func3, Tryd.ntmps3
  go_wp2_with fail
  refine (large_any A1 n1 c1 _).mono ?_
  rintro e w1 ⟨he, rfl⟩
  rw [decide_eq_false (show ¬ (8192 : Int) < n1 by omega)] at he
  subst he
  go_wp2_with fail
  refine (large_any A2 n2 c2 _).mono ?_
  rintro e w1 ⟨he, rfl⟩
  rw [decide_eq_false (show ¬ (8192 : Int) < n2 by omega)] at he
  subst he
  clear h1 h2
  go_wp2_with fail
  obtain ⟨W0, hW0⟩ : ∃ W0, w.alloc (.cells #[.int .u8 (t.toNat : Int), .slice A1 n1 c1, .slice A2 n2 c2, .slice A3 n3 c3] 25) = W0 := ⟨_, rfl⟩
  rw [hW0] at K0 ⊢
  clear hW0
  refine (write_any t A1 n1 c1 xs W0 K0.out.b (by omega)).mono ?_
  rintro e w1 ⟨A4, n4, c4, rfl, ho4, hb4⟩
  have r4 := rdOf ho4 (Nat.le_refl _)
  have hn4 : n4 ≤ 8200 := by
    have e1 := r4.len
    rw [Der.write_len] at e1
    have e2 := Der.lenB_len xs.length (by rw [HL.out.1]; omega)
    rw [HL.out.1] at e1 e2
    omega
  have K1 := Lib.hid (K0.out.step hb4)
  have H4 := Lib.hid r4
  clear r4 ho4 hb4 K0
  go_upto_region 8 with fail
  have hlit := RdL.lit w1 22 [(.slice A4 n4 c4, Der.write t xs), (.slice A2 n2 c2, ys)] [.slice A4 n4 c4, .slice A2 n2 c2] w1.heap.size 2 rfl rfl rfl (by omega) (by
    intro v zs' hm
    simp only [List.mem_cons, Prod.mk.injEq, List.not_mem_nil, or_false] at hm
    rcases hm with ⟨rfl, rfl⟩ | ⟨rfl, rfl⟩
    · exact RdV.mk H4.out
    · exact RdV.mk K1.out.more)
  have hcat : cat [(Value.slice A4 n4 c4, Der.write t xs), (Value.slice A2 n2 c2, ys)] = Der.write t xs ++ ys := by simp [cat]
  have hcl : (Der.write t xs ++ ys).length ≤ 20000 := by
    rw [List.length_append, H4.out.len, HL.out.2.1]; omega
  have HT := Lib.hid (And.intro hlit (And.intro hcat hcl))
  clear hlit hcat hcl
  go_cut [8, 9, 10] from 18 (fun s8 s9 s10 wx => ∃ X er t' b' r' rest' A6 n6 c6 A7 n7 c7 A8 n8 c8, s8 = .pointer (some ⟨X, 0, none⟩) ∧ s9 = .slice A8 n8 c8 ∧ s10 = .int .i64 er ∧ PX (Der.write t xs ++ ys) w1 wx X er t' b' r' rest' A6 n6 c6 A7 n7 c7 A8 n8 c8)
  case first => as_aux_lemma =>
    have hba := (Below.refl w1.heap.size w1).alloc (Nat.le_refl _) (.cells #[.slice A4 n4 c4, .slice A2 n2 c2] 22)
    have HA := Lib.hid hba
    clear hba
    go_wp2_with fail
    refine (join_any (some ⟨w1.heap.size, 0, none⟩) 2 2 [(.slice A4 n4 c4, Der.write t xs), (.slice A2 n2 c2, ys)] _ HT.out.1 (by omega) (by rw [HT.out.2.1]; have := HT.out.2.2; omega)).mono ?_
    rintro e w2 ⟨A5, n5, c5, rfl, ho5, hb5⟩
    rw [HT.out.2.1] at ho5
    have r5 := rdOf ho5 (Nat.le_refl _)
    have hn5 : n5 ≤ 20000 := by rw [← r5.len]; exact HT.out.2.2
    have hb2 : Below w1.heap.size w1 w2 := HA.out.trans (hb5.mono (by simp))
    have H5 := Lib.hid (And.intro r5 hb2)
    clear r5 ho5 hb5 hb2
    go_wp2_with fail
    refine (parse_any A5 n5 c5 _ w2 H5.out.1 (by omega)).mono ?_
    rintro e w3 hp
    obtain ⟨t', b', r', rest', A6, n6, c6, A7, n7, c7, A8, n8, c8, er, htold, rfl, q1, q2, q3, hb3⟩ := hp.one
    clear hp
    have q1 := rdOf q1 (Nat.le_refl _)
    have q2 := rdOf q2 (Nat.le_refl _)
    have q3 := rdOf q3 (Nat.le_refl _)
    have hb03 : Below w1.heap.size w1 w3 := H5.out.2.trans (hb3.mono H5.out.2.size)
    have hal := (Below.refl w3.heap.size w3).alloc (Nat.le_refl _) (.cells #[.int .u8 (t'.toNat : Int), .slice A6 n6 c6, .slice A7 n7 c7] 30)
    have H6 := Lib.hid (And.intro htold (And.intro (q1.up hal) (And.intro (q2.up hal) (And.intro (q3.up hal) (And.intro (hb03.trans (hal.mono hb03.size)) (And.intro (Blk.new w3 30 #[.int .u8 (t'.toNat : Int), .slice A6 n6 c6, .slice A7 n7 c7]) hb03.size))))))
    clear htold q1 q2 q3 hb3 hb03 hal
    go_wp2_with fail
    go_meet
    exact ⟨w3.heap.size, er, t', b', r', rest', A6, n6, c6, A7, n7, c7, A8, n8, c8, rfl, rfl, rfl, H6.out.1, H6.out.2.2.2.2.2.1, H6.out.2.2.2.2.2.2, H6.out.2.1, H6.out.2.2.1, H6.out.2.2.2.1, H6.out.2.2.2.2.1⟩
  obtain ⟨X, er, t', b', r', rest', A6, n6, c6, A7, n7, c7, A8, n8, c8, rfl, rfl, rfl, hPX⟩ := hcut
  obtain ⟨W2, hW2⟩ : ∃ W2, W2 = wc := ⟨_, rfl⟩
  subst hW2
  have K2 := Lib.hid (K1.out.step hPX.below)
  have HP := Lib.hid hPX
  have hPXb := hPX.blk
  have H4b := Lib.hid (H4.out.up hPX.below)
  clear hPX HT
  apply_assumption
  refine wp_seq_k fun K hK => ?_
  go_cut [] from 18 (fun wx => wx = W2)
  case first => as_aux_lemma =>
    have hel := Der.elem_write t xs ys (by rw [HL.out.1]; omega)
    have htold := HP.out.told
    rw [hel] at htold
    by_cases ht : t.toNat % 32 = 31
    · rw [if_pos ht] at htold
      have her : er = 9 := by rcases htold with ⟨h, _⟩ | ⟨_, h⟩; cases h; exact h
      subst her
      have f1 : ((t.toNat : Int) % 32 == 31) = true := by simp; omega
      clear htold hel ht
      go_wp2_with fail
      go_meet
      rfl
    · rw [if_neg ht] at htold
      have f1 : ((t.toNat : Int) % 32 == 31) = false := by simp; omega
      have hall : t' = t ∧ b' = xs ∧ r' = Der.write t xs ∧ rest' = ys ∧ er = 0 := by
        rcases htold with ⟨h, h'⟩ | ⟨h, _⟩
        · simp only [Option.some.injEq, Prod.mk.injEq] at h
          obtain ⟨rfl, rfl, rfl, rfl⟩ := h
          exact ⟨rfl, rfl, rfl, rfl, h'⟩
        · cases h
      obtain ⟨rfl, rfl, rfl, rfl, rfl⟩ := hall
      obtain ⟨k, _⟩ := HP.out.blk.facts
      have k0 : W2.cell? ⟨X, 0, none⟩ = some (.int .u8 (t'.toNat : Int)) := k 0
      have k1 : W2.cell? ⟨X, 1, none⟩ = some (.slice A6 n6 c6) := k 1
      have k2 : W2.cell? ⟨X, 2, none⟩ = some (.slice A7 n7 c7) := k 2
      have e1 := Lib.hid (eqbytes_same A6 A1 n6 c6 n1 c1 _ _ _ W2 HP.out.body K2.out.b)
      have e2 := Lib.hid (eqbytes_same A7 A4 n7 c7 n4 c4 _ _ _ W2 HP.out.raw H4b.out)
      have e3 := Lib.hid (eqbytes_same A8 A2 n8 c8 n2 c2 _ _ _ W2 HP.out.rest K2.out.more)
      have f2 : ((t'.toNat : Int) != (t'.toNat : Int)) = false := by simp
      clear htold hel ht k
      go_wp2_with fail
      refine e1.out.mono ?_
      rintro e w4 ⟨rfl, rfl⟩
      go_wp2_with fail
      refine e2.out.mono ?_
      rintro e w4 ⟨rfl, rfl⟩
      go_wp2_with fail
      refine e3.out.mono ?_
      rintro e w4 ⟨rfl, rfl⟩
      go_wp2_with fail
      go_meet
      rfl
  have hcut := hcut.symm
  subst hcut
  have hXlo : w.heap.size ≤ X := Nat.le_trans K1.out.below.size HP.out.lo
  clear HP H4b H4 hn4
  apply_assumption
  -- Parse(more)
  have HB0 := Lib.hid hPXb
  clear hPXb
  go_upto_region 14 with fail
  go_cut [9, 10] from 18 (fun s9 s10 wx => ∃ er t b r rest A6 n6 c6 A7 n7 c7 A8 n8 c8, s9 = .slice A8 n8 c8 ∧ s10 = .int .i64 er ∧ PX ys w wx X er t b r rest A6 n6 c6 A7 n7 c7 A8 n8 c8)
  case first => as_aux_lemma =>
    go_wp2_with fail
    refine (parse_any A2 n2 c2 ys W2 K2.out.more (by omega)).mono ?_
    rintro e w3 hp
    obtain ⟨t3, b3, r3, rest3, Aa, na, ca, Ab, nb, cb, Ac, nc, cc, er3, htold, rfl, q1, q2, q3, hb3⟩ := hp.one
    have hB3 := HB0.out.below hb3 HB0.out.lt
    have hXlt := hB3.lt
    obtain ⟨hcX, hfX⟩ := hB3.facts
    have hset := ((hB3.set_ 0 (.int .u8 (t3.toNat : Int))).set_ 1 (.slice Aa na ca)).set_ 2 (.slice Ab nb cb)
    have hXX : X < W2.heap.size := HB0.out.lt
    have q1 := ((q1.setCell (p := ⟨X, 0, none⟩) (.inl hXX) (.int .u8 (t3.toNat : Int))).setCell (p := ⟨X, 1, none⟩) (.inl hXX) (.slice Aa na ca)).setCell (p := ⟨X, 2, none⟩) (.inl hXX) (.slice Ab nb cb)
    have q2 := ((q2.setCell (p := ⟨X, 0, none⟩) (.inl hXX) (.int .u8 (t3.toNat : Int))).setCell (p := ⟨X, 1, none⟩) (.inl hXX) (.slice Aa na ca)).setCell (p := ⟨X, 2, none⟩) (.inl hXX) (.slice Ab nb cb)
    have q3 := ((q3.setCell (p := ⟨X, 0, none⟩) (.inl hXX) (.int .u8 (t3.toNat : Int))).setCell (p := ⟨X, 1, none⟩) (.inl hXX) (.slice Aa na ca)).setCell (p := ⟨X, 2, none⟩) (.inl hXX) (.slice Ab nb cb)
    have hbw := (((K2.out.below.trans (hb3.mono K2.out.below.size)).setCell (p := ⟨X, 0, none⟩) hXlo (.int .u8 (t3.toNat : Int))).setCell (p := ⟨X, 1, none⟩) hXlo (.slice Aa na ca)).setCell (p := ⟨X, 2, none⟩) hXlo (.slice Ab nb cb)
    have H3 := Lib.hid (And.intro htold (And.intro q1 (And.intro q2 (And.intro q3 (And.intro hbw hset)))))
    clear hp htold q1 q2 q3 hb3 hB3 hset hbw hXX
    go_wp2_with fail
    go_meet
    exact ⟨er3, t3, b3, r3, rest3, Aa, na, ca, Ab, nb, cb, Ac, nc, cc, rfl, rfl, H3.out.1, by simpa using H3.out.2.2.2.2.2, hXlo, rdOf H3.out.2.1 (by simp), rdOf H3.out.2.2.1 (by simp), rdOf H3.out.2.2.2.1 (by simp), H3.out.2.2.2.2.1⟩
  obtain ⟨er3, t3, b3, r3, rest3, Aa, na, ca, Ab, nb, cb, Ac, nc, cc, rfl, rfl, hPX⟩ := hcut
  obtain ⟨W3, hW3⟩ : ∃ W3, W3 = wc := ⟨_, rfl⟩
  subst hW3
  have K3 := Lib.hid (R0.out _ hPX.below)
  have HP := Lib.hid hPX
  clear hPX HB0 K2
  apply_assumption
  refine wp_seq_k fun K hK => ?_
  go_cut [] from 18 (fun wx => Below w.heap.size w wx)
  case first => as_aux_lemma =>
    obtain ⟨k, _⟩ := HP.out.blk.facts
    have k0 : W3.cell? ⟨X, 0, none⟩ = some (.int .u8 (t3.toNat : Int)) := k 0
    have k1 : W3.cell? ⟨X, 1, none⟩ = some (.slice Aa na ca) := k 1
    have k2 : W3.cell? ⟨X, 2, none⟩ = some (.slice Ab nb cb) := k 2
    have hXl := HP.out.blk.lt
    clear k
    rcases HP.out.told with ⟨hel, rfl⟩ | ⟨_, rfl⟩
    · obtain ⟨hr, hys, _, hb32⟩ := Der.elem_inv hel
      subst hr
      have hlen : b3.length ≤ 8192 ∧ rest3.length ≤ 8192 ∧ (Der.write t3 b3).length ≤ 8192 := by
        have e := congrArg List.length hys
        have e2 := Der.write_len t3 b3
        rw [HL.out.2.1, List.length_append] at e
        omega
      have hjl : cat [(Value.slice Ab nb cb, Der.write t3 b3), (Value.slice Ac nc cc, rest3)] = ys := by rw [hys]; simp [cat]
      have hnb : na = b3.length := HP.out.body.len.symm
      have HQ := Lib.hid (And.intro hlen (And.intro hjl hnb))
      have hnb' : na ≤ 8192 := by omega
      have hy2 : ys.length ≤ 8192 := by rw [HL.out.2.1]; exact g2
      clear hel hys hb32 hlen hjl hnb
      go_upto_region 15 with fail
      go_region_held3 (fun w' => w'.cell? ⟨X, 0, none⟩ = some (.int .u8 (t3.toNat : Int)) ∧ w'.cell? ⟨X, 1, none⟩ = some (.slice Aa na ca) ∧ w'.cell? ⟨X, 2, none⟩ = some (.slice Ab nb cb)) (go_keep)
        (first
          | (go_at_call 6; ((with_reducible refine (write_any t3 Aa na ca b3 _ (HP.out.body.up (by (repeat (first | exact Below.refl _ _ | assumption | (refine Below.setCell ?_ (by first | omega | (simp; done) | (simp; omega)) _) | (refine Below.alloc ?_ (by first | omega | (simp; done) | (simp; omega)) _) | (refine below_drewN ?_ _) | (refine Below.drew ?_))))) (by omega)).mono ?_); rintro e w5 ⟨A9, n9, c9, rfl, ho9, hb9⟩); have hbw5 : Below W3.heap.size W3 w5 := Below.trans (by (repeat (first | exact Below.refl _ _ | assumption | (refine Below.setCell ?_ (by first | omega | (simp; done) | (simp; omega)) _) | (refine Below.alloc ?_ (by first | omega | (simp; done) | (simp; omega)) _) | (refine below_drewN ?_ _) | (refine Below.drew ?_)))) (hb9.mono (by simp)); have r9 : Rd w5 w5.heap.size A9 n9 c9 (Der.write t3 b3) := rdOf ho9 (Nat.le_refl _); have rb5 := HP.out.raw.up hbw5; have rr5 := HP.out.rest.up hbw5; have k50 := (hbw5.cell (p := ⟨X, 0, none⟩) hXl).trans k0; have k51 := (hbw5.cell (p := ⟨X, 1, none⟩) hXl).trans k1; have k52 := (hbw5.cell (p := ⟨X, 2, none⟩) hXl).trans k2)
          | (go_at_call 9; ((with_reducible refine (eqbytes_same A9 Ab n9 c9 nb cb (Der.write t3 b3) w5.heap.size w5.heap.size _ (r9.keep fun _ _ => rfl) (rb5.keep fun _ _ => rfl)).mono ?_); rintro e w6 ⟨rfl, hw6⟩); have hw6 := hw6.symm; subst hw6)
          | (go_at_call 9; ((with_reducible refine (eqbytes_same A10 A2 n10 c10 n2 c2 ys w7.heap.size w7.heap.size _ (r10.keep fun _ _ => rfl) (ry7.keep fun _ _ => rfl)).mono ?_); rintro e w8 ⟨rfl, hw8⟩); have hw8 := hw8.symm; subst hw8)
          | (go_at_call 8; ((with_reducible refine (join_any (some ⟨w5.heap.size, 0, none⟩) 2 2 [(Value.slice Ab nb cb, Der.write t3 b3), (Value.slice Ac nc cc, rest3)] _ ((RdL.lit w5 22 [(Value.slice Ab nb cb, Der.write t3 b3), (Value.slice Ac nc cc, rest3)] [.slice Ab nb cb, .slice Ac nc cc] w5.heap.size 2 rfl rfl rfl (by omega) (rdTwo rb5 rr5)).keep fun _ _ => rfl) (by omega) (by rw [HQ.out.2.1]; omega)).mono ?_); rintro e w7 ⟨A10, n10, c10, rfl, ho10, hb10⟩); rw [HQ.out.2.1] at ho10; have hbw7 : Below W3.heap.size W3 w7 := hbw5.trans (Below.trans ((Below.refl _ _).alloc hbw5.size _) (hb10.mono (by have := hbw5.size; simp; omega))); have k70 := (hbw7.cell (p := ⟨X, 0, none⟩) hXl).trans k0; have k71 := (hbw7.cell (p := ⟨X, 1, none⟩) hXl).trans k1; have k72 := (hbw7.cell (p := ⟨X, 2, none⟩) hXl).trans k2; have r10 : Rd w7 w7.heap.size A10 n10 c10 ys := rdOf ho10 (Nat.le_refl _); have ry7 := K3.out.more.up hbw7))
      go_wp2_with fail
      go_meet
      exact K3.out.below.trans (hbw7.mono K3.out.below.size)
    · have f9 : ((9 : Int) == 0) = false := by decide
      go_upto_region 15 with fail
      go_quiet (fail)
      go_wp2_with fail
      go_meet
      exact Below.trans K3.out.below (by (repeat (first | exact Below.refl _ _ | assumption | (refine Below.setCell ?_ (by first | omega | (simp; done) | (simp; omega)) _) | (refine Below.alloc ?_ (by first | omega | (simp; done) | (simp; omega)) _) | (refine below_drewN ?_ _) | (refine Below.drew ?_))))
  obtain ⟨W4, hW4⟩ : ∃ W4, W4 = wc := ⟨_, rfl⟩
  subst hW4
  have K4 := Lib.hid (R0.out _ hcut)
  clear hcut HP K3 hXlo
  apply_assumption
  -- Int(b)
  go_upto_region 17 with fail
  go_cut [11, 12] from 18 (fun s11 s12 wx => ∃ A n c, s11 = .slice A n c ∧ s12 = .bool (Der.int xs).isSome ∧ Rd wx wx.heap.size A n c ((Der.int xs).getD []) ∧ Below w.heap.size w wx)
  case first => as_aux_lemma =>
    go_wp2_with fail
    refine (int_any A1 n1 c1 xs _ K4.out.b (by omega)).mono ?_
    rintro e w5 hp
    obtain ⟨A5, n5, c5, rfl, r5, hb5⟩ := hp.one
    have H5 := Lib.hid (And.intro r5 (K4.out.below.trans (hb5.mono K4.out.below.size)))
    clear hp r5 hb5
    go_wp2_with fail
    go_meet
    exact ⟨A5, n5, c5, rfl, rfl, H5.out.1, H5.out.2⟩
  obtain ⟨A5, n5, c5, rfl, rfl, r5, hcut⟩ := hcut
  obtain ⟨W5, hW5⟩ : ∃ W5, W5 = wc := ⟨_, rfl⟩
  subst hW5
  have K5 := Lib.hid (R0.out _ hcut)
  have H5 := Lib.hid r5
  obtain ⟨is, his⟩ : ∃ is, (Der.int xs).isSome = is := ⟨_, rfl⟩
  rw [his]
  have HIS := Lib.hid his
  clear hcut r5 K4 his
  apply_assumption
  refine wp_seq_k fun K hK => ?_
  go_cut [] from 18 (fun wx => Below w.heap.size w wx)
  case first => as_aux_lemma =>
    have h5 := H5.out
    cases is
    · clear h5
      go_wp2_with fail
      go_meet
      exact K5.out.below
    · obtain ⟨num, hi⟩ := Option.isSome_iff_exists.1 HIS.out
      rw [hi] at h5
      dsimp only [Option.getD_some] at h5
      obtain ⟨hpi, hhd⟩ := int_back hi
      have hil := int_len xs
      rw [hi] at hil
      dsimp only [Option.getD_some] at hil
      have hn5 : n5 ≤ 8192 := by rw [← h5.len]; rw [HL.out.1] at hil; omega
      have HS := Lib.hid (And.intro hpi (And.intro hhd h5))
      clear hi h5 hpi hhd hil
      go_wp2_with fail
      refine (putInt_any A5 n5 c5 num _ HS.out.2.2 (by omega)).mono ?_
      rintro e w6 ⟨A6, n6, c6, rfl, ho6, hb6⟩
      rw [HS.out.1] at ho6
      have e6 := Lib.hid (eqbytes_same A6 A1 n6 c6 n1 c1 xs _ _ w6 (rdOf ho6 (Nat.le_refl _)) (K5.out.b.up hb6))
      have H6 := Lib.hid (And.intro (K5.out.below.trans (hb6.mono K5.out.below.size)) (HS.out.2.2.up hb6))
      clear ho6 hb6
      go_wp2_with fail
      refine e6.out.mono ?_
      rintro e w7 ⟨rfl, rfl⟩
      by_cases h0 : n5 = 0
      · subst h0
        go_wp2_with fail
        go_meet
        exact H6.out.1
      · have h0' : (0 : Int) < n5 := by omega
        have h0'' : 0 < n5 := by omega
        obtain ⟨b5, o5, rfl, _, hc5⟩ := H6.out.2.at_ h0''
        obtain ⟨y, hy⟩ : ∃ y, num[0]? = some y := ⟨num[0]'(by rw [HS.out.2.2.len]; exact h0''), List.getElem?_eq_getElem _⟩
        have hc0 := hc5 0 y hy
        rw [Nat.add_zero] at hc0
        have hy0 : ((y.toNat : Int) == 0) = false := by
          have : y ≠ 0 := fun e => HS.out.2.1 (by rw [List.head?_eq_getElem?, hy, e])
          have : y.toNat ≠ 0 := fun e => this (UInt8.toNat_inj.1 e)
          simp; omega
        clear hc5 hy
        go_wp2_with fail
        go_meet
        exact H6.out.1
  obtain ⟨W6, hW6⟩ : ∃ W6, W6 = wc := ⟨_, rfl⟩
  subst hW6
  have K6 := Lib.hid (R0.out _ hcut)
  clear hcut H5 K5
  apply_assumption
  -- Int(PutInt(b))
  go_upto_region 20 with fail
  go_cut [11, 12] from 18 (fun s11 s12 wx => ∃ A n c, s11 = .slice A n c ∧ s12 = .bool true ∧ Rd wx wx.heap.size A n c (Der.trim xs) ∧ Below w.heap.size w wx)
  case first => as_aux_lemma =>
    go_wp2_with fail
    refine (putInt_any A1 n1 c1 xs _ K6.out.b (by omega)).mono ?_
    rintro e w7 ⟨A7, n7, c7, rfl, ho7, hb7⟩
    have r7 := rdOf ho7 (Nat.le_refl _)
    have hn7 : n7 ≤ 8200 := by
      have := putInt_len xs
      rw [r7.len, HL.out.1] at this
      omega
    have H7 := Lib.hid (And.intro r7 (K6.out.below.trans (hb7.mono K6.out.below.size)))
    clear ho7 hb7 r7
    go_wp2_with fail
    refine (int_any A7 n7 c7 _ _ H7.out.1 (by omega)).mono ?_
    rintro e w8 hp
    obtain ⟨A8, n8, c8, rfl, r8, hb8⟩ := hp.one
    rw [int_putInt] at r8 ⊢
    have H8 := Lib.hid (And.intro r8 (H7.out.2.trans (hb8.mono H7.out.2.size)))
    clear hp r8 hb8
    go_wp2_with fail
    go_meet
    exact ⟨A8, n8, c8, rfl, rfl, H8.out.1, H8.out.2⟩
  obtain ⟨A8, n8, c8, rfl, rfl, r8, hcut⟩ := hcut
  obtain ⟨W8, hW8⟩ : ∃ W8, W8 = wc := ⟨_, rfl⟩
  subst hW8
  have K8 := Lib.hid (R0.out _ hcut)
  have H8 := Lib.hid r8
  have hn8 : n8 ≤ 8192 := by
    have := trim_len xs
    rw [r8.len, HL.out.1] at this
    omega
  clear hcut r8 K6
  apply_assumption
  refine wp_seq_k fun K hK => ?_
  go_cut [] from 18 (fun wx => Below w.heap.size w wx)
  case first => as_aux_lemma =>
    go_wp2_with fail
    refine (putInt_any A8 n8 c8 _ _ H8.out (by omega)).mono ?_
    rintro e w9 ⟨A9, n9, c9, rfl, ho9, hb9⟩
    rw [putInt_trim] at ho9
    have H9 := Lib.hid (And.intro (rdOf ho9 (Nat.le_refl _)) (K8.out.step hb9))
    clear ho9 hb9
    go_wp2_with fail
    refine (putInt_any A1 n1 c1 xs _ H9.out.2.b (by omega)).mono ?_
    rintro e w10 ⟨A10, n10, c10, rfl, ho10, hb10⟩
    have e10 := Lib.hid (eqbytes_same A9 A10 n9 c9 n10 c10 _ _ _ w10 (H9.out.1.up hb10) (rdOf ho10 (Nat.le_refl _)))
    have H10 := Lib.hid (H9.out.2.step hb10)
    clear ho10 hb10
    go_wp2_with fail
    refine e10.out.mono ?_
    rintro e w11 ⟨rfl, rfl⟩
    go_wp2_with fail
    go_meet
    exact H10.out.below
  obtain ⟨W9, hW9⟩ : ∃ W9, W9 = wc := ⟨_, rfl⟩
  subst hW9
  have K9 := Lib.hid (R0.out _ hcut)
  clear hcut H8 K8
  apply_assumption
  -- Oid(b)
  go_upto_region 23 with fail
  go_cut [13, 12] from 18 (fun s13 s12 wx => ∃ A n c, s13 = .slice A n c ∧ s12 = .bool (Der.oid xs).isSome ∧ RdU wx wx.heap.size A n c ((Der.oid xs).getD []) ∧ n ≤ 2 * xs.length ∧ Below w.heap.size w wx)
  case first => as_aux_lemma =>
    go_wp2_with fail
    refine (oid_any A1 n1 c1 xs _ K9.out.b (by omega)).mono ?_
    rintro e w5 hp
    obtain ⟨A5, n5, c5, rfl, r5, hn5, hb5⟩ := hp.one
    have H5 := Lib.hid (And.intro r5 (And.intro hn5 (K9.out.below.trans (hb5.mono K9.out.below.size))))
    clear hp r5 hb5 hn5
    go_wp2_with fail
    go_meet
    exact ⟨A5, n5, c5, rfl, rfl, H5.out.1, H5.out.2.1, H5.out.2.2⟩
  obtain ⟨A5, n5, c5, rfl, rfl, r5, hn5, hcut⟩ := hcut
  obtain ⟨Wa, hWa⟩ : ∃ Wa, Wa = wc := ⟨_, rfl⟩
  subst hWa
  have Ka := Lib.hid (R0.out _ hcut)
  have H5 := Lib.hid r5
  rw [HL.out.1] at hn5
  obtain ⟨is2, his⟩ : ∃ is2, (Der.oid xs).isSome = is2 := ⟨_, rfl⟩
  rw [his]
  have HIS2 := Lib.hid his
  clear hcut r5 K9 his HIS
  apply_assumption
  refine wp_seq_k fun K hK => ?_
  go_cut [] from 18 (fun wx => Below w.heap.size w wx)
  case first => as_aux_lemma =>
    have h5 := H5.out
    cases is2
    · clear h5
      go_wp2_with fail
      go_meet
      exact Ka.out.below
    · obtain ⟨arcs, hi⟩ := Option.isSome_iff_exists.1 HIS2.out
      rw [hi] at h5
      dsimp only [Option.getD_some] at h5
      have hpi := Der.oid_put hi
      have HS := Lib.hid (And.intro hpi h5)
      clear hi h5 hpi
      go_wp2_with fail
      refine (putOid_any A5 n5 c5 arcs _ HS.out.2 (by omega)).mono ?_
      rintro e w6 ⟨A6, n6, c6, rfl, ho6, hb6⟩
      rw [HS.out.1] at ho6
      have e6 := Lib.hid (eqbytes_same A6 A1 n6 c6 n1 c1 xs _ _ w6 (rdOf ho6 (Nat.le_refl _)) (Ka.out.b.up hb6))
      have H6 := Lib.hid (Ka.out.below.trans (hb6.mono Ka.out.below.size))
      clear ho6 hb6
      go_wp2_with fail
      refine e6.out.mono ?_
      rintro e w7 ⟨rfl, rfl⟩
      go_wp2_with fail
      go_meet
      exact H6.out
  obtain ⟨Wb, hWb⟩ : ∃ Wb, Wb = wc := ⟨_, rfl⟩
  subst hWb
  have Kb := Lib.hid (R0.out _ hcut)
  clear hcut H5 Ka hn5
  apply_assumption
  -- PutOid(arcs)
  go_upto_region 26 with fail
  go_cut [14] from 18 (fun s14 wx => ∃ A n c, s14 = .slice A n c ∧ Rd wx wx.heap.size A n c (Der.putOid zs) ∧ Below w.heap.size w wx)
  case first => as_aux_lemma =>
    go_wp2_with fail
    refine (putOid_any A3 n3 c3 zs _ Kb.out.arcs (by omega)).mono ?_
    rintro e w5 ⟨A6, n6, c6, rfl, ho6, hb6⟩
    have H5 := Lib.hid (And.intro (rdOf ho6 (Nat.le_refl _)) (Kb.out.below.trans (hb6.mono Kb.out.below.size)))
    clear ho6 hb6
    go_wp2_with fail
    go_meet
    exact ⟨A6, n6, c6, rfl, H5.out.1, H5.out.2⟩
  obtain ⟨A6, n6, c6, rfl, r6, hcut⟩ := hcut
  obtain ⟨Wc, hWc⟩ : ∃ Wc, Wc = wc := ⟨_, rfl⟩
  subst hWc
  have Kc := Lib.hid (R0.out _ hcut)
  have H6 := Lib.hid r6
  have hn6 : n6 ≤ 1000 := by
    have := putOid_len zs Kc.out.arcs.2
    rw [r6.len, HL.out.2.2] at this
    omega
  clear hcut r6 Kb
  apply_assumption
  go_upto_region 27 with fail
  go_cut [13, 12] from 18 (fun s13 s12 wx => ∃ A n c, s13 = .slice A n c ∧ s12 = .bool (Der.oid (Der.putOid zs)).isSome ∧ RdU wx wx.heap.size A n c ((Der.oid (Der.putOid zs)).getD []) ∧ n ≤ 2000 ∧ Below Wc.heap.size Wc wx)
  case first => as_aux_lemma =>
    go_wp2_with fail
    refine (oid_any A6 n6 c6 _ _ H6.out (by omega)).mono ?_
    rintro e w5 hp
    obtain ⟨A5, n5, c5, rfl, r5, hn5, hb5⟩ := hp.one
    rw [H6.out.len] at hn5
    have H5 := Lib.hid (And.intro r5 (And.intro hn5 hb5))
    clear hp r5 hb5 hn5
    go_wp2_with fail
    go_meet
    exact ⟨A5, n5, c5, rfl, rfl, H5.out.1, by have := H5.out.2.1; omega, H5.out.2.2⟩
  obtain ⟨A5, n5, c5, rfl, rfl, r5, hn5, hcut⟩ := hcut
  obtain ⟨Wd, hWd⟩ : ∃ Wd, Wd = wc := ⟨_, rfl⟩
  subst hWd
  have Kd := Lib.hid (Kc.out.step hcut)
  have H5 := Lib.hid r5
  obtain ⟨is3, his⟩ : ∃ is3, (Der.oid (Der.putOid zs)).isSome = is3 := ⟨_, rfl⟩
  rw [his]
  have HIS3 := Lib.hid his
  clear hcut r5 his HIS2
  apply_assumption
  refine wp_seq_k fun K hK => ?_
  go_cut [] from 18 (fun wx => Below w.heap.size w wx)
  case first => as_aux_lemma =>
    have h5 := H5.out
    have h6 := H6.out.len
    rcases oid_putOid zs Kd.out.arcs.2 with hz | hz
    · rw [hz] at h6
      obtain rfl : n6 = 0 := h6.symm
      clear h6 h5 hz
      go_wp2_with fail
      go_meet
      exact Kd.out.below
    · rw [hz] at h5
      dsimp only [Option.getD_some] at h5
      have h3 := HIS3.out
      rw [hz] at h3
      dsimp only [Option.isSome_some] at h3
      subst h3
      have e6 := Lib.hid (eqU_same A5 A3 n5 c5 n3 c3 zs Wd h5 Kd.out.arcs (by omega))
      clear h5 h6 hz
      by_cases h0 : n6 = 0
      · subst h0
        go_wp2_with fail
        go_meet
        exact Kd.out.below
      · have h0' : (0 : Int) < n6 := by omega
        go_wp2_with fail
        refine e6.out.mono ?_
        rintro e w7 ⟨rfl, hb7⟩
        have H7 := Lib.hid (Kd.out.below.trans (hb7.mono Kd.out.below.size))
        clear hb7
        go_wp2_with fail
        go_meet
        exact H7.out
  obtain ⟨We, hWe⟩ : ∃ We, We = wc := ⟨_, rfl⟩
  subst hWe
  have Ke := Lib.hid (R0.out _ hcut)
  clear hcut H5 H6 Kc Kd hn5 hn6
  apply_assumption
  -- All(more)
  go_wp2_with fail
  refine (all_any A2 n2 c2 ys _ Ke.out.more (by omega)).mono ?_
  rintro e w5 ⟨hb5, ⟨_, rfl⟩ | ⟨l, A, m, c, hseq, rfl, hE⟩⟩
  · have H5 := Lib.hid (Ke.out.below.trans (hb5.mono Ke.out.below.size))
    clear hb5
    go_wp2_with fail
    refine (works_any _).mono ?_
    rintro e w6 ⟨rfl, hb6⟩
    go_wp2
    go_ret
    exact ⟨rfl, H5.out.trans (hb6.mono H5.out.size)⟩
  · have hlm : l.length = m := by
      obtain ⟨_, _, e, _⟩ := hE.1.shape
      injection e with _ e2 _
      exact e2.symm
    have hl8 : m ≤ 8192 := by
      have h1 := congrArg List.length hseq
      rw [List.length_map, hlm] at h1
      have h2 := seqF_len ys.length ys
      have h3 : (Der.seq ys).length ≤ ys.length := h2
      rw [HL.out.2.1] at h3
      omega
    have hraw : ∀ p ∈ l.map (fun x => ((x.vr, x.raw) : Value × List UInt8)), p.2.length ≤ 8192 := by
      intro p hp
      obtain ⟨x, hx, rfl⟩ := List.mem_map.1 hp
      have hm : some x.dat ∈ Der.seq ys := by rw [hseq]; exact List.mem_map.2 ⟨x, hx, rfl⟩
      have := seqF_mem ys.length ys x.t x.body x.raw hm
      rw [HL.out.2.1] at this
      dsimp only
      omega
    have hw5 := Ke.out.below.trans (hb5.mono Ke.out.below.size)
    have HE := Lib.hid (And.intro hE (And.intro hseq (And.intro hlm (And.intro hraw hw5))))
    clear hE hseq hlm hraw hb5 hw5
    go_wp2_with fail
    go_loopw [16, 17] (fun v i wr => ∃ k : Nat, k ≤ m ∧ i = .int .i64 k ∧ OwnC 22 1 wr w5.heap.size wr.heap.size v k (vals ((l.map fun x => (x.vr, x.raw)).take k)) ∧ Below w5.heap.size w5 wr) (fun _ i _ => m - (intOf i).toNat)
    case atStart => exact ⟨0, Nat.zero_le _, rfl, OwnC.nil_, Below.refl _ _⟩
    case round =>
      obtain ⟨k, hk, rfl, ho, hb⟩ := hrel
      have hsz := hb.size
      by_cases hlt : k < m
      · have hlt' : (k : Int) < m := by omega
        obtain ⟨g, tt, Ab1, nb1, cb1, body, Ar, nr, cr, raw, rfl, hg, hx, q0, q1, q2, rr1, rr2⟩ := HE.out.1.at_ hb (Nat.le_refl _) hlt
        have hta : (l.map fun x => ((x.vr, x.raw) : Value × List UInt8))[k]? = some (.slice Ar nr cr, raw) := by rw [List.getElem?_map, hx]; rfl
        have hvt := vals_take hta
        have HO := Lib.hid (And.intro ho (And.intro hb hvt))
        clear ho hb hvt hta hx rr1 rr2 q0 q1
        go_wp2_with
          (at_builtin
           refine wpList_appC rfl (.tmp 199) (.tmp 205) 46 rfl 22 _ 1 24 bs_info Tryd.underlying46 rfl (by omega) w5.heap.size wr.heap.size _ k (vals ((l.map fun x => (x.vr, x.raw)).take k)) rfl (HO.out.1.alloc (Nat.le_refl _) _) (by simp; omega) _ _ 1 1 [.slice Ar nr cr] rfl (Reads.one _ _ _) (by simp [Value.oneCell']) (by omega) (by omega) ?_
           intro v6 w6 ho6 hg6 hat6 hb6
           have H6 := Lib.hid (And.intro ho6 hb6)
           clear ho6 hg6 hat6 hb6)
        go_roundw
        case rel =>
          refine ⟨k + 1, by omega, by go_num, ?_, HO.out.2.1.trans (Below.trans ((Below.refl _ _).alloc hsz _) H6.out.2)⟩
          have e : ∀ j, vals ((l.map fun x => ((x.vr, x.raw) : Value × List UInt8)).take j) = (vals (l.map fun x => ((x.vr, x.raw) : Value × List UInt8))).take j := fun j => by simp [vals, List.map_take]
          have h6 := H6.out.1
          rw [e] at h6 ⊢
          rw [HO.out.2.2]
          exact h6
        case measure => simp [intOf]; omega
      · obtain rfl : m = k := by omega
        have hge : ¬ (m : Int) < m := by omega
        obtain ⟨T, hT⟩ : ∃ T, (l.map fun x => ((x.vr, x.raw) : Value × List UInt8)) = T := ⟨_, rfl⟩
        have hTl : T.length = m := by rw [← hT, List.length_map]; exact HE.out.2.2.1
        rw [hT, List.take_of_length_le (by omega)] at ho
        obtain ⟨Av, cv, rfl, hcap, hcapm, _, hrds⟩ := ho.shape
        have hTr : RdL wr wr.heap.size Av m cv T := ⟨hTl, hcap, hcapm, hrds, fun v xs hm => by
          rw [← hT] at hm
          obtain ⟨x, hx, e⟩ := List.mem_map.1 hm
          injection e with e1 e2
          subst e1 e2
          exact ((HE.out.1.2.1 (x.vr, x.raw) (List.mem_flatMap.2 ⟨x, hx, by simp [EI.rows]⟩)).rd |> fun ⟨A', n', c', e, r⟩ => ⟨A', n', c', e, (r.below hb).more hsz⟩)⟩
        have hcl := cat_le T (fun p hp => HE.out.2.2.2.1 p (by rw [hT]; exact hp))
        have hso := Lib.hid (sets_any Av m cv T wr hTr (by omega) (by rw [hTl] at hcl; omega))
        have HT := Lib.hid (And.intro hT hb)
        clear hTr hcl hrds ho hcap hcapm hT hTl
        go_wp2_with fail
        refine hso.out.mono ?_
        rintro e w6 ⟨S, hSp, hSo, A7, n7, c7, rfl, ho7, hb7⟩
        have hset := set_sorted HE.out.2.1 (by rw [HT.out.1]; exact hSp) hSo
        have hsa := Lib.hid (set_any A7 n7 c7 _ w6 (rdOf ho7 (Nat.le_refl _)))
        have H7 := Lib.hid (And.intro hset (HE.out.2.2.2.2.trans ((HT.out.2.trans (hb7.mono hsz)).mono HE.out.2.2.2.2.size)))
        clear ho7 hb7 hSp hSo hset
        go_wp2_with fail
        refine hsa.out.mono ?_
        rintro e w8 ⟨rfl, hb8⟩
        rw [H7.out.1]
        have H8 := Lib.hid (H7.out.2.trans (hb8.mono H7.out.2.size))
        clear hb8
        go_wp2_with fail
        refine (works_any _).mono ?_
        rintro e w9 ⟨rfl, hb9⟩
        go_wp2
        go_ret
        exact ⟨rfl, H8.out.trans (hb9.mono H8.out.size)⟩

theorem derBack_walk (w : World) (t : UInt8) (A1 : Option Addr) (n1 c1 : Nat) (xs : List UInt8) (A2 : Option Addr) (n2 c2 : Nat) (ys : List UInt8) (A3 : Option Addr) (n3 c3 : Nat) (zs : List Nat) (r1 : Rd w w.heap.size A1 n1 c1 xs) (r2 : Rd w w.heap.size A2 n2 c2 ys) (r3 : RdU w w.heap.size A3 n3 c3 zs) :
    Calls Tryd.prog 3 #[.agg #[.int .u8 (t.toNat : Int), .slice A1 n1 c1, .slice A2 n2 c2, .slice A3 n3 c3]] w (BackPost w) := by
  by_cases h : (8192 : Int) < n1 ∨ (8192 : Int) < n2 ∨ (100 : Int) < n3
  · exact back_large t A1 A2 A3 n1 c1 n2 c2 n3 c3 w h
  · exact back_main t A1 A2 A3 n1 c1 n2 c2 n3 c3 xs ys zs w r1 r2 r3 (fun e => h (.inl e)) (fun e => h (.inr (.inl e))) (fun e => h (.inr (.inr e)))
end Go.Proofs.YtnfngnmajjkdbaaDoor
