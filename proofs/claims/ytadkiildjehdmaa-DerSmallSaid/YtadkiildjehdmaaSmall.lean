/- The walk of the law DerSmall. -/
import Derived.Test.YtadkiildjehdmaaPut2
import Derived.Test.YtadkiildjehdmaaWorks
import Derived.Test.YtadkiildjehdmaaApart2
import Derived.Test.YtadkiildjehdmaaOpen
namespace Go.Proofs.Ytadkiildjehdmaa
open Go.RowKit
set_option maxRecDepth 1000000
set_option linter.unusedVariables false
set_option linter.unusedSimpArgs false

def SmallPost (w : World) (e : Ending) (w' : World) : Prop := e = .returned (.bool true) ∧ Below w.heap.size w w'

theorem OwnC.rdc {e : TypeId} {n : Nat} {w : World} {lo hi : Nat} {v : Value} {cs : List Value} (h : OwnC e 1 w lo hi v n cs) : ∃ A c, v = .slice A n c ∧ RdC w hi A n c cs := by
  have hl : cs.length = n := by have := h.1.1; omega
  obtain ⟨A, c, rfl, h1, h2, h3, h4⟩ := h.shape
  refine ⟨A, c, rfl, hl, h1, h2, h3, fun h0 => ?_, h4⟩
  rcases h.1.2 with ⟨e1, _⟩ | ⟨g, cap, cur, e1, _⟩
  · simp only [Value.slice.injEq] at e1; omega
  · simp only [Value.slice.injEq] at e1
    obtain ⟨rfl, _, rfl⟩ := e1
    exact ⟨g, 0, rfl, h.2 g rfl⟩
theorem OwnU.rdu {w : World} {lo hi : Nat} {v : Value} {zs : List Nat} (h : OwnU w lo hi v zs) (hz : ∀ z ∈ zs, z < 18446744073709551616) : ∃ A c, v = .slice A zs.length c ∧ RdU w hi A zs.length c zs := by
  obtain ⟨A, c, e, hr⟩ := OwnC.rdc h
  exact ⟨A, c, e, hr, hz⟩

/-- The same numbers. -/
theorem eq_same (A A' : Option Addr) (n c c' : Nat) (zs : List Nat) (B B' : Nat) (w : World) (h : RdU w B A n c zs) (h' : RdU w B' A' n c' zs) (hn : n ≤ 1099511627) :
    Calls Try.prog 37 #[.slice A n c, .slice A' n c'] w fun e w' => e = .returned (.bool true) ∧ ∃ k, w' = w.drewN k := by
  have hne : ((n : Int) != n) = false := by simp
  have H := Lib.hid (And.intro h h')
  clear h h'
  go_enter Try.func37, Try.ntmps37
  go_wp2
  go_loopw [5] (fun i wr => ∃ k : Nat, k ≤ n ∧ i = .int .i64 k ∧ ∃ j, wr = w.drewN j) (fun i _ => n - (intOf i).toNat)
  case atStart => exact ⟨0, Nat.zero_le _, rfl, 0, rfl⟩
  case round =>
    obtain ⟨k, hk, rfl, j, rfl⟩ := hrel
    by_cases hlt : k < n
    · have hlt' : (k : Int) < n := by omega
      obtain ⟨b, o, z, rfl, _, hz, _, hc⟩ := H.out.1.get hlt
      obtain ⟨b', o', z', rfl, _, hz', _, hc'⟩ := H.out.2.get hlt
      rw [hz] at hz'
      injection hz' with hz'
      subst hz'
      clear hz
      go_wp2
      go_quiet (fail)
      go_wp2
      go_roundw
      case rel => exact ⟨k + 1, by omega, by go_num, _, rfl⟩
      case measure => simp [intOf]; omega
    · obtain rfl : n = k := by omega
      have hge : ¬ (n : Int) < n := by omega
      go_wp2
      go_ret
      exact ⟨rfl, _, rfl⟩

namespace Der
theorem sev_small {z : Nat} (h : z < 128) : sev z = [UInt8.ofNat z] := by
  unfold sev sevL
  rw [show z / 128 = 0 by omega, sevT_zero, Nat.mod_eq_of_lt h]
  rfl
theorem sevs_small : ∀ (l : List Nat), (∀ z ∈ l, z < 128) → sevs l = l.map UInt8.ofNat
  | [], _ => rfl
  | z :: r, h => by
    have ih := sevs_small r fun y hy => h y (by simp [hy])
    simp only [sevs, List.flatMap_cons, List.map_cons] at ih ⊢
    rw [ih, sev_small (h z (by simp))]
    rfl
theorem putOid_small (p q : Nat) (rs : List Nat) (hp : p < 3) (hq : q < 40) (h : ∀ z ∈ rs, z < 128) : putOid (p :: q :: rs) = UInt8.ofNat (40 * p + q) :: rs.map UInt8.ofNat := by
  rw [putOid, if_pos (by simp [putOk]; omega), sev_small (by omega), sevs_small rs h]
  rfl
theorem oidFrom_small : ∀ (rs : List Nat) (arcs : List Nat), arcs ≠ [] → (∀ z ∈ rs, z < 128) → oidFrom ⟨arcs, 0, false⟩ (rs.map UInt8.ofNat) = some ⟨arcs ++ rs, 0, false⟩
  | [], arcs, _, _ => by simp [oidFrom]
  | z :: r, arcs, ha, h => by
    have hz := h z (by simp)
    have ez : (UInt8.ofNat z).toNat = z := by rw [UInt8.toNat_ofNat']; omega
    rw [List.map_cons, oidFrom]
    have hst : oidStep ⟨arcs, 0, false⟩ (UInt8.ofNat z) = some ⟨arcs ++ [z], 0, false⟩ := by
      unfold oidStep
      simp only [ez]
      rw [if_neg (by rintro (h1 | ⟨_, h1⟩) <;> omega), if_neg (by omega), if_neg ha]
      simp [Nat.mod_eq_of_lt hz]
    rw [hst]
    simp only
    rw [oidFrom_small r _ (by simp) fun y hy => h y (by simp [hy])]
    simp
theorem oid_small (p q : Nat) (rs : List Nat) (hp : p < 3) (hq : q < 40) (h : ∀ z ∈ rs, z < 128) : oid (UInt8.ofNat (40 * p + q) :: rs.map UInt8.ofNat) = some (p :: q :: rs) := by
  have ez : (UInt8.ofNat (40 * p + q)).toNat = 40 * p + q := by rw [UInt8.toNat_ofNat']; omega
  have hst : oidStep ⟨[], 0, false⟩ (UInt8.ofNat (40 * p + q)) = some ⟨[p, q], 0, false⟩ := by
    unfold oidStep
    simp only [ez]
    rw [if_neg (by rintro (h1 | ⟨_, h1⟩) <;> omega), if_neg (by omega), if_pos trivial]
    have e1 : (0 * 128 + (40 * p + q) % 128) = 40 * p + q := by omega
    rw [e1]
    have e2 : min ((40 * p + q) / 40) 2 = p := by omega
    rw [e2]
    have e3 : 40 * p + q - 40 * p = q := by omega
    rw [e3]
  unfold oid
  rw [oidFrom, hst]
  simp only
  rw [oidFrom_small rs [p, q] (by simp) h]
  simp
end Der

theorem small_large (a0 a1 : Int) (A : Option Addr) (n c : Nat) (w : World) (hn : (200 : Int) < n) :
    Calls Try.prog 13 #[.int .u8 a0, .int .u8 a1, .slice A n c] w (SmallPost w) := by
  go_enter Try.func13, Try.ntmps13
  go_wp2_with fail
  refine (works_any _).mono ?_
  rintro e w1 ⟨rfl, hb1⟩
  go_wp2
  go_ret
  exact ⟨rfl, hb1⟩

/-- The arcs, and the bytes that are wanted. -/
def smallRs (xs : List UInt8) (k : Nat) : List Nat := (xs.take k).map fun x => x.toNat % 128
def SmallRel (w : World) (p q : Nat) (xs : List UInt8) (k : Nat) (v7 v8 : Value) (wr : World) : Prop :=
  OwnU wr w.heap.size wr.heap.size v7 (p :: q :: smallRs xs k) ∧ OwnB wr w.heap.size wr.heap.size v8 (UInt8.ofNat (40 * p + q) :: (smallRs xs k).map UInt8.ofNat) ∧ Below w.heap.size w wr
theorem smallRs_succ {xs : List UInt8} {k : Nat} {x : UInt8} (h : xs[k]? = some x) : smallRs xs (k + 1) = smallRs xs k ++ [x.toNat % 128] := by
  unfold smallRs
  rw [List.take_add_one, h]
  simp
theorem smallRs_lt (xs : List UInt8) (k : Nat) : ∀ z ∈ smallRs xs k, z < 128 := by
  intro z hz
  obtain ⟨x, _, rfl⟩ := List.mem_map.1 hz
  omega
theorem smallRs_len (xs : List UInt8) (k : Nat) (h : k ≤ xs.length) : (smallRs xs k).length = k := by simp [smallRs]; omega

set_option maxHeartbeats 2000000 in
theorem small_main (a b : UInt8) (A : Option Addr) (n c : Nat) (xs : List UInt8) (w : World) (h : Rd w w.heap.size A n c xs) (hn : ¬ (200 : Int) < n) :
    Calls Try.prog 13 #[.int .u8 (a.toNat : Int), .int .u8 (b.toNat : Int), .slice A n c] w (SmallPost w) := by
  have hl := h.len
  have H := Lib.hid (And.intro h hl)
  clear h hl
  obtain ⟨p, hp⟩ : ∃ p, a.toNat % 3 = p := ⟨_, rfl⟩
  obtain ⟨q, hq⟩ : ∃ q, b.toNat % 40 = q := ⟨_, rfl⟩
  have hp3 : (p : Int) < 3 := by omega
  have hq4 : (q : Int) < 40 := by omega
  have e1 : (a.toNat : Int) % 3 = p := by omega
  have e2 : (b.toNat : Int) % 40 = q := by omega
  clear hp hq
  have hrel0 : SmallRel w p q xs 0 (.slice (some ⟨w.heap.size, 0, none⟩) 2 2) (.slice (some ⟨w.heap.size + 1, 0, none⟩) 1 1) ((w.alloc (.cells #[.int .u64 (p : Int), .int .u64 (q : Int)] 59)).alloc (.cells #[.int .u8 (40 * (p : Int) + (q : Int))] 5)) := by
    refine ⟨?_, ?_, by (repeat (first | exact Below.refl _ _ | assumption | (refine Below.setCell ?_ (by first | omega | (simp; done) | (simp; omega)) _) | (refine Below.alloc ?_ (by first | omega | (simp; done) | (simp; omega)) _) | (refine below_drewN ?_ _) | (refine Below.drew ?_)))⟩
    · have h1 := World.ownsRow_lit (e := 59) (base := w.heap.size) (size := 1) w #[.int .u64 (p : Int), .int .u64 (q : Int)] 2 (Nat.le_refl _) (by simp [maxLen]) rfl
      exact (((OwnC.of h1).alloc (Nat.le_refl _) _).mono (Nat.le_refl _) (by simp))
    · have h1 := World.ownsRow_lit (e := 5) (base := w.heap.size) (size := 1) (w.alloc (.cells #[.int .u64 (p : Int), .int .u64 (q : Int)] 59)) #[.int .u8 (40 * (p : Int) + (q : Int))] 1 (by simp) (by simp [maxLen]) rfl
      refine OwnB.of (n := 1) ?_
      have hb : (UInt8.ofNat (40 * p + q) :: (smallRs xs 0).map UInt8.ofNat).map bv = [.int .u8 (40 * (p : Int) + (q : Int))] := by
        simp only [smallRs, List.take_zero, List.map_nil, List.map_cons]
        rw [bv_of (by omega)]
        simp
      rw [hb]
      simpa using h1
  have HR0 := Lib.hid hrel0
  clear hrel0
  go_enter Try.func13, Try.ntmps13
  go_wp2
  clear e1 e2
  go_loopw [7, 8, 9] (fun v7 v8 i wr => ∃ k : Nat, k ≤ n ∧ i = .int .i64 k ∧ SmallRel w p q xs k v7 v8 wr) (fun _ _ i _ => n - (intOf i).toNat)
  case atStart => exact ⟨0, Nat.zero_le _, rfl, HR0.out⟩
  case round =>
    obtain ⟨k, hk, rfl, ho7, ho8, hb⟩ := hrel
    have hsz := hb.size
    have hrl := smallRs_len xs k (by have := H.out.2; omega)
    by_cases hlt : k < n
    · have hlt' : (k : Int) < n := by omega
      obtain ⟨b0, o0, rfl, hbB, hcell⟩ := H.out.1.at_ (by omega)
      obtain ⟨x, hx, hcx⟩ := H.out.1.get hlt
      have hcx' : wr.cell? ⟨b0, o0 + k, none⟩ = some (.int .u8 (x.toNat : Int)) := (hb.cell (p := ⟨b0, o0 + k, none⟩) hbB).trans hcx
      obtain ⟨r, hr⟩ : ∃ r, x.toNat % 128 = r := ⟨_, rfl⟩
      have e3 : (x.toNat : Int) % 128 = r := by omega
      have hr1 : (r : Int) < 128 := by omega
      have hrs := smallRs_succ hx
      rw [hr] at hrs
      have HX := Lib.hid (And.intro ho7 (And.intro ho8 (And.intro hb (And.intro hrs (And.intro hrl hbB)))))
      clear ho7 ho8 hb hrs hrl hcell hcx hx hr
      go_wp2_with
        (first
          | (at_builtin
             refine wpList_appC rfl (.tmp 37) (.tmp 44) 60 rfl 59 _ 1 8 u64_info Try.underlying60 rfl (by omega) w.heap.size wr.heap.size _ (smallRs xs k).length.succ.succ _ rfl (HX.out.1.alloc (Nat.le_refl _) _) (by simp; omega) _ _ 1 1 [.int .u64 (r : Int)] rfl (Reads.one wr 59 _) (by simp [Value.oneCell']) (by have := HX.out.2.2.2.2.1; omega) (by have := HX.out.2.2.2.2.1; omega) ?_
             intro v2 w2 ho2 hg2 hat2 hb2
             have hcx2 : w2.cell? ⟨b0, o0 + k, none⟩ = some (.int .u8 (x.toNat : Int)) := (hb2.cell (p := ⟨b0, o0 + k, none⟩) HX.out.2.2.2.2.2).trans ((World.cell?_alloc_lt wr _ ⟨b0, o0 + k, none⟩ (by have := HX.out.2.2.2.2.2; simp; omega)).trans hcx')
             have ho8' := (HX.out.2.1.alloc (Nat.le_refl _) (.cells #[.int .u64 (r : Int)] 59))
             have ho8'' := ho8'.grown hg2 (ho8'.other (HX.out.1.alloc (Nat.le_refl _) _) (by decide))
             have hs2 := hg2.size
             have HY := Lib.hid (And.intro ho2 (And.intro ho8'' (And.intro hb2 hs2)))
             clear ho2 hg2 hat2 hb2 ho8' ho8'' hcx' hs2)
          | (at_builtin
             refine wpList_app rfl (.tmp 46) (.tmp 52) rfl w.heap.size wr.heap.size _ _ rfl (HY.out.2.1.alloc (by have := HY.out.2.2.2; simp at this; omega) _) (by have := HY.out.2.2.2; simp at this; simp; omega) _ _ 1 1 [UInt8.ofNat r] rfl (by rw [List.map_singleton, bv_of (by omega)]; exact Reads.one w2 5 _) (by have := HX.out.2.2.2.2.1; simp; omega) ?_
             intro v3 w3 ho3 hg3 hat3 hb3))
      go_roundw
      case rel =>
        refine ⟨k + 1, by omega, by go_num, ?_, ?_, ?_⟩
        · rw [HX.out.2.2.2.1]
          have h2 := (HY.out.1.alloc (Nat.le_refl _) (.cells #[.int .u8 (r : Int)] 5))
          have hz := hg3.size
          have hs2 := HY.out.2.2.2
          simp at hz hs2
          have h3 := h2.grown hg3 (fun q hq e => ((HY.out.2.1.alloc (by omega) (.cells #[.int .u8 (r : Int)] 5)).other h2 (by decide)) q e hq)
          have h4 := h3.mono (Nat.le_refl _) (show w2.heap.size ≤ w3.heap.size by omega)
          unfold OwnU
          simpa [uv] using h4
        · rw [HX.out.2.2.2.1, List.map_append, List.map_singleton]
          exact ho3
        · have hs2 := HY.out.2.2.2
          simp at hs2
          exact HX.out.2.2.1.trans (Below.trans (Below.trans (by (repeat (first | exact Below.refl _ _ | assumption | (refine Below.setCell ?_ (by first | omega | (simp; done) | (simp; omega)) _) | (refine Below.alloc ?_ (by first | omega | (simp; done) | (simp; omega)) _) | (refine below_drewN ?_ _) | (refine Below.drew ?_)))) HY.out.2.2.1) (Below.trans (Below.alloc (Below.refl _ _) (by omega) _) hb3))
      case measure => simp [intOf]; omega
    · obtain rfl : n = k := by omega
      have hge : ¬ (n : Int) < n := by omega
      have hlt := smallRs_lt xs n
      have hpo := Der.putOid_small p q (smallRs xs n) (by omega) (by omega) hlt
      have hoi := Der.oid_small p q (smallRs xs n) (by omega) (by omega) hlt
      obtain ⟨A7, c7, rfl, hr7⟩ := OwnU.rdu ho7 (by
        intro z hz
        simp only [List.mem_cons] at hz
        rcases hz with rfl | rfl | hz
        · omega
        · omega
        · have := hlt z hz; omega)
      obtain ⟨A8, n8, c8, rfl, hr8⟩ := ho8.rd
      have hn8 : n8 = n + 1 := by rw [← hr8.len]; simp [hrl]
      subst hn8
      have HX := Lib.hid (And.intro hr7 (And.intro hr8 (And.intro hb (And.intro hpo hoi))))
      rw [show (p :: q :: smallRs xs n).length = n + 2 by simp [hrl]] at *
      clear ho7 ho8 hb hpo hoi hlt hr7 hr8 hrl
      go_wp2_with fail
      refine (putOid_any A7 (n + 2) c7 _ wr HX.out.1 (by omega)).mono ?_
      rw [HX.out.2.2.2.1]
      rintro e w2 ⟨A9, n9, c9, rfl, ho9, hb2⟩
      have H2 := Lib.hid (And.intro (Rd.of_own ho9) hb2)
      clear ho9 hb2
      go_wp2_with fail
      refine (oid_any A8 (n + 1) c8 _ w2 (HX.out.2.1.up H2.out.2) (by omega)).mono ?_
      rintro e w3 ⟨hb3, ⟨hno, _⟩ | ⟨arcs, v, hoid, rfl, hou⟩⟩
      · rw [HX.out.2.2.2.2] at hno; cases hno
      rw [HX.out.2.2.2.2] at hoid
      injection hoid with hoid
      subst hoid
      obtain ⟨A10, c10, rfl, hr10⟩ := OwnU.rdu hou HX.out.1.2
      have hl10 : (p :: q :: smallRs xs n).length = n + 2 := by simp [smallRs_len xs n (by have := H.out.2; omega)]
      rw [hl10] at hr10 ⊢
      clear hl10
      have hb13 : Below wr.heap.size wr w3 := H2.out.2.trans (hb3.mono H2.out.2.size)
      have H3 := Lib.hid (And.intro hr10 (And.intro (H2.out.1.up hb3) (And.intro hb13 ((HX.out.2.1.up H2.out.2).up hb3))))
      have hsz3 := hb13.size
      clear hou hr10 hb3 hb13
      go_wp2_with fail
      refine (eqbytes_same _ _ _ _ _ _ _ _ _ _ H3.out.2.1 H3.out.2.2.2).mono ?_
      rintro e w3 ⟨rfl, rfl⟩
      go_wp2_with fail
      refine (eq_same _ _ (n + 2) _ _ _ _ _ _ H3.out.1 ⟨HX.out.1.1.below H3.out.2.2.1, HX.out.1.2⟩ (by omega)).mono ?_
      rintro e w4 ⟨rfl, j, rfl⟩
      go_wp2_with fail
      refine (works_any _).mono ?_
      rintro e w5 ⟨rfl, hb5⟩
      have hbw : Below w.heap.size w w3 := HX.out.2.2.1.trans (H3.out.2.2.1.mono hsz)
      go_wp2
      go_ret
      exact ⟨rfl, (below_drewN hbw j).trans (hb5.mono (below_drewN hbw j).size)⟩

theorem derSmall_walk (w : World) (a0 : Int) (w0 : (Lit.int .u8 a0).wf = true) (a1 : Int) (w1 : (Lit.int .u8 a1).wf = true) (A : Option Addr) (n c : Nat) (xs : List UInt8) (h : Rd w w.heap.size A n c xs) :
    Calls Try.prog 13 #[.int .u8 a0, .int .u8 a1, .slice A n c] w fun e w' => e = .returned (.bool true) ∧ Below w.heap.size w w' := by
  by_cases hn : (200 : Int) < n
  · exact small_large a0 a1 A n c w hn
  · have := small_main (UInt8.ofNat a0.toNat) (UInt8.ofNat a1.toNat) A n c xs w h hn
    rw [u8_of_wf w0, u8_of_wf w1] at this
    exact this
end Go.Proofs.Ytadkiildjehdmaa
