/- The walk of the law DerAlls. -/
import Derived.Test.YtadkiildjehdmaaAlls3
import Derived.Test.YtadkiildjehdmaaAlls4
import Derived.Test.YtadkiildjehdmaaApart4
import Derived.Test.YtadkiildjehdmaaWorks
import Derived.Test.YtadkiildjehdmaaDer5
namespace Go.Proofs.Ytadkiildjehdmaa
open Go.RowKit
set_option maxRecDepth 1000000
set_option linter.unusedVariables false
set_option linter.unusedSimpArgs false

def AllsPost (w : World) (e : Ending) (w' : World) : Prop := e = .returned (.bool true) ∧ Below w.heap.size w w'

/-- What All tells, errors too. -/
def Der.allEr (xs : List UInt8) : Int := if (Der.seq xs).any (·.isNone) then 9 else 0
def Der.allDat (xs : List UInt8) : List (UInt8 × List UInt8 × List UInt8) := if (Der.seq xs).any (·.isNone) then [] else (Der.seq xs).filterMap id
theorem AllPost.one {xs : List UInt8} {w w' : World} {e : Ending} (h : AllPost xs w e w') :
    ∃ l A c, e = .returned (.tuple #[.slice A l.length c, .int .i64 (Der.allEr xs)]) ∧ OwnE w' w.heap.size w'.heap.size (.slice A l.length c) l ∧ l.map EI.dat = Der.allDat xs ∧ l.length ≤ xs.length ∧ Below w.heap.size w w' ∧
      ∀ p ∈ (l : List EI).flatMap EI.rows, p.2.length ≤ xs.length := by
  obtain ⟨hb, ⟨hany, rfl⟩ | ⟨l, A, n, c, hs, rfl, hE⟩⟩ := h
  · exact ⟨[], none, 0, by simp [Der.allEr, hany], OwnE.nil_, by simp [Der.allDat, hany], by simp, hb, fun p hp => by simp at hp⟩
  · have hany : (Der.seq xs).any (·.isNone) = false := by rw [hs, List.any_map]; simp [Function.comp_def]
    obtain ⟨_, _, e, _⟩ := hE.1.shape
    injection e with _ e2 _
    subst e2
    have hl := seqF_len xs.length xs
    rw [show Der.seqF xs.length xs = Der.seq xs from rfl, hs, List.length_map] at hl
    refine ⟨l, A, c, by simp [Der.allEr, hany], hE, ?_, hl, hb, ?_⟩
    · simp only [Der.allDat, hany, hs]
      simp [List.filterMap_map, Function.comp_def]
    · intro p hp
      obtain ⟨x, hx, hp⟩ := List.mem_flatMap.1 hp
      have hm : some (x.t, x.body, x.raw) ∈ Der.seq xs := by rw [hs]; exact List.mem_map.2 ⟨x, hx, rfl⟩
      have hbl := seqF_mem xs.length xs _ _ _ hm
      simp only [EI.rows, List.mem_cons, List.not_mem_nil, or_false] at hp
      rcases hp with rfl | rfl
      · exact hbl.1
      · exact hbl.2

theorem alls_large (A : Option Addr) (n c : Nat) (w : World) (hn : (8192 : Int) < n) :
    Calls Try.prog 14 #[.slice A n c] w (AllsPost w) := by
  go_enter Try.func14, Try.ntmps14
  go_wp2_with fail
  refine (large_any A n c _).mono ?_
  rintro e w1 ⟨he, rfl⟩
  rw [decide_eq_true hn] at he
  subst he
  go_wp2_with fail
  refine (works_any _).mono ?_
  rintro e w1 ⟨rfl, hb1⟩
  go_wp2
  go_ret
  exact ⟨rfl, hb1⟩

set_option maxHeartbeats 4000000 in
theorem alls_main (A : Option Addr) (n c : Nat) (xs : List UInt8) (w : World) (h : Rd w w.heap.size A n c xs) (hn : ¬ (8192 : Int) < n) :
    Calls Try.prog 14 #[.slice A n c] w (AllsPost w) := by
  have hl := h.len
  have H := Lib.hid (And.intro h hl)
  clear h hl
  go_enter Try.func14, Try.ntmps14
  go_wp2_with fail
  refine (large_any A n c _).mono ?_
  rintro e w ⟨he, rfl⟩
  rw [decide_eq_false (show ¬ (8192 : Int) < n by omega)] at he
  subst he
  go_wp2_with fail
  refine (roomy_any A n c xs _ H.out.1 (by omega)).mono ?_
  rintro e w1 ⟨v1, rfl, hR1, hb1⟩
  obtain ⟨A1, n1, c1, rfl, hr1⟩ := hR1.own.rd
  have hn1 : n1 = n := by rw [← hr1.len, H.out.2]
  subst hn1
  have H1 := Lib.hid (And.intro hR1 (And.intro hr1 (And.intro hb1 (H.out.1.up hb1))))
  have hs1 := hb1.size
  clear hR1 hr1 hb1
  go_wp2_with fail
  refine (all_any A1 n1 c1 xs _ H1.out.2.1 (by omega)).mono ?_
  rintro e w2 hp
  obtain ⟨l, A2, c2, rfl, hE2, hd2, hl2, hb2, hx2⟩ := hp.one
  clear hp
  obtain ⟨er, her⟩ : ∃ er, Der.allEr xs = er := ⟨_, rfl⟩
  rw [her]
  obtain ⟨n2, hn2⟩ : ∃ n2, l.length = n2 := ⟨_, rfl⟩
  rw [hn2] at hE2 hl2 ⊢
  have hn2' : n2 ≤ 8192 := by have := H.out.2; omega
  have hs2 := hb2.size
  have H2 := Lib.hid (And.intro hE2 (And.intro hd2 (And.intro hb2 (And.intro hx2 (And.intro hn2 (And.intro her (H1.out.2.2.2.up hb2)))))))
  clear hE2 hd2 hl2 hb2 hx2 hn2 her
  go_wp2_with fail
  refine (refAll_any A n1 c xs _ H2.out.2.2.2.2.2.2 (by omega)).mono ?_
  rintro e w3 hp
  obtain ⟨l', A3, c3, rfl, hE3, hd3, hl3, hb3, _⟩ := hp.one
  clear hp
  rw [H2.out.2.2.2.2.2.1]
  obtain ⟨n3, hn3⟩ : ∃ n3, l'.length = n3 := ⟨_, rfl⟩
  rw [hn3] at hE3 hl3 ⊢
  have hs3 := hb3.size
  have hb13 : Below w1.heap.size w1 w3 := H2.out.2.2.1.trans (hb3.mono hs2)
  have hE23 : OwnE w3 w1.heap.size w2.heap.size (.slice A2 n2 c2) l := H2.out.1.keepRows (KeepRows.below hb3 (Nat.le_refl _))
  have H3 := Lib.hid (And.intro hE3 (And.intro hd3 (And.intro hb3 (And.intro hb13 hE23))))
  clear hE3 hd3 hl3 hb3 hn3 hb13 hE23
  go_wp2_with fail
  refine (eqE_same A2 A3 n2 c2 n3 c3 _ _ _ _ l l' _ H3.out.2.2.2.2 H3.out.1 (by rw [H2.out.2.1, H3.out.2.1]) (by omega) (Nat.le_refl _) (by omega)).mono ?_
  rintro e w4 ⟨rfl, hb4⟩
  have hb14 : Below w1.heap.size w1 w4 := H3.out.2.2.2.1.trans (hb4.mono (by omega))
  have hs14 := hb14.size
  have H4 := Lib.hid (And.intro hb14 (And.intro (H1.out.2.1.up hb14) (And.intro (H1.out.2.2.2.up hb14) hb4)))
  have hs4 := hb4.size
  clear hb4 hb14
  go_wp2_with fail
  refine (check_any A1 n1 c1 xs _ H4.out.2.1).mono ?_
  rintro e w5 ⟨rfl, hb5⟩
  obtain ⟨ck, hck⟩ : ∃ ck, Der.check xs = ck := ⟨_, rfl⟩
  rw [hck]
  have hs5 := hb5.size
  have H5 := Lib.hid (And.intro hb5 (And.intro (H4.out.2.1.up hb5) (And.intro (H4.out.2.2.1.up hb5) hck)))
  clear hb5 hck
  go_wp2_with fail
  refine (refCheck_any A n1 c xs _ H5.out.2.2.1 (by omega)).mono ?_
  rintro e w6 ⟨rfl, hb6⟩
  rw [H5.out.2.2.2]
  have hs6 := hb6.size
  have H6 := Lib.hid (And.intro hb6 (And.intro (H5.out.2.1.up hb6) (H5.out.2.2.1.up hb6)))
  clear hb6
  go_wp2_with fail
  refine (set_any A1 n1 c1 xs _ H6.out.2.1).mono ?_
  rintro e w7 ⟨rfl, hb7⟩
  obtain ⟨st, hst⟩ : ∃ st, Der.chain [] (Der.seq xs) = st := ⟨_, rfl⟩
  rw [hst]
  have hs7 := hb7.size
  have H7 := Lib.hid (And.intro hb7 (And.intro (H6.out.2.2.up hb7) hst))
  clear hb7 hst
  go_wp2_with fail
  refine (refSet_any A n1 c xs _ H7.out.2.1 (by omega)).mono ?_
  rintro e w8 ⟨rfl, hb8⟩
  rw [H7.out.2.2]
  have hs8 := hb8.size
  have hb48 : Below w4.heap.size w4 w8 := H5.out.1.trans ((H6.out.1.trans ((H7.out.1.trans (hb8.mono hs7)).mono hs6)).mono hs5)
  have hb38 : Below w3.heap.size w3 w8 := H4.out.2.2.2.trans (hb48.mono (by omega))
  have hb18 : Below w1.heap.size w1 w8 := H4.out.1.trans (hb48.mono hs14)
  have hbw8 : Below w.heap.size w w8 := H1.out.2.2.1.trans (hb18.mono hs1)
  have H8 := Lib.hid (And.intro (H1.out.1.below hb18 (Nat.le_refl _)) (And.intro (H.out.1.up hbw8) (And.intro hbw8 (H3.out.2.2.2.2.keepRows (KeepRows.below hb38 (Nat.le_refl _))))))
  have hs28 : w2.heap.size ≤ w8.heap.size := by omega
  clear hb8 hb48 hb38 hb18 hbw8
  go_wp2_with fail
  refine (kept_any _ _ _ _ _ _ _ _ _ H8.out.1 H8.out.2.1 (by omega)).mono ?_
  rintro e w8 ⟨rfl, rfl⟩
  by_cases hbig : (200 : Int) < n2
  · go_wp2_with fail
    refine (works_any _).mono ?_
    rintro e w9 ⟨rfl, hb9⟩
    go_wp2
    go_ret
    exact ⟨rfl, H8.out.2.2.1.trans (hb9.mono H8.out.2.2.1.size)⟩
  · have rows := H8.out.2.2.2.2.1
    have hap := apart_back (l := [(Value.slice A1 n1 c1, xs)]) (lo := w.heap.size) (mid := w1.heap.size) (fun p hp => by obtain rfl := List.mem_singleton.1 hp; exact H8.out.1.own) rows (by simp [Apart']) H8.out.2.2.2.2.2
    have HA := Lib.hid (And.intro rows hap)
    clear rows hap
    go_wp2_with fail
    refine (apart_any w.heap.size w8.heap.size A2 (some ⟨w8.heap.size, 0, none⟩) n2 c2 1 1 l [(.slice A1 n1 c1, xs)] _ H2.out.2.2.2.2.1 ?_ rfl (by omega) ?_ ?_ HA.out.2 (by omega) (by simp) (by omega) ?_).mono ?_
    · intro k x hx
      have hk : k < n2 := by have := (List.getElem?_eq_some_iff.1 hx).1; have := H2.out.2.2.2.2.1; omega
      obtain ⟨g, t, A5, n5, c5, body, A6, n6, c6, raw, rfl, hg, hx', q0, q1, q2, _, _⟩ := H8.out.2.2.2.at_ (wr := w8.alloc (.cells #[.slice A1 n1 c1] 22)) (B := w8.heap.size) ((Below.refl _ _).alloc (Nat.le_refl _) _) hs28 hk
      rw [hx] at hx'
      injection hx' with hx'
      subst hx'
      exact ⟨g, rfl, by simp; omega, q1, q2⟩
    · have := Reads.one w8 22 (.slice A1 n1 c1)
      exact this.more (by simp)
    · intro p hp
      rcases List.mem_append.1 hp with hp | hp
      · exact ((HA.out.1 p hp).alloc hs28 _).mono (by omega) hs28
      · obtain rfl := List.mem_singleton.1 hp
        exact (H8.out.1.own.alloc (by omega) _).mono (Nat.le_refl _) (by omega)
    · intro p hp
      have h2 := H.out.2
      rcases List.mem_append.1 hp with hp | hp
      · have := H2.out.2.2.2.1 p hp; omega
      · obtain rfl := List.mem_singleton.1 hp
        dsimp only; omega
    rintro e w9 ⟨rfl, hb9⟩
    have hbw9 : Below w.heap.size w w9 := H8.out.2.2.1.trans ((Below.alloc (Below.refl _ _) (by omega) _).trans hb9)
    go_wp2_with fail
    refine (works_any _).mono ?_
    rintro e w10 ⟨rfl, hb10⟩
    go_wp2
    go_ret
    exact ⟨rfl, hbw9.trans (hb10.mono hbw9.size)⟩

theorem derAlls_walk (w : World) (A : Option Addr) (n c : Nat) (xs : List UInt8) (h : Rd w w.heap.size A n c xs) :
    Calls Try.prog 14 #[.slice A n c] w fun e w' => e = .returned (.bool true) ∧ Below w.heap.size w w' := by
  by_cases hn : (8192 : Int) < n
  · exact alls_large A n c w hn
  · exact alls_main A n c xs w h hn
end Go.Proofs.Ytadkiildjehdmaa
