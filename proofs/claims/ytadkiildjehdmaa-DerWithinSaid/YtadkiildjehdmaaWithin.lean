/- The walk of the law DerWithin. -/
import Derived.Test.YtadkiildjehdmaaWithin1
import Derived.Test.YtadkiildjehdmaaElems
import Derived.Test.YtadkiildjehdmaaWorks
import Derived.Test.YtadkiildjehdmaaDer5
namespace Go.Proofs.Ytadkiildjehdmaa
open Go.RowKit
set_option maxRecDepth 1000000
set_option linter.unusedVariables false
set_option linter.unusedSimpArgs false

def WithinPost (w : World) (e : Ending) (w' : World) : Prop := e = .returned (.bool true) ∧ Below w.heap.size w w'

theorem within_large (A : Option Addr) (n c : Nat) (w : World) (hn : (8192 : Int) < n) :
    Calls Try.prog 10 #[.slice A n c] w (WithinPost w) := by
  go_enter Try.func10, Try.ntmps10
  go_wp2_with fail
  refine (large_any A n c _).mono ?_
  rintro e w1 ⟨he, rfl⟩
  rw [decide_eq_true hn] at he
  subst he
  go_wp2_with fail
  refine (works_any _).mono ?_
  rintro e w1 ⟨rfl, hb1⟩
  go_wp2
  go_ret
  exact ⟨rfl, hb1⟩

set_option maxHeartbeats 2000000 in
theorem within_main (A : Option Addr) (n c : Nat) (xs : List UInt8) (w : World) (h : Rd w w.heap.size A n c xs) (hn : ¬ (8192 : Int) < n) :
    Calls Try.prog 10 #[.slice A n c] w (WithinPost w) := by
  have hl := h.len
  have hl4 : xs.length < 4294967296 := by omega
  have H := Lib.hid (And.intro h (And.intro hl hl4))
  clear h hl hl4
  go_enter Try.func10, Try.ntmps10
  go_wp2_with fail
  refine (large_any A n c _).mono ?_
  rintro e w1 ⟨he, rfl⟩
  rw [decide_eq_false (show ¬ (8192 : Int) < n by omega)] at he
  subst he
  go_wp2_with fail
  refine (write_any 48 _ n c _ _ H.out.1 (by omega)).mono ?_
  rintro e w2 ⟨A2, n2, c2, rfl, ho2, hb2⟩
  obtain ⟨_, _, _, e2, hr2⟩ := ho2.rd
  injection e2 with ea eb ec
  subst ea eb ec
  have H2 := Lib.hid (And.intro hr2 hb2)
  clear hr2 ho2 hb2
  go_wp2_with fail
  refine (all_any A n c xs w2 (H.out.1.up H2.out.2) (by omega)).mono ?_
  rintro e w3 ⟨hb3, HH⟩
  have H3 := Lib.hid (And.intro HH (H2.out.2.trans (hb3.mono H2.out.2.size)))
  have HR3 := Lib.hid (H2.out.1.up hb3)
  clear HH hb3
  rcases H3.out.1 with ⟨hany, rfl⟩ | ⟨l, A3, n3, c3, hs, rfl, hE⟩
  · have HA := Lib.hid hany
    clear hany
    go_wp2_with fail
    refine (check_any _ n2 c2 _ _ HR3.out).mono ?_
    rintro e w4 ⟨rfl, hb4⟩
    rw [Der.within_none H.out.2.2 HA.out]
    have hbw := H3.out.2.trans (hb4.mono H3.out.2.size)
    clear hb4
    go_wp2_with fail
    refine (works_any _).mono ?_
    rintro e w5 ⟨rfl, hb5⟩
    go_wp2
    go_ret
    exact ⟨rfl, hbw.trans (hb5.mono hbw.size)⟩
  · have hn3 : n3 ≤ 8192 := by
      obtain ⟨_, _, e, _⟩ := hE.1.shape
      injection e with _ e2 _
      have h1 := congrArg List.length hs
      have h2 := seqF_len xs.length xs
      rw [show Der.seqF xs.length xs = Der.seq xs from rfl] at h2
      simp at h1
      have := H.out.2.1
      omega
    have HE := Lib.hid (And.intro hs hE)
    clear hs hE
    go_wp2_with fail
    refine (check_any _ n2 c2 _ _ HR3.out).mono ?_
    rintro e w4 ⟨rfl, hb4⟩
    have HB4 := Lib.hid hb4
    have hbw := H3.out.2.trans (hb4.mono H3.out.2.size)
    clear hb4
    rcases Der.within_range xs H.out.2.2 with hz | hz | hz
    · rw [hz]
      have HZ := Lib.hid hz
      clear hz
      go_wp2
      go_loopw [7] (fun i wr => ∃ k : Nat, k ≤ n3 ∧ i = .int .i64 k ∧ Below w3.heap.size w3 wr) (fun i _ => n3 - (intOf i).toNat)
      case atStart => exact ⟨0, by omega, rfl, HB4.out⟩
      case round =>
        obtain ⟨k, hk, rfl, hbk⟩ := hrel
        by_cases hlt : k < n3
        · have hlt' : (k : Int) < n3 := by omega
          obtain ⟨g, t, A5, n5, c5, body, A6, n6, c6, raw, rfl, hgl, hx, q0, q1, q2, r1, r2⟩ := HE.out.2.get hlt
          have q2' : wr.cell? ⟨g, k * 3 + 2, none⟩ = some (.slice A6 n6 c6) := by rw [Nat.mul_comm k 3]; exact (hbk.cell (p := ⟨g, 3 * k + 2, none⟩) hgl).trans q2
          have hm : some (t, body, raw) ∈ Der.seq xs := by
            rw [HE.out.1]
            exact List.mem_map.2 ⟨_, List.mem_of_getElem? hx, rfl⟩
          have hck := Der.within_each H.out.2.2 HZ.out t body raw hm
          have HK := Lib.hid (And.intro hbk (And.intro (r2.up hbk) hck))
          clear hbk hx q0 q1 q2 r1 r2 hm hck
          go_wp2_with fail
          refine (check_any _ n6 c6 _ _ HK.out.2.1).mono ?_
          rintro e w5 ⟨rfl, hb5⟩
          rw [HK.out.2.2]
          go_wp2
          go_roundw
          case rel => exact ⟨k + 1, by omega, by go_num, HK.out.1.trans (hb5.mono HK.out.1.size)⟩
          case measure => simp [intOf]; omega
        · obtain rfl : k = n3 := by omega
          have hbx := H3.out.2.trans (hbk.mono H3.out.2.size)
          clear hbk
          go_wp2_with fail
          refine (works_any _).mono ?_
          rintro e w5 ⟨rfl, hb5⟩
          go_wp2
          go_ret
          exact ⟨rfl, hbx.trans (hb5.mono hbx.size)⟩
    · rw [hz]
      clear hz
      go_wp2_with fail
      refine (works_any _).mono ?_
      rintro e w5 ⟨rfl, hb5⟩
      go_wp2
      go_ret
      exact ⟨rfl, hbw.trans (hb5.mono hbw.size)⟩
    · rw [hz]
      clear hz
      go_wp2_with fail
      refine (works_any _).mono ?_
      rintro e w5 ⟨rfl, hb5⟩
      go_wp2
      go_ret
      exact ⟨rfl, hbw.trans (hb5.mono hbw.size)⟩

theorem derWithin_walk (w : World) (A : Option Addr) (n c : Nat) (xs : List UInt8) (h : Rd w w.heap.size A n c xs) :
    Calls Try.prog 10 #[.slice A n c] w fun e w' => e = .returned (.bool true) ∧ Below w.heap.size w w' := by
  by_cases hn : (8192 : Int) < n
  · exact within_large A n c w hn
  · exact within_main A n c xs w h hn
end Go.Proofs.Ytadkiildjehdmaa
