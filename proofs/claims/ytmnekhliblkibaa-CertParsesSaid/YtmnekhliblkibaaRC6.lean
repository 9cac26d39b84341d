/- The contract of the document's used. -/
import Derived.Test.YtmnekhliblkibaaRC4
namespace Go.Proofs.Ytmnekhliblkibaa
open Go.RowKit
set_option maxRecDepth 100000
set_option linter.unusedVariables false
set_option linter.unusedSimpArgs false

theorem P3.grown {w W W' : World} {C C' : CV} (h : P3 w W C) (hg : W.grownBy W' (some w.heap.size)) (hC : Bc W' w.heap.size C') : P3 w W' C' :=
  ⟨hC, Blk.grown h.2.1 hg (fun e => by injection e with e; omega), below_grow h.2.2.1 hg (Nat.le_refl _) (Nat.le_refl _), Nat.le_trans h.2.2.2 hg.size⟩

theorem add_two (z p V : Nat) (hz : z < 2) (hp : p ≤ 512) (hV : V < p) : wrap64 ((V : Int) + wrap64 ((z : Int) * (p : Int))) = ((V + z * p : Nat) : Int) := by
  have h6 : z * p ≤ 1 * p := Nat.mul_le_mul_right _ (by omega)
  rw [← Int.natCast_mul]
  obtain ⟨m, hm⟩ : ∃ m, z * p = m := ⟨_, rfl⟩
  rw [hm] at h6 ⊢
  rw [w64_in (m : Int) (by omega), w64_in _ (by omega)]
  omega
theorem quo_bit (x : UInt8) (s : Nat) : (wrap64 ((x.toNat : Int) / 2 ^ s)).tmod 2 = ((x.toNat / 2 ^ s % 2 : Nat) : Int) := by
  have hxl := x.toNat_lt
  obtain ⟨p, hp⟩ : ∃ p, 2 ^ s = p := ⟨_, rfl⟩
  have hpi : (2 : Int) ^ s = (p : Int) := by rw [← hp, Int.natCast_pow]; rfl
  rw [hpi, hp]
  have h2 : x.toNat / p < 256 := Nat.lt_of_le_of_lt (Nat.div_le_self _ _) hxl
  have h3 : (x.toNat : Int) / (p : Int) = ((x.toNat / p : Nat) : Int) := by simp
  rw [h3]
  obtain ⟨Y, hY⟩ : ∃ Y, x.toNat / p = Y := ⟨_, rfl⟩
  rw [hY] at h2 ⊢
  rw [w64_in _ (by omega)]
  rfl
theorem used_sum (ys : List UInt8) (k V : Nat) (hk : k < 9) (hV : Cert.bitsum ys k = V) : wrap64 ((V : Int) + wrap64 (((Cert.bit ys k : Nat) : Int) * 2 ^ k)) = ((Cert.bitsum ys (k + 1) : Nat) : Int) := by
  have h1 := bitsum_lt ys k
  have h3 : 2 ^ k ≤ 2 ^ 8 := Nat.pow_le_pow_right (by omega) (by omega)
  rw [hV] at h1
  have hpi : (2 : Int) ^ k = ((2 ^ k : Nat) : Int) := by rw [Int.natCast_pow]; rfl
  rw [hpi, add_two _ _ _ (bit_lt ys k) (by omega) h1]
  simp only [Cert.bitsum, hV]

set_option maxHeartbeats 4000000 in
theorem rused_any (C : CV) (hC : ∀ v ∈ C.cells.toList, v.oneCell' = true) (t : UInt8) (A1 A2 : Option Addr) (n1 c1 n2 c2 : Nat) (b r : List UInt8) (w : World) (h1 : Rd w w.heap.size A1 n1 c1 b) (hn : n1 ≤ 1099511627) :
    Calls Try.prog 110 #[C.val, .agg #[.int .u8 (t.toNat : Int), .slice A1 n1 c1, .slice A2 n2 c2]] w (FlQ w C (Cert.usage C.fl (t, b, r))) := by
  have hP0 := P3.start w C #[.int .u8 (t.toNat : Int), .slice A1 n1 c1, .slice A2 n2 c2]
  have hX0 : Blk (((w.alloc (.cells C.cells 32)).alloc (.cells #[.int .u8 (t.toNat : Int), .slice A1 n1 c1, .slice A2 n2 c2] 50)).alloc (.cells CV.zero.cells 32)) (w.heap.size + 1) 50 #[.int .u8 (t.toNat : Int), .slice A1 n1 c1, .slice A2 n2 c2] := Blk.alloc (Blk.new' _ _ (by simp)) _
  have HLB := Lib.hid h1.len
  show Calls _ _ #[.agg C.cells, _] _ _
  have hcl : C.cells.size = 24 := rfl
  go_enter Try.func110, Try.ntmps110
  go_wp2_with fail
  refine (refBits_any A1 n1 c1 b _ ((((h1.alloc (Nat.le_refl _) _).alloc (by simp) _).alloc (by simp; omega) _).more (by simp; omega)) (by omega)).mono ?_
  rintro e w2 ⟨hb2, ⟨hx, rfl⟩ | ⟨ys, u, A, n, c, hx, rfl, hO⟩⟩
  · have hP2 := hP0.below hb2
    have hX2 := hX0.below hb2 (by simp)
    have k0 : w2.cell? ⟨w.heap.size + 1, 0, none⟩ = some (.int .u8 (t.toNat : Int)) := hX2.cell 0
    have hno : Cert.usage C.fl (t, b, r) = none := by
      unfold Cert.usage
      by_cases h3 : (t.toNat : Int) = 3
      · rw [body_mk (x := (t, b, r)) h3]; simp only [Option.bind_some, hx]; rfl
      · rw [body_no (x := (t, b, r)) h3]; rfl
    have HN := Lib.hid hno
    clear hx hno hP0 hX0 hb2 h1 hX2
    obtain ⟨q3, h3⟩ : ∃ q, ((t.toNat : Int) != 3) = q := ⟨_, rfl⟩
    cases q3 <;>
    · go_wp2_with (first | ((with_reducible refine at_load_cert ?_); refine wpList_load_cert rfl _ rfl (w.heap.size) (C) rfl (hP2.1) ?_) | ((with_reducible refine at_store_cert ?_); refine wpList_store_cert rfl _ _ rfl (w.heap.size + 1 + 1) CV.zero (C) rfl rfl (hP2.2.1) (hC) ?_; intro wz hBz hgz) | fail)
      refine P3.ret rfl hP2 hgz hBz rfl rfl ?_
      rw [HN.out]; rfl
  · have hP2 := hP0.below hb2
    have hX2 := hX0.below hb2 (by simp)
    have k0 : w2.cell? ⟨w.heap.size + 1, 0, none⟩ = some (.int .u8 (t.toNat : Int)) := hX2.cell 0
    have hu7 := bits_seven hx
    have hln := ownB_len hO
    have hyl : n ≤ 1099511627 := by have := bits_len hx; have := HLB.out; omega
    have hs2 : w.heap.size + 1 + 1 + 1 ≤ w2.heap.size := hP2.2.2.2
    have HB := Lib.hid (And.intro hx (And.intro (hO.mono (lo' := w.heap.size + 1 + 1 + 1) (by simp) (Nat.le_refl _)) hln))
    clear hx hP0 hX0 hb2 h1 hX2 hO hln
    have hno : ((t.toNat : Int) ≠ 3 ∨ ¬ (1 ≤ 8 * (n : Int) - (u : Int)) ∨ ¬ (8 * (n : Int) - (u : Int) ≤ 9)) → Cert.usage C.fl (t, b, r) = none := by
      intro h
      unfold Cert.usage
      by_cases h3 : (t.toNat : Int) = 3
      · rw [body_mk (x := (t, b, r)) h3]
        simp only [Option.bind_some, HB.out.1, HB.out.2.2]
        rw [must_f (by
          rcases h with h | h | h
          · exact absurd h3 h
          · rw [decide_eq_false h]; rfl
          · rw [decide_eq_false h, Bool.and_false])]
        rfl
      · rw [body_no (x := (t, b, r)) h3]; rfl
    have HN := Lib.hid hno
    clear hno
    have hwm : IntKind.i64.wrap (8 * (n : Int)) = 8 * (n : Int) := IntWalk.i64_in _ (by omega)
    have hws : IntKind.i64.wrap (8 * (n : Int) - (u : Int)) = 8 * (n : Int) - (u : Int) := IntWalk.i64_in _ (by omega)
    by_cases h3 : (t.toNat : Int) = 3
    · have h3' : ((t.toNat : Int) != 3) = false := by simp [h3]
      by_cases hl1 : 8 * (n : Int) - (u : Int) < 1
      · have HZ := Lib.hid (HN.out (.inr (.inl (by omega))))
        clear h3
        go_wp2_with (first | ((with_reducible refine at_load_cert ?_); refine wpList_load_cert rfl _ rfl (w.heap.size) (C) rfl (hP2.1) ?_) | ((with_reducible refine at_store_cert ?_); refine wpList_store_cert rfl _ _ rfl (w.heap.size + 1 + 1) CV.zero (C) rfl rfl (hP2.2.1) (hC) ?_; intro wz hBz hgz) | fail)
        refine P3.ret rfl hP2 hgz hBz rfl rfl ?_
        rw [HZ.out]; rfl
      · by_cases hl9 : (9 : Int) < 8 * (n : Int) - (u : Int)
        · have HZ := Lib.hid (HN.out (.inr (.inr (by omega))))
          clear h3
          go_wp2_with (first | ((with_reducible refine at_load_cert ?_); refine wpList_load_cert rfl _ rfl (w.heap.size) (C) rfl (hP2.1) ?_) | ((with_reducible refine at_store_cert ?_); refine wpList_store_cert rfl _ _ rfl (w.heap.size + 1 + 1) CV.zero (C) rfl rfl (hP2.2.1) (hC) ?_; intro wz hBz hgz) | fail)
          refine P3.ret rfl hP2 hgz hBz rfl rfl ?_
          rw [HZ.out]; rfl
        · obtain ⟨m, hm⟩ : ∃ m, 8 * n - u = m := ⟨_, rfl⟩
          have hmi : 8 * (n : Int) - (u : Int) = (m : Int) := by omega
          have hr : 1 ≤ m ∧ m ≤ 9 := by omega
          have hsp : Cert.usage C.fl (t, b, r) = (Cert.must (Cert.bit ys (m - 1) == 1)).bind fun _ => some {C.fl with usage := (Cert.bitsum ys m : Int)} := by
            unfold Cert.usage
            rw [body_mk (x := (t, b, r)) h3]
            simp only [Option.bind_some, HB.out.1, HB.out.2.2, hm]
            rw [must_t (by rw [hmi]; simp; omega)]
            rfl
          have HS := Lib.hid hsp
          have hmn : m ≤ 8 * n := by omega
          have hws' := hws.trans hmi
          clear hws
          rw [hmi] at hl1 hl9
          have HM := Lib.hid (And.intro hm hmi)
          clear hsp hm hmi h3
          have kp : w2.cell? ⟨w.heap.size, 22, none⟩ = some (.int .i64 C.fl.usage) := hP2.1.at_ 22
          have kp1 := hP2.1.frozen 22
          have HP := Lib.hid (And.intro hP2 (hP2.usage 0))
          clear hP2
          obtain ⟨A', n', c', e, hRd⟩ := HB.out.2.1.rd
          injection e with e1 e2 e3
          subst e1 e2 e3
          have HR := Lib.hid hRd
          clear hRd
          go_wp2
          clear kp kp1 k0
          go_loopw [10, 11] (fun v i wr => ∃ k : Nat, k ≤ m ∧ i = .int .i64 k ∧ v = .int .i64 ((if k = 0 then 0 else Cert.bit ys (k - 1) : Nat) : Int) ∧ w2.grownBy wr (some w.heap.size) ∧ P3 w wr {C with fl := {C.fl with usage := (Cert.bitsum ys k : Int)}}) (fun _ i _ => m - (intOf i).toNat)
          case atStart => exact ⟨0, Nat.zero_le _, rfl, rfl, grown_put _ _ _, HP.out.2⟩
          case round =>
            obtain ⟨k, hk, rfl, rfl, hg', hBc⟩ := hrel
            have hsr := hg'.size
            obtain ⟨V, hV⟩ : ∃ V, Cert.bitsum ys k = V := ⟨_, rfl⟩
            have hVl := bitsum_lt ys k
            rw [hV] at hBc hVl
            have hkm : 2 ^ k ≤ 2 ^ 9 := Nat.pow_le_pow_right (by omega) (by omega)
            have j0 : wr.cell? ⟨w.heap.size, 22, none⟩ = some (.int .i64 V) := hBc.1.at_ 22
            have j1 := hBc.1.frozen 22
            have HK := Lib.hid (And.intro hg' (And.intro hBc hV))
            clear hg' hBc hV
            by_cases hlt : k < m
            · have hlt' : (k : Int) < m := by omega
              have hyk : k / 8 < ys.length := by have := HB.out.2.2; omega
              obtain ⟨x, hx⟩ : ∃ x, ys[k / 8]? = some x := ⟨_, List.getElem?_eq_getElem hyk⟩
              obtain ⟨bl, o, rfl, hbl, hcell⟩ := HR.out.at_ (by omega)
              have hOr := HB.out.2.1.keep (w' := wr) (fun j h1 h2 => HK.out.1.block j (by omega) (fun e => by injection e with e; omega))
              have hcx : wr.cell? ⟨bl, o + k / 8, none⟩ = some (.int .u8 (x.toNat : Int)) := by
                obtain ⟨A', n', c', e, hRr⟩ := hOr.rd
                injection e with e1 e2 e3
                subst e1 e2 e3
                obtain ⟨bl', o', e, _, hc⟩ := hRr.at_ (by omega)
                injection e with e
                injection e with e1 e2
                subst e1 e2
                exact hc _ _ hx
              clear hcell hOr
              have hk9 : (k : Int) < 9 := by omega
              have hbit : Cert.bit ys k = x.toNat / 2 ^ (7 - k % 8) % 2 := by
                unfold Cert.bit
                rw [List.getD_eq_getElem?_getD, hx]; rfl
              have hq := quo_bit x (7 - k % 8)
              rw [← hbit] at hq
              have hsum := used_sum ys k V (by omega) HK.out.2.2
              obtain ⟨z, hz⟩ : ∃ z, Cert.bit ys k = z := ⟨_, rfl⟩
              rw [hz] at hq hsum
              obtain ⟨S, hS⟩ : ∃ S, Cert.bitsum ys (k + 1) = S := ⟨_, rfl⟩
              rw [hS] at hsum
              have hP' := HK.out.2.1.usage (S : Int)
              have hg2 := HK.out.1.trans (grown_put wr ⟨w.heap.size, 22, none⟩ (.int .i64 (S : Int)))
              have HQ := Lib.hid (And.intro hq (And.intro hsum (And.intro hz (And.intro hS (And.intro hg2 hP')))))
              clear hq hsum hz hbit hx hS hg2 hP'
              go_wp2
              rw [HQ.out.1, HQ.out.2.1]
              refine ⟨⟨k + 1, by omega, by go_num, ?_, HQ.out.2.2.2.2.1, ?_⟩, by simp [intOf]; omega⟩
              · rw [if_neg (by omega), Nat.add_sub_cancel, HQ.out.2.2.1]
              · rw [HQ.out.2.2.2.1]
                exact HQ.out.2.2.2.2.2
            · obtain rfl : m = k := by omega
              have hge : ¬ (m : Int) < m := by omega
              have hm0 : ¬ m = 0 := by omega
              obtain ⟨z, hz⟩ : ∃ z, Cert.bit ys (m - 1) = z := ⟨_, rfl⟩
              rw [if_neg hm0, hz]
              obtain ⟨q, hq⟩ : ∃ q, ((z : Int) == 1) = q := ⟨_, rfl⟩
              have HZ := Lib.hid (And.intro hz hq)
              clear hz
              go_wp2_with (first | ((with_reducible refine at_load_cert ?_); refine wpList_load_cert rfl _ rfl (w.heap.size) ({C with fl := {C.fl with usage := (V : Int)}}) rfl (HK.out.2.1.1) ?_) | ((with_reducible refine at_store_cert ?_); refine wpList_store_cert rfl _ _ rfl (w.heap.size + 1 + 1) CV.zero ({C with fl := {C.fl with usage := (V : Int)}}) rfl rfl (HK.out.2.1.2.1) (CV.fl_one hC _) ?_; intro wz hBz hgz) | fail)
              refine P3.ret rfl HK.out.2.1 hgz hBz rfl rfl ?_
              have e1 : (Cert.bit ys (m - 1) == 1) = q := by
                rw [HZ.out.1, ← HZ.out.2, Bool.eq_iff_iff, beq_iff_eq, beq_iff_eq]; omega
              rw [HS.out, e1, HK.out.2.2]
              first | (rw [hq]; cases q <;> rfl) | (cases q <;> rfl)
    · have h3' : ((t.toNat : Int) != 3) = true := by simp [h3]
      have HZ := Lib.hid (HN.out (.inl h3))
      clear h3
      go_wp2_with (first | ((with_reducible refine at_load_cert ?_); refine wpList_load_cert rfl _ rfl (w.heap.size) (C) rfl (hP2.1) ?_) | ((with_reducible refine at_store_cert ?_); refine wpList_store_cert rfl _ _ rfl (w.heap.size + 1 + 1) CV.zero (C) rfl rfl (hP2.2.1) (hC) ?_; intro wz hBz hgz) | fail)
      refine P3.ret rfl hP2 hgz hBz rfl rfl ?_
      rw [HZ.out]; rfl
end Go.Proofs.Ytmnekhliblkibaa
