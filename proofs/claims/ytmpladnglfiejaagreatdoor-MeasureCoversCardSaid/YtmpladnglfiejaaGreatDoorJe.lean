/- Joined of: Rs6 Rs7 Rs8. -/
import Derived.Test.YtmpladnglfiejaaGreatDoorJd
import Derived.Test.YtmpladnglfiejaaGreatDoorSh7
import Derived.BigRegion
import Derived.Deep.RegionHeld3
import Derived.Test.YtmpladnglfiejaaGreatDoorSh8
import Derived.BigQuiet
import Derived.Deep.QuietTactic
section
/- The document's SHA-256: a block's words. -/
namespace Go.Proofs.YtmpladnglfiejaaGreatDoor
open Go.RowKit
set_option maxRecDepth 100000
set_option linter.unusedVariables false
set_option linter.unusedSimpArgs false
theorem word4 (x0 x1 x2 x3 : UInt8) : Sha.word [x0, x1, x2, x3] = ((((x0.toNat * 256 + x1.toNat) * 256 + x2.toNat) * 256 + x3.toNat : Nat) : Int) := by
  have h0 := x0.toNat_lt
  have h1 := x1.toNat_lt
  have h2 := x2.toNat_lt
  have h3 := x3.toNat_lt
  have e : Sha.word [x0, x1, x2, x3] = Sha.beW (Sha.beW (Sha.beW (Sha.beW 0 x0) x1) x2) x3 := rfl
  have st : ∀ (a : Nat) (x : UInt8), a * 256 + x.toNat < 4294967296 → Sha.beW (a : Int) x = ((a * 256 + x.toNat : Nat) : Int) := fun a x h => by
    have hx := x.toNat_lt
    unfold Sha.beW
    rw [show IntKind.u32.wrap ((a : Int) * 256) = ((a * 2 ^ 8 : Nat) : Int) from by rw [IntKind.wrap_u32']; omega]
    exact u32_or_add a 8 x.toNat (by omega) (by omega)
  have e0 : Sha.beW 0 x0 = ((x0.toNat : Nat) : Int) := by
    have := st 0 x0 (by omega)
    simpa using this
  rw [e, e0, st _ _ (by omega), st _ _ (by omega), st _ _ (by omega)]
theorem reads_u1 (w : World) (x : Int) : Reads (w.alloc (.cells #[.int .u32 x] 26)) (w.heap.size + 1) 1 (some ⟨w.heap.size, 0, none⟩) 1 ([x].map u32v) := by
  have h := reads_block w 26 [.int .u32 x] _ rfl
  rw [World.size_alloc] at h
  exact h
set_option maxHeartbeats 8000000 in
theorem rschedule_any (A : Option Addr) (c : Nat) (bs : List UInt8) (w : World) (h : Rd w w.heap.size A 64 c bs) :
    Calls Tryz.prog 48 #[.slice A 64 c] w (RetW (Sha.sched bs) w) := by
  have hlen := h.len
  obtain ⟨b0, o, rfl, hb0, hcell⟩ := h.at_ (by omega)
  have H := Lib.hid (And.intro hcell h)
  clear hcell h
  go_enter Tryz.func48, Tryz.ntmps48
  go_wp2_with fail
  go_loopw [3, 4] (fun s3 ix wr => ∃ (i c : Nat) (A : Option Addr), i ≤ 16 ∧ ix = .int .i64 (i : Int) ∧ s3 = .slice A i c ∧ OwnW wr w.heap.size wr.heap.size (.slice A i c) (Sha.w16 bs i) ∧ Below w.heap.size w wr) (fun _ ix _ => 16 - (intOf ix).toNat)
  case atStart => exact ⟨0, 0, none, by omega, rfl, rfl, OwnW.nil_, Below.refl _ _⟩
  case round =>
    obtain ⟨i, cw, Aw, hi, rfl, rfl, ho, hb⟩ := hrel
    by_cases hlt : i < 16
    · have hltI : (i : Int) < 16 := by omega
      obtain ⟨q, hq⟩ : ∃ q, 4 * i = q := ⟨_, rfl⟩
      obtain ⟨q1, hq1⟩ : ∃ x, q + 1 = x := ⟨_, rfl⟩
      obtain ⟨q2, hq2⟩ : ∃ x, q + 2 = x := ⟨_, rfl⟩
      obtain ⟨q3, hq3⟩ : ∃ x, q + 3 = x := ⟨_, rfl⟩
      obtain ⟨x0, hx0⟩ : ∃ x, bs[q]? = some x := ⟨_, List.getElem?_eq_getElem (by omega)⟩
      obtain ⟨x1, hx1⟩ : ∃ x, bs[q1]? = some x := ⟨_, List.getElem?_eq_getElem (by omega)⟩
      obtain ⟨x2, hx2⟩ : ∃ x, bs[q2]? = some x := ⟨_, List.getElem?_eq_getElem (by omega)⟩
      obtain ⟨x3, hx3⟩ : ∃ x, bs[q3]? = some x := ⟨_, List.getElem?_eq_getElem (by omega)⟩
      have c0 := (hb.cell (p := ⟨b0, o + q, none⟩) hb0).trans (H.out.1 q x0 hx0)
      have c1 := (hb.cell (p := ⟨b0, o + q1, none⟩) hb0).trans (H.out.1 q1 x1 hx1)
      have c2 := (hb.cell (p := ⟨b0, o + q2, none⟩) hb0).trans (H.out.1 q2 x2 hx2)
      have c3 := (hb.cell (p := ⟨b0, o + q3, none⟩) hb0).trans (H.out.1 q3 x3 hx3)
      have hw4 : (bs.drop q).take 4 = [x0, x1, x2, x3] := by
        apply List.ext_getElem?
        intro j
        rcases j with _ | _ | _ | _ | j
        · simpa using hx0
        · subst hq1; simpa using hx1
        · subst hq2; simpa using hx2
        · subst hq3; simpa using hx3
        · simp; omega
      have hsn : Sha.w16 bs (i + 1) = Sha.w16 bs i ++ [((((x0.toNat * 256 + x1.toNat) * 256 + x2.toNat) * 256 + x3.toNat : Nat) : Int)] := by rw [Sha.w16_succ, hq, hw4, word4]
      have l0 := x0.toNat_lt
      have l1 := x1.toNat_lt
      have l2 := x2.toNat_lt
      have l3 := x3.toNat_lt
      obtain ⟨y0, hy0⟩ : ∃ y, x0.toNat = y := ⟨_, rfl⟩
      obtain ⟨y1, hy1⟩ : ∃ y, x1.toNat = y := ⟨_, rfl⟩
      obtain ⟨y2, hy2⟩ : ∃ y, x2.toNat = y := ⟨_, rfl⟩
      obtain ⟨y3, hy3⟩ : ∃ y, x3.toNat = y := ⟨_, rfl⟩
      rw [hy0, hy1, hy2, hy3] at hsn
      rw [hy0] at c0 l0
      rw [hy1] at c1 l1
      rw [hy2] at c2 l2
      rw [hy3] at c3 l3
      obtain ⟨s0, hs0⟩ : ∃ s, y0 * 16777216 = s := ⟨_, rfl⟩
      obtain ⟨s1, hs1⟩ : ∃ s, y1 * 65536 = s := ⟨_, rfl⟩
      obtain ⟨s2, hs2⟩ : ∃ s, y2 * 256 = s := ⟨_, rfl⟩
      obtain ⟨t1, ht1⟩ : ∃ t, (y0 * 256 + y1) * 65536 = t := ⟨_, rfl⟩
      obtain ⟨t2, ht2⟩ : ∃ t, ((y0 * 256 + y1) * 256 + y2) * 256 = t := ⟨_, rfl⟩
      obtain ⟨t3, ht3⟩ : ∃ t, ((y0 * 256 + y1) * 256 + y2) * 256 + y3 = t := ⟨_, rfl⟩
      rw [ht3] at hsn
      have m0 : IntKind.u32.wrap ((y0 : Int) * 16777216) = (s0 : Int) := by rw [IntKind.wrap_u32']; omega
      have m1 : IntKind.u32.wrap ((y1 : Int) * 65536) = (s1 : Int) := by rw [IntKind.wrap_u32']; omega
      have m2 : IntKind.u32.wrap ((y2 : Int) * 256) = (s2 : Int) := by rw [IntKind.wrap_u32']; omega
      have v0 : IntKind.u32.wrap (y0 : Int) = (y0 : Int) := by rw [IntKind.wrap_u32']; omega
      have v1 : IntKind.u32.wrap (y1 : Int) = (y1 : Int) := by rw [IntKind.wrap_u32']; omega
      have v2 : IntKind.u32.wrap (y2 : Int) = (y2 : Int) := by rw [IntKind.wrap_u32']; omega
      have v3 : IntKind.u32.wrap (y3 : Int) = (y3 : Int) := by rw [IntKind.wrap_u32']; omega
      have r1 : bits .or .u32 (s0 : Int) (s1 : Int) = (t1 : Int) := by
        have := u32_or_add y0 24 (y1 * 65536) (by omega) (by omega)
        rw [show y0 * 2 ^ 24 = s0 from hs0, hs1] at this
        rw [this]; omega
      have r2 : bits .or .u32 (t1 : Int) (s2 : Int) = (t2 : Int) := by
        have := u32_or_add (y0 * 256 + y1) 16 (y2 * 256) (by omega) (by omega)
        rw [show (y0 * 256 + y1) * 2 ^ 16 = t1 from ht1, hs2] at this
        rw [this]; omega
      have r3 : bits .or .u32 (t2 : Int) (y3 : Int) = (t3 : Int) := by
        have := u32_or_add ((y0 * 256 + y1) * 256 + y2) 8 y3 (by omega) (by omega)
        rw [show ((y0 * 256 + y1) * 256 + y2) * 2 ^ 8 = t2 from ht2] at this
        rw [this]; omega
      have i0 : IntKind.i64.wrap (4 * (i : Int)) = (q : Int) := by rw [IntKind.wrap_i64]; omega
      have i1 : IntKind.i64.wrap ((q : Int) + 1) = (q1 : Int) := by rw [IntKind.wrap_i64]; omega
      have i2 : IntKind.i64.wrap ((q : Int) + 2) = (q2 : Int) := by rw [IntKind.wrap_i64]; omega
      have i3 : IntKind.i64.wrap ((q : Int) + 3) = (q3 : Int) := by rw [IntKind.wrap_i64]; omega
      have n0 : q < 64 := by omega
      have n1 : q1 < 64 := by omega
      have n2 : q2 < 64 := by omega
      have n3 : q3 < 64 := by omega
      have n0I : (q : Int) < 64 := by omega
      have n1I : (q1 : Int) < 64 := by omega
      have n2I : (q2 : Int) < 64 := by omega
      have n3I : (q3 : Int) < 64 := by omega
      have hwl := Sha.w16_len bs i
      have HS := Lib.hid (And.intro ho (And.intro hb (And.intro hsn hwl)))
      clear ho hb hsn hwl hw4 hx0 hx1 hx2 hx3 hy0 hy1 hy2 hy3 hs0 hs1 hs2 ht1 ht2 ht3 hq hq1 hq2 hq3
      have hsr : w.heap.size ≤ wr.heap.size := HS.out.2.1.size
      have hb0r : b0 < wr.heap.size := by omega
      go_upto_region 5 with fail
      go_region_held3 (fun w' => w'.cell? ⟨b0, o + q, none⟩ = some (.int .u8 (y0 : Int)) ∧ w'.cell? ⟨b0, o + q1, none⟩ = some (.int .u8 (y1 : Int)) ∧ w'.cell? ⟨b0, o + q2, none⟩ = some (.int .u8 (y2 : Int)) ∧ w'.cell? ⟨b0, o + q3, none⟩ = some (.int .u8 (y3 : Int))) (go_keep)
        (first | ((refine step_appW (by rfl) (.tmp 12) (.tmp 46) (by rfl) w.heap.size wr.heap.size _ (Sha.w16 bs i) (by rfl) (by exact OwnW.keep HS.out.1 (fun k _ hk => Below.heap_alloc _ _ k hk)) (by simp; omega) (wr.heap.size + 1) (some ⟨wr.heap.size, 0, none⟩) 1 1 [(t3 : Int)] (by rfl) (by have h := reads_block wr.drew 26 [.int .u32 (t3 : Int)] _ rfl; rw [World.size_alloc] at h; exact h) (by rw [HS.out.2.2.2]; omega) ?_); intro v6 w6 ho6 hg6 hb6; have z0 := (hb6.cell (p := ⟨b0, o + q, none⟩) hb0).trans ((World.cell?_alloc_lt wr.drew _ ⟨b0, o + q, none⟩ hb0r).trans c0); have z1 := (hb6.cell (p := ⟨b0, o + q1, none⟩) hb0).trans ((World.cell?_alloc_lt wr.drew _ ⟨b0, o + q1, none⟩ hb0r).trans c1); have z2 := (hb6.cell (p := ⟨b0, o + q2, none⟩) hb0).trans ((World.cell?_alloc_lt wr.drew _ ⟨b0, o + q2, none⟩ hb0r).trans c2); have z3 := (hb6.cell (p := ⟨b0, o + q3, none⟩) hb0).trans ((World.cell?_alloc_lt wr.drew _ ⟨b0, o + q3, none⟩ hb0r).trans c3); obtain ⟨A6, c6, rfl, _⟩ := ho6.rd; have H6 := Lib.hid (And.intro ho6 hb6); clear ho6 hg6 hb6) | fail)
      go_wp2_with fail
      go_roundw
      case rel => exact ⟨i + 1, c6, A6, by omega, by go_num, by rw [HS.out.2.2.2], by have h := H6.out.1; rw [List.length_append, HS.out.2.2.2] at h; rw [HS.out.2.2.1]; exact h, (HS.out.2.1.drew.alloc (by simp; omega) _).trans H6.out.2⟩
      case measure => simp [intOf]; omega
    · obtain rfl : i = 16 := by omega
      have hltI : ¬ (((16 : Nat) : Int) < 16) := by omega
      have HS := Lib.hid (And.intro ho hb)
      clear ho hb
      obtain ⟨V, rfl⟩ : ∃ V, V = wr := ⟨_, rfl⟩
      go_wp2_with fail
      go_loopw [3, 5] (fun s3 ix wr => ∃ (k n c : Nat) (A : Option Addr), k ≤ 48 ∧ n = 16 + k ∧ ix = .int .i64 (n : Int) ∧ s3 = .slice A n c ∧ OwnW wr w.heap.size wr.heap.size (.slice A n c) (Sha.schedN bs k) ∧ Below w.heap.size w wr) (fun _ ix _ => 64 - (intOf ix).toNat)
      case atStart => exact ⟨0, 16, cw, Aw, by omega, rfl, rfl, rfl, HS.out.1, HS.out.2⟩
      case round =>
        obtain ⟨k, n, cw, Aw, hk, hnk, rfl, rfl, ho, hb⟩ := hrel
        have hll := Sha.schedN_len bs k
        by_cases hlt : k < 48
        · have hltI : (n : Int) < 64 := by omega
          obtain ⟨g, cap, e, hlo, hhi⟩ := ho.form (by omega)
          injection e with e1 e2 e3
          subst e1 e3
          clear e2
          obtain ⟨i15, h15⟩ : ∃ x, n - 15 = x := ⟨_, rfl⟩
          obtain ⟨i2, h2⟩ : ∃ x, n - 2 = x := ⟨_, rfl⟩
          obtain ⟨i16, h16⟩ : ∃ x, n - 16 = x := ⟨_, rfl⟩
          obtain ⟨i7, h7⟩ : ∃ x, n - 7 = x := ⟨_, rfl⟩
          have gt : ∀ j, j < n → (Sha.schedN bs k)[j]? = some ((Sha.schedN bs k).getD j 0) := fun j hj => by
            rw [List.getD_eq_getElem?_getD, List.getElem?_eq_getElem (by omega)]; rfl
          have c15 := ho.cellAt (gt i15 (by omega))
          have c2 := ho.cellAt (gt i2 (by omega))
          have c16 := ho.cellAt (gt i16 (by omega))
          have c7 := ho.cellAt (gt i7 (by omega))
          have hnx : Sha.nextW (Sha.schedN bs k) = Sha.addw (Sha.addw (Sha.addw ((Sha.schedN bs k).getD i16 0) (Sha.sg0 ((Sha.schedN bs k).getD i15 0))) ((Sha.schedN bs k).getD i7 0)) (Sha.sg1 ((Sha.schedN bs k).getD i2 0)) := by
            unfold Sha.nextW
            rw [hll, ← hnk, h16, h15, h7, h2]
          have HK2 := Lib.hid (And.intro (gt i16 (by omega)) (gt i7 (by omega)))
          obtain ⟨x, hx⟩ : ∃ x, (Sha.schedN bs k).getD i15 0 = x := ⟨_, rfl⟩
          obtain ⟨y, hy⟩ : ∃ x, (Sha.schedN bs k).getD i2 0 = x := ⟨_, rfl⟩
          obtain ⟨u, hu⟩ : ∃ x, (Sha.schedN bs k).getD i16 0 = x := ⟨_, rfl⟩
          obtain ⟨v, hv⟩ : ∃ x, (Sha.schedN bs k).getD i7 0 = x := ⟨_, rfl⟩
          rw [hx] at c15 hnx
          rw [hy] at c2 hnx
          have hk16 := HK2.out.1
          have hk7 := HK2.out.2
          rw [hu] at c16 hnx hk16
          rw [hv] at c7 hnx hk7
          have HK2 := Lib.hid (And.intro hk16 hk7)
          clear hk16 hk7
          have r7 := fun W => rright7_any x W
          have r18 := fun W => rright18_any x W
          have r17 := fun W => rright17_any y W
          have r19 := fun W => rright19_any y W
          obtain ⟨a7, ha7⟩ : ∃ a, Sha.rot x 33554432 128 = a := ⟨_, rfl⟩
          obtain ⟨a18, ha18⟩ : ∃ a, Sha.rot x 16384 262144 = a := ⟨_, rfl⟩
          obtain ⟨a17, ha17⟩ : ∃ a, Sha.rot y 32768 131072 = a := ⟨_, rfl⟩
          obtain ⟨a19, ha19⟩ : ∃ a, Sha.rot y 8192 524288 = a := ⟨_, rfl⟩
          unfold Sha.sg0 Sha.sg1 at hnx
          rw [ha7] at r7 hnx
          rw [ha18] at r18 hnx
          rw [ha17] at r17 hnx
          rw [ha19] at r19 hnx
          have j15 : IntKind.i64.wrap ((n : Int) - 15) = (i15 : Int) := by rw [IntKind.wrap_i64]; omega
          have j2 : IntKind.i64.wrap ((n : Int) - 2) = (i2 : Int) := by rw [IntKind.wrap_i64]; omega
          have j16 : IntKind.i64.wrap ((n : Int) - 16) = (i16 : Int) := by rw [IntKind.wrap_i64]; omega
          have j7 : IntKind.i64.wrap ((n : Int) - 7) = (i7 : Int) := by rw [IntKind.wrap_i64]; omega
          have l15 : (i15 : Int) < (n : Int) := by omega
          have l2 : (i2 : Int) < (n : Int) := by omega
          have l16 : (i16 : Int) < (n : Int) := by omega
          have l7 : (i7 : Int) < (n : Int) := by omega
          have HK := Lib.hid (And.intro ho (And.intro hb (And.intro hnx (And.intro hll (And.intro hnk (And.intro r7 (And.intro r18 (And.intro r17 r19))))))))
          have hsr : w.heap.size ≤ wr.heap.size := hb.size
          have hn64 : n ≤ 64 := by omega
          clear ho hb hnx hll hnk r7 r18 r17 r19 gt hx hy hu hv ha7 ha18 ha17 ha19 h15 h2 h16 h7
          go_upto_region 11 with fail
          go_region_held3 (fun w' => w'.cell? ⟨g, i16, none⟩ = some (.int .u32 u) ∧ w'.cell? ⟨g, i7, none⟩ = some (.int .u32 v)) (go_keep)
            (first
              | (go_at_call 49; first
                  | ((with_reducible refine (HK.out.2.2.2.2.2.1 _).mono ?_); rintro e w9 ⟨rfl, hw9⟩; subst hw9)
                  | ((with_reducible refine (HK.out.2.2.2.2.2.2.1 _).mono ?_); rintro e w9 ⟨rfl, hw9⟩; subst hw9)
                  | ((with_reducible refine (HK.out.2.2.2.2.2.2.2.1 _).mono ?_); rintro e w9 ⟨rfl, hw9⟩; subst hw9)
                  | ((with_reducible refine (HK.out.2.2.2.2.2.2.2.2 _).mono ?_); rintro e w9 ⟨rfl, hw9⟩; subst hw9))
              | ((refine step_appW1 (by rfl) (.tmp 62) (.tmp 92) (by rfl) w.heap.size wr.heap.size g n cw (Sha.schedN bs k) (by rfl) (by exact OwnW.keep HK.out.1 (fun k _ hk => Below.heap_alloc _ _ k hk)) (by rw [HK.out.2.2.2.1]; exact HK.out.2.2.2.2.1.symm) (by simp; omega) ⟨wr.heap.size, 0, none⟩ 1 _ (by rfl) (by exact Blk.cell (Blk.new wr.drew _ _) 0) (by omega) ?_); intro v6 w6 ho6 hb6 hk6; have z0 := hk6 _ _ HK2.out.1; have z1 := hk6 _ _ HK2.out.2; obtain ⟨A6, c6, rfl, _⟩ := ho6.rd; have H6 := Lib.hid (And.intro ho6 hb6); clear ho6 hb6 hk6)
              | fail)
          go_wp2_with fail
          go_roundw
          case rel => exact ⟨k + 1, n + 1, c6, A6, by omega, by have := HK.out.2.2.2.2.1; omega, by go_num, by rw [HK.out.2.2.2.1, ← HK.out.2.2.2.2.1], by have h := H6.out.1; rw [List.length_append, HK.out.2.2.2.1, ← HK.out.2.2.2.2.1] at h; rw [show Sha.schedN bs (k + 1) = Sha.schedN bs k ++ [Sha.nextW (Sha.schedN bs k)] from rfl, HK.out.2.2.1]; exact h, (HK.out.2.1.drew.alloc (by simp; omega) _).trans H6.out.2⟩
          case measure => simp [intOf]; omega
        · obtain rfl : k = 48 := by omega
          obtain rfl : n = 64 := by omega
          have hltI : ¬ (((64 : Nat) : Int) < 64) := by omega
          have HF := Lib.hid (And.intro ho hb)
          clear ho hb
          go_wp2_with fail
          go_ret
          exact retW HF.out.1 HF.out.2
end Go.Proofs.YtmpladnglfiejaaGreatDoor
end

section
/- The document's SHA-256: the eight words behind a block. -/
namespace Go.Proofs.YtmpladnglfiejaaGreatDoor
open Go.RowKit
set_option maxRecDepth 100000
set_option linter.unusedVariables false
set_option linter.unusedSimpArgs false
set_option maxHeartbeats 8000000 in
theorem rblock_any (Ah Ak A : Option Addr) (ch ck c : Nat) (H K : List Int) (bs : List UInt8) (w : World) (hH : RdW w w.heap.size Ah 8 ch H) (hK : RdW w w.heap.size Ak 64 ck K) (h : Rd w w.heap.size A 64 c bs) :
    Calls Tryz.prog 28 #[.slice Ah 8 ch, .slice Ak 64 ck, .slice A 64 c] w (RetW (Sha.comp K H bs) w) := by
  have hHl := hH.len
  have hKl := hK.len
  have h0 := Lib.hid (And.intro hH (And.intro hK h))
  clear hH hK h
  go_enter Tryz.func28, Tryz.ntmps28
  go_wp2_with fail
  refine (rschedule_any A c bs w h0.out.2.2).mono ?_
  rintro e w1 ⟨As, cs, rfl, ho1, hb1⟩
  have hsl := Sha.sched_len bs
  obtain ⟨_, _, e1, r1⟩ := ho1.rd
  injection e1 with q1 q2 q3
  subst q1 q3
  rw [hsl] at r1 ⊢
  obtain ⟨S, hS⟩ : ∃ S, Sha.sched bs = S := ⟨_, rfl⟩
  rw [hS] at r1 hsl
  have H1 := Lib.hid (And.intro r1 (And.intro hb1 (And.intro hS (And.intro (h0.out.1.up hb1) (h0.out.2.1.up hb1)))))
  clear ho1 hb1 r1 hS q2
  go_wp2_with (first
    | (at_builtin
       refine wpList_appW rfl (.tmp 17) (.tmp 18) rfl w1.heap.size w1.heap.size (.slice none 0 0) [] rfl OwnW.nil_ (Nat.le_refl _) w1.heap.size Ah 8 ch H rfl H1.out.2.2.2.1.rds (by simp) ?_
       intro v2 w2 ho2 hg2 hb2
       have H2 := Lib.hid (And.intro ho2 hb2)
       clear ho2 hg2 hb2)
    | fail)
  obtain ⟨Av, cv, rfl, hrv⟩ := H2.out.1.rd
  rw [List.nil_append, hHl] at hrv ⊢
  have H3 := Lib.hid hrv
  clear hrv
  have hb12 : Below w1.heap.size w1 w2 := H2.out.2
  have HB := Lib.hid hb12
  clear hb12
  go_loopw [8, 9] (fun vv iv wr => ∃ (i c : Nat) (A : Option Addr), i ≤ 64 ∧ iv = .int .i64 (i : Int) ∧ vv = .slice A 8 c ∧ RdW wr wr.heap.size A 8 c (Sha.rnds K S H i) ∧ Below w1.heap.size w1 wr) (fun _ iv _ => 64 - (intOf iv).toNat)
  case atStart => exact ⟨0, cv, Av, by omega, rfl, rfl, H3.out, HB.out⟩
  case round =>
    obtain ⟨i, cv, Av, hi, rfl, rfl, hrv, hb⟩ := hrel
    by_cases hlt : i < 64
    · have hltI : (i : Int) < 64 := by omega
      obtain ⟨kb, ko, rfl, hkb, q1⟩ := H1.out.2.2.2.2.at_ (by omega)
      obtain ⟨sb, so, rfl, hsb, q2⟩ := H1.out.1.at_ (by omega)
      obtain ⟨vb, vo, rfl, hvb, q3⟩ := hrv.at_ (by omega)
      have qk := (hb.cell (p := ⟨kb, ko + i, none⟩) hkb).trans (q1 i (K.getD i 0) (by rw [List.getD_eq_getElem?_getD, List.getElem?_eq_getElem (by omega)]; rfl))
      have qs := (hb.cell (p := ⟨sb, so + i, none⟩) hsb).trans (q2 i (S.getD i 0) (by rw [List.getD_eq_getElem?_getD, List.getElem?_eq_getElem (by omega)]; rfl))
      obtain ⟨kt, hkt⟩ : ∃ x, K.getD i 0 = x := ⟨_, rfl⟩
      obtain ⟨st, hst⟩ : ∃ x, S.getD i 0 = x := ⟨_, rfl⟩
      rw [hkt] at qk
      rw [hst] at qs
      have hstep : Sha.rnds K S H (i + 1) = Sha.rnd (Sha.rnds K S H i) kt st := by rw [← hkt, ← hst]; rfl
      obtain ⟨a, b, cc, d, e, f, gg, hh, hv8⟩ := Sha.eight (Sha.rnds K S H i) (Sha.rnds_len K S H hHl i)
      rw [hv8] at q3 hstep hrv
      have p0 := q3 0 a rfl
      have p1 := q3 1 b rfl
      have p2 := q3 2 cc rfl
      have p3 := q3 3 d rfl
      have p4 := q3 4 e rfl
      have p5 := q3 5 f rfl
      have p6 := q3 6 gg rfl
      have p7 := q3 7 hh rfl
      rw [Nat.add_zero] at p0
      have g6 := fun W => rright6_any e W
      have g11 := fun W => rright11_any e W
      have g25 := fun W => rright25_any e W
      have g2 := fun W => rright2_any a W
      have g13 := fun W => rright13_any a W
      have g22 := fun W => rright22_any a W
      obtain ⟨a6, ha6⟩ : ∃ x, Sha.rot e 67108864 64 = x := ⟨_, rfl⟩
      obtain ⟨a11, ha11⟩ : ∃ x, Sha.rot e 2097152 2048 = x := ⟨_, rfl⟩
      obtain ⟨a25, ha25⟩ : ∃ x, Sha.rot e 128 33554432 = x := ⟨_, rfl⟩
      obtain ⟨a2, ha2⟩ : ∃ x, Sha.rot a 1073741824 4 = x := ⟨_, rfl⟩
      obtain ⟨a13, ha13⟩ : ∃ x, Sha.rot a 524288 8192 = x := ⟨_, rfl⟩
      obtain ⟨a22, ha22⟩ : ∃ x, Sha.rot a 1024 4194304 = x := ⟨_, rfl⟩
      rw [ha6] at g6
      rw [ha11] at g11
      rw [ha25] at g25
      rw [ha2] at g2
      rw [ha13] at g13
      rw [ha22] at g22
      obtain ⟨x1, hx1⟩ : ∃ x, bits .xor .u32 a6 a11 = x := ⟨_, rfl⟩
      obtain ⟨x2, hx2⟩ : ∃ x, bits .xor .u32 x1 a25 = x := ⟨_, rfl⟩
      obtain ⟨x3, hx3⟩ : ∃ x, IntKind.u32.wrap (hh + x2) = x := ⟨_, rfl⟩
      obtain ⟨x4, hx4⟩ : ∃ x, bits .and .u32 e f = x := ⟨_, rfl⟩
      obtain ⟨x5, hx5⟩ : ∃ x, Sha.notw e = x := ⟨_, rfl⟩
      obtain ⟨x6, hx6⟩ : ∃ x, bits .and .u32 x5 gg = x := ⟨_, rfl⟩
      obtain ⟨x7, hx7⟩ : ∃ x, bits .xor .u32 x4 x6 = x := ⟨_, rfl⟩
      obtain ⟨x8, hx8⟩ : ∃ x, IntKind.u32.wrap (x3 + x7) = x := ⟨_, rfl⟩
      obtain ⟨x9, hx9⟩ : ∃ x, IntKind.u32.wrap (x8 + kt) = x := ⟨_, rfl⟩
      obtain ⟨o1, ho1⟩ : ∃ x, IntKind.u32.wrap (x9 + st) = x := ⟨_, rfl⟩
      have hone : Sha.one e f gg hh kt st = o1 := by unfold Sha.one Sha.addw Sha.bs1 Sha.chw; rw [ha6, ha11, ha25, hx1, hx2, hx3, hx4, hx5, hx6, hx7, hx8, hx9, ho1]
      obtain ⟨z1, hz1⟩ : ∃ x, bits .xor .u32 a2 a13 = x := ⟨_, rfl⟩
      obtain ⟨z2, hz2⟩ : ∃ x, bits .xor .u32 z1 a22 = x := ⟨_, rfl⟩
      obtain ⟨z3, hz3⟩ : ∃ x, bits .and .u32 a b = x := ⟨_, rfl⟩
      obtain ⟨z4, hz4⟩ : ∃ x, bits .and .u32 a cc = x := ⟨_, rfl⟩
      obtain ⟨z5, hz5⟩ : ∃ x, bits .xor .u32 z3 z4 = x := ⟨_, rfl⟩
      obtain ⟨z6, hz6⟩ : ∃ x, bits .and .u32 b cc = x := ⟨_, rfl⟩
      obtain ⟨z7, hz7⟩ : ∃ x, bits .xor .u32 z5 z6 = x := ⟨_, rfl⟩
      obtain ⟨o2, ho2⟩ : ∃ x, IntKind.u32.wrap (z2 + z7) = x := ⟨_, rfl⟩
      have htwo : Sha.two a b cc = o2 := by unfold Sha.two Sha.addw Sha.bs0 Sha.maj; rw [ha2, ha13, ha22, hz1, hz2, hz3, hz4, hz5, hz6, hz7, ho2]
      obtain ⟨n0, hn0⟩ : ∃ x, IntKind.u32.wrap (o1 + o2) = x := ⟨_, rfl⟩
      obtain ⟨n4, hn4⟩ : ∃ x, IntKind.u32.wrap (d + o1) = x := ⟨_, rfl⟩
      have hnew : Sha.rnds K S H (i + 1) = [n0, a, b, cc, n4, e, f, gg] := by
        rw [hstep]
        unfold Sha.rnd Sha.addw
        simp only [hone, htwo, hn0, hn4]
      have hnot : bits .xor .u32 (if IntKind.u32.signed = true then -1 else IntKind.u32.max) e = x5 := hx5
      have HR := Lib.hid (And.intro hnew (And.intro hb (And.intro g6 (And.intro g11 (And.intro g25 (And.intro g2 (And.intro g13 (And.intro g22 hx5))))))))
      clear hnew hb g6 g11 g25 g2 g13 g22 hstep hone htwo ha6 ha11 ha25 ha2 ha13 ha22 q1 q2 q3 hv8 hrv hkt hst hx5
      go_upto_region 7 with fail
      go_quiet ((go_at_call 49; first
        | (with_reducible exact Calls.quiet_of_same (HR.out.2.2.1 _))
        | (with_reducible exact Calls.quiet_of_same (HR.out.2.2.2.1 _))
        | (with_reducible exact Calls.quiet_of_same (HR.out.2.2.2.2.1 _))))
      obtain ⟨k1, rfl⟩ : ∃ k, k = nq := ⟨_, rfl⟩
      go_upto_region 8 with fail
      go_quiet ((go_at_call 49; first
        | (with_reducible exact Calls.mono (HR.out.2.2.2.2.2.1 (wr.drewN _)) fun _ _ h => ⟨h.1, _, h.2⟩)
        | (with_reducible exact Calls.mono (HR.out.2.2.2.2.2.2.1 (wr.drewN _)) fun _ _ h => ⟨h.1, _, h.2⟩)
        | (with_reducible exact Calls.mono (HR.out.2.2.2.2.2.2.2.1 (wr.drewN _)) fun _ _ h => ⟨h.1, _, h.2⟩)))
      go_upto_region 9 with fail
      have p0' : ((wr.drewN k1).drewN nq).cell? ⟨vb, vo, none⟩ = some (.int .u32 a) := p0
      have p1' : ((wr.drewN k1).drewN nq).cell? ⟨vb, vo + 1, none⟩ = some (.int .u32 b) := p1
      have p2' : ((wr.drewN k1).drewN nq).cell? ⟨vb, vo + 2, none⟩ = some (.int .u32 cc) := p2
      have p3' : ((wr.drewN k1).drewN nq).cell? ⟨vb, vo + 3, none⟩ = some (.int .u32 d) := p3
      have p4' : ((wr.drewN k1).drewN nq).cell? ⟨vb, vo + 4, none⟩ = some (.int .u32 e) := p4
      have p5' : ((wr.drewN k1).drewN nq).cell? ⟨vb, vo + 5, none⟩ = some (.int .u32 f) := p5
      have p6' : ((wr.drewN k1).drewN nq).cell? ⟨vb, vo + 6, none⟩ = some (.int .u32 gg) := p6
      have hbq : Below w1.heap.size w1 ((wr.drewN k1).drewN nq) := below_drewN (below_drewN HR.out.2.1 k1) nq
      obtain ⟨wq, hwq⟩ : ∃ V, (wr.drewN k1).drewN nq = V := ⟨_, rfl⟩
      rw [hwq] at p0' p1' p2' p3' p4' p5' p6' hbq ⊢
      have hvq : vb < wq.heap.size := by rw [← hwq]; exact hvb
      have HQ := Lib.hid hbq
      clear hwq hbq p0 p1 p2 p3 p4 p5 p6 p7 qk qs
      go_region_held3 (fun w' => w'.cell? ⟨vb, vo, none⟩ = some (.int .u32 a) ∧ w'.cell? ⟨vb, vo + 1, none⟩ = some (.int .u32 b) ∧ w'.cell? ⟨vb, vo + 2, none⟩ = some (.int .u32 cc) ∧ w'.cell? ⟨vb, vo + 3, none⟩ = some (.int .u32 d) ∧ w'.cell? ⟨vb, vo + 4, none⟩ = some (.int .u32 e) ∧ w'.cell? ⟨vb, vo + 5, none⟩ = some (.int .u32 f) ∧ w'.cell? ⟨vb, vo + 6, none⟩ = some (.int .u32 gg)) (go_keep) (fail)
      have hrd : RdW (wq.alloc (.cells #[.int .u32 n0, .int .u32 a, .int .u32 b, .int .u32 cc, .int .u32 n4, .int .u32 e, .int .u32 f, .int .u32 gg] 26)).drew (wq.alloc (.cells #[.int .u32 n0, .int .u32 a, .int .u32 b, .int .u32 cc, .int .u32 n4, .int .u32 e, .int .u32 f, .int .u32 gg] 26)).drew.heap.size (some ⟨wq.heap.size, 0, none⟩) 8 8 [n0, a, b, cc, n4, e, f, gg] :=
        ⟨rfl, Nat.le_refl _, by omega, fun _ => ⟨_, _, rfl, by simp⟩, reads_block wq 26 [.int .u32 n0, .int .u32 a, .int .u32 b, .int .u32 cc, .int .u32 n4, .int .u32 e, .int .u32 f, .int .u32 gg] _ rfl⟩
      have hbn := (HQ.out.alloc HQ.out.size (.cells #[.int .u32 n0, .int .u32 a, .int .u32 b, .int .u32 cc, .int .u32 n4, .int .u32 e, .int .u32 f, .int .u32 gg] 26)).drew
      have HN := Lib.hid (And.intro hrd hbn)
      clear hrd hbn p0' p1' p2' p3' p4' p5' p6' hx1 hx2 hx3 hx4 hx6 hx7 hx8 hx9 ho1 hz1 hz2 hz3 hz4 hz5 hz6 hz7 ho2 hn0 hn4 hnot
      go_wp2_with fail
      refine ⟨⟨i + 1, 8, _, by omega, by simp, rfl, by rw [HR.out.1]; exact HN.out.1, HN.out.2⟩, ?_⟩
      simp [intOf]; omega
    · obtain rfl : i = 64 := by omega
      have hltI : ¬ (((64 : Nat) : Int) < 64) := by omega
      have HF := Lib.hid (And.intro hrv hb)
      clear hrv hb
      obtain ⟨wo, rfl⟩ : ∃ V, V = wr := ⟨_, rfl⟩
      go_wp2_with (first
        | (at_make; refine wpList_makeW rfl _ _ rfl 8 rfl rfl (by omega) ?_; intro w3 ho3 hg3 hb3; have HM := Lib.hid (And.intro ho3 (And.intro hb3 (ho3.1.lt _ rfl).2)); clear ho3 hg3 hb3)
        | fail)
      have hb2 := HM.out.2.1
      have ho2 := HM.out.1
      have hgl := HM.out.2.2
      have hws := HF.out.2.size
      have hw1s := H1.out.2.1.size
      obtain ⟨R, hR⟩ : ∃ R, Sha.rnds K S H 64 = R := ⟨_, rfl⟩
      have hRl : R.length = 8 := by rw [← hR]; exact Sha.rnds_len K S H hHl 64
      have hrR := HF.out.1
      rw [hR] at hrR
      have hcomp : Sha.comp K H bs = List.zipWith Sha.addw H R := by unfold Sha.comp; rw [H1.out.2.2.1, hR]
      have hcl : (List.zipWith Sha.addw H R).length = 8 := by rw [List.length_zipWith, hHl, hRl]; rfl
      have hbw : Below w.heap.size w w3 := H1.out.2.1.trans ((HF.out.2.trans (hb2.mono hws)).mono hw1s)
      have hrH : RdW wo wo.heap.size Ah 8 ch H := (h0.out.1.up (H1.out.2.1.trans (HF.out.2.mono hw1s)))
      obtain ⟨Z, hZ⟩ : ∃ Z, List.zipWith Sha.addw H R = Z := ⟨_, rfl⟩
      rw [hZ] at hcomp hcl
      obtain ⟨g, hg⟩ : ∃ g, wo.heap.size = g := ⟨_, rfl⟩
      rw [hg] at hb2 ho2 hgl hws hrH hrR ⊢
      have H5 := Lib.hid (And.intro hb2 (And.intro ho2 (And.intro hrH (And.intro hrR (And.intro hcomp (And.intro hbw hZ))))))
      clear hb2 ho2 hrH hrR hcomp hbw hZ hR
      go_loopw [14] (fun iv wr => ∃ i : Nat, i ≤ 8 ∧ iv = .int .i64 (i : Int) ∧ OwnW wr g wr.heap.size (.slice (some ⟨g, 0, none⟩) 8 8) (Z.take i ++ List.replicate (8 - i) 0) ∧ w3.heap.size ≤ wr.heap.size ∧ Below g w3 wr) (fun iv _ => 8 - (intOf iv).toNat)
      case atStart => exact ⟨0, by omega, rfl, by have := H5.out.2.1; rw [nl_zero] at this; simpa using this, Nat.le_refl _, Below.refl _ _⟩
      case round =>
        obtain ⟨i, hi, rfl, ho, hsz, hb⟩ := hrel
        have hln : (Z.take i ++ List.replicate (8 - i) (0 : Int)).length = 8 := by simp; omega
        by_cases hlt : i < 8
        · have hltI : (i : Int) < 8 := by omega
          have hb5 := H5.out.1.trans (hb.mono (by omega))
          obtain ⟨hb', ho', rfl, hhb, q1⟩ := H5.out.2.2.1.at_ (by omega)
          obtain ⟨vb, vo, rfl, hvb, q2⟩ := H5.out.2.2.2.1.at_ (by omega)
          have qh := (hb5.cell (p := ⟨hb', ho' + i, none⟩) hhb).trans (q1 i (H.getD i 0) (by rw [List.getD_eq_getElem?_getD, List.getElem?_eq_getElem (by omega)]; rfl))
          have qv := (hb5.cell (p := ⟨vb, vo + i, none⟩) hvb).trans (q2 i (R.getD i 0) (by rw [List.getD_eq_getElem?_getD, List.getElem?_eq_getElem (by omega)]; rfl))
          obtain ⟨y, hy⟩ : ∃ y, (Z.take i ++ List.replicate (8 - i) (0 : Int))[i]? = some y := ⟨_, List.getElem?_eq_getElem (by omega)⟩
          have qg := ho.cellAt hy
          have fg := ho.frozenAt hln i
          have hzi : Z[i]? = some (IntKind.u32.wrap (H.getD i 0 + R.getD i 0)) := by
            rw [← H5.out.2.2.2.2.2.2, List.getElem?_zipWith, List.getD_eq_getElem?_getD, List.getD_eq_getElem?_getD, List.getElem?_eq_getElem (by omega : i < H.length), List.getElem?_eq_getElem (by omega : i < R.length)]
            rfl
          obtain ⟨x1, hx1⟩ : ∃ x, H.getD i 0 = x := ⟨_, rfl⟩
          obtain ⟨x2, hx2⟩ : ∃ x, R.getD i 0 = x := ⟨_, rfl⟩
          rw [hx1] at qh hzi
          rw [hx2] at qv hzi
          obtain ⟨z, hz⟩ : ∃ z, IntKind.u32.wrap (x1 + x2) = z := ⟨_, rfl⟩
          rw [hz] at hzi
          have hst := ho.stored hln i z
          have hset : (Z.take i ++ List.replicate (8 - i) (0 : Int)).set i z = Z.take (i + 1) ++ List.replicate (8 - (i + 1)) 0 := by
            rw [take_snoc hzi, List.set_append_right _ _ (by simp; omega)]
            obtain ⟨d, hd⟩ : ∃ d, 8 - i = d + 1 := ⟨7 - i, by omega⟩
            rw [hd, show 8 - (i + 1) = d by omega, List.replicate_succ]
            simp [show i - min i Z.length = 0 by omega]
          rw [hset] at hst
          have hne1 : hb' ≠ g := by omega
          have hne2 : vb ≠ g := by omega
          have s1 : (wr.setCell ⟨g, i, none⟩ (.int .u32 z)).drew.cell? ⟨hb', ho' + i, none⟩ = some (.int .u32 x1) := (World.cell?_of_block (a := ⟨hb', ho' + i, none⟩) (Below.heap_setCell wr ⟨g, i, none⟩ _ hb' hne1)).trans qh
          have s2 : (wr.setCell ⟨g, i, none⟩ (.int .u32 z)).drew.cell? ⟨vb, vo + i, none⟩ = some (.int .u32 x2) := (World.cell?_of_block (a := ⟨vb, vo + i, none⟩) (Below.heap_setCell wr ⟨g, i, none⟩ _ vb hne2)).trans qv
          have HS := Lib.hid (And.intro hst (And.intro hb hsz))
          clear hst hb hsz ho hset hzi hy hx1 hx2 q1 q2 hb5 hln
          go_upto_region 15 with fail
          go_region_held3 (fun w' => w'.cell? ⟨hb', ho' + i, none⟩ = some (.int .u32 x1) ∧ w'.cell? ⟨vb, vo + i, none⟩ = some (.int .u32 x2)) (go_keep) (fail)
          go_wp2_with fail
          refine ⟨⟨i + 1, by omega, by simp, ?_, ?_, ?_⟩, ?_⟩
          · exact OwnW.mono (HS.out.1.keep fun k _ _ => rfl) (Nat.le_refl _) (by simp)
          · have := HS.out.2.2; simp; exact this
          · exact (HS.out.2.1.grown (grownBy_set wr ⟨g, i, none⟩ _) (by have := HS.out.2.2; omega) (fun k e => by cases e; exact Nat.le_refl _)).drew
          · simp [intOf]; omega
        · obtain rfl : i = 8 := by omega
          have hltI : ¬ (((8 : Nat) : Int) < 8) := by omega
          have hwg : w.heap.size ≤ g := by omega
          have HE := Lib.hid (And.intro ho hb)
          clear ho hb
          go_wp2_with fail
          go_ret
          rw [H5.out.2.2.2.2.1]
          have h1 := HE.out.1
          rw [List.take_of_length_le (by omega), show 8 - 8 = 0 from rfl, List.replicate_zero, List.append_nil] at h1
          refine retW (h1.mono hwg (Nat.le_refl _)) (H5.out.2.2.2.2.2.1.trans (HE.out.2.mono (by omega)))
end Go.Proofs.YtmpladnglfiejaaGreatDoor
end

section
/- The document's SHA-256: the sum. -/
namespace Go.Proofs.YtmpladnglfiejaaGreatDoor
open Go.RowKit
set_option maxRecDepth 100000
set_option linter.unusedVariables false
set_option linter.unusedSimpArgs false
theorem nl_htab : nl ((Sha.P64.take 8).map fun p => Rs.root p 2) = Sha.htab := by
  rw [← roots8]
  unfold nl
  rw [List.map_map]
  rfl
theorem nl_ktab : nl ((Sha.P64.take 64).map fun p => Rs.root p 3) = Sha.ktab := by
  rw [← roots64, List.take_of_length_le (show Sha.P64.length ≤ 64 from Nat.le_of_eq Sha.prun_310)]
  unfold nl
  rw [List.map_map]
  rfl
theorem run_slice64 {w : World} {B n c : Nat} {A : Option Addr} {xs : List UInt8} (h : Rd w B A n c xs) (lo : Nat) (h2 : lo + 64 ≤ n) :
    ∃ A1 c1, Rd w B A1 64 c1 ((xs.drop lo).take 64) ∧ (∀ W, (Instr.sliceAt 22 (.slice A n c) (some (.int .i64 (lo : Int))) (some (.int .i64 ((lo + 64 : Nat) : Int))) none).run Tryz.prog W = .ok (.slice A1 64 c1) W) ∧
      ∀ W, (Instr.slice 22 (.slice A n c) (some (.int .i64 (lo : Int))) (some (.int .i64 ((lo + 64 : Nat) : Int))) none).run Tryz.prog W = .ok (.slice A1 64 c1) W := by
  have hc := h.cap
  have hx := h.cut (Nat.le_add_right lo 64) h2
  have e : (xs.take (lo + 64)).drop lo = (xs.drop lo).take 64 := by rw [List.drop_take, Nat.add_sub_cancel_left]
  rw [e, Nat.add_sub_cancel_left] at hx
  refine ⟨_, _, hx, fun W => ?_, fun W => ?_⟩ <;> (simp [go_sem, Tryz.underlying22, show (lo : Int) ≤ (lo : Int) + 64 by omega, show (lo : Int) + 64 ≤ c by omega]; omega)
set_option maxHeartbeats 4000000 in
theorem rsum_any (A : Option Addr) (n c : Nat) (xs : List UInt8) (w : World) (h : Rd w w.heap.size A n c xs) (hn : n ≤ 1099511627) :
    Calls Tryz.prog 14 #[.slice A n c] w fun e w' => e = .returned (.agg ((Sha.sum xs).map u8v).toArray) ∧ Below w.heap.size w w' := by
  have hl := h.len
  have hB0 : Blk (w.alloc (.cells ((List.replicate 32 0).map u8v).toArray 25)) w.heap.size 25 ((List.replicate 32 0).map u8v).toArray := Blk.new _ _ _
  have hb0 : Below w.heap.size w (w.alloc (.cells ((List.replicate 32 0).map u8v).toArray 25)) := (Below.refl _ _).alloc (Nat.le_refl _) _
  have H := Lib.hid (And.intro h (And.intro hl (And.intro hB0 hb0)))
  clear h hl hB0 hb0
  go_enter Tryz.func14, Tryz.ntmps14
  go_upto_region 1 with fail
  obtain ⟨w1, hw1⟩ : ∃ W, w.alloc (.cells ((List.replicate 32 0).map u8v).toArray 25) = W := ⟨_, rfl⟩
  have hX := H.out.2.2
  rw [hw1] at hX
  have hw1' : w.alloc (.cells #[.int .u8 0, .int .u8 0, .int .u8 0, .int .u8 0, .int .u8 0, .int .u8 0, .int .u8 0, .int .u8 0, .int .u8 0, .int .u8 0, .int .u8 0, .int .u8 0, .int .u8 0, .int .u8 0, .int .u8 0, .int .u8 0, .int .u8 0, .int .u8 0, .int .u8 0, .int .u8 0, .int .u8 0, .int .u8 0, .int .u8 0, .int .u8 0, .int .u8 0, .int .u8 0, .int .u8 0, .int .u8 0, .int .u8 0, .int .u8 0, .int .u8 0, .int .u8 0] 25) = w1 := hw1
  rw [hw1']
  clear hw1 hw1'
  have H1 := Lib.hid hX
  clear hX
  go_wp2_with fail
  refine (rroots_any 8 2 (by omega) (.inl rfl) w1).mono ?_
  rw [nl_htab]
  rintro e w2 ⟨A2, c2, rfl, ho2, hb2⟩
  obtain ⟨_, _, e2, r2⟩ := ho2.rd
  injection e2 with q1 q2 q3
  subst q1 q3
  rw [Sha.htab_len] at r2 ⊢
  have hw12 : w.heap.size ≤ w1.heap.size := H1.out.2.size
  have hb02 := H1.out.2.trans (hb2.mono hw12)
  have H2 := Lib.hid (And.intro r2 hb02)
  have hbx := hb2
  clear ho2 hb02 r2 q2
  go_wp2_with fail
  refine (rroots_any 64 3 (by omega) (.inr rfl) w2).mono ?_
  rw [nl_ktab]
  rintro e w3 ⟨A3, c3, rfl, ho3, hb3⟩
  obtain ⟨_, _, e3, r3⟩ := ho3.rd
  injection e3 with q1 q2 q3
  subst q1 q3
  rw [Sha.ktab_len] at r3 ⊢
  have hb03 := H2.out.2.trans (hb3.mono H2.out.2.size)
  have hb13 := hbx.trans (hb3.mono hbx.size)
  have H3 := Lib.hid (And.intro r3 (And.intro hb03 (And.intro (H2.out.1.up hb3) hb13)))
  clear ho3 hb3 hb03 r3 hbx hb13 q2
  go_wp2_with fail
  refine (rpadded_any A n c xs w3 (H.out.1.up H3.out.2.1) hn).mono ?_
  rintro e w4 ⟨A4, n4, c4, rfl, ho4, hb4⟩
  obtain ⟨_, _, _, e4, r4⟩ := ho4.rd
  injection e4 with q1 q2 q3
  subst q1 q2 q3
  have hlT := r4.len
  have hlen64 : ∃ m, n4 = 64 * m ∧ m ≤ 100000000 := by
    rw [List.length_append, H.out.2.1] at hlT
    unfold Sha.padOf Sha.zerosOf at hlT
    simp at hlT
    refine ⟨n4 / 64, by omega, by omega⟩
  obtain ⟨m, hm, hmb⟩ := hlen64
  obtain ⟨T, hT⟩ : ∃ T, xs ++ Sha.padOf n = T := ⟨_, rfl⟩
  rw [hT] at r4 hlT
  have hsum : Sha.sum xs = (List.range 32).map (Sha.outByte (Sha.absorb Sha.htab m T)) := by
    unfold Sha.sum Sha.hsN
    rw [H.out.2.1, hT, hlT, hm, Nat.mul_div_cancel_left _ (by omega)]
  have hm1 : n4 ≤ 64 * m := Nat.le_of_eq hm
  have hm2 : 64 * m ≤ n4 := Nat.le_of_eq hm.symm
  clear hm
  have hb04 := H3.out.2.1.trans (hb4.mono H3.out.2.1.size)
  have hb14 := H3.out.2.2.2.trans (hb4.mono H3.out.2.2.2.size)
  have H4 := Lib.hid (And.intro r4 (And.intro hb04 (And.intro (H3.out.2.2.1.up hb4) (And.intro (H3.out.1.up hb4) (And.intro hb14 (And.intro hsum hlT))))))
  clear ho4 hb4 hb04 hb14 r4 hsum hlT hT
  go_wp2_with fail
  go_loopw [3, 6] (fun hv iv wr => ∃ (k q c : Nat) (A : Option Addr), k ≤ m ∧ q = 64 * k ∧ iv = .int .i64 (q : Int) ∧ hv = .slice A 8 c ∧ RdW wr wr.heap.size A 8 c (Sha.absorb Sha.htab k T) ∧ Below w4.heap.size w4 wr) (fun _ iv _ => n4 - (intOf iv).toNat)
  case atStart => exact ⟨0, 0, c2, A2, Nat.zero_le _, rfl, rfl, rfl, H4.out.2.2.1, Below.refl _ _⟩
  case round =>
    obtain ⟨k, q, ch, Ah, hk, hq, rfl, rfl, hr, hb⟩ := hrel
    by_cases hlt : k < m
    · have hltI : (q : Int) < (n4 : Int) := by omega
      obtain ⟨A5, c5, r5, s1, s2⟩ := run_slice64 (H4.out.1.up hb) q (by omega)
      obtain ⟨q2, hq2⟩ : ∃ x, q + 64 = x := ⟨_, rfl⟩
      rw [hq2] at s1 s2
      have j1 : IntKind.i64.wrap ((q : Int) + 64) = (q2 : Int) := by rw [IntKind.wrap_i64]; omega
      have hbk := rblock_any Ah A3 A5 ch c3 c5 (Sha.absorb Sha.htab k T) Sha.ktab ((T.drop q).take 64) wr hr (H4.out.2.2.2.1.up hb) r5
      have hab : Sha.comp Sha.ktab (Sha.absorb Sha.htab k T) ((T.drop q).take 64) = Sha.absorb Sha.htab (k + 1) T := by rw [Sha.absorb, hq]
      have hcl : (Sha.absorb Sha.htab (k + 1) T).length = 8 := Sha.absorb_len _ Sha.htab_len _ _
      rw [hab] at hbk
      have HB := Lib.hid (And.intro hbk (And.intro hb (And.intro hcl (And.intro hq hq2))))
      clear hbk hb hcl hq hab hr r5 hq2
      go_wp2_with fail
      refine HB.out.1.mono ?_
      rintro e w6 ⟨A6, c6, rfl, ho6, hb6⟩
      obtain ⟨_, _, e6, r6⟩ := ho6.rd
      injection e6 with a1 a2 a3
      subst a1 a3
      rw [HB.out.2.2.1] at r6 ⊢
      have H6 := Lib.hid (And.intro r6 (HB.out.2.1.trans (hb6.mono HB.out.2.1.size)))
      clear ho6 hb6 r6 a2
      go_wp2_with fail
      refine ⟨⟨k + 1, q2, c6, A6, by omega, by have := HB.out.2.2.2; omega, rfl, rfl, H6.out.1, H6.out.2⟩, ?_⟩
      have := HB.out.2.2.2
      simp [intOf]; omega
    · obtain rfl : k = m := by omega
      have hltI : ¬ ((q : Int) < (n4 : Int)) := by omega
      obtain ⟨HH, hHH⟩ : ∃ HH, Sha.absorb Sha.htab k T = HH := ⟨_, rfl⟩
      have hHl : HH.length = 8 := by rw [← hHH]; exact Sha.absorb_len _ Sha.htab_len _ _
      rw [hHH] at hr
      have hsum := H4.out.2.2.2.2.2.1
      rw [hHH] at hsum
      have hbw := H4.out.2.1.trans (hb.mono H4.out.2.1.size)
      have hB1 := H1.out.1.below (H4.out.2.2.2.2.1.trans (hb.mono H4.out.2.2.2.2.1.size)) H1.out.1.lt
      have hOn : Blk (wr.alloc (.cells ((List.replicate 32 0).map u8v).toArray 25)) wr.heap.size 25 ((List.replicate 32 0).map u8v).toArray := Blk.new _ _ _
      have hbn : Below wr.heap.size wr (wr.alloc (.cells ((List.replicate 32 0).map u8v).toArray 25)) := (Below.refl _ _).alloc (Nat.le_refl _) _
      have HF := Lib.hid (And.intro hr (And.intro hbw (And.intro hB1 (And.intro hsum (And.intro hHl (And.intro hOn hbn))))))
      clear hr hb hbw hB1 hsum hHl hHH hOn hbn hq
      go_upto_region 9 with fail
      obtain ⟨w7, hw7⟩ : ∃ W, wr.alloc (.cells ((List.replicate 32 0).map u8v).toArray 25) = W := ⟨_, rfl⟩
      have hX := HF.out.2.2.2.2.2
      rw [hw7] at hX
      have hw7' : wr.alloc (.cells #[.int .u8 0, .int .u8 0, .int .u8 0, .int .u8 0, .int .u8 0, .int .u8 0, .int .u8 0, .int .u8 0, .int .u8 0, .int .u8 0, .int .u8 0, .int .u8 0, .int .u8 0, .int .u8 0, .int .u8 0, .int .u8 0, .int .u8 0, .int .u8 0, .int .u8 0, .int .u8 0, .int .u8 0, .int .u8 0, .int .u8 0, .int .u8 0, .int .u8 0, .int .u8 0, .int .u8 0, .int .u8 0, .int .u8 0, .int .u8 0, .int .u8 0, .int .u8 0] 25) = w7 := hw7
      rw [hw7']
      clear hw7 hw7'
      obtain ⟨g, hg⟩ : ∃ g, wr.heap.size = g := ⟨_, rfl⟩
      have hgw := HF.out.2.1.size
      have hrr := HF.out.1
      rw [hg] at hX hgw hrr ⊢
      have H7 := Lib.hid (And.intro hX (And.intro hrr hg))
      clear hX hrr hg
      obtain ⟨wo, rfl⟩ : ∃ V, V = wr := ⟨_, rfl⟩
      go_wp2_with fail
      go_loopw [8] (fun ix wr => ∃ (i : Nat), i ≤ 32 ∧ ix = .int .i64 (i : Int) ∧ Blk wr g 25 (List.map u8v ((List.range i).map (Sha.outByte HH) ++ List.replicate (32 - i) 0)).toArray ∧ w7.grownBy wr (some g)) (fun ix _ => 32 - (intOf ix).toNat)
      case atStart => exact ⟨0, by omega, rfl, by simpa using H7.out.1.1, grown_refl _ _⟩
      case round =>
        obtain ⟨i, hi, rfl, hO, hgr⟩ := hrel
        by_cases hil : i < 32
        · have hil' : (i : Int) < 32 := by omega
          obtain ⟨q, hq⟩ : ∃ k, i / 4 = k := ⟨_, rfl⟩
          obtain ⟨m', hm'⟩ : ∃ k, i % 4 = k := ⟨_, rfl⟩
          have hqi : Int.tdiv (i : Int) 4 = (q : Int) := by rw [← hq]; rfl
          have hmi : Int.tmod (i : Int) 4 = (m' : Int) := by rw [← hm']; rfl
          have hql : q < 8 := by omega
          have hqlI : (q : Int) < 8 := by omega
          have hml : m' < 4 := by omega
          obtain ⟨sh, hsh⟩ : ∃ k, 24 - 8 * m' = k := ⟨_, rfl⟩
          have hshi : (24 : Int) - 8 * (m' : Int) = (sh : Int) := by omega
          have hsh32 : sh ≤ 24 := by omega
          obtain ⟨hb', ho', rfl, hhb, qc⟩ := H7.out.2.1.at_ (by omega)
          obtain ⟨y, hy⟩ : ∃ y, HH[q]? = some y := ⟨HH[q]'(by rw [HF.out.2.2.2.2.1]; omega), by simp⟩
          have hyD : HH.getD q 0 = y := by rw [List.getD_eq_getElem?_getD, hy]; rfl
          have cq : wr.cell? ⟨hb', ho' + q, none⟩ = some (.int .u32 y) := by
            have h1 := qc q y hy
            have h2 := (H7.out.1.2.cell (p := ⟨hb', ho' + q, none⟩) hhb).trans h1
            exact (World.cell?_of_block (a := ⟨hb', ho' + q, none⟩) (hgr.block hb' (by have := H7.out.1.2.size; have := H7.out.1.1.lt; show hb' < _; omega) (fun e => by injection e with e; omega))).trans h2
          have hout : Sha.outByte HH i = y / 2 ^ sh % 256 := by
            unfold Sha.outByte
            rw [hq, hm', hsh, hyD, IntKind.wrap_u8']
          have hfo := hO.frozen i
          have hlo : (List.map u8v ((List.range i).map (Sha.outByte HH) ++ List.replicate (32 - i) 0)).toArray.setIfInBounds i (u8v (y / 2 ^ sh % 256)) = (List.map u8v ((List.range (i + 1)).map (Sha.outByte HH) ++ List.replicate (32 - (i + 1)) 0)).toArray := by
            rw [List.setIfInBounds_toArray, ← hout]
            exact congrArg _ (Sha.out_set hil)
          have co : ∃ u, wr.cell? ⟨g, i, none⟩ = some u := ⟨_, (hO.cell i).trans (by rw [List.getElem?_toArray]; exact Sha.out_get hil)⟩
          have HI := Lib.hid (And.intro hO (And.intro hgr hlo))
          clear hO hgr hlo hout hq hm' hsh hy hyD qc
          obtain ⟨u0, hu0⟩ := co
          go_wp2_with fail
          exact ⟨⟨i + 1, by omega, by simp, by rw [← HI.out.2.2]; exact HI.out.1.set_ i _, grownBy_store HI.out.2.1 _ _⟩, by simp only [intOf]; omega⟩
        · obtain rfl : i = 32 := by omega
          have hil' : ¬ (((32 : Nat) : Int) < 32) := by omega
          have hz0 : (List.range 32).map (Sha.outByte HH) ++ List.replicate (32 - 32) 0 = Sha.sum xs := by
            rw [HF.out.2.2.2.1]
            exact List.append_nil _
          rw [hz0] at hO
          have hsl : (Sha.sum xs).length = 32 := by unfold Sha.sum; rw [List.length_map, List.length_range]
          have hBr : Blk wr w.heap.size 25 ((List.replicate 32 0).map u8v).toArray := (HF.out.2.2.1.below H7.out.1.2 (by have := HF.out.2.2.1.lt; have := H7.out.2.2; omega)).grown hgr (fun e => by injection e with e; have := HF.out.2.2.1.lt; have := H7.out.2.2; omega)
          have hbz : Below w.heap.size w wr := (HF.out.2.1.trans (H7.out.1.2.mono hgw)).grown hgr (by have := H7.out.1.2.size; have := H7.out.2.2; omega) (fun k e => by injection e with e; omega)
          have HE := Lib.hid (And.intro hO (And.intro hbz (And.intro hsl hBr)))
          clear hO hgr hbz hsl hz0 hBr
          go_wp2_with (first
            | ((with_reducible refine at_load_t 25 ?_); refine wpList_load_row rfl 25 _ rfl ⟨g, 0, none⟩ (.agg ((Sha.sum xs).map u8v).toArray) rfl (load_b32 HE.out.2.2.1 HE.out.1) ?_)
            | ((with_reducible refine at_store_t 25 ?_); refine wpList_store_row rfl 25 _ _ rfl ⟨w.heap.size, 0, none⟩ (.agg ((Sha.sum xs).map u8v).toArray) (wr.setRow w.heap.size ((Sha.sum xs).map u8v).toArray) rfl rfl (store_b32 rfl HE.out.2.2.1 HE.out.2.2.2) ?_)
            | fail)
          have hS := setRow_blk (ds := ((Sha.sum xs).map u8v).toArray) HE.out.2.2.2
          exact bodyPost_ret (results_row1 Tryz.results14 _ _ _ _ _ rfl (load_b32 HE.out.2.2.1 hS.1)) rfl ⟨rfl, HE.out.2.1.grown hS.2 HE.out.2.1.size (fun j e => by injection e with e; omega)⟩
end Go.Proofs.YtmpladnglfiejaaGreatDoor
end
