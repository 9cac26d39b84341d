/- The contract of der.Oid. -/
import Derived.Test.YtnfngnmajjkdbaaDoorProg
import Derived.Test.YtnfngnmajjkdbaaDoorMem
import Derived.Test.YtnfngnmajjkdbaaDoorMem2
import Derived.Test.YtnfngnmajjkdbaaDoorNum
import Derived.Test.YtnfngnmajjkdbaaDoorBase
import Derived.Test.YtnfngnmajjkdbaaDoorLit
import Derived.Laws.BitsAllLaws
import Derived.Laws.BitsLemmas
namespace Go.Proofs.YtnfngnmajjkdbaaDoor
open Go.RowKit
set_option maxRecDepth 100000

theorem u64_info : (Tryd.prog.info? 49).map (fun i => (i.zero, i.size, i.bytes)) = some (some (.int .u64 0), 1, 8) := by kernel_rfl
def uv (x : Nat) : Value := .int .u64 (x : Int)
theorem uv_one (xs : List Nat) : ∀ u ∈ xs.map uv, u.oneCell' = true := by
  intro u hu
  obtain ⟨_, _, rfl⟩ := List.mem_map.1 hu
  rfl

/-- What Oid has gathered: the arcs, the number that has begun, whether one has. -/
structure Der.OidS where
  arcs : List Nat
  n : Nat
  begun : Bool
def Der.oidStep (s : Der.OidS) (c : UInt8) : Option Der.OidS :=
  if 144115188075855872 ≤ s.n ∨ (s.begun = false ∧ c.toNat = 128) then none
  else if 128 ≤ c.toNat then some ⟨s.arcs, s.n * 128 + c.toNat % 128, true⟩
  else if s.arcs = [] then some ⟨[min ((s.n * 128 + c.toNat % 128) / 40) 2, (s.n * 128 + c.toNat % 128) - 40 * min ((s.n * 128 + c.toNat % 128) / 40) 2], 0, false⟩
  else some ⟨s.arcs ++ [s.n * 128 + c.toNat % 128], 0, false⟩
def Der.oidFrom (s : Der.OidS) : List UInt8 → Option Der.OidS
  | [] => some s
  | c :: r => match Der.oidStep s c with
    | none => none
    | some s' => Der.oidFrom s' r
def Der.oid (xs : List UInt8) : Option (List Nat) := match Der.oidFrom ⟨[], 0, false⟩ xs with
  | none => none
  | some s => if s.begun ∨ s.arcs = [] then none else some s.arcs

/-- A row of numbers. -/
def OwnU (w : World) (lo hi : Nat) (v : Value) (zs : List Nat) : Prop := OwnC 49 1 w lo hi v zs.length (zs.map uv)

def OidPost (xs : List UInt8) (w : World) (e : Ending) (w' : World) : Prop :=
  Below w.heap.size w w' ∧
  ((Der.oid xs = none ∧ e = .returned (.tuple #[.slice none 0 0, .bool false])) ∨
   ∃ arcs v, Der.oid xs = some arcs ∧ e = .returned (.tuple #[v, .bool true]) ∧ OwnU w' w.heap.size w'.heap.size v arcs)

def OidRel (xs : List UInt8) (w : World) (k : Nat) (s : Der.OidS) (v : Value) (wr : World) : Prop :=
  Der.oidFrom ⟨[], 0, false⟩ xs = Der.oidFrom s (xs.drop k) ∧ OwnU wr w.heap.size wr.heap.size v s.arcs ∧ Below w.heap.size w wr ∧ s.arcs.length ≤ k + 1

set_option maxHeartbeats 2000000 in
theorem oid_any (A : Option Addr) (n c : Nat) (xs : List UInt8) (w : World) (h : Rd w w.heap.size A n c xs) (hn : n ≤ 1099511627776) :
    Calls Tryd.prog 12 #[.slice A n c] w (OidPost xs w) := by
  have hl := h.len
  have hrel0 : OidRel xs w 0 ⟨[], 0, false⟩ (.slice none 0 0) w := ⟨rfl, OwnC.nil_, Below.refl _ _, by simp⟩
  have HL := Lib.hid hl
  clear hl
  go_enter Tryd.func12, Tryd.ntmps12
  go_wp2
  go_loopw [2, 4, 5, 11] (fun v u b i wr => ∃ (k : Nat) (s : Der.OidS), k ≤ n ∧ i = .int .i64 k ∧ u = .int .u64 (s.n : Int) ∧ b = .bool s.begun ∧ s.n < 18446744073709551616 ∧ OidRel xs w k s v wr) (fun _ _ _ i _ => n - (intOf i).toNat)
  case atStart => exact ⟨0, ⟨[], 0, false⟩, by omega, rfl, rfl, rfl, by simp, hrel0⟩
  case round =>
    obtain ⟨k, ⟨arcs, N, bg⟩, hk, rfl, rfl, rfl, hN, hs, ho, hb, hal⟩ := hrel
    dsimp only at hN ho hal ⊢
    obtain ⟨A5, c5, rfl, hc5, hcm5, hn5, hr5⟩ := ho.shape
    by_cases hlt : k < n
    · have hx0 : 0 < n := by omega
      obtain ⟨b, o, rfl, hbB, hcell⟩ := h.at_ hx0
      have hlk : k < xs.length := by have := HL.out; omega
      obtain ⟨x, hx⟩ : ∃ x, xs[k]? = some x := ⟨xs[k], List.getElem?_eq_getElem hlk⟩
      have hcx : wr.cell? ⟨b, o + k, none⟩ = some (.int .u8 (x.toNat : Int)) := (hb.cell (p := ⟨b, o + k, none⟩) hbB).trans (hcell k x hx)
      have hlt' : (k : Int) < n := by omega
      have hdr : xs.drop k = x :: xs.drop (k + 1) := by
        rw [List.drop_eq_getElem_cons hlk]
        congr 1
        rw [List.getElem?_eq_getElem hlk] at hx
        injection hx
      rw [hdr] at hs
      have hxl := x.toNat_lt
      by_cases hbig : 144115188075855872 ≤ N
      · have hno : Der.oid xs = none := by
          unfold Der.oid
          rw [hs, Der.oidFrom, Der.oidStep, if_pos (.inl hbig)]
        have HNO := Lib.hid (And.intro hno hb)
        have hbig' : (144115188075855872 : Int) ≤ N := by omega
        clear hno hs ho hdr hx hcell hb hn5 hr5 HL
        go_wp2
        go_ret2
        exact ⟨HNO.out.2, .inl ⟨HNO.out.1, rfl⟩⟩
      · have hbig' : ¬ (144115188075855872 : Int) ≤ N := by omega
        by_cases h80 : bg = false ∧ x.toNat = 128
        · obtain ⟨rfl, hx8⟩ := h80
          have hno : Der.oid xs = none := by
            unfold Der.oid
            rw [hs, Der.oidFrom, Der.oidStep, if_pos (.inr ⟨rfl, hx8⟩)]
          have HNO := Lib.hid (And.intro hno hb)
          rw [hx8] at hcx
          clear hno hs ho hdr hx hcell hb hn5 hr5 HL hx8
          go_wp2
          go_ret2
          exact ⟨HNO.out.2, .inl ⟨HNO.out.1, rfl⟩⟩
        · have hst : Der.oidFrom ⟨arcs, N, bg⟩ (x :: xs.drop (k + 1)) = match Der.oidStep ⟨arcs, N, bg⟩ x with
            | none => none
            | some s' => Der.oidFrom s' (xs.drop (k + 1)) := rfl
          rw [hst] at hs
          have hbx : bg = false → ((x.toNat : Int) == 128) = false := by
            rintro rfl
            have hne : x.toNat ≠ 128 := fun e => h80 ⟨rfl, e⟩
            simp; omega
          obtain ⟨M, hM⟩ : ∃ M, N * 128 + x.toNat % 128 = M := ⟨_, rfl⟩
          have hstep : Der.oidStep ⟨arcs, N, bg⟩ x = if 128 ≤ x.toNat then some ⟨arcs, M, true⟩
            else if arcs = [] then some ⟨[min (M / 40) 2, M - 40 * min (M / 40) 2], 0, false⟩
            else some ⟨arcs ++ [M], 0, false⟩ := by
            unfold Der.oidStep
            rw [if_neg (fun h => h.elim (fun h => hbig h) (fun h => h80 h))]
            dsimp only
            rw [hM]
          rw [hstep] at hs
          have hMb : M < 18446744073709551616 := by omega
          have hor : bits .or .u64 ((N : Int) * 128) (IntKind.u64.wrap (bits .and .u8 (x.toNat : Int) 127)) = (M : Int) := by
            rw [and127, show IntKind.u64.wrap ((x.toNat % 128 : Nat) : Int) = ((x.toNat % 128 : Nat) : Int) from by simp only [IntKind.wrap, IntKind.bits, IntKind.signed]; simp; omega, u64_or7 _ _ (by omega) (by omega), hM]
          have HS := Lib.hid (And.intro hs (And.intro ho hb))
          have HMb := Lib.hid hMb
          clear hst hstep hs ho hdr hx hcell hn5 hr5 hb HL h80 hM hN hMb hbig
          by_cases hx8 : 128 ≤ x.toNat
          · have hx8' : (128 : Int) ≤ x.toNat := by omega
            have hs := HS.out.1
            rw [if_pos hx8] at hs
            have HS2 := Lib.hid hs
            clear hs
            cases bg with
            | true =>
              clear hbx
              go_wp2
              go_roundw
              case rel => exact ⟨k + 1, ⟨arcs, M, true⟩, by omega, by go_num, rfl, rfl, HMb.out, HS2.out, HS.out.2.1, HS.out.2.2, by dsimp only; omega⟩
              case measure => simp [intOf]; omega
            | false =>
              have hbx' := hbx rfl
              clear hbx
              go_wp2
              go_roundw
              case rel => exact ⟨k + 1, ⟨arcs, M, true⟩, by omega, by go_num, rfl, rfl, HMb.out, HS2.out, HS.out.2.1, HS.out.2.2, by dsimp only; omega⟩
              case measure => simp [intOf]; omega
          · have hx8' : ¬ (128 : Int) ≤ x.toNat := by omega
            have hs := HS.out.1
            rw [if_neg hx8] at hs
            by_cases he : arcs = []
            · subst he
              rw [if_pos rfl] at hs
              have HS2 := Lib.hid hs
              clear hs
              have hbs : Hid (w.heap.size ≤ wr.heap.size) := HS.out.2.2.size
              obtain ⟨T, hT⟩ : ∃ T, M / 40 = T := ⟨_, rfl⟩
              have hq : ((M : Int) / 40) = (T : Int) := by omega
              have hMo := HMb.out
              by_cases hT2 : 2 < T
              · obtain ⟨R, hR⟩ : ∃ R, M - 80 = R := ⟨_, rfl⟩
                have hs := HS2.out
                rw [show min (M / 40) 2 = 2 from by omega, show M - 40 * 2 = R from by omega] at hs
                have HS2 := Lib.hid hs
                have hT3 : (2 : Int) < T := by omega
                have hwT : IntKind.u64.wrap (T : Int) = (T : Int) := by simp only [IntKind.wrap, IntKind.bits, IntKind.signed]; simp; omega
                have hsub : IntKind.u64.wrap ((M : Int) - 80) = (R : Int) := by simp only [IntKind.wrap, IntKind.bits, IntKind.signed]; simp; omega
                have hone : Hid (Reads (wr.alloc (.cells #[.int .u64 2] 49)) (wr.heap.size + 1) 1 (some ⟨wr.heap.size, 0, none⟩) 1 ([2].map uv)) := Reads.one wr 49 _
                clear hT hR hs hMo
                cases bg with
                | true =>
                  clear hbx
                  go_wp2_with (first
                    | (at_builtin
                       refine wpList_appC rfl (.tmp 39) (.tmp 41) 23 rfl 49 _ 1 8 u64_info Tryd.underlying23 rfl (by omega) w.heap.size wr.heap.size _ 0 [] rfl (HS.out.2.1.alloc (Nat.le_refl _) _) (by have := hbs.out; simp; omega) _ _ 1 1 ([2].map uv) rfl hone.out (uv_one _) (by omega) (by omega) ?_
                       intro v2 w2 ho2 hg2 hat2 hb2
                       have hbw2 : Below w.heap.size w w2 := (HS.out.2.2.alloc hbs.out _).trans hb2
                       obtain ⟨A7, c7, rfl, _, _, _, _⟩ := ho2.shape)
                    | (at_builtin
                       refine wpList_appC rfl (.tmp 47) (.tmp 49) 23 rfl 49 _ 1 8 u64_info Tryd.underlying23 rfl (by omega) w.heap.size w2.heap.size _ (0 + 1) ([] ++ [2].map uv) rfl (ho2.alloc (Nat.le_refl _) _) (by have := hbw2.size; simp; omega) _ _ 1 1 ([R].map uv) rfl (Reads.one w2 49 _) (uv_one _) (by omega) (by omega) ?_
                       intro v3 w3 ho3 hg3 hat3 hb3))
                  go_roundw
                  case rel => exact ⟨k + 1, ⟨[2, R], 0, false⟩, by omega, by go_num, rfl, rfl, by simp, HS2.out, by unfold OwnU; simpa using ho3, (hbw2.alloc hbw2.size _).trans hb3, by simp⟩
                  case measure => simp [intOf]; omega
                | false =>
                  have hbx' := hbx rfl
                  clear hbx
                  go_wp2_with (first
                    | (at_builtin
                       refine wpList_appC rfl (.tmp 39) (.tmp 41) 23 rfl 49 _ 1 8 u64_info Tryd.underlying23 rfl (by omega) w.heap.size wr.heap.size _ 0 [] rfl (HS.out.2.1.alloc (Nat.le_refl _) _) (by have := hbs.out; simp; omega) _ _ 1 1 ([2].map uv) rfl hone.out (uv_one _) (by omega) (by omega) ?_
                       intro v2 w2 ho2 hg2 hat2 hb2
                       have hbw2 : Below w.heap.size w w2 := (HS.out.2.2.alloc hbs.out _).trans hb2
                       obtain ⟨A7, c7, rfl, _, _, _, _⟩ := ho2.shape)
                    | (at_builtin
                       refine wpList_appC rfl (.tmp 47) (.tmp 49) 23 rfl 49 _ 1 8 u64_info Tryd.underlying23 rfl (by omega) w.heap.size w2.heap.size _ (0 + 1) ([] ++ [2].map uv) rfl (ho2.alloc (Nat.le_refl _) _) (by have := hbw2.size; simp; omega) _ _ 1 1 ([R].map uv) rfl (Reads.one w2 49 _) (uv_one _) (by omega) (by omega) ?_
                       intro v3 w3 ho3 hg3 hat3 hb3))
                  go_roundw
                  case rel => exact ⟨k + 1, ⟨[2, R], 0, false⟩, by omega, by go_num, rfl, rfl, by simp, HS2.out, by unfold OwnU; simpa using ho3, (hbw2.alloc hbw2.size _).trans hb3, by simp⟩
                  case measure => simp [intOf]; omega
              · obtain ⟨R, hR⟩ : ∃ R, M - 40 * T = R := ⟨_, rfl⟩
                have hs := HS2.out
                rw [show min (M / 40) 2 = T from by omega, show M - 40 * T = R from by omega] at hs
                have HS2 := Lib.hid hs
                have hT3 : ¬ (2 : Int) < T := by omega
                have hmul : IntKind.u64.wrap (40 * (T : Int)) = 40 * (T : Int) := by simp only [IntKind.wrap, IntKind.bits, IntKind.signed]; simp; omega
                have hsub : IntKind.u64.wrap ((M : Int) - 40 * (T : Int)) = (R : Int) := by simp only [IntKind.wrap, IntKind.bits, IntKind.signed]; simp; omega
                have hone : Hid (Reads (wr.alloc (.cells #[.int .u64 (T : Int)] 49)) (wr.heap.size + 1) 1 (some ⟨wr.heap.size, 0, none⟩) 1 ([T].map uv)) := Reads.one wr 49 _
                clear hT hR hs hMo
                cases bg with
                | true =>
                  clear hbx
                  go_wp2_with (first
                    | (at_builtin
                       refine wpList_appC rfl (.tmp 39) (.tmp 41) 23 rfl 49 _ 1 8 u64_info Tryd.underlying23 rfl (by omega) w.heap.size wr.heap.size _ 0 [] rfl (HS.out.2.1.alloc (Nat.le_refl _) _) (by have := hbs.out; simp; omega) _ _ 1 1 ([T].map uv) rfl hone.out (uv_one _) (by omega) (by omega) ?_
                       intro v2 w2 ho2 hg2 hat2 hb2
                       have hbw2 : Below w.heap.size w w2 := (HS.out.2.2.alloc hbs.out _).trans hb2
                       obtain ⟨A7, c7, rfl, _, _, _, _⟩ := ho2.shape)
                    | (at_builtin
                       refine wpList_appC rfl (.tmp 47) (.tmp 49) 23 rfl 49 _ 1 8 u64_info Tryd.underlying23 rfl (by omega) w.heap.size w2.heap.size _ (0 + 1) ([] ++ [T].map uv) rfl (ho2.alloc (Nat.le_refl _) _) (by have := hbw2.size; simp; omega) _ _ 1 1 ([R].map uv) rfl (Reads.one w2 49 _) (uv_one _) (by omega) (by omega) ?_
                       intro v3 w3 ho3 hg3 hat3 hb3))
                  go_roundw
                  case rel => exact ⟨k + 1, ⟨[T, R], 0, false⟩, by omega, by go_num, rfl, rfl, by simp, HS2.out, by unfold OwnU; simpa using ho3, (hbw2.alloc hbw2.size _).trans hb3, by simp⟩
                  case measure => simp [intOf]; omega
                | false =>
                  have hbx' := hbx rfl
                  clear hbx
                  go_wp2_with (first
                    | (at_builtin
                       refine wpList_appC rfl (.tmp 39) (.tmp 41) 23 rfl 49 _ 1 8 u64_info Tryd.underlying23 rfl (by omega) w.heap.size wr.heap.size _ 0 [] rfl (HS.out.2.1.alloc (Nat.le_refl _) _) (by have := hbs.out; simp; omega) _ _ 1 1 ([T].map uv) rfl hone.out (uv_one _) (by omega) (by omega) ?_
                       intro v2 w2 ho2 hg2 hat2 hb2
                       have hbw2 : Below w.heap.size w w2 := (HS.out.2.2.alloc hbs.out _).trans hb2
                       obtain ⟨A7, c7, rfl, _, _, _, _⟩ := ho2.shape)
                    | (at_builtin
                       refine wpList_appC rfl (.tmp 47) (.tmp 49) 23 rfl 49 _ 1 8 u64_info Tryd.underlying23 rfl (by omega) w.heap.size w2.heap.size _ (0 + 1) ([] ++ [T].map uv) rfl (ho2.alloc (Nat.le_refl _) _) (by have := hbw2.size; simp; omega) _ _ 1 1 ([R].map uv) rfl (Reads.one w2 49 _) (uv_one _) (by omega) (by omega) ?_
                       intro v3 w3 ho3 hg3 hat3 hb3))
                  go_roundw
                  case rel => exact ⟨k + 1, ⟨[T, R], 0, false⟩, by omega, by go_num, rfl, rfl, by simp, HS2.out, by unfold OwnU; simpa using ho3, (hbw2.alloc hbw2.size _).trans hb3, by simp⟩
                  case measure => simp [intOf]; omega
            · rw [if_neg he] at hs
              have hpos : 0 < arcs.length := List.length_pos_iff.2 he
              have hne0 : ((arcs.length : Int) == 0) = false := by simp; omega
              have HS2 := Lib.hid hs
              clear hs
              have hone : Hid (Reads (wr.alloc (.cells #[.int .u64 (M : Int)] 49)) (wr.heap.size + 1) 1 (some ⟨wr.heap.size, 0, none⟩) 1 ([M].map uv)) := Reads.one wr 49 _
              have hbs : Hid (w.heap.size ≤ wr.heap.size) := HS.out.2.2.size
              cases bg with
              | true =>
                clear hbx
                go_wp2_with
                  (at_builtin
                   refine wpList_appC rfl (.tmp 47) (.tmp 49) 23 rfl 49 _ 1 8 u64_info Tryd.underlying23 rfl (by omega) w.heap.size wr.heap.size _ arcs.length (arcs.map uv) rfl (HS.out.2.1.alloc (Nat.le_refl _) _) (by have := hbs.out; simp; omega) _ _ 1 1 ([M].map uv) rfl hone.out (uv_one _) (by omega) (by omega) ?_
                   intro v2 w2 ho2 hg2 hat2 hb2)
                go_roundw
                case rel => exact ⟨k + 1, ⟨arcs ++ [M], 0, false⟩, by omega, by go_num, rfl, rfl, by simp, HS2.out, by unfold OwnU; simpa using ho2, (HS.out.2.2.alloc hbs.out _).trans hb2, by simp; omega⟩
                case measure => simp [intOf]; omega
              | false =>
                have hbx' := hbx rfl
                clear hbx
                go_wp2_with
                  (at_builtin
                   refine wpList_appC rfl (.tmp 47) (.tmp 49) 23 rfl 49 _ 1 8 u64_info Tryd.underlying23 rfl (by omega) w.heap.size wr.heap.size _ arcs.length (arcs.map uv) rfl (HS.out.2.1.alloc (Nat.le_refl _) _) (by have := hbs.out; simp; omega) _ _ 1 1 ([M].map uv) rfl hone.out (uv_one _) (by omega) (by omega) ?_
                   intro v2 w2 ho2 hg2 hat2 hb2)
                go_roundw
                case rel => exact ⟨k + 1, ⟨arcs ++ [M], 0, false⟩, by omega, by go_num, rfl, rfl, by simp, HS2.out, by unfold OwnU; simpa using ho2, (HS.out.2.2.alloc hbs.out _).trans hb2, by simp; omega⟩
                case measure => simp [intOf]; omega
    · obtain rfl : k = n := by omega
      have hd : xs.drop k = [] := List.drop_eq_nil_of_le (by rw [HL.out]; omega)
      rw [hd, Der.oidFrom] at hs
      have hoid : Der.oid xs = if bg = true ∨ arcs = [] then none else some arcs := by
        unfold Der.oid
        rw [hs]
      have HH := Lib.hid (And.intro hoid (And.intro ho hb))
      have hge : ¬ (k : Int) < k := by omega
      clear hd hs hoid ho hb hr5 hn5
      cases bg with
      | true =>
        go_wp2
        go_ret2
        exact ⟨HH.out.2.2, .inl ⟨by have := HH.out.1; simpa using this, rfl⟩⟩
      | false =>
        by_cases he : arcs = []
        · subst he
          go_wp2
          go_ret2
          exact ⟨HH.out.2.2, .inl ⟨by have := HH.out.1; simpa using this, rfl⟩⟩
        · have hpos : 0 < arcs.length := List.length_pos_iff.2 he
          have hne0 : ((arcs.length : Int) == 0) = false := by simp; omega
          have HE := Lib.hid he
          clear he hpos
          go_wp2
          go_ret2
          exact ⟨HH.out.2.2, .inr ⟨arcs, _, by rw [HH.out.1, if_neg (by simpa using HE.out)], rfl, HH.out.2.1⟩⟩
end Go.Proofs.YtnfngnmajjkdbaaDoor
