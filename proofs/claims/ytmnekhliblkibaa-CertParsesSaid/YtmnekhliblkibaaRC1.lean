/- The contracts of the document's numbers and Oid. -/
import Derived.Test.YtmnekhliblkibaaRC3
namespace Go.Proofs.Ytmnekhliblkibaa
open Go.RowKit
set_option maxRecDepth 100000
set_option linter.unusedVariables false
set_option linter.unusedSimpArgs false

/-- The arcs of numbers. -/
def RC.arcs : List Nat → List Nat
  | [] => []
  | a :: r => min (a / 40) 2 :: (a - 40 * min (a / 40) 2) :: r
theorem arcs_snoc (l : List Nat) (M : Nat) : RC.arcs (l ++ [M]) = if RC.arcs l = [] then [min (M / 40) 2, M - 40 * min (M / 40) 2] else RC.arcs l ++ [M] := by
  cases l with
  | nil => rfl
  | cons a r => simp [RC.arcs]
theorem arcs_nil {l : List Nat} : RC.arcs l = [] ↔ l = [] := by
  cases l <;> simp [RC.arcs]
theorem oidFrom_cons (s : Der.OidS) (c : UInt8) (r : List UInt8) : Der.oidFrom s (c :: r) = match Der.oidStep s c with
    | none => none
    | some s' => Der.oidFrom s' r := rfl
theorem drop_cons' {xs : List UInt8} {k : Nat} {x : UInt8} (h : xs[k]? = some x) : xs.drop k = x :: xs.drop (k + 1) := by
  have hk : k < xs.length := by
    rcases Nat.lt_or_ge k xs.length with h1 | h1
    · exact h1
    · rw [List.getElem?_eq_none h1] at h; cases h
  rw [List.drop_eq_getElem_cons hk]
  congr 1
  rw [List.getElem?_eq_getElem hk] at h
  injection h

/-- What numbers' rounds keep. -/
def NumRel (xs : List UInt8) (w : World) (k : Nat) (l : List Nat) (v : Value) (wr : World) : Prop :=
  Der.oidFrom ⟨[], 0, false⟩ xs = Der.oidFrom ⟨RC.arcs l, 0, false⟩ (xs.drop k) ∧ OwnU wr w.heap.size wr.heap.size v l ∧ Below w.heap.size w wr ∧ l.length ≤ k ∧ ∀ z ∈ l, z < 18446744073709551616

/-- Numbers of a body, and whether it has some. -/
def NumsQ (w : World) (n : Nat) (xs : List UInt8) (e : Ending) (w' : World) : Prop := ∃ (q : Bool) (l : List Nat) (v : Value), e = .returned (.tuple #[v, .bool q]) ∧ Below w.heap.size w w' ∧ OwnU w' w.heap.size w'.heap.size v l ∧ l.length ≤ n ∧ Der.oid xs = (if q = true then some (RC.arcs l) else none) ∧ (q = true → l ≠ []) ∧ ∀ z ∈ l, z < 18446744073709551616
set_option maxHeartbeats 4000000 in
theorem rnumbers_any (A : Option Addr) (n c : Nat) (xs : List UInt8) (w : World) (h : Rd w w.heap.size A n c xs) (hn : n ≤ 1099511627776) :
    Calls Try.prog 117 #[.slice A n c] w (NumsQ w n xs) := by
  have hl := h.len
  have hrel0 : NumRel xs w 0 [] (.slice none 0 0) w := ⟨rfl, OwnC.nil_, Below.refl _ _, Nat.le_refl _, by simp⟩
  have HL := Lib.hid (And.intro hl h)
  clear hl h
  go_enter Try.func117, Try.ntmps117
  go_wp2
  go_loopw [4, 5] (fun v i wr => ∃ (k : Nat) (l : List Nat), k ≤ n ∧ i = .int .i64 k ∧ NumRel xs w k l v wr) (fun _ i _ => n - (intOf i).toNat)
  case atStart => exact ⟨0, [], Nat.zero_le _, rfl, hrel0⟩
  case round =>
    obtain ⟨k, l, hk, rfl, hrel⟩ := hrel
    obtain ⟨A5, c5, rfl, hc5, hcm5, hn5, hr5⟩ := hrel.2.1.shape
    have HR := Lib.hid hrel
    clear hrel hn5 hr5
    by_cases hlt : k < n
    · have hlt' : (k : Int) < n := by omega
      obtain ⟨b, o, rfl, hbB, hcell⟩ := HL.out.2.at_ (by omega)
      obtain ⟨x, hx⟩ : ∃ x, xs[k]? = some x := ⟨_, List.getElem?_eq_getElem (by have := HL.out.1; omega)⟩
      have hcx : wr.cell? ⟨b, o + k, none⟩ = some (.int .u8 (x.toNat : Int)) := (HR.out.2.2.1.cell (p := ⟨b, o + k, none⟩) hbB).trans (hcell k x hx)
      have hs : Der.oidFrom ⟨[], 0, false⟩ xs = Der.oidFrom ⟨RC.arcs l, 0, false⟩ (x :: xs.drop (k + 1)) := by rw [HR.out.1, drop_cons' hx]
      have HC := Lib.hid hcell
      have hxl := x.toNat_lt
      by_cases h80 : x.toNat = 128
      · have hno : Der.oid xs = none := by
          unfold Der.oid
          rw [hs, oidFrom_cons, Der.oidStep, if_pos (.inr ⟨rfl, h80⟩)]
        have HNO := Lib.hid hno
        have e80 : ((x.toNat : Int) == 128) = true := by simp; omega
        rw [h80] at hcx
        clear hno hs hx hcell h80 e80
        go_wp2
        go_ret2
        exact ⟨false, [], _, rfl, HR.out.2.2.1, OwnC.nil_, Nat.zero_le _, HNO.out, (fun h => by cases h), by simp⟩
      · have e80 : ((x.toNat : Int) == 128) = false := by simp; omega
        have HX := Lib.hid (And.intro hx (And.intro hs h80))
        clear hs hx hcell h80
        go_wp2
        go_loopw [5, 6] (fun i u wq => ∃ (j N : Nat) (bg : Bool), k ≤ j ∧ j ≤ n ∧ i = .int .i64 j ∧ u = .int .u64 (N : Int) ∧ N < 18446744073709551616 ∧ wq = wr ∧ (bg = false → j = k ∧ N = 0) ∧
          Der.oidFrom ⟨[], 0, false⟩ xs = Der.oidFrom ⟨RC.arcs l, N, bg⟩ (xs.drop j)) (fun i _ _ => n - (intOf i).toNat)
        case atStart => exact ⟨k, 0, false, Nat.le_refl _, by omega, rfl, rfl, by omega, rfl, fun _ => ⟨rfl, rfl⟩, HR.out.1⟩
        case round =>
          obtain ⟨j, N, bg, hkj, hj, rfl, rfl, hN, rfl, hbg, hs⟩ := hrel
          have HJ := Lib.hid (And.intro hbg hs)
          clear hbg hs
          by_cases hjn : j < n
          · have hjn' : (j : Int) < n := by omega
            obtain ⟨y, hy⟩ : ∃ y, xs[j]? = some y := ⟨_, List.getElem?_eq_getElem (by have := HL.out.1; omega)⟩
            have hcy : wr.cell? ⟨b, o + j, none⟩ = some (.int .u8 (y.toNat : Int)) := (HR.out.2.2.1.cell (p := ⟨b, o + j, none⟩) hbB).trans (HC.out j y hy)
            have hyl := y.toNat_lt
            have hs := HJ.out.2
            rw [drop_cons' hy, oidFrom_cons] at hs
            obtain ⟨M, hM⟩ : ∃ M, N * 128 + y.toNat % 128 = M := ⟨_, rfl⟩
            have hz : ¬ (bg = false ∧ y.toNat = 128) := by
              rintro ⟨h1, h2⟩
              obtain ⟨rfl, rfl⟩ := HJ.out.1 h1
              have := HX.out.1
              rw [hy] at this
              injection this with this
              subst this
              exact HX.out.2.2 h2
            by_cases hbig : 144115188075855872 ≤ N
            · have hno : Der.oid xs = none := by
                unfold Der.oid
                rw [hs, Der.oidStep, if_pos (.inl hbig)]
              have HNO := Lib.hid hno
              have hbig' : (144115188075855872 : Int) ≤ N := by omega
              have hne : ((j : Int) == n) = false := by simp; omega
              clear hno hs hz hM hy
              by_cases hy8 : (128 : Int) ≤ y.toNat
              · go_wp2
                go_ret2
                exact ⟨false, [], _, rfl, HR.out.2.2.1, OwnC.nil_, Nat.zero_le _, HNO.out, (fun h => by cases h), by simp⟩
              · go_wp2
                go_ret2
                exact ⟨false, [], _, rfl, HR.out.2.2.1, OwnC.nil_, Nat.zero_le _, HNO.out, (fun h => by cases h), by simp⟩
            · have hbig' : ¬ (144115188075855872 : Int) ≤ N := by omega
              have hne : ((j : Int) == n) = false := by simp; omega
              have hstep : Der.oidStep ⟨RC.arcs l, N, bg⟩ y = if 128 ≤ y.toNat then some ⟨RC.arcs l, M, true⟩
                  else if RC.arcs l = [] then some ⟨[min (M / 40) 2, M - 40 * min (M / 40) 2], 0, false⟩ else some ⟨RC.arcs l ++ [M], 0, false⟩ := by
                unfold Der.oidStep
                rw [if_neg (fun h => h.elim (fun h => hbig h) hz)]
                dsimp only
                rw [hM]
              rw [hstep] at hs
              have hMb : M < 18446744073709551616 := by omega
              by_cases hy8 : 128 ≤ y.toNat
              · have hy8' : (128 : Int) ≤ y.toNat := by omega
                rw [if_pos hy8] at hs
                have hm1 : IntKind.u64.wrap ((N : Int) * 128) = (N : Int) * 128 := IntWalk.u64_in _ (by omega)
                have hm2 : IntKind.u8.wrap ((y.toNat : Int) - 128) = (y.toNat : Int) - 128 := by rw [IntKind.wrap_u8]; omega
                have hm3 : IntKind.u64.wrap ((y.toNat : Int) - 128) = (y.toNat : Int) - 128 := IntWalk.u64_in _ (by omega)
                have hm4 : IntKind.u64.wrap ((N : Int) * 128 + ((y.toNat : Int) - 128)) = (M : Int) := by rw [IntWalk.u64_in _ (by omega)]; omega
                have HS := Lib.hid (And.intro hs hMb)
                clear hs hstep hM hMb hz hy
                go_wp2
                go_roundw
                case rel => exact ⟨j + 1, M, true, by omega, by omega, by go_num, by go_num, HS.out.2, by first | rfl | trivial, (fun h => by cases h), HS.out.1⟩
                case measure => simp [intOf]; omega
              · have hy8' : ¬ (128 : Int) ≤ y.toNat := by omega
                rw [if_neg hy8] at hs
                have hm1 : IntKind.u64.wrap ((N : Int) * 128) = (N : Int) * 128 := IntWalk.u64_in _ (by omega)
                have hm3 : IntKind.u64.wrap (y.toNat : Int) = (y.toNat : Int) := IntWalk.u64_in _ (by omega)
                have hm4 : IntKind.u64.wrap ((N : Int) * 128 + (y.toNat : Int)) = (M : Int) := by rw [IntWalk.u64_in _ (by omega)]; omega
                have hs2 : Der.oidFrom ⟨[], 0, false⟩ xs = Der.oidFrom ⟨RC.arcs (l ++ [M]), 0, false⟩ (xs.drop (j + 1)) := by
                  rw [arcs_snoc, hs]
                  by_cases h0 : RC.arcs l = []
                  · rw [if_pos h0, if_pos h0]
                  · rw [if_neg h0, if_neg h0]
                have HS := Lib.hid (And.intro hs2 hMb)
                clear hs hs2 hstep hM hMb hz hy
                have hbs : Hid (w.heap.size ≤ wr.heap.size) := HR.out.2.2.1.size
                have hone : Hid (Reads (wr.alloc (.cells #[.int .u64 (M : Int)] 28)) (wr.heap.size + 1) 1 (some ⟨wr.heap.size, 0, none⟩) 1 ([M].map uv)) := Reads.one wr 28 _
                have hlk := HR.out.2.2.2.1
                go_wp2_with
                  (at_builtin
                   refine wpList_appC rfl (.tmp 50) (.tmp 59) 55 rfl 28 _ 1 8 u64_info Try.underlying55 rfl (by omega) w.heap.size wr.heap.size _ l.length (l.map uv) rfl (HR.out.2.1.alloc (Nat.le_refl _) _) (by have := hbs.out; simp; omega) _ _ 1 1 ([M].map uv) rfl hone.out (uv_one _) (by omega) (by omega) ?_
                   intro v2 w2 ho2 hg2 hat2 hb2)
                go_roundw
                case rel => exact ⟨j + 1, l ++ [M], by omega, by go_num, HS.out.1, by unfold OwnU; simpa using ho2, (HR.out.2.2.1.alloc hbs.out _).trans hb2, by simp; omega, by
                  intro z hz
                  rcases List.mem_append.1 hz with h | h
                  · exact HR.out.2.2.2.2 z h
                  · rw [List.mem_singleton.1 h]; exact HS.out.2⟩
                case measure => simp [intOf]; omega
          · obtain rfl : n = j := by omega
            have hge : ¬ (n : Int) < n := by omega
            have hbt : bg = true := by
              cases bg with
              | true => rfl
              | false => have := (HJ.out.1 rfl).1; omega
            have hno : Der.oid xs = none := by
              unfold Der.oid
              rw [HJ.out.2, show xs.drop n = [] from List.drop_of_length_le (by have := HL.out.1; omega), Der.oidFrom, hbt]
              rfl
            have HNO := Lib.hid hno
            clear hno hbt
            go_wp2
            go_ret2
            exact ⟨false, [], _, rfl, HR.out.2.2.1, OwnC.nil_, Nat.zero_le _, HNO.out, (fun h => by cases h), by simp⟩
    · obtain rfl : n = k := by omega
      have hlt' : ¬ (n : Int) < n := by omega
      have hoid : Der.oid xs = if decide (0 < l.length) = true then some (RC.arcs l) else none := by
        unfold Der.oid
        rw [HR.out.1, show xs.drop n = [] from List.drop_of_length_le (by have := HL.out.1; omega), Der.oidFrom]
        by_cases h0 : l = []
        · subst h0; rfl
        · rw [if_pos (by simp; exact List.length_pos_iff.2 h0)]
          dsimp only
          rw [if_neg (by simp [arcs_nil, h0])]
      have HO := Lib.hid hoid
      clear hoid
      go_wp2
      go_ret2
      exact ⟨_, l, _, rfl, HR.out.2.2.1, HR.out.2.1, HR.out.2.2.2.1, HO.out, (fun h => by rintro rfl; simp at h), HR.out.2.2.2.2⟩

theorem OwnU.lit (w : World) (xs : List Nat) (cs : List Value) (n : Nat) (hc : cs = xs.map uv) (hl : xs.length = n) (hn : n ≤ 1099511627776) :
    OwnC 28 1 (w.alloc (.cells cs.toArray 28)) w.heap.size (w.heap.size + 1) (.slice (some ⟨w.heap.size, 0, none⟩) n n) n (xs.map uv) := by
  subst hc hl
  refine ⟨⟨by simp, .inr ⟨w.heap.size, _, _, rfl, Nat.le_refl _, heap_alloc_new w _, Nat.le_refl _, by simp only [maxLen]; omega, by simp, by simp only [Nat.mul_one]; rw [List.take_of_length_le (by simp)]⟩⟩, fun k hk => by simp [Value.ownBlock] at hk; omega⟩
/-- Whether a body is an identifier's. -/
def OidQ (w : World) (xs : List UInt8) (e : Ending) (w' : World) : Prop := ∃ v : Value, e = .returned (.tuple #[v, .bool (Der.oid xs).isSome]) ∧ Below w.heap.size w w'
set_option maxHeartbeats 1000000 in
theorem roid_any (A : Option Addr) (n c : Nat) (xs : List UInt8) (w : World) (h : Rd w w.heap.size A n c xs) (hn : n ≤ 1099511627776) :
    Calls Try.prog 108 #[.slice A n c] w (OidQ w xs) := by
  go_enter Try.func108, Try.ntmps108
  go_wp2_with fail
  refine (rnumbers_any A n c xs w h hn).mono ?_
  rintro e w1 ⟨q, l, v, rfl, hb1, hO, hlen, ho, hne, hz⟩
  obtain ⟨A5, c5, rfl, hc5, hcm5, hn5, hr5⟩ := hO.shape
  cases q with
  | false =>
    rw [if_neg (by decide)] at ho
    have H1 := Lib.hid (And.intro hb1 ho)
    clear hn5 hr5 hO hne ho hb1
    go_wp2
    go_ret2
    exact ⟨_, by rw [H1.out.2]; rfl, H1.out.1⟩
  | true =>
    rw [if_pos rfl] at ho
    obtain ⟨x, r, rfl⟩ : ∃ x r, l = x :: r := List.exists_cons_of_ne_nil (hne rfl)
    obtain ⟨m, hm⟩ : ∃ m, (x :: r).length = m := ⟨_, rfl⟩
    have hx64 := hz x (by simp)
    rw [hm] at hc5 hr5 hlen ⊢
    have hm1 : 1 ≤ m := by rw [← hm]; simp
    have hs1 := hb1.size
    obtain ⟨⟨g, og, pg⟩, rfl, hg, hcell⟩ := hr5.2 (by omega)
    obtain ⟨rfl, rfl⟩ : og = 0 ∧ pg = none := by
      rcases hO.1.2 with ⟨e, _⟩ | ⟨g', cap, cur, e, _⟩
      · cases e
      · injection e with e _ _
        injection e with e
        injection e with e1 e2 e3
        exact ⟨e2, e3⟩
    have k0 : w1.cell? ⟨g, 0, none⟩ = some (.int .u64 (x : Int)) := by
      have := hcell 0 (uv x) rfl
      simpa [Addr.add_lit, uv] using this
    obtain ⟨T, hT⟩ : ∃ T, x / 40 = T := ⟨_, rfl⟩
    have hq : ((x : Int) / 40) = (T : Int) := by omega
    have hr1 : Reads w1 w1.heap.size 1 (if c5 = 1 then some ⟨g, 0, none⟩ else some ⟨g, 1, none⟩) (m - 1) (r.map uv) := by
      have hlr : r.length = m - 1 := by rw [← hm]; simp
      refine ⟨by simp [hlr], fun h0 => ?_⟩
      rw [if_neg (by omega)]
      refine ⟨_, rfl, hg, fun j u hu => ?_⟩
      have := hcell (j + 1) u (by simpa using hu)
      simpa [Addr.add_lit, Nat.add_comm] using this
    have hsl : ∀ W, (Instr.sliceAt 55 (.slice (some ⟨g, 0, none⟩) m c5) (some (.int .i64 1)) none none).run Try.prog W = .ok (.slice (if c5 = 1 then some ⟨g, 0, none⟩ else some ⟨g, 1, none⟩) (m - 1) (c5 - 1)) W := fun W => by
      simp [go_sem, Try.underlying55, show (1 : Int) ≤ m by omega, Addr.add_lit]
    have hm0 : 0 < m := by omega
    have HH := Lib.hid (And.intro hb1 (And.intro ho (And.intro hr1 hm)))
    clear ho hO hm hb1 hne hz hr5 hn5 hcell hr1 hT
    obtain ⟨A6, hA6⟩ : ∃ A6 : Option Addr, (if c5 = 1 then some ⟨g, 0, none⟩ else some ⟨g, 1, none⟩) = A6 := ⟨_, rfl⟩
    rw [hA6] at HH hsl
    by_cases hT2 : (2 : Int) < T
    · have w1' : IntKind.u64.wrap ((x : Int) - 80) = (x : Int) - 80 := IntWalk.u64_in _ (by omega)
      obtain ⟨R, hR⟩ : ∃ R : Nat, (x : Int) - 80 = R := ⟨x - 80, by omega⟩
      rw [hR] at w1'
      have hO2 := Lib.hid (OwnU.lit w1 [2, R] [.int .u64 2, .int .u64 (R : Int)] 2 rfl rfl (by omega))
      go_wp2_with
        (at_builtin
         refine wpList_appC rfl (.tmp 28) (.tmp 30) 55 rfl 28 _ 1 8 u64_info Try.underlying55 rfl (by omega) w1.heap.size (w1.heap.size + 1) _ 2 ([2, R].map uv) rfl hO2.out (by simp) _ A6 (m - 1) (c5 - 1) (r.map uv) rfl (HH.out.2.2.1.alloc (Nat.le_refl _) _) (uv_one _) (by omega) (by omega) ?_
         intro v3 w3 ho3 hg3 hat3 hb3)
      go_ret2
      exact ⟨_, by rw [HH.out.2.1]; rfl, HH.out.1.trans (Below.trans (by (repeat (first | exact Below.refl _ _ | assumption | (refine Below.setCell ?_ (by first | omega | (simp; done) | (simp; omega)) _) | (refine Below.alloc ?_ (by first | omega | (simp; done) | (simp; omega)) _) | (refine below_drewN ?_ _) | (refine Below.drew ?_)))) (hb3.mono (by first | omega | (simp; done) | (simp; omega))))⟩
    · have w1' : IntKind.u64.wrap ((x : Int) - 40 * T) = (x : Int) - 40 * T := IntWalk.u64_in _ (by omega)
      obtain ⟨R, hR⟩ : ∃ R : Nat, (x : Int) - 40 * T = R := ⟨x - 40 * T, by omega⟩
      have w2' : IntKind.u64.wrap (40 * (T : Int)) = 40 * (T : Int) := IntWalk.u64_in _ (by omega)
      rw [hR] at w1'
      have hO2 := Lib.hid (OwnU.lit w1 [T, R] [.int .u64 (T : Int), .int .u64 (R : Int)] 2 rfl rfl (by omega))
      go_wp2_with
        (at_builtin
         refine wpList_appC rfl (.tmp 28) (.tmp 30) 55 rfl 28 _ 1 8 u64_info Try.underlying55 rfl (by omega) w1.heap.size (w1.heap.size + 1) _ 2 ([T, R].map uv) rfl hO2.out (by simp) _ A6 (m - 1) (c5 - 1) (r.map uv) rfl (HH.out.2.2.1.alloc (Nat.le_refl _) _) (uv_one _) (by omega) (by omega) ?_
         intro v3 w3 ho3 hg3 hat3 hb3)
      go_ret2
      exact ⟨_, by rw [HH.out.2.1]; rfl, HH.out.1.trans (Below.trans (by (repeat (first | exact Below.refl _ _ | assumption | (refine Below.setCell ?_ (by first | omega | (simp; done) | (simp; omega)) _) | (refine Below.alloc ?_ (by first | omega | (simp; done) | (simp; omega)) _) | (refine below_drewN ?_ _) | (refine Below.drew ?_)))) (hb3.mono (by first | omega | (simp; done) | (simp; omega))))⟩
end Go.Proofs.Ytmnekhliblkibaa
