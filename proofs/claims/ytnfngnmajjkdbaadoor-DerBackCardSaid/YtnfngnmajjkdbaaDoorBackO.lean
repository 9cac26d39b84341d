/- Strange extensions: what identifiers are written as, and how a certificate with such ones is read. Plain Lean. -/
import Derived.Test.YtnfngnmajjkdbaaDoorPlain2
import Derived.Test.YtnfngnmajjkdbaaDoorPut2
namespace Go.Proofs.YtnfngnmajjkdbaaDoor
open Go.RowKit
set_option maxRecDepth 100000
set_option linter.unusedVariables false
set_option linter.unusedSimpArgs false

theorem pend_pos {n : Nat} (h : 0 < n) : Der.pend n = Der.pend (n / 128) ++ [UInt8.ofNat (128 + n % 128)] := by
  unfold Der.pend
  rw [Der.sevT_pos h, List.reverse_cons]
theorem sev_pend (x : Nat) : Der.sev x = Der.pend (x / 128) ++ [UInt8.ofNat (x % 128)] := by
  unfold Der.sev Der.sevL Der.pend
  rw [List.reverse_cons]
theorem oid_pend (arcs : List Nat) (r : List UInt8) (n : Nat) : n < 18446744073709551616 → Der.oidFrom ⟨arcs, 0, false⟩ (Der.pend n ++ r) = Der.oidFrom ⟨arcs, n, decide (n ≠ 0)⟩ r := by
  induction n using Nat.strongRecOn generalizing r with
  | ind n ih =>
    intro hn
    rcases Nat.eq_zero_or_pos n with h0 | h0
    · subst h0
      rw [Der.pend_zero, List.nil_append]
      rfl
    · rw [pend_pos h0, List.append_assoc, ih (n / 128) (by omega) _ (by omega)]
      have hc : (UInt8.ofNat (128 + n % 128)).toNat = 128 + n % 128 := by rw [UInt8.toNat_ofNat']; omega
      show Der.oidFrom _ (UInt8.ofNat (128 + n % 128) :: r) = _
      rw [Der.oidFrom, Der.oidStep]
      simp only [hc]
      rw [if_neg, if_pos (by omega)]
      · simp only
        congr 2
        · omega
        · simp; omega
      · rintro (h | ⟨h1, h2⟩)
        · omega
        · simp at h1
          omega
theorem oid_fin (s : Der.OidS) (c : Nat) (r : List UInt8) (hc : c < 128) (h1 : s.n < 144115188075855872) :
    Der.oidFrom s (UInt8.ofNat c :: r) = Der.oidFrom (if s.arcs = [] then ⟨[min ((s.n * 128 + c) / 40) 2, (s.n * 128 + c) - 40 * min ((s.n * 128 + c) / 40) 2], 0, false⟩ else ⟨s.arcs ++ [s.n * 128 + c], 0, false⟩) r := by
  have hcc : (UInt8.ofNat c).toNat = c := by rw [UInt8.toNat_ofNat']; omega
  rw [Der.oidFrom, Der.oidStep]
  simp only [hcc]
  rw [if_neg (by rintro (h | ⟨_, h⟩) <;> omega), if_neg (by omega), Nat.mod_eq_of_lt hc]
  by_cases ha : s.arcs = []
  · rw [if_pos ha, if_pos ha]
  · rw [if_neg ha, if_neg ha]
theorem oid_sev0 (x : Nat) (r : List UInt8) (hx : x < 18446744073709551616) : Der.oidFrom ⟨[], 0, false⟩ (Der.sev x ++ r) = Der.oidFrom ⟨[min (x / 40) 2, x - 40 * min (x / 40) 2], 0, false⟩ r := by
  rw [sev_pend, List.append_assoc, oid_pend _ _ _ (by omega)]
  show Der.oidFrom _ (UInt8.ofNat (x % 128) :: r) = _
  rw [oid_fin _ _ _ (by omega) (by show x / 128 < _; omega), if_pos rfl]
  simp only
  rw [show x / 128 * 128 + x % 128 = x by omega]
theorem oid_sev (arcs : List Nat) (ha : arcs ≠ []) (x : Nat) (r : List UInt8) (hx : x < 18446744073709551616) : Der.oidFrom ⟨arcs, 0, false⟩ (Der.sev x ++ r) = Der.oidFrom ⟨arcs ++ [x], 0, false⟩ r := by
  rw [sev_pend, List.append_assoc, oid_pend _ _ _ (by omega)]
  show Der.oidFrom _ (UInt8.ofNat (x % 128) :: r) = _
  rw [oid_fin _ _ _ (by omega) (by show x / 128 < _; omega), if_neg ha]
  simp only
  rw [show x / 128 * 128 + x % 128 = x by omega]
theorem oid_sevs : ∀ (l arcs : List Nat), arcs ≠ [] → (∀ z ∈ l, z < 18446744073709551616) → Der.oidFrom ⟨arcs, 0, false⟩ (Der.sevs l) = some ⟨arcs ++ l, 0, false⟩
  | [], arcs, ha, _ => by rw [List.append_nil]; rfl
  | z :: l, arcs, ha, h => by
    show Der.oidFrom _ (Der.sev z ++ Der.sevs l) = _
    rw [oid_sev arcs ha z _ (h z (by simp)), oid_sevs l (arcs ++ [z]) (by simp) (fun y hy => h y (by simp [hy])), List.append_assoc]
    rfl
theorem oid_putOid (zs : List Nat) (h : ∀ z ∈ zs, z < 18446744073709551616) : Der.putOid zs = [] ∨ Der.oid (Der.putOid zs) = some zs := by
  match zs, h with
  | [], _ => left; rfl
  | [_], _ => left; rfl
  | a :: b :: r, h =>
    rw [Der.putOid]
    by_cases hok : Der.putOk a b = true
    · right
      rw [if_pos hok]
      unfold Der.putOk at hok
      simp only [Bool.and_eq_true, Bool.or_eq_true, decide_eq_true_eq] at hok
      unfold Der.oid
      rw [oid_sev0 _ _ (by omega), oid_sevs r _ (by simp) (fun y hy => h y (by simp [hy]))]
      simp only
      rw [if_neg (by simp)]
      have e1 : min ((40 * a + b) / 40) 2 = a := by omega
      rw [e1, show 40 * a + b - 40 * a = b by omega]
      rfl
    · left
      rw [if_neg hok]
end Go.Proofs.YtnfngnmajjkdbaaDoor
