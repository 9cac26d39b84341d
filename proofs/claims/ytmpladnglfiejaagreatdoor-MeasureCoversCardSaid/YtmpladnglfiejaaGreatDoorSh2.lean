/- SHA-256 of the program: right, by each of its amounts. -/
import Derived.Test.YtmpladnglfiejaaGreatDoorSh1
namespace Go.Proofs.YtmpladnglfiejaaGreatDoor
open Go.RowKit
set_option maxRecDepth 100000
set_option linter.unusedVariables false
set_option linter.unusedSimpArgs false
namespace Sha
/-- A word's bits go round to the right; a: 2 to the 32 less the amount, b: 2 to the amount. -/
def rot (x a b : Int) : Int := bits .or .u32 (IntKind.u32.wrap (x * a)) (x / b)
end Sha
theorem rotl2_any (x : Int) (w : World) : Calls Tryz.prog 82 #[.int .u32 x, .int .i64 (-2)] w fun e w' => e = .returned (.int .u32 (Sha.rot x 1073741824 4)) ∧ w' = w := by
  have hw : IntKind.u64.wrap (-2) = 18446744073709551614 := by decide
  have hb : bits .and .u64 18446744073709551614 31 = 30 := by decide
  go_enter Tryz.func82, Tryz.ntmps82
  go_wp2_with fail
  go_ret
  exact ⟨rfl, rfl⟩
theorem right2_any (x : Int) (w : World) : Calls Tryz.prog 60 #[.int .u32 x, .int .i64 2] w fun e w' => e = .returned (.int .u32 (Sha.rot x 1073741824 4)) ∧ w' = w := by
  have h := fun W => rotl2_any x W
  generalize Sha.rot x 1073741824 4 = r at h ⊢
  go_enter Tryz.func60, Tryz.ntmps60
  go_wp2_with fail
  refine (h _).mono ?_
  rintro e w' ⟨rfl, rfl⟩
  go_wp2_with fail
  go_ret
  exact ⟨rfl, rfl⟩
theorem rotl6_any (x : Int) (w : World) : Calls Tryz.prog 82 #[.int .u32 x, .int .i64 (-6)] w fun e w' => e = .returned (.int .u32 (Sha.rot x 67108864 64)) ∧ w' = w := by
  have hw : IntKind.u64.wrap (-6) = 18446744073709551610 := by decide
  have hb : bits .and .u64 18446744073709551610 31 = 26 := by decide
  go_enter Tryz.func82, Tryz.ntmps82
  go_wp2_with fail
  go_ret
  exact ⟨rfl, rfl⟩
theorem right6_any (x : Int) (w : World) : Calls Tryz.prog 60 #[.int .u32 x, .int .i64 6] w fun e w' => e = .returned (.int .u32 (Sha.rot x 67108864 64)) ∧ w' = w := by
  have h := fun W => rotl6_any x W
  generalize Sha.rot x 67108864 64 = r at h ⊢
  go_enter Tryz.func60, Tryz.ntmps60
  go_wp2_with fail
  refine (h _).mono ?_
  rintro e w' ⟨rfl, rfl⟩
  go_wp2_with fail
  go_ret
  exact ⟨rfl, rfl⟩
theorem rotl7_any (x : Int) (w : World) : Calls Tryz.prog 82 #[.int .u32 x, .int .i64 (-7)] w fun e w' => e = .returned (.int .u32 (Sha.rot x 33554432 128)) ∧ w' = w := by
  have hw : IntKind.u64.wrap (-7) = 18446744073709551609 := by decide
  have hb : bits .and .u64 18446744073709551609 31 = 25 := by decide
  go_enter Tryz.func82, Tryz.ntmps82
  go_wp2_with fail
  go_ret
  exact ⟨rfl, rfl⟩
theorem right7_any (x : Int) (w : World) : Calls Tryz.prog 60 #[.int .u32 x, .int .i64 7] w fun e w' => e = .returned (.int .u32 (Sha.rot x 33554432 128)) ∧ w' = w := by
  have h := fun W => rotl7_any x W
  generalize Sha.rot x 33554432 128 = r at h ⊢
  go_enter Tryz.func60, Tryz.ntmps60
  go_wp2_with fail
  refine (h _).mono ?_
  rintro e w' ⟨rfl, rfl⟩
  go_wp2_with fail
  go_ret
  exact ⟨rfl, rfl⟩
theorem rotl11_any (x : Int) (w : World) : Calls Tryz.prog 82 #[.int .u32 x, .int .i64 (-11)] w fun e w' => e = .returned (.int .u32 (Sha.rot x 2097152 2048)) ∧ w' = w := by
  have hw : IntKind.u64.wrap (-11) = 18446744073709551605 := by decide
  have hb : bits .and .u64 18446744073709551605 31 = 21 := by decide
  go_enter Tryz.func82, Tryz.ntmps82
  go_wp2_with fail
  go_ret
  exact ⟨rfl, rfl⟩
theorem right11_any (x : Int) (w : World) : Calls Tryz.prog 60 #[.int .u32 x, .int .i64 11] w fun e w' => e = .returned (.int .u32 (Sha.rot x 2097152 2048)) ∧ w' = w := by
  have h := fun W => rotl11_any x W
  generalize Sha.rot x 2097152 2048 = r at h ⊢
  go_enter Tryz.func60, Tryz.ntmps60
  go_wp2_with fail
  refine (h _).mono ?_
  rintro e w' ⟨rfl, rfl⟩
  go_wp2_with fail
  go_ret
  exact ⟨rfl, rfl⟩
theorem rotl13_any (x : Int) (w : World) : Calls Tryz.prog 82 #[.int .u32 x, .int .i64 (-13)] w fun e w' => e = .returned (.int .u32 (Sha.rot x 524288 8192)) ∧ w' = w := by
  have hw : IntKind.u64.wrap (-13) = 18446744073709551603 := by decide
  have hb : bits .and .u64 18446744073709551603 31 = 19 := by decide
  go_enter Tryz.func82, Tryz.ntmps82
  go_wp2_with fail
  go_ret
  exact ⟨rfl, rfl⟩
theorem right13_any (x : Int) (w : World) : Calls Tryz.prog 60 #[.int .u32 x, .int .i64 13] w fun e w' => e = .returned (.int .u32 (Sha.rot x 524288 8192)) ∧ w' = w := by
  have h := fun W => rotl13_any x W
  generalize Sha.rot x 524288 8192 = r at h ⊢
  go_enter Tryz.func60, Tryz.ntmps60
  go_wp2_with fail
  refine (h _).mono ?_
  rintro e w' ⟨rfl, rfl⟩
  go_wp2_with fail
  go_ret
  exact ⟨rfl, rfl⟩
theorem rotl17_any (x : Int) (w : World) : Calls Tryz.prog 82 #[.int .u32 x, .int .i64 (-17)] w fun e w' => e = .returned (.int .u32 (Sha.rot x 32768 131072)) ∧ w' = w := by
  have hw : IntKind.u64.wrap (-17) = 18446744073709551599 := by decide
  have hb : bits .and .u64 18446744073709551599 31 = 15 := by decide
  go_enter Tryz.func82, Tryz.ntmps82
  go_wp2_with fail
  go_ret
  exact ⟨rfl, rfl⟩
theorem right17_any (x : Int) (w : World) : Calls Tryz.prog 60 #[.int .u32 x, .int .i64 17] w fun e w' => e = .returned (.int .u32 (Sha.rot x 32768 131072)) ∧ w' = w := by
  have h := fun W => rotl17_any x W
  generalize Sha.rot x 32768 131072 = r at h ⊢
  go_enter Tryz.func60, Tryz.ntmps60
  go_wp2_with fail
  refine (h _).mono ?_
  rintro e w' ⟨rfl, rfl⟩
  go_wp2_with fail
  go_ret
  exact ⟨rfl, rfl⟩
theorem rotl18_any (x : Int) (w : World) : Calls Tryz.prog 82 #[.int .u32 x, .int .i64 (-18)] w fun e w' => e = .returned (.int .u32 (Sha.rot x 16384 262144)) ∧ w' = w := by
  have hw : IntKind.u64.wrap (-18) = 18446744073709551598 := by decide
  have hb : bits .and .u64 18446744073709551598 31 = 14 := by decide
  go_enter Tryz.func82, Tryz.ntmps82
  go_wp2_with fail
  go_ret
  exact ⟨rfl, rfl⟩
theorem right18_any (x : Int) (w : World) : Calls Tryz.prog 60 #[.int .u32 x, .int .i64 18] w fun e w' => e = .returned (.int .u32 (Sha.rot x 16384 262144)) ∧ w' = w := by
  have h := fun W => rotl18_any x W
  generalize Sha.rot x 16384 262144 = r at h ⊢
  go_enter Tryz.func60, Tryz.ntmps60
  go_wp2_with fail
  refine (h _).mono ?_
  rintro e w' ⟨rfl, rfl⟩
  go_wp2_with fail
  go_ret
  exact ⟨rfl, rfl⟩
theorem rotl19_any (x : Int) (w : World) : Calls Tryz.prog 82 #[.int .u32 x, .int .i64 (-19)] w fun e w' => e = .returned (.int .u32 (Sha.rot x 8192 524288)) ∧ w' = w := by
  have hw : IntKind.u64.wrap (-19) = 18446744073709551597 := by decide
  have hb : bits .and .u64 18446744073709551597 31 = 13 := by decide
  go_enter Tryz.func82, Tryz.ntmps82
  go_wp2_with fail
  go_ret
  exact ⟨rfl, rfl⟩
theorem right19_any (x : Int) (w : World) : Calls Tryz.prog 60 #[.int .u32 x, .int .i64 19] w fun e w' => e = .returned (.int .u32 (Sha.rot x 8192 524288)) ∧ w' = w := by
  have h := fun W => rotl19_any x W
  generalize Sha.rot x 8192 524288 = r at h ⊢
  go_enter Tryz.func60, Tryz.ntmps60
  go_wp2_with fail
  refine (h _).mono ?_
  rintro e w' ⟨rfl, rfl⟩
  go_wp2_with fail
  go_ret
  exact ⟨rfl, rfl⟩
theorem rotl22_any (x : Int) (w : World) : Calls Tryz.prog 82 #[.int .u32 x, .int .i64 (-22)] w fun e w' => e = .returned (.int .u32 (Sha.rot x 1024 4194304)) ∧ w' = w := by
  have hw : IntKind.u64.wrap (-22) = 18446744073709551594 := by decide
  have hb : bits .and .u64 18446744073709551594 31 = 10 := by decide
  go_enter Tryz.func82, Tryz.ntmps82
  go_wp2_with fail
  go_ret
  exact ⟨rfl, rfl⟩
theorem right22_any (x : Int) (w : World) : Calls Tryz.prog 60 #[.int .u32 x, .int .i64 22] w fun e w' => e = .returned (.int .u32 (Sha.rot x 1024 4194304)) ∧ w' = w := by
  have h := fun W => rotl22_any x W
  generalize Sha.rot x 1024 4194304 = r at h ⊢
  go_enter Tryz.func60, Tryz.ntmps60
  go_wp2_with fail
  refine (h _).mono ?_
  rintro e w' ⟨rfl, rfl⟩
  go_wp2_with fail
  go_ret
  exact ⟨rfl, rfl⟩
theorem rotl25_any (x : Int) (w : World) : Calls Tryz.prog 82 #[.int .u32 x, .int .i64 (-25)] w fun e w' => e = .returned (.int .u32 (Sha.rot x 128 33554432)) ∧ w' = w := by
  have hw : IntKind.u64.wrap (-25) = 18446744073709551591 := by decide
  have hb : bits .and .u64 18446744073709551591 31 = 7 := by decide
  go_enter Tryz.func82, Tryz.ntmps82
  go_wp2_with fail
  go_ret
  exact ⟨rfl, rfl⟩
theorem right25_any (x : Int) (w : World) : Calls Tryz.prog 60 #[.int .u32 x, .int .i64 25] w fun e w' => e = .returned (.int .u32 (Sha.rot x 128 33554432)) ∧ w' = w := by
  have h := fun W => rotl25_any x W
  generalize Sha.rot x 128 33554432 = r at h ⊢
  go_enter Tryz.func60, Tryz.ntmps60
  go_wp2_with fail
  refine (h _).mono ?_
  rintro e w' ⟨rfl, rfl⟩
  go_wp2_with fail
  go_ret
  exact ⟨rfl, rfl⟩
end Go.Proofs.YtmpladnglfiejaaGreatDoor
