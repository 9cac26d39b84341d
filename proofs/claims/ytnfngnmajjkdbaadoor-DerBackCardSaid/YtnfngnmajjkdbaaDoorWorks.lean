/- The anchor: it holds. -/
import Derived.Test.YtnfngnmajjkdbaaDoorChk
import Derived.Test.YtnfngnmajjkdbaaDoorOid
import Derived.Test.YtnfngnmajjkdbaaDoorDer8
import Derived.Test.YtnfngnmajjkdbaaDoorDer4
import Derived.Test.YtnfngnmajjkdbaaDoorDer5
import Derived.Test.YtnfngnmajjkdbaaDoorLit
import Derived.BigQuiet
import Derived.Deep.QuietTactic
namespace Go.Proofs.YtnfngnmajjkdbaaDoor
open Go.RowKit
set_option maxRecDepth 1000000

theorem works_parse : Der.elem [2, 1, 5, 255] = some (2, [5], [2, 1, 5], [255]) := by decide +kernel
theorem works_oid : Der.oid [42, 134, 72] = some [1, 2, 840] := by decide +kernel
theorem works_write (xs : List UInt8) (h : xs.length = 200) : (Der.write 4 xs).length = 203 := by
  simp [Der.write, Der.lenB, h, Der.leB]
theorem works_check : Der.check [48, 2, 48, 0] = 0 := by decide +kernel

/-- The cells of 'make([]byte, n)'. -/
def zeroB (n : Nat) : Array Value := ((List.replicate n (0 : UInt8)).map bv).toArray
theorem zeroB_eq (n : Nat) : madeCells #[Value.int .u8 0] (n * 1) = zeroB n := by
  unfold madeCells zeroB
  apply Array.ext
  · simp
  · intro i h1 h2
    have hm : i % #[Value.int .u8 0].size = 0 := by simp [Nat.mod_one]
    simp [bv, Nat.mod_one]
theorem run_makeB (n : Nat) (hn : n ≤ 1099511627776) (w : World) :
    (Instr.makeSlice 22 (.int .i64 (n : Int)) (.int .i64 (n : Int))).run Tryd.prog w = .ok (.slice (some ⟨w.heap.size, 0, none⟩) n n) (w.alloc (.cells (zeroB n) 5)) := by
  obtain ⟨i0, hi0, hz0, hz1, hz2⟩ := info_parts u8_info
  have hr := run_make (P := Tryd.prog) w 22 5 i0 _ Tryd.underlying22 hi0 hz0 .i64 .i64 n n (by omega) (by omega) (by rw [hz2]; omega) (by omega)
  simp only [Int.toNat_natCast, hz1] at hr
  rw [hr]
  rw [show (Value.int .u8 0).cells = #[Value.int .u8 0] from rfl, zeroB_eq]
theorem Rd.zeros (w : World) (n : Nat) (hn : n ≤ 1099511627776) (g : Nat) (hg : g = w.heap.size) : Rd (w.alloc (.cells (zeroB n) 5)) (w.alloc (.cells (zeroB n) 5)).heap.size (some ⟨g, 0, none⟩) n n (List.replicate n 0) :=
  Rd.lit w 5 (List.replicate n 0) _ g n hg rfl (by simp) hn

theorem OwnB.len {w : World} {lo hi n c : Nat} {A : Option Addr} {xs : List UInt8} (h : OwnB w lo hi (.slice A n c) xs) : xs.length = n := by
  obtain ⟨A', n', c', e, hr⟩ := h.rd
  injection e with e1 e2 e3
  rw [e2]; exact hr.len

set_option maxHeartbeats 2000000 in
theorem works_any (w : World) : Calls Tryd.prog 5 #[] w fun e w' => e = .returned (.bool true) ∧ Below w.heap.size w w' := by
  have hp0 := Rd.lit w 5 [2, 1, 5, 255] [.int .u8 2, .int .u8 1, .int .u8 5, .int .u8 255] _ 4 rfl rfl rfl (by omega)
  have HP := Lib.hid hp0
  clear hp0
  go_enter Tryd.func5, Tryd.ntmps5
  go_wp2_with fail
  refine (parse_any _ 4 4 _ _ HP.out (by omega)).mono ?_
  rintro e w1 ⟨hb1, ⟨hno, _⟩ | ⟨t, body, raw, rest, A1, n1, c1, A2, n2, c2, A3, n3, c3, hel, rfl, ho1⟩⟩
  · rw [works_parse] at hno; cases hno
  rw [works_parse] at hel
  simp only [Option.some.injEq, Prod.mk.injEq] at hel
  obtain ⟨rfl, rfl, rfl, rfl⟩ := hel
  have hbw1 : Below w.heap.size w w1 := Below.trans (by (repeat (first | exact Below.refl _ _ | assumption | (refine Below.setCell ?_ (by first | omega | (simp; done) | (simp; omega)) _) | (refine Below.alloc ?_ (by first | omega | (simp; done) | (simp; omega)) _) | (refine below_drewN ?_ _) | (refine Below.drew ?_)))) (hb1.mono (by simp))
  have hs1 := hbw1.size
  have hob := ho1.rd (v := .slice A1 n1 c1) (xs := [5]) (by simp)
  obtain rfl : n1 = 1 := hob.len.symm
  obtain rfl : n2 = 3 := (ho1.rd (v := .slice A2 n2 c2) (xs := [2, 1, 5]) (by simp)).len.symm
  obtain rfl : n3 = 1 := (ho1.rd (v := .slice A3 n3 c3) (xs := [255]) (by simp)).len.symm
  obtain ⟨g, cap, e, _, hgl⟩ := hob.1.form (by simp)
  injection e with ea en ec
  subst ea ec
  clear en
  obtain ⟨x5, hx5, hc5⟩ := hob.cellAt rfl (j := 0) (by omega)
  simp at hx5
  subst hx5
  have hbx := Blk.new w1 30 #[.int .u8 2, .slice (some ⟨g, 0, none⟩) 1 c1, .slice A2 3 c2]
  have ho0 := Rd.lit (w1.alloc (.cells #[.int .u8 2, .slice (some ⟨g, 0, none⟩) 1 c1, .slice A2 3 c2] 30)) 5 [42, 134, 72] [.int .u8 42, .int .u8 134, .int .u8 72] (w1.heap.size + 1) 3 (by simp) rfl rfl (by omega)
  have HO := Lib.hid (And.intro ho0 (And.intro hbx hc5))
  clear ho0 hbx hc5 hob ho1 hb1
  go_wp2_with fail
  refine (oid_any _ 3 3 _ _ HO.out.1 (by omega)).mono ?_
  rintro e w2 ⟨hb2, ⟨hno, _⟩ | ⟨arcs, v, hoid, rfl, hou⟩⟩
  · rw [works_oid] at hno; cases hno
  rw [works_oid] at hoid
  injection hoid with hoid
  subst hoid
  have hb12 : Below w1.heap.size w1 w2 := Below.trans (by (repeat (first | exact Below.refl _ _ | assumption | (refine Below.setCell ?_ (by first | omega | (simp; done) | (simp; omega)) _) | (refine Below.alloc ?_ (by first | omega | (simp; done) | (simp; omega)) _) | (refine below_drewN ?_ _) | (refine Below.drew ?_)))) (hb2.mono (by simp; omega))
  have hs2 := hb2.size
  simp at hs2
  obtain ⟨hcx, hfx, hBx, hzx⟩ := (HO.out.2.1.alloc (.cells #[.int .u8 42, .int .u8 134, .int .u8 72] 5)).box hb2 (by first | omega | (simp; done) | (simp; omega))
  have hc5 : w2.cell? ⟨g, 0, none⟩ = some (.int .u8 5) := (hb12.cell (p := ⟨g, 0, none⟩) hgl).trans HO.out.2.2
  obtain ⟨A7, c7, rfl, h37, hcm7, _, hr7⟩ := hou.shape
  obtain ⟨ad, u, rfl, hadb, hu, hcu⟩ := hr7.at_ (k := 2) (by simp)
  obtain ⟨b7, o7, s7⟩ := ad
  obtain rfl : s7 = none := by
    obtain ⟨ad0, u0, e0, _, _, hc0⟩ := hr7.at_ (k := 0) (by simp)
    injection e0 with e0
    subst e0
    simpa [Addr.add] using World.cell?_spot hc0
  simp [uv] at hu
  subst hu
  rw [Addr.add_lit] at hcu
  have hmk : ∀ W, (Instr.makeSlice 22 (.int .i64 200) (.int .i64 200)).run Tryd.prog W = .ok (.slice (some ⟨W.heap.size, 0, none⟩) 200 200) (W.alloc (.cells (zeroB 200) 5)) := run_makeB 200 (by omega)
  have HB := Lib.hid (And.intro hb12 hBx)
  have hbw2 : Below w.heap.size w w2 := hbw1.trans (hb12.mono hs1)
  clear hou hr7 hb2 hb12 hBx
  go_wp2_with fail
  refine (write_any 4 _ 200 200 _ _ (Rd.zeros w2 200 (by omega) _ rfl) (by omega)).mono ?_
  rintro e w3 ⟨A8, n8, c8, rfl, ho3, hb3⟩
  obtain rfl : n8 = 203 := by rw [← ho3.len, works_write _ (by simp)]
  have hbw3 : Below w.heap.size w w3 := hbw2.trans ((((Below.refl _ _).alloc (Nat.le_refl _) _).trans (hb3.mono (by simp))).mono hbw2.size)
  clear hc5 hcu hcx hfx ho3
  go_wp2_with fail
  have hp4 := Rd.lit w3 5 [48, 2, 48, 0] [.int .u8 48, .int .u8 2, .int .u8 48, .int .u8 0] _ 4 rfl rfl rfl (by omega)
  refine (check_any _ 4 4 _ _ hp4).mono ?_
  rintro e w4 ⟨rfl, hb4⟩
  rw [works_check]
  have hbw4 : Below w.heap.size w w4 := hbw3.trans ((((Below.refl _ _).alloc (Nat.le_refl _) _).trans (hb4.mono (by simp))).mono hbw3.size)
  clear hp4
  go_wp2
  go_ret
  exact ⟨rfl, hbw4⟩
end Go.Proofs.YtnfngnmajjkdbaaDoor
