/- A shape with its first signature alone; what fills its row up. -/
import Derived.Test.YtlfajfmkljnodaaDoorPeFr
namespace Go.Proofs.YtlfajfmkljnodaaDoor
open Go.RowKit
set_option maxRecDepth 100000
set_option linter.unusedVariables false
set_option linter.unusedSimpArgs false
namespace Pe
section
variable {s : Shape} {b g : List UInt8}
theorem Read.fill_len (h : Read s b) (ho : s.Ok) (hg : s.sigs = [g]) : b.length = s.from_ + up (8 + g.length) := by
  have hwl := s.write_len ho
  rw [if_neg (by rw [hg]; simp)] at hwl
  have htab : sigTable s.sigs = sigRow g := by rw [hg]; simp [sigTable]
  rw [h.size, hwl, htab, sigRow_len]
theorem Read.fill_zero (h : Read s b) (ho : s.Ok) (hg : s.sigs = [g]) {k : Nat} (h1 : s.from_ + 8 + g.length ≤ k) (h2 : k < b.length) : b[k]? = some 0 := by
  have hl := h.fill_len ho hg
  have hr := h.rest (by rw [hg]; simp)
  have htab : sigTable s.sigs = sigRow g := by rw [hg]; simp [sigTable]
  rw [htab] at hr
  have e : b[k]? = (b.drop s.from_)[k - s.from_]? := by rw [List.getElem?_drop]; congr 1; omega
  rw [e, hr]
  unfold sigRow padded
  have hx : (leN 4 (8 + g.length) ++ [0, 2, 2, 0] ++ g).length = 8 + g.length := by simp [leN_len]; omega
  have hrl := sigRow_len g
  unfold sigRow padded at hrl
  rw [List.length_append, hx, List.length_replicate] at hrl
  rw [List.getElem?_append_right (by rw [hx]; omega), hx, List.getElem?_replicate, if_pos (by rw [hx] at *; omega)]
end
def Shape.first (s : Shape) (g : List UInt8) : Shape := { s with sigs := [g] }
theorem first_ok {s : Shape} (h : s.Ok) {g : List UInt8} (hg : g ∈ s.sigs) : (s.first g).Ok :=
  ⟨h.stub, h.fill, h.one, h.ten, h.bodies, h.behind, by show 1 ≤ 20; omega, fun b hb => by
    obtain rfl := List.mem_singleton.1 hb
    exact h.each _ hg⟩
end Pe
theorem run_uptoL {w : World} {B n c : Nat} {A : Option Addr} {l : List (Value × List UInt8)} (h : RdL w B A n c l) (hi : Nat) (r : Int) (hr : r = hi) (h1 : 1 ≤ hi) (h2 : hi ≤ n) :
    RdL w B A hi c (l.take hi) ∧ (∀ W, (Instr.sliceAt 26 (.slice A n c) none (some (.int .i64 r)) none).run Tryd.prog W = .ok (.slice A hi c) W) ∧
      ∀ W, (Instr.slice 26 (.slice A n c) none (some (.int .i64 r)) none).run Tryd.prog W = .ok (.slice A hi c) W := by
  have hc := h.cap
  have hl := h.len
  subst hr
  obtain ⟨b, o, A', n', c', xs, rfl, hb, _⟩ := h.get (k := 0) (by omega)
  refine ⟨⟨by rw [List.length_take]; omega, by omega, h.capm, ⟨by simp; omega, fun hn => ?_⟩, fun v xs hm => h.each v xs (List.mem_of_mem_take hm)⟩, fun W => ?_, fun W => ?_⟩
  · obtain ⟨ad, e, hlt, hcell⟩ := h.rds.2 (by omega)
    refine ⟨ad, e, hlt, fun j u hu => hcell j u ?_⟩
    rw [List.map_take] at hu
    rw [List.getElem?_take] at hu
    split at hu
    · exact hu
    · cases hu
  · simp [go_sem, Tryd.underlying26, show (hi : Int) ≤ c by omega, Addr.add]
  · simp [go_sem, Tryd.underlying26, show (hi : Int) ≤ c by omega, Addr.add]
end Go.Proofs.YtlfajfmkljnodaaDoor
