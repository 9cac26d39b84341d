/- Joined of: Prefix1 Plain5 Plain6 Plain7 Plain8. -/
import Derived.Test.YtmnekhliblkibaaGA
import Derived.Test.YtmnekhliblkibaaGB
import Derived.Test.YtmnekhliblkibaaGR
import Derived.Test.YtmnekhliblkibaaGP
section
/- Plain laws: what is an element stays the same one, whatever stands behind it; an element that is cut is none. -/
namespace Go.Proofs.Ytmnekhliblkibaa
namespace Der

end Der
end Go.Proofs.Ytmnekhliblkibaa
end

section
/- What is written is read: elements, depth, numbers, moments. Plain Lean. -/
namespace Go.Proofs.Ytmnekhliblkibaa
open Go.RowKit
set_option maxRecDepth 100000
set_option linter.unusedVariables false
set_option linter.unusedSimpArgs false

def El.mk (t : UInt8) (b : List UInt8) : El := (t, b, Der.write t b)
theorem El.mk_wf {t : UInt8} {b : List UInt8} (ht : t.toNat % 32 ≠ 31) (hb : b.length < 4294967296) : El.wf (El.mk t b) := ⟨rfl, ht, hb⟩
def raws (L : List El) : List UInt8 := (L.map (·.2.2)).flatten
theorem raws_cons (x : El) (L : List El) : raws (x :: L) = x.2.2 ++ raws L := rfl
theorem elem_wf {x : El} (h : El.wf x) (more : List UInt8) : Der.elem (x.2.2 ++ more) = some (x.1, x.2.1, x.2.2, more) := by
  rw [h.1, Der.elem_write _ _ _ h.2.2, if_neg h.2.1]
theorem wf_pos {x : El} (h : El.wf x) : 0 < x.2.2.length := by
  rw [h.1]
  simp [Der.write]
theorem body_mk {u : Int} {x : El} (h : (x.1.toNat : Int) = u) : Cert.body u x = some x.2.1 := by
  unfold Cert.body
  rw [must_t (by simpa using h)]
  rfl
theorem body_no {u : Int} {x : El} (h : (x.1.toNat : Int) ≠ u) : Cert.body u x = none := by
  unfold Cert.body
  rw [must_f (by simpa using h)]
  rfl
end Go.Proofs.Ytmnekhliblkibaa
end

section
/- A certificate of a case is read as what it says. Plain Lean. -/
namespace Go.Proofs.Ytmnekhliblkibaa
open Go.RowKit
set_option maxRecDepth 100000
set_option linter.unusedVariables false
set_option linter.unusedSimpArgs false

theorem write_ge (t : UInt8) (b : List UInt8) : b.length ≤ (Der.write t b).length := by simp [Der.write]; omega
theorem raws_mem {y : El} : ∀ {L : List El}, y ∈ L → y.2.2.length ≤ (raws L).length
  | x :: L, h => by
    rw [raws_cons, List.length_append]
    rcases List.mem_cons.1 h with rfl | h
    · omega
    · have := raws_mem h
      omega
/-- The version's element. -/
def E.version : El := El.mk 160 [2, 1, 2]
theorem version_parts : Cert.parts 160 1 1 E.version = some [El.mk 2 [2]] := by decide +kernel
theorem version_raw : E.version.2.2 = Ref.version := by decide +kernel
def E.alg : El := El.mk 48 [6, 9, 42, 134, 72, 134, 247, 13, 1, 1, 11, 5, 0]
theorem alg_method : Cert.method 11 E.alg = some () := by decide +kernel
theorem alg_raw : E.alg.2.2 = Ref.signAlg := by decide +kernel
def E.keyAlg : El := El.mk 48 [6, 9, 42, 134, 72, 134, 247, 13, 1, 1, 1, 5, 0]
theorem keyAlg_method : Cert.method 1 E.keyAlg = some () := by decide +kernel
theorem keyAlg_raw : E.keyAlg.2.2 = Ref.keyAlg := by decide +kernel
def E.moment (t : Tm) : El := El.mk 24 ((Ref.nums t).flatMap Ref.two ++ [90])
def E.validity (a b : Tm) : El := El.mk 48 (raws [E.moment a, E.moment b])
def E.rsa (nn : List UInt8) (e : Nat) : El := El.mk 48 (raws [El.mk 2 (Der.putInt nn), El.mk 2 (Der.putInt (Ref.five e))])
def E.key (nn : List UInt8) (e : Nat) : El := El.mk 48 (raws [E.keyAlg, El.mk 3 (0 :: (E.rsa nn e).2.2)])
/-- An extension, written. -/
def E.ext (nm body : List UInt8) : El := El.mk 48 (raws [El.mk 6 nm, El.mk 4 body])
def E.yes : El := El.mk 1 [255]
def E.path (p : Int) : List El := if 0 ≤ p then [El.mk 2 (Der.putInt [UInt8.ofNat p.toNat])] else []
def E.basic (p : Int) : El := El.mk 48 (raws (E.yes :: E.path p))
/-- The usage that bits tell. -/
def Cert.used (b : List UInt8) : Option Nat := (Der.bits b).bind fun p =>
  (Cert.must (decide (1 ≤ 8 * (p.1.length : Int) - (p.2 : Int)) && decide (8 * (p.1.length : Int) - (p.2 : Int) ≤ 9))).bind fun _ =>
    (Cert.must (Cert.bit p.1 (8 * p.1.length - p.2 - 1) == 1)).bind fun _ => some (Cert.bitsum p.1 (8 * p.1.length - p.2))
def E.laid (u : Nat) : List UInt8 := Ref.lay u (Ref.ub0 (Ref.top u 9)) (Ref.top u 9)
def E.host : El := El.mk 48 (raws [El.mk 6 Ref.forHost])
end Go.Proofs.Ytmnekhliblkibaa
end

section
/- A certificate of a case is read as what it says: extensions, the signed part, the whole. Plain Lean. -/
namespace Go.Proofs.Ytmnekhliblkibaa
open Go.RowKit
set_option maxRecDepth 100000
set_option linter.unusedVariables false
set_option linter.unusedSimpArgs false

def E.exts (f : Fl) : List El :=
  (if f.ca then [E.ext [85, 29, 19] (E.basic f.path).2.2] else []) ++ (if 0 ≤ f.usage then [E.ext [85, 29, 15] (El.mk 3 (E.laid f.usage.toNat)).2.2] else []) ++ (if f.code then [] else [E.ext [85, 29, 37] E.host.2.2])
theorem oid_basic : Der.oid [85, 29, 19] = some [2, 5, 29, 19] := by decide +kernel
theorem oid_usage : Der.oid [85, 29, 15] = some [2, 5, 29, 15] := by decide +kernel
theorem oid_purposes : Der.oid [85, 29, 37] = some [2, 5, 29, 37] := by decide +kernel
/-- The signed part's last element. -/
def E.extra (l : List El) : List El := if l = [] then [] else [El.mk 163 (El.mk 48 (raws l)).2.2]
/-- The elements of a signed part. -/
def E.seven (ser : List UInt8) (iss sub : El) (a b : Tm) (nn : List UInt8) (e : Nat) : List El := [E.version, El.mk 2 ser, E.alg, iss, E.validity a b, sub, E.key nn e]
def E.tbs (ser : List UInt8) (iss sub : El) (a b : Tm) (nn : List UInt8) (e : Nat) (xs : List El) : El := El.mk 48 (raws (E.seven ser iss sub a b nn e ++ E.extra xs))
end Go.Proofs.Ytmnekhliblkibaa
end

section
/- A certificate of a case is read as what it says; cut, or with something behind it, it is none. Plain Lean. -/
namespace Go.Proofs.Ytmnekhliblkibaa
open Go.RowKit
set_option maxRecDepth 100000
set_option linter.unusedVariables false
set_option linter.unusedSimpArgs false

def E.name (s : List UInt8) : El := El.mk 48 (raws [El.mk 49 (raws [El.mk 48 (raws [El.mk 6 [85, 4, 3], El.mk 12 s])])])
/-- A certificate, written. -/
def E.cert (T : El) (g : List UInt8) : El := El.mk 48 (raws [T, E.alg, El.mk 3 (0 :: g)])
/-- The case's signed part, as an element. -/
def Kase.T (k : Kase) : El := E.tbs k.serial (E.name (k.iss.take 200)) (E.name (k.sub.take 200)) k.start k.stop k.nn (k.e % 8589934592) (E.exts k.fl)
def Kase.sg (k : Kase) : Sg := ⟨k.tbs, Ref.name (k.iss.take 200), Ref.name (k.sub.take 200), k.serial, k.start, k.stop, k.nn, k.e % 8589934592, k.fl⟩
end Go.Proofs.Ytmnekhliblkibaa
end
