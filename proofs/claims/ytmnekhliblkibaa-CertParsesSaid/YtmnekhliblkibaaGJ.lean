/- Joined of: Stamp11 Cert9 Cert10. -/
import Derived.Test.YtmnekhliblkibaaGG
import Derived.Deep.RegionHeld3
import Derived.Deep.RegionHeld
import Derived.Deep.RegionWith
import Derived.Deep.Cut
import Derived.Test.YtmnekhliblkibaaGI
import Derived.Maps.OwnSet
import Derived.Maps.Views
import Derived.Test.YtmnekhliblkibaaGD
section
/- The contract of stamp.Less. -/
namespace Go.Proofs.Ytmnekhliblkibaa
open Go.RowKit
set_option maxRecDepth 100000
set_option linter.unusedVariables false
set_option linter.unusedSimpArgs false

def Tm.ok8 (t : Tm) : Prop := t.mo < 256 ∧ t.d < 256 ∧ t.h < 256 ∧ t.mi < 256 ∧ t.s < 256
def Stamp.less (a b : Tm) : Bool := lexLt a.parts b.parts

theorem Blk.new' {w : World} {g : Nat} (t : TypeId) (cs : Array Value) (h : g = w.heap.size) : Blk (w.alloc (.cells cs t)) g t cs := by subst h; exact Blk.new w t cs

theorem reads_of_blk {w : World} {g : Nat} {t : TypeId} {cs : Array Value} (h : Blk w g t cs) : Reads w (g + 1) 1 (some ⟨g, 0, none⟩) cs.size cs.toList := by
  refine ⟨by simp, fun _ => ⟨_, rfl, by simp, fun j u hu => ?_⟩⟩
  rw [Addr.add_lit, Nat.zero_add]
  exact (h.cell j).trans (by simpa using hu)


set_option maxHeartbeats 2000000 in
theorem less_core (p1 p2 p3 p4 p5 p6 q1 q2 q3 q4 q5 q6 : Int) (x1 x2 x3 x4 x5 x6 y1 y2 y3 y4 y5 y6 : Nat) (oa pa ob pb : Obj) (z : Bool) (hz : lexLt [x1, x2, x3, x4, x5, x6] [y1, y2, y3, y4, y5, y6] = z)
    (hp : ∀ w, Calls Try.prog 89 #[.agg #[.int .u16 p1, .int .u8 p2, .int .u8 p3, .int .u8 p4, .int .u8 p5, .int .u8 p6]] w fun e w' => e = .returned (.agg #[.int .u16 x1, .int .u16 x2, .int .u16 x3, .int .u16 x4, .int .u16 x5, .int .u16 x6]) ∧ w' = (w.alloc oa).alloc pa)
    (hq : ∀ w, Calls Try.prog 89 #[.agg #[.int .u16 q1, .int .u8 q2, .int .u8 q3, .int .u8 q4, .int .u8 q5, .int .u8 q6]] w fun e w' => e = .returned (.agg #[.int .u16 y1, .int .u16 y2, .int .u16 y3, .int .u16 y4, .int .u16 y5, .int .u16 y6]) ∧ w' = (w.alloc ob).alloc pb)
    (w : World) :
    Calls Try.prog 68 #[.agg #[.int .u16 p1, .int .u8 p2, .int .u8 p3, .int .u8 p4, .int .u8 p5, .int .u8 p6], .agg #[.int .u16 q1, .int .u8 q2, .int .u8 q3, .int .u8 q4, .int .u8 q5, .int .u8 q6]] w fun e w' => e = .returned (.bool z) ∧ Below w.heap.size w w' := by
  have HP := Lib.hid hp
  have HQ := Lib.hid hq
  have HZ := Lib.hid hz
  clear hp hq hz
  have hA := (Blk.new w 27 #[.int .u16 p1, .int .u8 p2, .int .u8 p3, .int .u8 p4, .int .u8 p5, .int .u8 p6]).alloc (.cells #[.int .u16 q1, .int .u8 q2, .int .u8 q3, .int .u8 q4, .int .u8 q5, .int .u8 q6] 27)
  have hB : Blk ((w.alloc (.cells #[.int .u16 p1, .int .u8 p2, .int .u8 p3, .int .u8 p4, .int .u8 p5, .int .u8 p6] 27)).alloc (.cells #[.int .u16 q1, .int .u8 q2, .int .u8 q3, .int .u8 q4, .int .u8 q5, .int .u8 q6] 27)) (w.heap.size + 1) 27 #[.int .u16 q1, .int .u8 q2, .int .u8 q3, .int .u8 q4, .int .u8 q5, .int .u8 q6] := Blk.new' _ _ (by simp)
  have hbw : Below w.heap.size w ((w.alloc (.cells #[.int .u16 p1, .int .u8 p2, .int .u8 p3, .int .u8 p4, .int .u8 p5, .int .u8 p6] 27)).alloc (.cells #[.int .u16 q1, .int .u8 q2, .int .u8 q3, .int .u8 q4, .int .u8 q5, .int .u8 q6] 27)) := by (repeat (first | exact Below.refl _ _ | assumption | (refine Below.setCell ?_ (by first | omega | (simp; done) | (simp; omega)) _) | (refine Below.alloc ?_ (by first | omega | (simp; done) | (simp; omega)) _) | (refine below_drewN ?_ _) | (refine Below.drew ?_)))
  go_enter Try.func68, Try.ntmps68
  go_upto_region 1 with fail
  obtain ⟨W, hW⟩ : ∃ W, (w.alloc (.cells #[.int .u16 p1, .int .u8 p2, .int .u8 p3, .int .u8 p4, .int .u8 p5, .int .u8 p6] 27)).alloc (.cells #[.int .u16 q1, .int .u8 q2, .int .u8 q3, .int .u8 q4, .int .u8 q5, .int .u8 q6] 27) = W := ⟨_, rfl⟩
  rw [hW] at hA hB hbw ⊢
  clear hW
  have k0 := hA.cell 0
  have l0 := hB.cell 0
  have k1 := hA.cell 1
  have l1 := hB.cell 1
  have k2 := hA.cell 2
  have l2 := hB.cell 2
  have k3 := hA.cell 3
  have l3 := hB.cell 3
  have k4 := hA.cell 4
  have l4 := hB.cell 4
  have k5 := hA.cell 5
  have l5 := hB.cell 5
  simp only [List.getElem?_toArray, List.getElem?_cons_zero, List.getElem?_cons_succ] at k0 k1 k2 k3 k4 k5 l0 l1 l2 l3 l4 l5
  have hs := hA.lt
  have hs2 := hB.lt
  have HW := Lib.hid hbw
  have KEEP : Hid (∀ w' : World, (∀ p : Addr, p.block < W.heap.size → w'.cell? p = W.cell? p) → (w'.cell? ⟨w.heap.size, 0, none⟩ = some (.int .u16 p1) ∧ w'.cell? ⟨w.heap.size, 1, none⟩ = some (.int .u8 p2) ∧ w'.cell? ⟨w.heap.size, 2, none⟩ = some (.int .u8 p3) ∧ w'.cell? ⟨w.heap.size, 3, none⟩ = some (.int .u8 p4) ∧ w'.cell? ⟨w.heap.size, 4, none⟩ = some (.int .u8 p5) ∧ w'.cell? ⟨w.heap.size, 5, none⟩ = some (.int .u8 p6) ∧ w'.cell? ⟨w.heap.size + 1, 0, none⟩ = some (.int .u16 q1) ∧ w'.cell? ⟨w.heap.size + 1, 1, none⟩ = some (.int .u8 q2) ∧ w'.cell? ⟨w.heap.size + 1, 2, none⟩ = some (.int .u8 q3) ∧ w'.cell? ⟨w.heap.size + 1, 3, none⟩ = some (.int .u8 q4) ∧ w'.cell? ⟨w.heap.size + 1, 4, none⟩ = some (.int .u8 q5) ∧ w'.cell? ⟨w.heap.size + 1, 5, none⟩ = some (.int .u8 q6))) := Lib.hid (fun w' h => ⟨(h ⟨_, 0, none⟩ hs).trans k0, (h ⟨_, 1, none⟩ hs).trans k1, (h ⟨_, 2, none⟩ hs).trans k2, (h ⟨_, 3, none⟩ hs).trans k3, (h ⟨_, 4, none⟩ hs).trans k4, (h ⟨_, 5, none⟩ hs).trans k5, (h ⟨_, 0, none⟩ hs2).trans l0, (h ⟨_, 1, none⟩ hs2).trans l1, (h ⟨_, 2, none⟩ hs2).trans l2, (h ⟨_, 3, none⟩ hs2).trans l3, (h ⟨_, 4, none⟩ hs2).trans l4, (h ⟨_, 5, none⟩ hs2).trans l5⟩)
  clear hA hB hbw
  go_cut [5, 6] from 7 (fun s5 s6 wx => ∃ X5 X6, s5 = .pointer (some ⟨X5, 0, none⟩) ∧ s6 = .pointer (some ⟨X6, 0, none⟩) ∧ Below w.heap.size w wx ∧
    Blk wx X5 130 #[.int .u16 x1, .int .u16 x2, .int .u16 x3, .int .u16 x4, .int .u16 x5, .int .u16 x6] ∧ Blk wx X6 130 #[.int .u16 y1, .int .u16 y2, .int .u16 y3, .int .u16 y4, .int .u16 y5, .int .u16 y6])
  case first =>
    go_region_held (fun w' => w'.cell? ⟨w.heap.size, 0, none⟩ = some (.int .u16 p1) ∧ w'.cell? ⟨w.heap.size, 1, none⟩ = some (.int .u8 p2) ∧ w'.cell? ⟨w.heap.size, 2, none⟩ = some (.int .u8 p3) ∧ w'.cell? ⟨w.heap.size, 3, none⟩ = some (.int .u8 p4) ∧ w'.cell? ⟨w.heap.size, 4, none⟩ = some (.int .u8 p5) ∧ w'.cell? ⟨w.heap.size, 5, none⟩ = some (.int .u8 p6) ∧ w'.cell? ⟨w.heap.size + 1, 0, none⟩ = some (.int .u16 q1) ∧ w'.cell? ⟨w.heap.size + 1, 1, none⟩ = some (.int .u8 q2) ∧ w'.cell? ⟨w.heap.size + 1, 2, none⟩ = some (.int .u8 q3) ∧ w'.cell? ⟨w.heap.size + 1, 3, none⟩ = some (.int .u8 q4) ∧ w'.cell? ⟨w.heap.size + 1, 4, none⟩ = some (.int .u8 q5) ∧ w'.cell? ⟨w.heap.size + 1, 5, none⟩ = some (.int .u8 q6)) (first | (refine KEEP.out _ (fun p hp => ?_); (repeat (first | (with_reducible rfl) | (rw [World.cell?_drew]) | (rw [World.cell?_alloc_lt _ _ _ (by first | omega | (simp; omega))]) | (rw [World.cell?_setCell_other _ _ _ _ (by rintro rfl; simp at *; omega)])))))
      (first
        | (go_at_call 89; ((with_reducible refine (HP.out _).mono ?_); rintro e w1 ⟨rfl, rfl⟩))
        | (go_at_call 89; ((with_reducible refine (HQ.out _).mono ?_); rintro e w1 ⟨rfl, rfl⟩)))
    all_goals (go_wp2_with fail; go_meet; refine ⟨_, _, rfl, rfl, ?_, ?_, ?_⟩)
    all_goals (first
      | ((repeat (first | exact HW.out | (refine Below.drew ?_) | (refine Below.alloc ?_ (by first | omega | (simp; omega)) _))); done)
      | ((repeat (first | exact Blk.new' _ _ (by simp) | (refine Blk.drew ?_) | (refine Blk.alloc ?_ _))); done))
  case rest =>
    obtain ⟨X5, X6, rfl, rfl, hb, hc5, hc6⟩ := hcut
    have hr5 := reads_of_blk hc5
    have hr6 := reads_of_blk hc6
    have HR := Lib.hid (And.intro hb (And.intro hr5 hr6))
    clear hb hc5 hc6 hr5 hr6 k0 k1 k2 k3 k4 k5 l0 l1 l2 l3 l4 l5
    go_upto_region 2 with fail
    go_region_with
      (go_at_call 90; ((with_reducible refine (compare16_any _ _ 6 6 6 [x1, x2, x3, x4, x5, x6] [y1, y2, y3, y4, y5, y6] _ _ _ HR.out.2.1 HR.out.2.2 (by omega)).mono ?_); rintro e w1 ⟨rfl, zz, rfl, hzz⟩))
    all_goals (go_wp2; go_ret)
    all_goals exact ⟨by first | exact congrArg (fun b => Ending.returned (.bool b)) HZ.out | exact congrArg (fun b => Ending.returned (.bool b)) (hzz.trans HZ.out), by first | exact HR.out.1 | exact Below.drew HR.out.1 | exact below_drewN HR.out.1 _⟩

theorem less_any (a b : Tm) (ha : a.ok8) (hb : b.ok8) (w : World) :
    Calls Try.prog 68 #[a.v, b.v] w fun e w' => e = .returned (.bool (Stamp.less a b)) ∧ Below w.heap.size w w' := by
  obtain ⟨y, mo, d, h, mi, s⟩ := a
  obtain ⟨y', mo', d', h', mi', s'⟩ := b
  obtain ⟨a1, a2, a3, a4, a5⟩ := ha
  obtain ⟨b1, b2, b3, b4, b5⟩ := hb
  exact less_core _ _ _ _ _ _ _ _ _ _ _ _ y mo d h mi s y' mo' d' h' mi' s' _ _ _ _ _ rfl (parts6_any y mo d h mi s a1 a2 a3 a4 a5) (parts6_any y' mo' d' h' mi' s' b1 b2 b3 b4 b5) w
end Go.Proofs.Ytmnekhliblkibaa
end

section
/- What cert.signed tells, in plain Lean. -/
namespace Go.Proofs.Ytmnekhliblkibaa
open Go.RowKit Go.Maps
set_option maxRecDepth 100000
set_option linter.unusedVariables false
set_option linter.unusedSimpArgs false

/-- What a signed part says. -/
structure Sg where
  tbs : List UInt8
  iss : List UInt8
  sub : List UInt8
  ser : List UInt8
  from_ : Tm
  to : Tm
  n : List UInt8
  e : Nat
  fl : Fl
def distinct : List (List UInt8) → Bool
  | [] => true
  | x :: l => !l.contains x && distinct l
def Cert.exts (f : Fl) : List El → Option (Fl × List (List UInt8))
  | [] => some (f, [])
  | y :: l => (Cert.extension f y).bind fun p => (Cert.exts p.1 l).bind fun q => some (q.1, p.2 :: q.2)
def Cert.told8 (s : Sg) (l : List El) : Option Sg :=
  if l.length = 7 then some s else
    (Cert.parts 163 1 1 (l.getD 7 El.none_)).bind fun o => (Cert.parts 48 1 8192 (o.getD 0 El.none_)).bind fun all =>
      (Cert.exts s.fl all).bind fun p => (Cert.must (distinct p.2)).bind fun _ => some {s with fl := p.1}
def Sg.j (f : Fl) (x : El) (l : List El) (a b : Tm) : Option Sg := (Cert.key (l.getD 6 El.none_)).bind fun k =>
  Cert.told8 ⟨x.2.2, (l.getD 3 El.none_).2.2, (l.getD 5 El.none_).2.2, (l.getD 1 El.none_).2.1, a, b, k.1, k.2, f⟩ l
def Sg.i (f : Fl) (x : El) (l : List El) (a b : Tm) : Option Sg := (Cert.must (!Stamp.less b a)).bind fun _ => Sg.j f x l a b
def Sg.h (f : Fl) (x : El) (l t : List El) : Option Sg := (Cert.moment (t.getD 0 El.none_)).bind fun a => (Cert.moment (t.getD 1 El.none_)).bind fun b => Sg.i f x l a b
def Sg.g (f : Fl) (x : El) (l : List El) : Option Sg := (Cert.parts 48 2 2 (l.getD 4 El.none_)).bind fun t => Sg.h f x l t
def Sg.f (f : Fl) (x : El) (l : List El) : Option Sg := (Cert.body 48 (l.getD 5 El.none_)).bind fun _ => Sg.g f x l
def Sg.e_ (f : Fl) (x : El) (l : List El) : Option Sg := (Cert.body 48 (l.getD 3 El.none_)).bind fun _ => Sg.f f x l
def Sg.d (f : Fl) (x : El) (l : List El) : Option Sg := (Cert.method 11 (l.getD 2 El.none_)).bind fun _ => Sg.e_ f x l
def Sg.c (f : Fl) (x : El) (l : List El) : Option Sg := (Cert.number (l.getD 1 El.none_)).bind fun m => (Cert.must (decide (0 < m.length) && decide ((l.getD 1 El.none_).2.1.length ≤ 20))).bind fun _ => Sg.d f x l
def Sg.b (f : Fl) (x : El) (l v : List El) : Option Sg := (Cert.must ((v.getD 0 El.none_).2.2 == [2, 1, 2])).bind fun _ => Sg.c f x l
def Sg.a (f : Fl) (x : El) (l : List El) : Option Sg := (Cert.parts 160 1 1 (l.getD 0 El.none_)).bind fun v => Sg.b f x l v
def Cert.signed (f : Fl) (x : El) : Option Sg := (Cert.parts 48 7 8 x).bind fun l => Sg.a f x l
theorem bnone {α β : Type} {o : Option α} {f : α → Option β} (h : o = none) : o.bind f = none := by rw [h]; rfl
theorem bsome {α β : Type} {o : Option α} {f : α → Option β} {a : α} (h : o = some a) : o.bind f = f a := by rw [h]; rfl

theorem told_ok8 {n : Nat} {f : Nat → Nat} {b : List UInt8} {t : Tm} (h : Stamp.told n f b = some t) : t.ok8 := by
  have hr : Stamp.right t = true := by
    unfold Stamp.told at h
    split at h
    · rename_i hc
      injection h with h
      subst h
      exact hc.2.2.2
    · cases h
  unfold Stamp.right at hr
  simp only [Bool.and_eq_true, decide_eq_true_eq] at hr
  obtain ⟨⟨⟨⟨⟨⟨h1, h2⟩, h3⟩, h4⟩, h5⟩, h6⟩, h7⟩ := hr
  have hd : t.d ≤ 31 ∧ t.mo < 13 := by
    unfold Stamp.days at h2
    split at h2
    · omega
    · by_cases hm : t.mo < 13
      · refine ⟨?_, hm⟩
        generalize t.mo = m at h2 hm
        match m, hm, h2 with
        | 0, _, h2 | 1, _, h2 | 2, _, h2 | 3, _, h2 | 4, _, h2 | 5, _, h2 | 6, _, h2 | 7, _, h2 | 8, _, h2 | 9, _, h2 | 10, _, h2 | 11, _, h2 | 12, _, h2 => simp at h2; omega
      · rw [List.getD_eq_getElem?_getD, List.getElem?_eq_none (by simp; omega)] at h2
        simp at h2
        omega
  exact ⟨by omega, by omega, by omega, by omega, by omega⟩
theorem moment_ok8 {x : El} {t : Tm} (h : Cert.moment x = some t) : t.ok8 := by
  unfold Cert.moment at h
  split at h
  · exact told_ok8 h
  · split at h
    · exact told_ok8 h
    · cases h

theorem addKey_len (acc : List Lit) (x : Lit) : (addKey acc x).length ≤ acc.length + 1 := by
  unfold addKey
  split <;> simp
theorem addKey_le : ∀ (xs : List Lit) (acc : List Lit), (xs.foldl addKey acc).length ≤ acc.length + xs.length
  | [], acc => by simp
  | x :: xs, acc => by
    have h := addKey_le xs (addKey acc x)
    have h2 := addKey_len acc x
    simp only [List.foldl_cons, List.length_cons]
    omega
theorem any_same (x : List UInt8) : ∀ acc : List (List UInt8), (acc.map Lit.string).any (fun y => y.sameKey (.string x)) = acc.contains x
  | [] => rfl
  | a :: acc => by
    rw [List.map_cons, List.any_cons, any_same x acc, List.contains_cons]
    show ((a == x) || _) = _
    congr 1
    exact Bool.eq_iff_iff.2 (by simp only [beq_iff_eq]; exact eq_comm)
def distinctTo (acc : List (List UInt8)) : List (List UInt8) → Bool
  | [] => true
  | x :: l => !acc.contains x && distinctTo (acc ++ [x]) l
theorem fold_distinct : ∀ (xs acc : List (List UInt8)), (((xs.map Lit.string).foldl addKey (acc.map Lit.string)).length == acc.length + xs.length) = distinctTo acc xs
  | [], acc => by simp [distinctTo]
  | x :: xs, acc => by
    simp only [List.map_cons, List.foldl_cons, distinctTo, List.length_cons]
    rw [show addKey (acc.map Lit.string) (.string x) = if acc.contains x = true then acc.map Lit.string else acc.map Lit.string ++ [.string x] by unfold addKey; rw [any_same]]
    by_cases hc : acc.contains x = true
    · rw [if_pos hc, hc]
      have := addKey_le (xs.map Lit.string) (acc.map Lit.string)
      simp only [List.length_map] at this
      simp only [Bool.not_true, Bool.false_and, beq_eq_false_iff_ne]
      omega
    · rw [if_neg hc, Bool.not_eq_true _ |>.mp hc]
      have h := fold_distinct xs (acc ++ [x])
      simp only [List.map_append, List.map_cons, List.map_nil, List.length_append, List.length_cons, List.length_nil] at h
      rw [← h]
      simp only [Bool.not_false, Bool.true_and]
      congr 1
      omega
theorem distinctTo_eq : ∀ (l acc : List (List UInt8)), distinctTo acc l = (l.all (fun x => !acc.contains x) && distinct l)
  | [], acc => by simp [distinctTo, distinct]
  | x :: l, acc => by
    simp only [distinctTo, distinct, distinctTo_eq l (acc ++ [x]), List.all_cons]
    rw [Bool.eq_iff_iff]
    simp only [Bool.and_eq_true, Bool.not_eq_true', List.all_eq_true, List.contains_eq_mem, decide_eq_false_iff_not, List.mem_append, List.mem_singleton, not_or]
    constructor
    · rintro ⟨h1, h2, h3⟩
      exact ⟨⟨h1, fun y hy => (h2 y hy).1⟩, fun hx => (h2 x hx).2 rfl, h3⟩
    · rintro ⟨⟨h1, h2⟩, h3, h4⟩
      exact ⟨h1, fun y hy => ⟨h2 y hy, fun e => h3 (e ▸ hy)⟩, h4⟩
theorem size_distinct {H : Type} (u : DataW H) (xs : List (List UInt8)) : (Maps.size (setOf u (xs.map Lit.string)) == xs.length) = distinct xs := by
  rw [size_setOf u _ (fun x hx => by
    obtain ⟨a, _, rfl⟩ := List.mem_map.1 hx
    simp [WideAt.IsKeyLit])]
  have h := fold_distinct xs []
  simp only [List.map_nil, List.length_nil, Nat.zero_add] at h
  rw [h, distinctTo_eq]
  simp

theorem exts_cons {f : Fl} {y : El} {l : List El} {p : Fl × List UInt8} (h : Cert.extension f y = some p) : Cert.exts f (y :: l) = (Cert.exts p.1 l).bind fun q => some (q.1, p.2 :: q.2) := by
  rw [Cert.exts, h]; rfl
theorem exts_none {f : Fl} {y : El} {l : List El} (h : Cert.extension f y = none) : Cert.exts f (y :: l) = none := by
  rw [Cert.exts, h]; rfl
theorem exts_len : ∀ {l : List El} {f : Fl} {p : Fl × List (List UInt8)}, Cert.exts f l = some p → p.2.length = l.length
  | [], f, p, h => by rw [Cert.exts] at h; injection h with h; subst h; rfl
  | y :: l, f, p, h => by
    cases hx : Cert.extension f y with
    | none => rw [exts_none hx] at h; cases h
    | some a =>
      rw [exts_cons hx] at h
      cases hr : Cert.exts a.1 l with
      | none => rw [hr] at h; cases h
      | some q =>
        rw [hr] at h
        injection h with h
        subst h
        simp [exts_len hr]

/-- While signed works: the certificate's block, and the row of the parts. -/
def St (w W : World) (gc : Nat) (C : CV) (lo hi g n c : Nat) (L : List EI) : Prop :=
  w.grownBy W (some gc) ∧ Bc W gc C ∧ OwnE W lo hi (.slice (some ⟨g, 0, none⟩) n c) L ∧ hi ≤ W.heap.size ∧ gc < lo
variable {w W W' : World} {gc lo hi g n c : Nat} {C C' : CV} {L : List EI}
theorem St.below (h : St w W gc C lo hi g n c L) (hb : Below W.heap.size W W') : St w W' gc C lo hi g n c L :=
  ⟨h.1.trans (grows_ hb _), h.2.1.below hb h.2.1.lt, h.2.2.1.keepRows (KeepRows.below hb (Nat.le_refl _)), by have := hb.size; have := h.2.2.2.1; omega, h.2.2.2.2⟩
theorem St.grown (h : St w W gc C lo hi g n c L) (hg : W.grownBy W' (some gc)) (hC : Bc W' gc C') : St w W' gc C' lo hi g n c L :=
  ⟨h.1.trans hg, hC, h.2.2.1.keepRows (KeepRows.grown hg h.2.2.2.2), by have := hg.size; have := h.2.2.2.1; omega, h.2.2.2.2⟩
theorem St.set (h : St w W gc C lo hi g n c L) {i : Nat} {u : Value} (hC : Bc (W.setCell ⟨gc, i, none⟩ u) gc C') : St w (W.setCell ⟨gc, i, none⟩ u) gc C' lo hi g n c L :=
  ⟨h.1.trans (grown_put _ _ _), hC, h.2.2.1.keepRows (KeepRows.setCell (by exact h.2.2.2.2) _), by have := h.2.2.2.1; simpa using this, h.2.2.2.2⟩
theorem OwnE.cells3 {x : EI} {k : Nat} (h : OwnE W lo hi (.slice (some ⟨g, 0, none⟩) n c) L) (hk : L[k]? = some x) (o0 o1 o2 : Nat) (ho : o0 = k * 3 ∧ o1 = k * 3 + 1 ∧ o2 = k * 3 + 2) :
    W.cell? ⟨g, o0, none⟩ = some (.int .u8 (x.t.toNat : Int)) ∧ W.cell? ⟨g, o1, none⟩ = some x.vb ∧ W.cell? ⟨g, o2, none⟩ = some x.vr := by
  have hlt : k < n := by have := ownE_len h; have := (List.getElem?_eq_some_iff.1 hk).1; omega
  obtain ⟨t, A1, n1, c1, body, A2, n2, c2, raw, _, q0, q1, q2, _, _, hx⟩ := h.el rfl (Below.refl hi W) (Nat.le_refl _) k (k * 3) hlt rfl
  rw [hk] at hx
  injection hx with hx
  subst hx
  obtain ⟨rfl, rfl, rfl⟩ := ho
  exact ⟨q0, q1, q2⟩
theorem OwnE.own1 {x : EI} {k : Nat} {v : Value} (h : OwnE W lo hi v L) (hk : L[k]? = some x) : OwnB W lo hi x.vb x.body :=
  h.2.1 (x.vb, x.body) (List.mem_flatMap.2 ⟨x, List.mem_of_getElem? hk, by simp [EI.rows]⟩)
theorem OwnE.own2 {x : EI} {k : Nat} {v : Value} (h : OwnE W lo hi v L) (hk : L[k]? = some x) : OwnB W lo hi x.vr x.raw :=
  h.2.1 (x.vr, x.raw) (List.mem_flatMap.2 ⟨x, List.mem_of_getElem? hk, by simp [EI.rows]⟩)
theorem OwnB.rdx {A : Option Addr} {m d : Nat} {xs : List UInt8} (h : OwnB W lo hi (.slice A m d) xs) : Rd W hi A m d xs := by
  obtain ⟨A', m', d', e, hr⟩ := h.rd
  injection e with e1 e2 e3
  subst e1 e2 e3
  exact hr
theorem St.rdb {t : UInt8} {A : Option Addr} {m d k : Nat} {body raw : List UInt8} {vr : Value} (h : St w W gc C lo hi g n c L) (hk : L[k]? = some ⟨t, .slice A m d, body, vr, raw⟩) : Rd W W.heap.size A m d body := (h.2.2.1.own1 hk).rdx.more h.2.2.2.1
theorem St.rdr {t : UInt8} {A : Option Addr} {m d k : Nat} {body raw : List UInt8} {vb : Value} (h : St w W gc C lo hi g n c L) (hk : L[k]? = some ⟨t, vb, body, .slice A m d, raw⟩) : Rd W W.heap.size A m d raw := (h.2.2.1.own2 hk).rdx.more h.2.2.2.1
theorem St.el {l : List El} (h : St w W gc C lo hi g n c L) (hl : l = L.map EI.dat) (k : Nat) (hk : k < n) :
    ∃ t A1 n1 c1 body A2 n2 c2 raw, l.getD k El.none_ = (t, body, raw) ∧ L[k]? = some ⟨t, .slice A1 n1 c1, body, .slice A2 n2 c2, raw⟩ := by
  obtain ⟨t, A1, n1, c1, body, A2, n2, c2, raw, hd, _, _, _, _, _, hx⟩ := h.2.2.1.el hl (Below.refl hi W) (Nat.le_refl _) k (k * 3) hk rfl
  exact ⟨t, A1, n1, c1, body, A2, n2, c2, raw, hd, hx⟩
theorem St.small {u lo' hi' : Int} {x : El} {l : List El} {N k m d : Nat} {t : UInt8} {A : Option Addr} {body raw : List UInt8} {vr : Value} (h : St w W gc C lo hi g n c L) (ho : Cert.parts u lo' hi' x = some l) (hb : x.2.1.length ≤ N)
    (hd : l.getD k El.none_ = (t, body, raw)) (hx : L[k]? = some ⟨t, .slice A m d, body, vr, raw⟩) : m ≤ N := by
  have := parts_small ho k hd
  have := (h.rdb hx).len
  omega
theorem Bc.tbs (h : Bc W gc C) (x : Value) : Bc (W.setCell ⟨gc, 1, none⟩ x) gc {C with tbs := x} := Blk.set_ h 1 x
theorem Bc.iss (h : Bc W gc C) (x : Value) : Bc (W.setCell ⟨gc, 2, none⟩ x) gc {C with iss := x} := Blk.set_ h 2 x
theorem Bc.sub (h : Bc W gc C) (x : Value) : Bc (W.setCell ⟨gc, 3, none⟩ x) gc {C with sub := x} := Blk.set_ h 3 x
theorem Bc.ser (h : Bc W gc C) (x : Value) : Bc (W.setCell ⟨gc, 4, none⟩ x) gc {C with ser := x} := Blk.set_ h 4 x
theorem Bc.n_ (h : Bc W gc C) (x : Value) : Bc (W.setCell ⟨gc, 17, none⟩ x) gc {C with n := x} := Blk.set_ h 17 x
theorem Bc.e_ (h : Bc W gc C) (x : Nat) : Bc (W.setCell ⟨gc, 18, none⟩ (.int .u64 (x : Int))) gc {C with e := x} := Blk.set_ h 18 _
theorem Bc.sig_ (h : Bc W gc C) (x : Value) : Bc (W.setCell ⟨gc, 19, none⟩ x) gc {C with sig := x} := Blk.set_ h 19 x
theorem Bc.time5 (h : Bc W gc C) (t : Tm) : Bc ((((((W.setCell ⟨gc, 5, none⟩ (.int .u16 (t.y : Int))).setCell ⟨gc, 6, none⟩ (.int .u8 (t.mo : Int))).setCell ⟨gc, 7, none⟩ (.int .u8 (t.d : Int))).setCell ⟨gc, 8, none⟩ (.int .u8 (t.h : Int))).setCell ⟨gc, 9, none⟩ (.int .u8 (t.mi : Int))).setCell ⟨gc, 10, none⟩ (.int .u8 (t.s : Int))) gc {C with from_ := t} :=
  Blk.set_ (Blk.set_ (Blk.set_ (Blk.set_ (Blk.set_ (Blk.set_ h 5 _) 6 _) 7 _) 8 _) 9 _) 10 _
theorem Bc.time11 (h : Bc W gc C) (t : Tm) : Bc ((((((W.setCell ⟨gc, 11, none⟩ (.int .u16 (t.y : Int))).setCell ⟨gc, 12, none⟩ (.int .u8 (t.mo : Int))).setCell ⟨gc, 13, none⟩ (.int .u8 (t.d : Int))).setCell ⟨gc, 14, none⟩ (.int .u8 (t.h : Int))).setCell ⟨gc, 15, none⟩ (.int .u8 (t.mi : Int))).setCell ⟨gc, 16, none⟩ (.int .u8 (t.s : Int))) gc {C with to := t} :=
  Blk.set_ (Blk.set_ (Blk.set_ (Blk.set_ (Blk.set_ (Blk.set_ h 11 _) 12 _) 13 _) 14 _) 15 _) 16 _
end Go.Proofs.Ytmnekhliblkibaa
end

section
/- The contract of cert.signed. -/
namespace Go.Proofs.Ytmnekhliblkibaa
open Go.RowKit Go.Maps
set_option maxRecDepth 100000
set_option linter.unusedVariables false
set_option linter.unusedSimpArgs false

/-- What signed leaves behind. -/
def SgR (w : World) (gc : Nat) (C : CV) (vt : Value) (s : Sg) (v : Value) (w' : World) : Prop :=
  v = .tuple #[] ∧ ∃ vi vs ve vn, Bc w' gc {C with tbs := vt, iss := vi, sub := vs, ser := ve, from_ := s.from_, to := s.to, n := vn, e := s.e, fl := s.fl} ∧
    (∀ p ∈ [(vi, s.iss), (vs, s.sub), (ve, s.ser), (vn, s.n)], OwnB w' (w.heap.size + 1) w'.heap.size p.1 p.2) ∧ Apart' [(vi, s.iss), (vs, s.sub), (ve, s.ser), (vn, s.n)]

variable {w W W' : World} {gc lo hi g n c : Nat} {C C' : CV} {L : List EI}
theorem St.time5 (h : St w W gc C lo hi g n c L) (t : Tm) : St w ((((((W.setCell ⟨gc, 5, none⟩ (.int .u16 (t.y : Int))).setCell ⟨gc, 6, none⟩ (.int .u8 (t.mo : Int))).setCell ⟨gc, 7, none⟩ (.int .u8 (t.d : Int))).setCell ⟨gc, 8, none⟩ (.int .u8 (t.h : Int))).setCell ⟨gc, 9, none⟩ (.int .u8 (t.mi : Int))).setCell ⟨gc, 10, none⟩ (.int .u8 (t.s : Int))) gc {C with from_ := t} lo hi g n c L :=
  h.grown ((((((grown_put _ ⟨gc, 5, none⟩ _).trans (grown_put _ ⟨gc, 6, none⟩ _)).trans (grown_put _ ⟨gc, 7, none⟩ _)).trans (grown_put _ ⟨gc, 8, none⟩ _)).trans (grown_put _ ⟨gc, 9, none⟩ _)).trans (grown_put _ ⟨gc, 10, none⟩ _)) (h.2.1.time5 t)
theorem St.time11 (h : St w W gc C lo hi g n c L) (t : Tm) : St w ((((((W.setCell ⟨gc, 11, none⟩ (.int .u16 (t.y : Int))).setCell ⟨gc, 12, none⟩ (.int .u8 (t.mo : Int))).setCell ⟨gc, 13, none⟩ (.int .u8 (t.d : Int))).setCell ⟨gc, 14, none⟩ (.int .u8 (t.h : Int))).setCell ⟨gc, 15, none⟩ (.int .u8 (t.mi : Int))).setCell ⟨gc, 16, none⟩ (.int .u8 (t.s : Int))) gc {C with to := t} lo hi g n c L :=
  h.grown ((((((grown_put _ ⟨gc, 11, none⟩ _).trans (grown_put _ ⟨gc, 12, none⟩ _)).trans (grown_put _ ⟨gc, 13, none⟩ _)).trans (grown_put _ ⟨gc, 14, none⟩ _)).trans (grown_put _ ⟨gc, 15, none⟩ _)).trans (grown_put _ ⟨gc, 16, none⟩ _)) (h.2.1.time11 t)
theorem less_lit (y mo d h mi s y' mo' d' h' mi' s' : Nat) (ha : (⟨y, mo, d, h, mi, s⟩ : Tm).ok8) (hb : (⟨y', mo', d', h', mi', s'⟩ : Tm).ok8) (w : World) :
    Calls Try.prog 68 #[.agg #[.int .u16 (y : Int), .int .u8 (mo : Int), .int .u8 (d : Int), .int .u8 (h : Int), .int .u8 (mi : Int), .int .u8 (s : Int)], .agg #[.int .u16 (y' : Int), .int .u8 (mo' : Int), .int .u8 (d' : Int), .int .u8 (h' : Int), .int .u8 (mi' : Int), .int .u8 (s' : Int)]] w
      fun e w' => e = .returned (.bool (Stamp.less ⟨y, mo, d, h, mi, s⟩ ⟨y', mo', d', h', mi', s'⟩)) ∧ Below w.heap.size w w' := less_any ⟨y, mo, d, h, mi, s⟩ ⟨y', mo', d', h', mi', s'⟩ ha hb w

theorem rows_at : ∀ {L : List EI} {k : Nat} {x : EI}, L[k]? = some x → (L.flatMap EI.rows)[2 * k]? = some (x.vb, x.body) ∧ (L.flatMap EI.rows)[2 * k + 1]? = some (x.vr, x.raw)
  | [], k, x, h => by simp at h
  | y :: L, 0, x, h => by
    simp only [List.getElem?_cons_zero, Option.some.injEq] at h
    subst h
    exact ⟨rfl, rfl⟩
  | y :: L, k + 1, x, h => by
    have := rows_at (L := L) (k := k) (x := x) (by simpa using h)
    exact this
theorem apart4 {a b c d : Value × List UInt8} (h1 : ∀ g, a.1.ownBlock = some g → b.1.ownBlock ≠ some g) (h2 : ∀ g, a.1.ownBlock = some g → c.1.ownBlock ≠ some g) (h3 : ∀ g, b.1.ownBlock = some g → c.1.ownBlock ≠ some g)
    {W : World} {lo hi hi' : Nat} (ha : OwnB W lo hi a.1 a.2) (hb : OwnB W lo hi b.1 b.2) (hc : OwnB W lo hi c.1 c.2) (hd : OwnB W hi hi' d.1 d.2) : Apart' [a, b, c, d] := by
  have key : ∀ {x : Value × List UInt8}, OwnB W lo hi x.1 x.2 → ∀ g, x.1.ownBlock = some g → d.1.ownBlock ≠ some g := fun hx g e1 e2 => by
    have := hx.2 g e1
    have := (hd.1.lt g e2).1
    omega
  refine .cons (fun x hx => ?_) (.cons (fun x hx => ?_) (.cons (fun x hx => ?_) (.cons (fun x hx => ?_) .nil)))
  · simp only [List.mem_cons, List.not_mem_nil, or_false] at hx
    rcases hx with rfl | rfl | rfl
    · exact h1
    · exact h2
    · exact key ha
  · simp only [List.mem_cons, List.not_mem_nil, or_false] at hx
    rcases hx with rfl | rfl
    · exact h3
    · exact key hb
  · obtain rfl := List.mem_singleton.1 hx
    exact key hc
  · simp at hx
theorem St.rows4 {x1 x3 x5 : EI} {M : Nat} {vn : Value} {ns : List UInt8} (h : St w W gc C lo hi g n c L) (h1 : L[1]? = some x1) (h3 : L[3]? = some x3) (h5 : L[5]? = some x5) (hn : OwnB W M W.heap.size vn ns) (hM : hi ≤ M) :
    (∀ p ∈ [(x3.vr, x3.raw), (x5.vr, x5.raw), (x1.vb, x1.body), (vn, ns)], OwnB W lo W.heap.size p.1 p.2) ∧ Apart' [(x3.vr, x3.raw), (x5.vr, x5.raw), (x1.vb, x1.body), (vn, ns)] := by
  have a1 := h.2.2.1.own1 h1
  have a3 := h.2.2.1.own2 h3
  have a5 := h.2.2.1.own2 h5
  have hlh : lo ≤ hi := by
    obtain ⟨A, _, hA, hB⟩ := h.2.2.1.spot_ (by have := ownE_len h.2.2.1; have := (List.getElem?_eq_some_iff.1 h1).1; omega)
    omega
  constructor
  · intro p hp
    simp only [List.mem_cons, List.not_mem_nil, or_false] at hp
    rcases hp with rfl | rfl | rfl | rfl
    · exact a3.mono (Nat.le_refl _) h.2.2.2.1
    · exact a5.mono (Nat.le_refl _) h.2.2.2.1
    · exact a1.mono (Nat.le_refl _) h.2.2.2.1
    · exact hn.mono (by omega) (Nat.le_refl _)
  · have hap := h.2.2.1.2.2
    exact apart4 (W := W) (lo := lo) (hi := hi) (hi' := W.heap.size) (apart_at hap (rows_at h3).2 (rows_at h5).2 (by omega)) (apart_at hap (rows_at h3).2 (rows_at h1).1 (by omega)) (apart_at hap (rows_at h5).2 (rows_at h1).1 (by omega)) a3 a5 a1 (hn.mono hM (Nat.le_refl _))

theorem KeepRows.map {w w' : World} {b lo clk : Nat} {es : Array MapEntry} (hg : w.grownBy w' (some b)) (hm : w.heap[b]? = some (.map es clk)) : KeepRows lo w w' := fun g cs t h1 h2 =>
  (hg.block g (Array.getElem?_eq_some_iff.1 h2).1 (fun e => by injection e with e; subst e; rw [h2] at hm; cases hm)).trans h2
theorem St.map {b clk : Nat} {es : Array MapEntry} (h : St w W gc C lo hi g n c L) (hg : W.grownBy W' (some b)) (hm : W.heap[b]? = some (.map es clk)) (hb : w.heap.size ≤ b) (hgc : gc < b) : St w W' gc C lo hi g n c L :=
  ⟨⟨hg.os.trans h.1.os, hg.tape.trans h.1.tape, hg.output.trans h.1.output, Nat.le_trans h.1.size hg.size, fun k hk hne => (hg.block k (by have := h.1.size; omega) (fun e => by injection e with e; omega)).trans (h.1.block k hk hne)⟩,
    Blk.grown h.2.1 hg (fun e => by injection e with e; omega), h.2.2.1.keepRows (KeepRows.map hg hm), Nat.le_trans h.2.2.2.1 hg.size, h.2.2.2.2⟩

theorem ext_len {f : Fl} {x : El} {p : Fl × List UInt8} (h : Cert.extension f x = some p) : p.2.length ≤ x.2.1.length := by
  unfold Cert.extension at h
  cases hl : Cert.parts 48 2 3 x with
  | none => rw [hl] at h; cases h
  | some l =>
    rw [hl] at h
    simp only [Option.bind_some] at h
    cases h1 : Cert.arcs (l.getD 0 El.none_) with
    | none => rw [h1] at h; cases h
    | some o =>
      rw [h1] at h
      simp only [Option.bind_some] at h
      cases h2 : Cert.must (Cert.lastOk l (l.length - 1)) with
      | none => rw [h2] at h; cases h
      | some _ =>
        rw [h2] at h
        simp only [Option.bind_some] at h
        cases h3 : Cert.told f o l (l.length - 1) with
        | none => rw [h3] at h; cases h
        | some g =>
          rw [h3] at h
          injection h with h
          subst h
          obtain ⟨⟨t, b, r⟩, hd⟩ : ∃ y, l.getD 0 El.none_ = y := ⟨_, rfl⟩
          simp only [hd]
          exact (parts_small hl 0 hd).1

set_option maxHeartbeats 4000000 in
theorem signed_any (gc : Nat) (C : CV) (t : UInt8) (A1 A2 : Option Addr) (n1 c1 n2 c2 : Nat) (b r : List UInt8) (w : World) (hC : Bc w gc C) (h1 : Rd w w.heap.size A1 n1 c1 b) (hn : n1 ≤ 1099511627) :
    Calls Try.prog 43 #[.pointer (some ⟨gc, 0, none⟩), .agg #[.int .u8 (t.toNat : Int), .slice A1 n1 c1, .slice A2 n2 c2]] w (AnsC gc w (Cert.signed C.fl (t, b, r)) (SgR w gc C (.slice A2 n2 c2))) := by
  have HLB := Lib.hid h1.len
  have hgl := hC.lt
  go_enter Try.func43, Try.ntmps43
  go_wp2_with fail
  refine (parts_any t A1 A2 n1 c1 n2 c2 48 7 8 b r _ ((h1.alloc (Nat.le_refl _) _).more (by simp)) hn).mono ?_
  rintro e w1 ⟨hb1, ⟨ho, rfl⟩ | ⟨l, v, ho, rfl, L, A, n, c, rfl, hl, hE, hnl⟩⟩
  · have hbw1 : Below w.heap.size w w1 := Below.trans (by (repeat (first | exact Below.refl _ _ | assumption | (refine Below.setCell ?_ (by first | omega | (simp; done) | (simp; omega)) _) | (refine Below.alloc ?_ (by first | omega | (simp; done) | (simp; omega)) _) | (refine below_drewN ?_ _) | (refine Below.drew ?_)))) (hb1.mono (by first | omega | (simp; done) | (simp; omega)))
    have HH := Lib.hid (And.intro ho (And.intro (grows_ hbw1 (some gc)) (hC.below hbw1 hgl)))
    clear ho hb1 h1 hbw1 hC
    go_wp2
    exact ⟨rfl, AnsC.wrong (bnone HH.out.1) HH.out.2.1 HH.out.2.2⟩
  have hlen := must_len ho
  have h7 : 7 ≤ n := by omega
  have h8 : n ≤ 8 := by omega
  have hbw1 : Below w.heap.size w w1 := Below.trans (by (repeat (first | exact Below.refl _ _ | assumption | (refine Below.setCell ?_ (by first | omega | (simp; done) | (simp; omega)) _) | (refine Below.alloc ?_ (by first | omega | (simp; done) | (simp; omega)) _) | (refine below_drewN ?_ _) | (refine Below.drew ?_)))) (hb1.mono (by first | omega | (simp; done) | (simp; omega)))
  have hs1 := hb1.size
  simp only [World.size_alloc] at hs1
  obtain ⟨g, rfl, hg, hg2⟩ := hE.spot_ (by omega)
  have hbx := (Blk.new w 50 #[.int .u8 (t.toNat : Int), .slice A1 n1 c1, .slice A2 n2 c2]).below hb1 (by simp)
  have x2 := hbx.cell 2
  simp only [List.getElem?_toArray, List.getElem?_cons_zero, List.getElem?_cons_succ] at x2
  have hS1 : St w w1 gc C (w.heap.size + 1) w1.heap.size g n c L := ⟨grows_ hbw1 _, hC.below hbw1 hgl, hE.mono (by simp) (Nat.le_refl _), Nat.le_refl _, by omega⟩
  have hspec : Hid (Cert.signed C.fl (t, b, r) = Sg.a C.fl (t, b, r) l) := Lib.hid (bsome ho)
  have H1 := Lib.hid (And.intro ho (And.intro hl hnl))
  have hB1 : Bc w1 gc C := hS1.2.1
  have k0 : w1.cell? ⟨gc, 1, none⟩ = some C.tbs := hB1.at_ 1
  have k1 := hB1.frozen 1
  have HS1 := Lib.hid (hS1.set (hB1.tbs (.slice A2 n2 c2)))
  clear ho hb1 hbw1 h1 hE hl hlen hC hnl hbx hS1 hB1
  -- the version
  obtain ⟨t0, Aa, na, ca, b0, Ab, nb, cb, r0, hd0, hx0⟩ := HS1.out.el H1.out.2.1 0 (by omega)
  have hna := HS1.out.small H1.out.1 (N := 1099511627) (by have := HLB.out; simp; omega) hd0 hx0
  obtain ⟨p0, p1, p2⟩ := HS1.out.2.2.1.cells3 hx0 0 1 2 ⟨rfl, rfl, rfl⟩
  have H0 := Lib.hid (And.intro hd0 (HS1.out.rdb hx0))
  clear hd0 hx0
  go_wp2_with fail
  refine (parts_any t0 Aa Ab na ca nb cb 160 1 1 b0 r0 _ H0.out.2 (by omega)).mono ?_
  rintro e w2 ⟨hb2, ⟨ho, rfl⟩ | ⟨lv, v, ho, rfl, Lv, Av, nv, cv, rfl, hlv, hEv, hnlv⟩⟩
  · have HH := Lib.hid (And.intro ho (HS1.out.below hb2))
    clear ho hb2
    go_wp2
    exact ⟨rfl, AnsC.wrong (hspec.out.trans (bnone (by rw [H0.out.1]; exact HH.out.1))) HH.out.2.1 HH.out.2.2.1⟩
  have hlen := must_len ho
  obtain rfl : nv = 1 := by omega
  obtain ⟨gv, rfl, hgv, hgv2⟩ := hEv.spot_ (by omega)
  obtain ⟨t1, Ac, nc, cc, b1, Ad, nd, cd, r1, hd1, q0, q1, q2, R0, R1, _⟩ := hEv.el hlv (Below.refl w2.heap.size w2) (Nat.le_refl _) 0 0 (by omega) rfl
  have hs2 := hb2.size
  simp only [World.size_setCell] at hs2
  have hspec2 : Hid (Cert.signed C.fl (t, b, r) = Sg.b C.fl (t, b, r) l lv) := Lib.hid (hspec.out.trans (bsome (by rw [H0.out.1]; exact ho)))
  have HS2 := Lib.hid (HS1.out.below hb2)
  have H2 := Lib.hid (And.intro hd1 R1)
  clear ho hb2 hlv hEv hnlv hlen hd1 R0 R1 hspec HS1 H0 p0 p1 p2 k0 k1 x2
  go_wp2_with fail
  refine (eqBytes2_any Ad _ nd cd 3 3 r1 [2, 1, 2] w2.heap.size _ _ (H2.out.2.rds.alloc (Nat.le_refl _) _) (reads_block w2 5 ([2, 1, 2].map bv) w2.heap.size rfl) (by simp) (by simp) (by have := H2.out.2.cap; have := H2.out.2.capm; omega)).mono ?_
  rintro e w3 ⟨rfl, hb3⟩
  obtain ⟨q, hq⟩ : ∃ q, (r1 == [2, 1, 2]) = q := ⟨_, rfl⟩
  rw [hq]
  have hb3' : Below w2.heap.size w2 w3 := Below.trans (by (repeat (first | exact Below.refl _ _ | assumption | (refine Below.setCell ?_ (by first | omega | (simp; done) | (simp; omega)) _) | (refine Below.alloc ?_ (by first | omega | (simp; done) | (simp; omega)) _) | (refine below_drewN ?_ _) | (refine Below.drew ?_)))) (hb3.mono (by first | omega | (simp; done) | (simp; omega)))
  have H3 := Lib.hid (And.intro hq hb3')
  clear hq hb3 hb3'
  go_wp2_with fail
  refine (must_any _ _).mono ?_
  rintro e w' ⟨rfl, ⟨hq, rfl⟩ | ⟨hq, rfl⟩⟩
  · have HQ := Lib.hid hq
    clear hq
    go_wp2
    exact ⟨rfl, AnsC.wrong (hspec2.out.trans (bnone (must_f (by rw [H2.out.1]; exact H3.out.1.trans HQ.out)))) (HS2.out.below H3.out.2).1 (HS2.out.below H3.out.2).2.1⟩
  have hspec3 : Hid (Cert.signed C.fl (t, b, r) = Sg.c C.fl (t, b, r) l) := Lib.hid (hspec2.out.trans (bsome (must_t (by rw [H2.out.1]; exact H3.out.1.trans hq))))
  have HS3 := Lib.hid (HS2.out.below H3.out.2)
  have hs3 := H3.out.2.size
  clear hspec2 HS2 H3 H2 hq q0 q1 q2
  -- the serial number
  obtain ⟨t1, Aa, na, ca, b1, Ab, nb, cb, r1, hd1, hx1⟩ := HS3.out.el H1.out.2.1 1 (by omega)
  have hna := HS3.out.small H1.out.1 (N := 1099511627) (by have := HLB.out; simp; omega) hd1 hx1
  obtain ⟨p0, p1, p2⟩ := HS3.out.2.2.1.cells3 hx1 3 4 5 ⟨rfl, rfl, rfl⟩
  have HX1 := Lib.hid (And.intro hd1 hx1)
  clear hd1 hx1
  go_wp2_with fail
  refine (number_any t1 Aa Ab na ca nb cb b1 r1 _ (HS3.out.rdb HX1.out.2) (by omega)).mono ?_
  rintro e w4 ⟨hb4, ⟨ho, rfl⟩ | ⟨nn, v, ho, rfl, An, m4, c4, rfl, hO⟩⟩
  · have HH := Lib.hid (And.intro ho (HS3.out.below hb4))
    clear ho hb4
    go_wp2
    exact ⟨rfl, AnsC.wrong (hspec3.out.trans (bnone (by rw [HX1.out.1]; exact HH.out.1))) HH.out.2.1 HH.out.2.2.1⟩
  have hm4 := ownB_len hO
  have HS4 := Lib.hid (HS3.out.below hb4)
  have hb1l : b1.length = na := (HS3.out.rdb HX1.out.2).len
  have hspec4 : ∀ q : Bool, q = (decide (0 < (m4 : Int)) && decide ((na : Int) ≤ 20)) → Hid (Cert.signed C.fl (t, b, r) = (Cert.must q).bind fun _ => Sg.d C.fl (t, b, r) l) := by
    rintro q rfl
    refine Lib.hid (hspec3.out.trans ((bsome (by rw [HX1.out.1]; exact ho)).trans ?_))
    rw [HX1.out.1, hm4]
    simp only [hb1l]
    rw [show decide (0 < m4) = decide (0 < (m4 : Int)) from decide_eq_decide.2 (by omega), show decide (na ≤ 20) = decide ((na : Int) ≤ 20) from decide_eq_decide.2 (by omega)]
  have hs4 := hb4.size
  obtain ⟨p0, p1, p2⟩ := HS4.out.2.2.1.cells3 HX1.out.2 3 4 5 ⟨rfl, rfl, rfl⟩
  have HO4 := Lib.hid (And.intro ho (And.intro hb4 hO))
  clear ho hb4 hO hm4 HS3 hspec3 hb1l
  by_cases hm : 0 < m4
  rotate_left
  · obtain rfl : m4 = 0 := by omega
    have hf := hspec4 false (by simp)
    clear hspec4
    go_wp2_with fail
    refine (must_false _).mono ?_
    rintro e w' ⟨rfl, rfl⟩
    go_wp2
    exact ⟨rfl, AnsC.wrong (hf.out.trans rfl) HS4.out.1 HS4.out.2.1⟩
  have f1 : (0 : Int) < (m4 : Int) := by omega
  have hf := hspec4 (decide ((na : Int) ≤ 20)) (by simp [hm])
  clear hspec4 hm
  go_wp2_with fail
  refine (must_any _ _).mono ?_
  rintro e w' ⟨rfl, ⟨hq, rfl⟩ | ⟨hq, rfl⟩⟩
  · have HQ := Lib.hid hq
    clear hq
    go_wp2
    exact ⟨rfl, AnsC.wrong (hf.out.trans (by rw [HQ.out]; rfl)) HS4.out.1 HS4.out.2.1⟩
  have hspec5 : Hid (Cert.signed C.fl (t, b, r) = Sg.d C.fl (t, b, r) l) := Lib.hid (hf.out.trans (bsome (must_t hq)))
  clear hf hq f1 hs4 HO4
  have k0 : w'.cell? ⟨gc, 4, none⟩ = some C.ser := HS4.out.2.1.at_ 4
  have k1 := HS4.out.2.1.frozen 4
  have HS5 := Lib.hid (HS4.out.set (HS4.out.2.1.ser (.slice Aa na ca)))
  -- the method of signing
  obtain ⟨t2, A5, n5, c5, b2, A6, n6, c6, r2, hd2, hx2⟩ := HS5.out.el H1.out.2.1 2 (by omega)
  have hn5 := HS5.out.small H1.out.1 (N := 1099511627) (by have := HLB.out; simp; omega) hd2 hx2
  obtain ⟨q0, q1, q2⟩ := HS5.out.2.2.1.cells3 hx2 6 7 8 ⟨rfl, rfl, rfl⟩
  have HX2 := Lib.hid (And.intro hd2 hx2)
  clear hd2 hx2 HS4
  go_wp2_with fail
  refine (method_any t2 A5 A6 n5 c5 n6 c6 11 b2 r2 _ (HS5.out.rdb HX2.out.2) (by omega)).mono ?_
  rintro e w5 ⟨hb5, ⟨ho, rfl⟩ | ⟨_, v, ho, rfl, rfl⟩⟩
  · have HH := Lib.hid (And.intro ho (HS5.out.below hb5))
    clear ho hb5
    go_wp2
    exact ⟨rfl, AnsC.wrong (hspec5.out.trans (bnone (by rw [HX2.out.1]; exact HH.out.1))) HH.out.2.1 HH.out.2.2.1⟩
  have hspec6 : Hid (Cert.signed C.fl (t, b, r) = Sg.e_ C.fl (t, b, r) l) := Lib.hid (hspec5.out.trans (bsome (by rw [HX2.out.1]; exact ho)))
  have HS6 := Lib.hid (HS5.out.below hb5)
  clear ho hb5 hspec5 HS5 HX2 p0 p1 p2 q0 q1 q2 k0 k1
  -- the names
  obtain ⟨t3, A5, n5, c5, b3, A6, n6, c6, r3, hd3, hx3⟩ := HS6.out.el H1.out.2.1 3 (by omega)
  obtain ⟨p0, p1, p2⟩ := HS6.out.2.2.1.cells3 hx3 9 10 11 ⟨rfl, rfl, rfl⟩
  have HX3 := Lib.hid (And.intro hd3 hx3)
  clear hd3 hx3
  go_wp2_with fail
  refine (body_any t3 _ _ 48 b3 r3 _).mono ?_
  rintro e w6 ⟨hb6, ⟨ho, rfl⟩ | ⟨_, v, ho, rfl, rfl, rfl⟩⟩
  · have HH := Lib.hid (And.intro ho (HS6.out.below hb6))
    clear ho hb6
    go_wp2
    exact ⟨rfl, AnsC.wrong (hspec6.out.trans (bnone (by rw [HX3.out.1]; exact HH.out.1))) HH.out.2.1 HH.out.2.2.1⟩
  have hspec7 : Hid (Cert.signed C.fl (t, b, r) = Sg.f C.fl (t, b, r) l) := Lib.hid (hspec6.out.trans (bsome (by rw [HX3.out.1]; exact ho)))
  have HS7 := Lib.hid (HS6.out.below hb6)
  clear ho hb6 hspec6 HS6 p0 p1 p2
  obtain ⟨t5, B5, m5, d5, b5, B6, m6, d6, r5, hd5, hx5⟩ := HS7.out.el H1.out.2.1 5 (by omega)
  obtain ⟨p0, p1, p2⟩ := HS7.out.2.2.1.cells3 hx5 15 16 17 ⟨rfl, rfl, rfl⟩
  have HX5 := Lib.hid (And.intro hd5 hx5)
  clear hd5 hx5
  go_wp2_with fail
  refine (body_any t5 _ _ 48 b5 r5 _).mono ?_
  rintro e w7 ⟨hb7, ⟨ho, rfl⟩ | ⟨_, v, ho, rfl, rfl, rfl⟩⟩
  · have HH := Lib.hid (And.intro ho (HS7.out.below hb7))
    clear ho hb7
    go_wp2
    exact ⟨rfl, AnsC.wrong (hspec7.out.trans (bnone (by rw [HX5.out.1]; exact HH.out.1))) HH.out.2.1 HH.out.2.2.1⟩
  have hspec8 : Hid (Cert.signed C.fl (t, b, r) = Sg.g C.fl (t, b, r) l) := Lib.hid (hspec7.out.trans (bsome (by rw [HX5.out.1]; exact ho)))
  have HS8 := Lib.hid (HS7.out.below hb7)
  clear ho hb7 hspec7 HS7 p0 p1 p2
  obtain ⟨_, _, p2⟩ := HS8.out.2.2.1.cells3 HX3.out.2 9 10 11 ⟨rfl, rfl, rfl⟩
  obtain ⟨_, _, q2⟩ := HS8.out.2.2.1.cells3 HX5.out.2 15 16 17 ⟨rfl, rfl, rfl⟩
  have k0 : w7.cell? ⟨gc, 2, none⟩ = some C.iss := HS8.out.2.1.at_ 2
  have k1 := HS8.out.2.1.frozen 2
  have k2 : w7.cell? ⟨gc, 3, none⟩ = some C.sub := HS8.out.2.1.at_ 3
  have k3 := HS8.out.2.1.frozen 3
  have hga := HS8.out.2.2.2.2
  go_wp2
  go_region
  have HS9 := Lib.hid (((HS8.out.set (HS8.out.2.1.iss (.slice A6 n6 c6))).set ((HS8.out.2.1.iss (.slice A6 n6 c6)).sub (.slice B6 m6 d6))).below (Below.refl _ _).drew)
  clear p2 q2 k0 k1 k2 k3 HS8
  -- the two moments
  obtain ⟨t4, D5, e5, f5, b4, D6, e6, f6, r4, hd4, hx4⟩ := HS9.out.el H1.out.2.1 4 (by omega)
  have hn4 := HS9.out.small H1.out.1 (N := 1099511627) (by have := HLB.out; simp; omega) hd4 hx4
  obtain ⟨p0, p1, p2⟩ := HS9.out.2.2.1.cells3 hx4 12 13 14 ⟨rfl, rfl, rfl⟩
  have HX4 := Lib.hid (And.intro hd4 hx4)
  clear hd4 hx4
  go_wp2_with fail
  refine (parts_any t4 D5 D6 e5 f5 e6 f6 48 2 2 b4 r4 _ (HS9.out.rdb HX4.out.2) (by omega)).mono ?_
  rintro e w8 ⟨hb8, ⟨ho, rfl⟩ | ⟨lt, v, ho, rfl, Lt, At, nt, ct, rfl, hlt, hEt, hnlt⟩⟩
  · have HH := Lib.hid (And.intro ho (HS9.out.below hb8))
    clear ho hb8
    go_wp2
    exact ⟨rfl, AnsC.wrong (hspec8.out.trans (bnone (by rw [HX4.out.1]; exact HH.out.1))) HH.out.2.1 HH.out.2.2.1⟩
  have hlen := must_len ho
  obtain rfl : nt = 2 := by omega
  obtain ⟨gt, rfl, hgt, hgt2⟩ := hEt.spot_ (by omega)
  obtain ⟨ta, Ba, ma, da, ba, Bb, mb, db, ra, hxa, s0, s1, s2, Ra, _, _⟩ := hEt.el hlt (Below.refl w8.heap.size w8) (Nat.le_refl _) 0 0 (by omega) rfl
  obtain ⟨tb, Bc_, mc, dc, bb, Bd, md, dd, rb, hxb, u0, u1, u2, Rb, _, _⟩ := hEt.el hlt (Below.refl w8.heap.size w8) (Nat.le_refl _) 1 3 (by omega) rfl
  have hs8 := hb8.size
  have hspec9 : Hid (Cert.signed C.fl (t, b, r) = (Cert.moment (ta, ba, ra)).bind fun x => (Cert.moment (tb, bb, rb)).bind fun y => Sg.i C.fl (t, b, r) l x y) := Lib.hid (hspec8.out.trans ((bsome (by rw [HX4.out.1]; exact ho)).trans (by unfold Sg.h; rw [hxa, hxb])))
  have HS10 := Lib.hid (HS9.out.below hb8)
  have HR := Lib.hid (And.intro Ra Rb)
  have hgg : gc < gt := by
    have h1 := HS9.out.2.1.lt
    omega
  clear ho hb8 hlt hEt hnlt hlen hxa hxb Ra Rb hspec8 HS9 HX4 p0 p1 p2
  simp only [Nat.zero_add, Nat.reduceAdd] at s1 s2 u1 u2
  go_wp2
  go_region_held2 (fun w' => w'.cell? ⟨gt, 0, none⟩ = some (.int .u8 (ta.toNat : Int)) ∧ w'.cell? ⟨gt, 1, none⟩ = some (.slice Ba ma da) ∧ w'.cell? ⟨gt, 2, none⟩ = some (.slice Bb mb db) ∧ w'.cell? ⟨gt, 3, none⟩ = some (.int .u8 (tb.toNat : Int)) ∧ w'.cell? ⟨gt, 4, none⟩ = some (.slice Bc_ mc dc) ∧ w'.cell? ⟨gt, 5, none⟩ = some (.slice Bd md dd)) (first | go_keep | (refine ⟨?_, ?_, ?_, ?_, ?_, ?_⟩ <;> ((repeat (rw [World.cell?_setCell_other _ _ _ _ (by intro e; injection e with e; omega)])); assumption)))
    (first
      | (go_at_call 67; ((with_reducible refine (moment_any ta Ba ma da _ ba ra _ HR.out.1.drew).mono ?_); rintro e w9 ⟨hb9, ⟨ho, rfl⟩ | ⟨xa, v, ho, rfl, hv⟩⟩); (· exact ⟨rfl, AnsC.wrong (hspec9.out.trans (bnone ho)) ((HS10.out.below (Below.refl _ _).drew).below hb9).1 ((HS10.out.below (Below.refl _ _).drew).below hb9).2.1⟩); obtain ⟨xy, xmo, xd, xh, xmi, xs_⟩ := xa; simp only [Tm.v] at hv; subst hv; have HA := Lib.hid ho; clear ho; have HS11 := Lib.hid ((HS10.out.below (Below.refl _ _).drew).below hb9); have hs9 := hb9.size; simp only [World.size_drew] at hs9 hb9; have k0 : w9.cell? ⟨gt, 0, none⟩ = some (.int .u8 (ta.toNat : Int)) := (hb9.cell (p := ⟨gt, 0, none⟩) (by first | (simp; done) | omega | (simp; omega))).trans (by first | assumption | (simp only [World.cell?_drew]; assumption)); have k1 : w9.cell? ⟨gt, 1, none⟩ = some (.slice Ba ma da) := (hb9.cell (p := ⟨gt, 1, none⟩) (by first | (simp; done) | omega | (simp; omega))).trans (by first | assumption | (simp only [World.cell?_drew]; assumption)); have k2 : w9.cell? ⟨gt, 2, none⟩ = some (.slice Bb mb db) := (hb9.cell (p := ⟨gt, 2, none⟩) (by first | (simp; done) | omega | (simp; omega))).trans (by first | assumption | (simp only [World.cell?_drew]; assumption)); have k3 : w9.cell? ⟨gt, 3, none⟩ = some (.int .u8 (tb.toNat : Int)) := (hb9.cell (p := ⟨gt, 3, none⟩) (by first | (simp; done) | omega | (simp; omega))).trans (by first | assumption | (simp only [World.cell?_drew]; assumption)); have k4 : w9.cell? ⟨gt, 4, none⟩ = some (.slice Bc_ mc dc) := (hb9.cell (p := ⟨gt, 4, none⟩) (by first | (simp; done) | omega | (simp; omega))).trans (by first | assumption | (simp only [World.cell?_drew]; assumption)); have k5 : w9.cell? ⟨gt, 5, none⟩ = some (.slice Bd md dd) := (hb9.cell (p := ⟨gt, 5, none⟩) (by first | (simp; done) | omega | (simp; omega))).trans (by first | assumption | (simp only [World.cell?_drew]; assumption)))
      | (go_at_call 67; ((with_reducible refine (moment_any tb Bc_ mc dc _ bb rb _ (HR.out.2.up (Below.trans (by (repeat (first | exact Below.refl _ _ | assumption | (refine Below.setCell ?_ (by first | omega | (simp; done) | (simp; omega)) _) | (refine Below.alloc ?_ (by first | omega | (simp; done) | (simp; omega)) _) | (refine below_drewN ?_ _) | (refine Below.drew ?_)))) (hb9.mono (Nat.le_refl _))))).mono ?_); rintro e w10 ⟨hb10, ⟨ho, rfl⟩ | ⟨xb, v, ho, rfl, hv⟩⟩); (· exact ⟨rfl, AnsC.wrong (hspec9.out.trans ((bsome HA.out).trans (bnone ho))) (HS11.out.below hb10).1 (HS11.out.below hb10).2.1⟩); obtain ⟨yy, ymo, yd, yh, ymi, ys_⟩ := xb; simp only [Tm.v] at hv; subst hv; have HB := Lib.hid ho; clear ho; have hs10 := hb10.size; have HS12 := Lib.hid (HS11.out.below hb10); have HC0 := Lib.hid HS12.out.2.1; have ce5 : w10.cell? ⟨gc, 5, none⟩ = some (.int .u16 (C.from_.y : Int)) := HC0.out.at_ 5; have fz5 := HC0.out.frozen 5 ; have ce6 : w10.cell? ⟨gc, 6, none⟩ = some (.int .u8 (C.from_.mo : Int)) := HC0.out.at_ 6; have fz6 := HC0.out.frozen 6 ; have ce7 : w10.cell? ⟨gc, 7, none⟩ = some (.int .u8 (C.from_.d : Int)) := HC0.out.at_ 7; have fz7 := HC0.out.frozen 7 ; have ce8 : w10.cell? ⟨gc, 8, none⟩ = some (.int .u8 (C.from_.h : Int)) := HC0.out.at_ 8; have fz8 := HC0.out.frozen 8 ; have ce9 : w10.cell? ⟨gc, 9, none⟩ = some (.int .u8 (C.from_.mi : Int)) := HC0.out.at_ 9; have fz9 := HC0.out.frozen 9 ; have ce10 : w10.cell? ⟨gc, 10, none⟩ = some (.int .u8 (C.from_.s : Int)) := HC0.out.at_ 10; have fz10 := HC0.out.frozen 10 ; have ce11 : w10.cell? ⟨gc, 11, none⟩ = some (.int .u16 (C.to.y : Int)) := HC0.out.at_ 11; have fz11 := HC0.out.frozen 11 ; have ce12 : w10.cell? ⟨gc, 12, none⟩ = some (.int .u8 (C.to.mo : Int)) := HC0.out.at_ 12; have fz12 := HC0.out.frozen 12 ; have ce13 : w10.cell? ⟨gc, 13, none⟩ = some (.int .u8 (C.to.d : Int)) := HC0.out.at_ 13; have fz13 := HC0.out.frozen 13 ; have ce14 : w10.cell? ⟨gc, 14, none⟩ = some (.int .u8 (C.to.h : Int)) := HC0.out.at_ 14; have fz14 := HC0.out.frozen 14 ; have ce15 : w10.cell? ⟨gc, 15, none⟩ = some (.int .u8 (C.to.mi : Int)) := HC0.out.at_ 15; have fz15 := HC0.out.frozen 15 ; have ce16 : w10.cell? ⟨gc, 16, none⟩ = some (.int .u8 (C.to.s : Int)) := HC0.out.at_ 16; have fz16 := HC0.out.frozen 16; have l0 : w10.cell? ⟨gt, 0, none⟩ = some (.int .u8 (ta.toNat : Int)) := (hb10.cell (p := ⟨gt, 0, none⟩) (by first | (simp; done) | omega | (simp; omega))).trans (by first | assumption | (simp only [World.cell?_drew]; assumption)); have l1 : w10.cell? ⟨gt, 1, none⟩ = some (.slice Ba ma da) := (hb10.cell (p := ⟨gt, 1, none⟩) (by first | (simp; done) | omega | (simp; omega))).trans (by first | assumption | (simp only [World.cell?_drew]; assumption)); have l2 : w10.cell? ⟨gt, 2, none⟩ = some (.slice Bb mb db) := (hb10.cell (p := ⟨gt, 2, none⟩) (by first | (simp; done) | omega | (simp; omega))).trans (by first | assumption | (simp only [World.cell?_drew]; assumption)); have l3 : w10.cell? ⟨gt, 3, none⟩ = some (.int .u8 (tb.toNat : Int)) := (hb10.cell (p := ⟨gt, 3, none⟩) (by first | (simp; done) | omega | (simp; omega))).trans (by first | assumption | (simp only [World.cell?_drew]; assumption)); have l4 : w10.cell? ⟨gt, 4, none⟩ = some (.slice Bc_ mc dc) := (hb10.cell (p := ⟨gt, 4, none⟩) (by first | (simp; done) | omega | (simp; omega))).trans (by first | assumption | (simp only [World.cell?_drew]; assumption)); have l5 : w10.cell? ⟨gt, 5, none⟩ = some (.slice Bd md dd) := (hb10.cell (p := ⟨gt, 5, none⟩) (by first | (simp; done) | omega | (simp; omega))).trans (by first | assumption | (simp only [World.cell?_drew]; assumption))))
  obtain ⟨w11, hw11, HS13⟩ : ∃ w11, w11 = ((((((((((((w10.setCell ⟨gc, 5, none⟩ (.int .u16 (xy : Int))).setCell ⟨gc, 6, none⟩ (.int .u8 (xmo : Int))).setCell ⟨gc, 7, none⟩ (.int .u8 (xd : Int))).setCell ⟨gc, 8, none⟩ (.int .u8 (xh : Int))).setCell ⟨gc, 9, none⟩ (.int .u8 (xmi : Int))).setCell ⟨gc, 10, none⟩ (.int .u8 (xs_ : Int))).setCell ⟨gc, 11, none⟩ (.int .u16 (yy : Int))).setCell ⟨gc, 12, none⟩ (.int .u8 (ymo : Int))).setCell ⟨gc, 13, none⟩ (.int .u8 (yd : Int))).setCell ⟨gc, 14, none⟩ (.int .u8 (yh : Int))).setCell ⟨gc, 15, none⟩ (.int .u8 (ymi : Int))).setCell ⟨gc, 16, none⟩ (.int .u8 (ys_ : Int))) ∧ Hid (St w w11 gc {C with tbs := .slice A2 n2 c2, iss := .slice A6 n6 c6, sub := .slice B6 m6 d6, ser := .slice Aa na ca, from_ := ⟨xy, xmo, xd, xh, xmi, xs_⟩, to := ⟨yy, ymo, yd, yh, ymi, ys_⟩} (w.heap.size + 1) w1.heap.size g n c L) :=
    ⟨_, rfl, Lib.hid ((HS12.out.time5 ⟨xy, xmo, xd, xh, xmi, xs_⟩).time11 ⟨yy, ymo, yd, yh, ymi, ys_⟩)⟩
  rw [← hw11]
  have hspec10 : Hid (Cert.signed C.fl (t, b, r) = Sg.i C.fl (t, b, r) l ⟨xy, xmo, xd, xh, xmi, xs_⟩ ⟨yy, ymo, yd, yh, ymi, ys_⟩) := Lib.hid (hspec9.out.trans ((bsome HA.out).trans (bsome HB.out)))
  have HOK := Lib.hid (And.intro (moment_ok8 HA.out) (moment_ok8 HB.out))
  clear hw11 HS12 HS11 HS10 HC0 hspec9 HA HB HR hs10 hs9 hs8 hb10 hb9 hgt hgt2 hgg s0 s1 s2 u0 u1 u2 k0 k1 k2 k3 k4 k5 l0 l1 l2 l3 l4 l5 ce5 fz5 ce6 fz6 ce7 fz7 ce8 fz8 ce9 fz9 ce10 fz10 ce11 fz11 ce12 fz12 ce13 fz13 ce14 fz14 ce15 fz15 ce16 fz16
  -- in order
  have ce5 : w11.cell? ⟨gc, 5, none⟩ = some (.int .u16 (xy : Int)) := HS13.out.2.1.at_ 5
  have ce6 : w11.cell? ⟨gc, 6, none⟩ = some (.int .u8 (xmo : Int)) := HS13.out.2.1.at_ 6
  have ce7 : w11.cell? ⟨gc, 7, none⟩ = some (.int .u8 (xd : Int)) := HS13.out.2.1.at_ 7
  have ce8 : w11.cell? ⟨gc, 8, none⟩ = some (.int .u8 (xh : Int)) := HS13.out.2.1.at_ 8
  have ce9 : w11.cell? ⟨gc, 9, none⟩ = some (.int .u8 (xmi : Int)) := HS13.out.2.1.at_ 9
  have ce10 : w11.cell? ⟨gc, 10, none⟩ = some (.int .u8 (xs_ : Int)) := HS13.out.2.1.at_ 10
  have ce11 : w11.cell? ⟨gc, 11, none⟩ = some (.int .u16 (yy : Int)) := HS13.out.2.1.at_ 11
  have ce12 : w11.cell? ⟨gc, 12, none⟩ = some (.int .u8 (ymo : Int)) := HS13.out.2.1.at_ 12
  have ce13 : w11.cell? ⟨gc, 13, none⟩ = some (.int .u8 (yd : Int)) := HS13.out.2.1.at_ 13
  have ce14 : w11.cell? ⟨gc, 14, none⟩ = some (.int .u8 (yh : Int)) := HS13.out.2.1.at_ 14
  have ce15 : w11.cell? ⟨gc, 15, none⟩ = some (.int .u8 (ymi : Int)) := HS13.out.2.1.at_ 15
  have ce16 : w11.cell? ⟨gc, 16, none⟩ = some (.int .u8 (ys_ : Int)) := HS13.out.2.1.at_ 16
  go_wp2
  go_region_held2 (fun w' => w'.cell? ⟨gc, 5, none⟩ = some (.int .u16 (xy : Int)) ∧ w'.cell? ⟨gc, 6, none⟩ = some (.int .u8 (xmo : Int)) ∧ w'.cell? ⟨gc, 7, none⟩ = some (.int .u8 (xd : Int)) ∧ w'.cell? ⟨gc, 8, none⟩ = some (.int .u8 (xh : Int)) ∧ w'.cell? ⟨gc, 9, none⟩ = some (.int .u8 (xmi : Int)) ∧ w'.cell? ⟨gc, 10, none⟩ = some (.int .u8 (xs_ : Int)) ∧ w'.cell? ⟨gc, 11, none⟩ = some (.int .u16 (yy : Int)) ∧ w'.cell? ⟨gc, 12, none⟩ = some (.int .u8 (ymo : Int)) ∧ w'.cell? ⟨gc, 13, none⟩ = some (.int .u8 (yd : Int)) ∧ w'.cell? ⟨gc, 14, none⟩ = some (.int .u8 (yh : Int)) ∧ w'.cell? ⟨gc, 15, none⟩ = some (.int .u8 (ymi : Int)) ∧ w'.cell? ⟨gc, 16, none⟩ = some (.int .u8 (ys_ : Int))) (first | go_keep)
    (first
      | (go_at_call 68; ((with_reducible refine (less_lit _ _ _ _ _ _ _ _ _ _ _ _ HOK.out.2 HOK.out.1 _).mono ?_); rintro e w12 ⟨rfl, hb12⟩); have HS14 := Lib.hid ((HS13.out.below (Below.refl _ _).drew).below hb12); obtain ⟨q, hq⟩ : ∃ q, Stamp.less ⟨yy, ymo, yd, yh, ymi, ys_⟩ ⟨xy, xmo, xd, xh, xmi, xs_⟩ = q := ⟨_, rfl⟩; rw [hq]; have HQ := Lib.hid hq; have cf5 : w12.cell? ⟨gc, 5, none⟩ = some (.int .u16 (xy : Int)) := HS14.out.2.1.at_ 5; have cf6 : w12.cell? ⟨gc, 6, none⟩ = some (.int .u8 (xmo : Int)) := HS14.out.2.1.at_ 6; have cf7 : w12.cell? ⟨gc, 7, none⟩ = some (.int .u8 (xd : Int)) := HS14.out.2.1.at_ 7; have cf8 : w12.cell? ⟨gc, 8, none⟩ = some (.int .u8 (xh : Int)) := HS14.out.2.1.at_ 8; have cf9 : w12.cell? ⟨gc, 9, none⟩ = some (.int .u8 (xmi : Int)) := HS14.out.2.1.at_ 9; have cf10 : w12.cell? ⟨gc, 10, none⟩ = some (.int .u8 (xs_ : Int)) := HS14.out.2.1.at_ 10; have cf11 : w12.cell? ⟨gc, 11, none⟩ = some (.int .u16 (yy : Int)) := HS14.out.2.1.at_ 11; have cf12 : w12.cell? ⟨gc, 12, none⟩ = some (.int .u8 (ymo : Int)) := HS14.out.2.1.at_ 12; have cf13 : w12.cell? ⟨gc, 13, none⟩ = some (.int .u8 (yd : Int)) := HS14.out.2.1.at_ 13; have cf14 : w12.cell? ⟨gc, 14, none⟩ = some (.int .u8 (yh : Int)) := HS14.out.2.1.at_ 14; have cf15 : w12.cell? ⟨gc, 15, none⟩ = some (.int .u8 (ymi : Int)) := HS14.out.2.1.at_ 15; have cf16 : w12.cell? ⟨gc, 16, none⟩ = some (.int .u8 (ys_ : Int)) := HS14.out.2.1.at_ 16; clear hq hb12)
      | (go_at_call 63; ((with_reducible refine (must_any _ _).mono ?_); rintro e w13 ⟨rfl, ⟨hq, rfl⟩ | ⟨hq, rfl⟩⟩); (· exact ⟨rfl, AnsC.wrong (hspec10.out.trans (bnone (by rw [HQ.out, hq]; rfl))) HS14.out.1 HS14.out.2.1⟩); have HM := Lib.hid hq; clear hq))
  have hspec11 : Hid (Cert.signed C.fl (t, b, r) = Sg.j C.fl (t, b, r) l ⟨xy, xmo, xd, xh, xmi, xs_⟩ ⟨yy, ymo, yd, yh, ymi, ys_⟩) := Lib.hid (hspec10.out.trans (bsome (must_t (by rw [HQ.out]; exact HM.out))))
  clear ce5 ce6 ce7 ce8 ce9 ce10 ce11 ce12 ce13 ce14 ce15 ce16 cf5 cf6 cf7 cf8 cf9 cf10 cf11 cf12 cf13 cf14 cf15 cf16 hspec10 HOK HQ HM HS13
  -- the key
  obtain ⟨t6, A7, n7, c7, b6, A8, n8, c8, r6, hd6, hx6⟩ := HS14.out.el H1.out.2.1 6 (by omega)
  have hn7 := HS14.out.small H1.out.1 (N := 1099511627) (by have := HLB.out; simp; omega) hd6 hx6
  obtain ⟨p0, p1, p2⟩ := HS14.out.2.2.1.cells3 hx6 18 19 20 ⟨rfl, rfl, rfl⟩
  have HX6 := Lib.hid (And.intro hd6 hx6)
  clear hd6 hx6
  go_wp2_with fail
  refine (key_any t6 A7 A8 n7 c7 n8 c8 b6 r6 _ (HS14.out.rdb HX6.out.2) (by omega)).mono ?_
  rintro e w14 ⟨hb14, ⟨ho, rfl⟩ | ⟨⟨kn, ke⟩, v, ho, rfl, A9, n9, c9, rfl, hO⟩⟩
  · have HH := Lib.hid (And.intro ho (HS14.out.below hb14))
    clear ho hb14
    go_wp2
    exact ⟨rfl, AnsC.wrong (hspec11.out.trans (bnone (by rw [HX6.out.1]; exact HH.out.1))) HH.out.2.1 HH.out.2.2.1⟩
  have HS15 := Lib.hid (HS14.out.below hb14)
  have q0 : w14.cell? ⟨gc, 17, none⟩ = some C.n := HS15.out.2.1.at_ 17
  have q1 := HS15.out.2.1.frozen 17
  have q2 : w14.cell? ⟨gc, 18, none⟩ = some (.int .u64 (C.e : Int)) := HS15.out.2.1.at_ 18
  have q3 := HS15.out.2.1.frozen 18
  have hspec12 : Hid (Cert.signed C.fl (t, b, r) = Cert.told8 ⟨r, (l.getD 3 El.none_).2.2, (l.getD 5 El.none_).2.2, (l.getD 1 El.none_).2.1, ⟨xy, xmo, xd, xh, xmi, xs_⟩, ⟨yy, ymo, yd, yh, ymi, ys_⟩, kn, ke, C.fl⟩ l) := Lib.hid (hspec11.out.trans (by have hk : Cert.key (l.getD 6 El.none_) = some (kn, ke) := (by rw [HX6.out.1]; exact ho); unfold Sg.j; rw [hk]; rfl))
  have HK := Lib.hid (And.intro hO (And.intro hb14 hb14.size))
  clear ho hb14 hO hspec11 p0 p1 p2 HX6
  have HS16 := Lib.hid ((HS15.out.set (HS15.out.2.1.n_ (.slice A9 n9 c9))).set ((HS15.out.2.1.n_ (.slice A9 n9 c9)).e_ ke))
  have hs14 := HK.out.2.2
  have hga2 := HS15.out.2.2.2.2
  have hw13 := HS14.out.2.2.2.1
  have HN := Lib.hid ((HK.out.1.setCell (p := ⟨gc, 17, none⟩) (by simp; omega) (.slice A9 n9 c9)).setCell (p := ⟨gc, 18, none⟩) (by simp; omega) (.int .u64 (ke : Int)))
  clear HS15 HK
  rcases (by omega : n = 7 ∨ n = 8) with rfl | rfl
  · go_wp2
    go_end0
    have hrows := HS16.out.rows4 HX1.out.2 HX3.out.2 HX5.out.2 (HN.out.mono (Nat.le_refl _) (by simp)) hw13
    refine AnsC.right (a := ⟨r, (l.getD 3 El.none_).2.2, (l.getD 5 El.none_).2.2, (l.getD 1 El.none_).2.1, ⟨xy, xmo, xd, xh, xmi, xs_⟩, ⟨yy, ymo, yd, yh, ymi, ys_⟩, kn, ke, C.fl⟩) (hspec12.out.trans (by unfold Cert.told8; rw [if_pos H1.out.2.2.symm])) HS16.out.1 ⟨rfl, _, _, _, _, HS16.out.2.1, ?_⟩
    rw [HX1.out.1, HX3.out.1, HX5.out.1]
    exact hrows
  obtain ⟨t7, Aq, nq, cq, b7, Ar, nr, cr, r7, hd7, hx7⟩ := HS16.out.el H1.out.2.1 7 (by omega)
  have hnq := HS16.out.small H1.out.1 (N := 1099511627) (by have := HLB.out; simp; omega) hd7 hx7
  obtain ⟨p0, p1, p2⟩ := HS16.out.2.2.1.cells3 hx7 21 22 23 ⟨rfl, rfl, rfl⟩
  have HX7 := Lib.hid (And.intro hd7 hx7)
  clear hd7 hx7
  have hspec13 : Hid (Cert.signed C.fl (t, b, r) = (Cert.parts 163 1 1 (t7, b7, r7)).bind fun o => (Cert.parts 48 1 8192 (o.getD 0 El.none_)).bind fun all =>
      (Cert.exts C.fl all).bind fun p => (Cert.must (distinct p.2)).bind fun _ => some (⟨r, (l.getD 3 El.none_).2.2, (l.getD 5 El.none_).2.2, (l.getD 1 El.none_).2.1, ⟨xy, xmo, xd, xh, xmi, xs_⟩, ⟨yy, ymo, yd, yh, ymi, ys_⟩, kn, ke, p.1⟩ : Sg)) := Lib.hid (hspec12.out.trans (by unfold Cert.told8; rw [if_neg (by have := H1.out.2.2; omega), HX7.out.1]))
  clear hspec12
  go_wp2_with fail
  refine (parts_any t7 Aq Ar nq cq nr cr 163 1 1 b7 r7 _ (HS16.out.rdb HX7.out.2) (by omega)).mono ?_
  rintro e w17 ⟨hb17, ⟨ho, rfl⟩ | ⟨lo_, v, ho, rfl, Lo, Ao, no, co, rfl, hlo, hEo, hnlo⟩⟩
  · have HH := Lib.hid (And.intro ho (HS16.out.below hb17))
    clear ho hb17
    go_wp2
    exact ⟨rfl, AnsC.wrong (hspec13.out.trans (bnone HH.out.1)) HH.out.2.1 HH.out.2.2.1⟩
  have hlen := must_len ho
  obtain rfl : no = 1 := by omega
  obtain ⟨go_, rfl, hgo, hgo2⟩ := hEo.spot_ (by omega)
  obtain ⟨to_, As, ns, cs, bo, At_, nt, ct, ro, hdo, u0, u1, u2, Ro, _, _⟩ := hEo.el hlo (Below.refl w17.heap.size w17) (Nat.le_refl _) 0 0 (by omega) rfl
  have hns : ns ≤ 1099511627 := by
    have h1 := parts_small ho 0 hdo
    have h2 := (HS16.out.rdb HX7.out.2).len
    have h3 := Ro.len
    simp at h1
    omega
  have hspec14 : Hid (Cert.signed C.fl (t, b, r) = (Cert.parts 48 1 8192 (to_, bo, ro)).bind fun all =>
      (Cert.exts C.fl all).bind fun p => (Cert.must (distinct p.2)).bind fun _ => some (⟨r, (l.getD 3 El.none_).2.2, (l.getD 5 El.none_).2.2, (l.getD 1 El.none_).2.1, ⟨xy, xmo, xd, xh, xmi, xs_⟩, ⟨yy, ymo, yd, yh, ymi, ys_⟩, kn, ke, p.1⟩ : Sg)) := Lib.hid (hspec13.out.trans ((bsome ho).trans (by rw [hdo])))
  have HS17 := Lib.hid (HS16.out.below hb17)
  have HN17 := Lib.hid ((HN.out).below hb17 (by simp))
  have HRo := Lib.hid Ro
  have hs17 := hb17.size
  simp only [World.size_setCell] at hs17
  clear ho hb17 hlo hEo hnlo hlen hdo Ro hspec13 HS16 HN HX7 p0 p1 p2 q0 q1 q2 q3
  go_wp2_with fail
  refine (parts_any to_ As At_ ns cs nt ct 48 1 8192 bo ro _ HRo.out (by omega)).mono ?_
  rintro e w18 ⟨hb18, ⟨ho, rfl⟩ | ⟨la, v, ho, rfl, La, Aw, nl, cw, rfl, hla, hEa, hnla⟩⟩
  · have HH := Lib.hid (And.intro ho (HS17.out.below hb18))
    clear ho hb18
    go_wp2
    exact ⟨rfl, AnsC.wrong (hspec14.out.trans (bnone HH.out.1)) HH.out.2.1 HH.out.2.2.1⟩
  have hlen := must_len ho
  obtain ⟨ga, rfl, hga_, hga2_⟩ := hEa.spot_ (by omega)
  have hspec15 : Hid (Cert.signed C.fl (t, b, r) = (Cert.exts C.fl la).bind fun p => (Cert.must (distinct p.2)).bind fun _ => some (⟨r, (l.getD 3 El.none_).2.2, (l.getD 5 El.none_).2.2, (l.getD 1 El.none_).2.1, ⟨xy, xmo, xd, xh, xmi, xs_⟩, ⟨yy, ymo, yd, yh, ymi, ys_⟩, kn, ke, p.1⟩ : Sg)) := Lib.hid (hspec14.out.trans (bsome ho))
  have HS18 := Lib.hid (HS17.out.below hb18)
  have HN18 := Lib.hid ((HN17.out).below hb18 (by omega))
  have hs18 := hb18.size
  have HA18 : Hid (St w w18 gc {C with tbs := .slice A2 n2 c2, iss := .slice A6 n6 c6, sub := .slice B6 m6 d6, ser := .slice Aa na ca, from_ := ⟨xy, xmo, xd, xh, xmi, xs_⟩, to := ⟨yy, ymo, yd, yh, ymi, ys_⟩, n := .slice A9 n9 c9, e := ke, fl := C.fl} w17.heap.size w18.heap.size ga nl cw La) := Lib.hid ⟨HS18.out.1, HS18.out.2.1, hEa, Nat.le_refl _, by omega⟩
  have hnl1 : 1 ≤ nl ∧ nl ≤ 8192 := by omega
  have HP := Lib.hid (And.intro ho (And.intro hla hnla))
  have hbo : bo.length ≤ 1099511627 := by have := HRo.out.len; omega
  clear ho hb18 hla hEa hnla hlen hspec14 HS17 HN17 HRo u0 u1 u2
  have hmm := @run_makeMap Try.prog
  go_wp2
  go_loopw [126] (fun i wr => ∃ (k : Nat) (f : Fl) (names : List (List UInt8)), k ≤ nl ∧ i = .int .i64 k ∧ names.length = k ∧ w18.heap.size < wr.heap.size ∧ wr.ownsMap Try.prog 9 (unitElem (H := Unit)) w18.heap.size k (setOf (.agg []) (names.map Lit.string)) ∧
      St w wr gc {C with tbs := .slice A2 n2 c2, iss := .slice A6 n6 c6, sub := .slice B6 m6 d6, ser := .slice Aa na ca, from_ := ⟨xy, xmo, xd, xh, xmi, xs_⟩, to := ⟨yy, ymo, yd, yh, ymi, ys_⟩, n := .slice A9 n9 c9, e := ke, fl := f} (w.heap.size + 1) w1.heap.size g 8 c L ∧ St w wr gc {C with tbs := .slice A2 n2 c2, iss := .slice A6 n6 c6, sub := .slice B6 m6 d6, ser := .slice Aa na ca, from_ := ⟨xy, xmo, xd, xh, xmi, xs_⟩, to := ⟨yy, ymo, yd, yh, ymi, ys_⟩, n := .slice A9 n9 c9, e := ke, fl := f} w17.heap.size w18.heap.size ga nl cw La ∧ OwnB wr w13.heap.size w14.heap.size (.slice A9 n9 c9) kn ∧
      Cert.signed C.fl (t, b, r) = (Cert.exts f (la.drop k)).bind fun p => (Cert.must (distinct (names ++ p.2))).bind fun _ => some (⟨r, (l.getD 3 El.none_).2.2, (l.getD 5 El.none_).2.2, (l.getD 1 El.none_).2.1, ⟨xy, xmo, xd, xh, xmi, xs_⟩, ⟨yy, ymo, yd, yh, ymi, ys_⟩, kn, ke, p.1⟩ : Sg)) (fun i _ => nl - (intOf i).toNat)
  case atStart => exact ⟨0, C.fl, [], Nat.zero_le _, rfl, rfl, by simp, World.ownsMap_made _ _ _ _, HS18.out.below ((Below.refl _ _).alloc (Nat.le_refl _) _), HA18.out.below ((Below.refl _ _).alloc (Nat.le_refl _) _), HN18.out.alloc (by omega) _, hspec15.out⟩
  case round =>
    obtain ⟨k, f, names, hk, rfl, hnk, hsz, hown, hS, hA, hN, hrun⟩ := hrel
    have HK := Lib.hid (And.intro hS (And.intro hA (And.intro hN hrun)))
    have HM := Lib.hid (And.intro hnk hown)
    clear hS hA hN hrun hnk hown hspec15 HS18 HA18 HN18
    have hgcs := HK.out.1.2.2.2.2
    by_cases hlt : k < nl
    · have hlt' : (k : Int) < nl := by omega
      obtain ⟨tk, Ak, nk, ck, bk, Al, nm, cm, rk, hdk, hxk⟩ := HK.out.2.1.el HP.out.2.1 k hlt
      obtain ⟨p0, p1, p2⟩ := HK.out.2.1.2.2.1.cells3 hxk (k * 3) (k * 3 + 1) (k * 3 + 2) ⟨rfl, rfl, rfl⟩
      have hsmk := parts_small HP.out.1 k hdk
      have hRk := HK.out.2.1.rdb hxk
      have hnk3 : nk ≤ 1099511627 := by have := hRk.len; simp at hsmk; omega
      have hdrop : la.drop k = (tk, bk, rk) :: la.drop (k + 1) := by
        have hlk : k < la.length := by have := HP.out.2.2; omega
        rw [← hdk, List.getD_eq_getElem?_getD, List.getElem?_eq_getElem hlk]
        exact List.drop_eq_getElem_cons hlk
      have HX := Lib.hid (And.intro hdrop hRk)
      clear hdk hxk hsmk hRk hdrop
      go_wp2_with fail
      refine (extension_any gc _ tk Ak Al nk ck nm cm bk rk _ (HK.out.1.2.1.below ((Below.refl _ _).alloc (Nat.le_refl _) _) (by omega)) ((HX.out.2.alloc (Nat.le_refl _) _).more (by simp)) hnk3).mono ?_
      rintro e w20 ⟨hg20, ⟨ho, rfl, C', hC'⟩ | ⟨⟨f', nme⟩, v, ho, rfl, rfl, hB20⟩⟩
      · have HH := Lib.hid (And.intro ho (And.intro hg20 hC'))
        clear ho hg20 hC'
        go_wp2
        exact ⟨rfl, AnsC.wrong (HK.out.2.2.2.trans (by rw [HX.out.1, exts_none HH.out.1]; rfl)) ((HK.out.1.below ((Below.refl _ _).alloc (Nat.le_refl _) _)).1.trans HH.out.2.1) HH.out.2.2⟩
      have hs20 := hg20.size
      simp only [World.size_alloc] at hs20
      have HS20 := Lib.hid ((HK.out.1.below ((Below.refl _ _).alloc (Nat.le_refl _) _)).grown hg20 hB20)
      have HA20 := Lib.hid ((HK.out.2.1.below ((Below.refl _ _).alloc (Nat.le_refl _) _)).grown hg20 hB20)
      have HN20 := Lib.hid ((HK.out.2.2.1.alloc (by omega) (.cells #[.int .u8 (tk.toNat : Int), .slice Ak nk ck, .slice Al nm cm] 50)).keep (fun j h1 h2 => hg20.block j (by simp; omega) (fun e => by injection e with e; omega)))
      have hown := (HM.out.2.alloc (.cells #[.int .u8 (tk.toNat : Int), .slice Ak nk ck, .slice Al nm cm] 50)).kept hg20 (fun e => by injection e with e; omega)
      have hkey : keyOf Try.prog 9 (.string ⟨nme.toArray⟩) = some (.string nme) := WideMaps.keyOf_string_mk Try.underlying9 (by
        have h1 := ext_len ho
        have h2 := HX.out.2.len
        show nme.toArray.size ≤ maxLen
        simp only [List.size_toArray, maxLen]
        simp at h1
        omega)
      have HR := Lib.hid (And.intro ho HX.out.1)
      clear ho hg20 hB20 p0 p1 p2
      go_wp2_with (first
        | (at_mapUpdate; refine wpList_mapUpdate_own _ rfl _ _ _ 113 rfl 9 79 (string_keyed Try.underlying9) Try.underlying113 (unitElem (H := Unit)) w18.heap.size k _ rfl hown (by unfold maxLen; omega) _ _ _ rfl rfl hkey _ [] unitElem_mk ?_; intro w21 hown1 hgrow1)
        | go_in)
      have hs21 := hgrow1.size
      go_roundw
      case rel =>
        have hb21 : Below w18.heap.size w20 w21 := (Below.refl _ _).grown hgrow1 (by omega) (fun j hj => by cases hj; exact Nat.le_refl _)
        refine ⟨k + 1, f', names ++ [nme], by omega, by go_num, by rw [List.length_append, HM.out.1]; rfl, by omega, ?_, ?_, ?_, ?_, ?_⟩
        · rw [List.map_append, List.map_cons, List.map_nil, setOf_snoc]
          exact hown1
        · obtain ⟨es, clk, hbm, _⟩ := hown
          exact HS20.out.map hgrow1 hbm (by omega) (by omega)
        · obtain ⟨es, clk, hbm, _⟩ := hown
          exact HA20.out.map hgrow1 hbm (by omega) (by omega)
        · exact HN20.out.below hb21 (by omega)
        · rw [HK.out.2.2.2, HR.out.2, exts_cons HR.out.1]
          cases Cert.exts f' (la.drop (k + 1)) with
          | none => rfl
          | some q => simp only [Option.bind_some, List.append_assoc, List.singleton_append]
      case measure => simp [intOf]; omega
    · obtain rfl : k = nl := by omega
      have hspec16 : Hid (Cert.signed C.fl (t, b, r) = (Cert.must (((Maps.size (setOf (H := Unit) (.agg []) (names.map Lit.string)) : Int) == (k : Int)))).bind fun _ => some (⟨r, (l.getD 3 El.none_).2.2, (l.getD 5 El.none_).2.2, (l.getD 1 El.none_).2.1, ⟨xy, xmo, xd, xh, xmi, xs_⟩, ⟨yy, ymo, yd, yh, ymi, ys_⟩, kn, ke, f⟩ : Sg)) := Lib.hid (HK.out.2.2.2.trans (by
        rw [List.drop_eq_nil_of_le (by have := HP.out.2.2; omega)]
        simp only [Cert.exts, Option.bind_some, List.append_nil]
        rw [← size_distinct (H := Unit) (.agg []) names, HM.out.1]
        congr 2
        exact Bool.eq_iff_iff.2 (by simp only [beq_iff_eq]; omega)))
      go_wp2_with (first
        | (at_len; refine wpList_len_own _ rfl _ 113 rfl 9 79 Try.underlying113 (unitElem (H := Unit)) w18.heap.size k _ rfl HM.out.2 ?_)
        | fail)
      refine (must_any _ _).mono ?_
      rintro e w' ⟨rfl, ⟨hq, rfl⟩ | ⟨hq, rfl⟩⟩
      · have HQ := Lib.hid hq
        clear hq
        go_wp2
        exact ⟨rfl, AnsC.wrong (hspec16.out.trans (bnone (must_f HQ.out))) HK.out.1.1 HK.out.1.2.1⟩
      · have HQ := Lib.hid hq
        clear hq
        go_wp2
        go_end0
        have hrows := HK.out.1.rows4 HX1.out.2 HX3.out.2 HX5.out.2 (HK.out.2.2.1.mono (Nat.le_refl _) (by omega)) hw13
        refine AnsC.right (a := (⟨r, (l.getD 3 El.none_).2.2, (l.getD 5 El.none_).2.2, (l.getD 1 El.none_).2.1, ⟨xy, xmo, xd, xh, xmi, xs_⟩, ⟨yy, ymo, yd, yh, ymi, ys_⟩, kn, ke, f⟩ : Sg)) (hspec16.out.trans (bsome (must_t HQ.out))) HK.out.1.1 ⟨rfl, _, _, _, _, HK.out.1.2.1, ?_⟩
        rw [HX1.out.1, HX3.out.1, HX5.out.1]
        exact hrows
end Go.Proofs.Ytmnekhliblkibaa
end
