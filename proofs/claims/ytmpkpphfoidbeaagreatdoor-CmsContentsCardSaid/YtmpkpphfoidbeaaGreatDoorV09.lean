import Derived.Deep.RegionHeld
import Derived.Deep.RegionWith
import Derived.Maps.OwnSet
import Derived.Maps.Views
import Derived.Test.YtmpkpphfoidbeaaGreatDoorV08
set_option linter.unusedVariables false
set_option linter.unusedSimpArgs false
namespace Go.Proofs.YtmpkpphfoidbeaaGreatDoor
open Go.RowKit
section
section
set_option maxRecDepth 100000
def Tm.ok8 (t:Tm):Prop:=t.mo<256∧t.d<256∧t.h<256∧t.mi<256∧t.s<256
def Stamp.less (a b:Tm):Bool:=fb a.parts b.parts
theorem aw.new' {w:World} {g:Nat} (t:TypeId) (cs:Array Value) (h:g=w.heap.size):aw (w.alloc (.cells cs t)) g t cs:=by subst h;exact aw.new w t cs
theorem jU {w:World} {g:Nat} {t:TypeId} {cs:Array Value} (h:aw w g t cs):aF w (g+1) 1 (some ⟨g,0,none⟩) cs.size cs.toList:=by
 refine⟨ag,fun _=>⟨_,rfl,ag,fun j u hu=>?_⟩⟩;rw[Addr.add_lit,Nat.zero_add];exact(h.cell j).trans (by simpa using hu)
set_option maxHeartbeats 2000000 in
theorem vW (p1 p2 p3 p4 p5 p6 q1 q2 q3 q4 q5 q6:Int) (x1 x2 x3 x4 x5 x6 y1 y2 y3 y4 y5 y6:Nat) (oa pa ob pb:Obj) (z:Bool) (hz:fb [x1,x2,x3,x4,x5,x6] [y1,y2,y3,y4,y5,y6]=z)
 (hp:∀w,Calls Tryz.prog 167 #[.agg #[.int .u16 p1,.int .u8 p2,.int .u8 p3,.int .u8 p4,.int .u8 p5,.int .u8 p6]] w fun e w'=>e=.returned (.agg #[.int .u16 x1,.int .u16 x2,.int .u16 x3,.int .u16 x4,.int .u16 x5,.int .u16 x6])∧w'=(w.alloc oa).alloc pa)
 (hq:∀w,Calls Tryz.prog 167 #[.agg #[.int .u16 q1,.int .u8 q2,.int .u8 q3,.int .u8 q4,.int .u8 q5,.int .u8 q6]] w fun e w'=>e=.returned (.agg #[.int .u16 y1,.int .u16 y2,.int .u16 y3,.int .u16 y4,.int .u16 y5,.int .u16 y6])∧w'=(w.alloc ob).alloc pb)
 (w:World) :
 Calls Tryz.prog 151 #[.agg #[.int .u16 p1,.int .u8 p2,.int .u8 p3,.int .u8 p4,.int .u8 p5,.int .u8 p6],.agg #[.int .u16 q1,.int .u8 q2,.int .u8 q3,.int .u8 q4,.int .u8 q5,.int .u8 q6]] w fun e w'=>e=.returned (.bool z)∧Below w.heap.size w w':=by
 have HP:=hd1 hp;have HQ:=hd1 hq;have HZ:=hd1 hz;clear hp hq hz;have hA:=(aw.new w 70 #[.int .u16 p1,.int .u8 p2,.int .u8 p3,.int .u8 p4,.int .u8 p5,.int .u8 p6]).alloc (.cells #[.int .u16 q1,.int .u8 q2,.int .u8 q3,.int .u8 q4,.int .u8 q5,.int .u8 q6] 70);have hB:aw ((w.alloc (.cells #[.int .u16 p1,.int .u8 p2,.int .u8 p3,.int .u8 p4,.int .u8 p5,.int .u8 p6] 70)).alloc (.cells #[.int .u16 q1,.int .u8 q2,.int .u8 q3,.int .u8 q4,.int .u8 q5,.int .u8 q6] 70)) (w.heap.size+1) 70 #[.int .u16 q1,.int .u8 q2,.int .u8 q3,.int .u8 q4,.int .u8 q5,.int .u8 q6]:=aw.new' _ _ ag;have qg:Below w.heap.size w ((w.alloc (.cells #[.int .u16 p1,.int .u8 p2,.int .u8 p3,.int .u8 p4,.int .u8 p5,.int .u8 p6] 70)).alloc (.cells #[.int .u16 q1,.int .u8 q2,.int .u8 q3,.int .u8 q4,.int .u8 q5,.int .u8 q6] 70)):=by(repeat (first|exact Below.refl _ _|assumption|(refine Below.setCell ?_ al _)|(refine Below.alloc ?_ al _)|(refine ar ?_ _)|(refine Below.drew ?_)))
 go_enter Tryz.func151,Tryz.ntmps151
 go_upto_region 1 with fail
 obtain⟨W,hW⟩:∃W,(w.alloc (.cells #[.int .u16 p1,.int .u8 p2,.int .u8 p3,.int .u8 p4,.int .u8 p5,.int .u8 p6] 70)).alloc (.cells #[.int .u16 q1,.int .u8 q2,.int .u8 q3,.int .u8 q4,.int .u8 q5,.int .u8 q6] 70)=W:=⟨_,rfl⟩
 rw[hW]at hA hB qg ⊢;clear hW;have k0:=hA.cell 0;have l0:=hB.cell 0;have k1:=hA.cell 1;have l1:=hB.cell 1;have k2:=hA.cell 2;have l2:=hB.cell 2;have k3:=hA.cell 3;have l3:=hB.cell 3;have k4:=hA.cell 4;have l4:=hB.cell 4;have k5:=hA.cell 5;have l5:=hB.cell 5;simp only[List.getElem?_toArray,List.getElem?_cons_zero,List.getElem?_cons_succ]at k0 k1 k2 k3 k4 k5 l0 l1 l2 l3 l4 l5;have hs:=hA.lt;have qc:=hB.lt;have HW:=hd1 qg;have qd:Hid (∀w':World,(∀p:Addr,p.block<W.heap.size→w'.cell? p=W.cell? p)→(w'.cell? ⟨w.heap.size,0,none⟩=some (.int .u16 p1)∧w'.cell? ⟨w.heap.size,1,none⟩=some (.int .u8 p2)∧w'.cell? ⟨w.heap.size,2,none⟩=some (.int .u8 p3)∧w'.cell? ⟨w.heap.size,3,none⟩=some (.int .u8 p4)∧w'.cell? ⟨w.heap.size,4,none⟩=some (.int .u8 p5)∧w'.cell? ⟨w.heap.size,5,none⟩=some (.int .u8 p6)∧w'.cell? ⟨w.heap.size+1,0,none⟩=some (.int .u16 q1)∧w'.cell? ⟨w.heap.size+1,1,none⟩=some (.int .u8 q2)∧w'.cell? ⟨w.heap.size+1,2,none⟩=some (.int .u8 q3)∧w'.cell? ⟨w.heap.size+1,3,none⟩=some (.int .u8 q4)∧w'.cell? ⟨w.heap.size+1,4,none⟩=some (.int .u8 q5)∧w'.cell? ⟨w.heap.size+1,5,none⟩=some (.int .u8 q6))):=hd1 (fun w' h=>⟨(h ⟨_,0,none⟩ hs).trans k0,(h ⟨_,1,none⟩ hs).trans k1,(h ⟨_,2,none⟩ hs).trans k2,(h ⟨_,3,none⟩ hs).trans k3,(h ⟨_,4,none⟩ hs).trans k4,(h ⟨_,5,none⟩ hs).trans k5,(h ⟨_,0,none⟩ qc).trans l0,(h ⟨_,1,none⟩ qc).trans l1,(h ⟨_,2,none⟩ qc).trans l2,(h ⟨_,3,none⟩ qc).trans l3,(h ⟨_,4,none⟩ qc).trans l4,(h ⟨_,5,none⟩ qc).trans l5⟩);clear hA hB qg
 go_cut [5,6] from 7 (fun s5 s6 wx=>∃X5 X6,s5=.pointer (some ⟨X5,0,none⟩)∧s6=.pointer (some ⟨X6,0,none⟩)∧Below w.heap.size w wx∧
  aw wx X5 209 #[.int .u16 x1,.int .u16 x2,.int .u16 x3,.int .u16 x4,.int .u16 x5,.int .u16 x6]∧aw wx X6 209 #[.int .u16 y1,.int .u16 y2,.int .u16 y3,.int .u16 y4,.int .u16 y5,.int .u16 y6])
 case first=>
  go_region_held (fun w'=>w'.cell? ⟨w.heap.size,0,none⟩=some (.int .u16 p1)∧w'.cell? ⟨w.heap.size,1,none⟩=some (.int .u8 p2)∧w'.cell? ⟨w.heap.size,2,none⟩=some (.int .u8 p3)∧w'.cell? ⟨w.heap.size,3,none⟩=some (.int .u8 p4)∧w'.cell? ⟨w.heap.size,4,none⟩=some (.int .u8 p5)∧w'.cell? ⟨w.heap.size,5,none⟩=some (.int .u8 p6)∧w'.cell? ⟨w.heap.size+1,0,none⟩=some (.int .u16 q1)∧w'.cell? ⟨w.heap.size+1,1,none⟩=some (.int .u8 q2)∧w'.cell? ⟨w.heap.size+1,2,none⟩=some (.int .u8 q3)∧w'.cell? ⟨w.heap.size+1,3,none⟩=some (.int .u8 q4)∧w'.cell? ⟨w.heap.size+1,4,none⟩=some (.int .u8 q5)∧w'.cell? ⟨w.heap.size+1,5,none⟩=some (.int .u8 q6)) (first|(refine qd.out _ (fun p hp=>?_);(repeat (first|(with_reducible rfl)|(rw[World.cell?_drew])|(rw[World.cell?_alloc_lt _ _ _ (by first|omega|(simp;omega))])|(rw[World.cell?_setCell_other _ _ _ _ (by rintro rfl;simp at *;omega)])))))
   (first
     | (go_at_call 167;((with_reducible refine(HP.out _).mono ?_);rintro e w1 ⟨rfl,rfl⟩))
     | (go_at_call 167;((with_reducible refine(HQ.out _).mono ?_);rintro e w1 ⟨rfl,rfl⟩)))
  all_goals (go_wp2_with fail;go_meet;refine⟨_,_,rfl,rfl,?_,?_,?_⟩)
  all_goals (first
   | ((repeat (first|exact HW.out|(refine Below.drew ?_)|(refine Below.alloc ?_ (by first|omega|(simp;omega)) _)));done)
   | ((repeat (first|exact aw.new' _ _ ag |(refine aw.drew ?_)|(refine aw.alloc ?_ _)));done))
 case rest=>
  obtain⟨X5,X6,rfl,rfl,hb,hc5,hc6⟩:=hcut;have qh:=jU hc5;have qk:=jU hc6;have HR:=hd3 hb qh qk;clear hb hc5 hc6 qh qk k0 k1 k2 k3 k4 k5 l0 l1 l2 l3 l4 l5
  go_upto_region 2 with fail
  go_region_with
   (go_at_call 168;((with_reducible refine(oo _ _ 6 6 6 [x1,x2,x3,x4,x5,x6] [y1,y2,y3,y4,y5,y6] _ _ _ HR.out.2.1 HR.out.2.2 ab).mono ?_);rintro e w1 ⟨rfl,zz,rfl,hzz⟩))
  all_goals (go_wp2;go_ret)
  all_goals exact⟨by first|exact congrArg (fun b=>Ending.returned (.bool b)) HZ.out|exact congrArg (fun b=>Ending.returned (.bool b)) (hzz.trans HZ.out),by first|exact HR.1|exact Below.drew HR.1|exact ar HR.1 _⟩
theorem yf (a b:Tm) (ha:a.ok8) (hb:b.ok8) (w:World) :
 Calls Tryz.prog 151 #[a.v,b.v] w fun e w'=>e=.returned (.bool (Stamp.less a b))∧Below w.heap.size w w':=by
 obtain⟨y,mo,d,h,mi,s⟩:=a;obtain⟨y',mo',d',h',mi',s'⟩:=b;obtain⟨a1,a2,a3,a4,a5⟩:=ha;obtain⟨b1,b2,b3,b4,b5⟩:=hb;exact vW _ _ _ _ _ _ _ _ _ _ _ _ y mo d h mi s y' mo' d' h' mi' s' _ _ _ _ _ rfl (me y mo d h mi s a1 a2 a3 a4 a5) (me y' mo' d' h' mi' s' b1 b2 b3 b4 b5) w
end
section
open Go.RowKit Go.Maps
set_option maxRecDepth 100000
structure Sg where
 tbs:List UInt8
 iss:List UInt8
 sub:List UInt8
 ser:List UInt8
 from_:Tm
 to:Tm
 n:List UInt8
 e:Nat
 fl:Fl
def dl:List (List UInt8)→Bool
 | []=>true
 | x::l=>!l.contains x&&dl l
def Cert.exts (f:Fl):List El→Option (Fl×List (List UInt8))
 | []=>some (f,[])
 | y::l=>(Cert.extension f y).bind fun p=>(Cert.exts p.1 l).bind fun q=>some (q.1,p.2::q.2)
def Cert.told8 (s:Sg) (l:List El):Option Sg:=
 if l.length=7 then some s else
  (Cert.parts 163 1 1 (l.getD 7 El.none_)).bind fun o=>(Cert.parts 48 1 8192 (o.getD 0 El.none_)).bind fun all=>
   (Cert.exts s.fl all).bind fun p=>(Cert.must (dl p.2)).bind fun _=>some {s with fl:=p.1}
def Sg.j (f:Fl) (x:El) (l:List El) (a b:Tm):Option Sg:=(Cert.key (l.getD 6 El.none_)).bind fun k=>
 Cert.told8 ⟨x.2.2,(l.getD 3 El.none_).2.2,(l.getD 5 El.none_).2.2,(l.getD 1 El.none_).2.1,a,b,k.1,k.2,f⟩ l
def Sg.i (f:Fl) (x:El) (l:List El) (a b:Tm):Option Sg:=(Cert.must (!Stamp.less b a)).bind fun _=>Sg.j f x l a b
def Sg.h (f:Fl) (x:El) (l t:List El):Option Sg:=(Cert.moment (t.getD 0 El.none_)).bind fun a=>(Cert.moment (t.getD 1 El.none_)).bind fun b=>Sg.i f x l a b
def Sg.g (f:Fl) (x:El) (l:List El):Option Sg:=(Cert.parts 48 2 2 (l.getD 4 El.none_)).bind fun t=>Sg.h f x l t
def Sg.f (f:Fl) (x:El) (l:List El):Option Sg:=(Cert.body 48 (l.getD 5 El.none_)).bind fun _=>Sg.g f x l
def Sg.e_ (f:Fl) (x:El) (l:List El):Option Sg:=(Cert.body 48 (l.getD 3 El.none_)).bind fun _=>Sg.f f x l
def Sg.d (f:Fl) (x:El) (l:List El):Option Sg:=(Cert.method 11 (l.getD 2 El.none_)).bind fun _=>Sg.e_ f x l
def Sg.c (f:Fl) (x:El) (l:List El):Option Sg:=(Cert.number (l.getD 1 El.none_)).bind fun m=>(Cert.must (decide (0<m.length)&&decide ((l.getD 1 El.none_).2.1.length≤20))).bind fun _=>Sg.d f x l
def Sg.b (f:Fl) (x:El) (l v:List El):Option Sg:=(Cert.must ((v.getD 0 El.none_).2.2==[2,1,2])).bind fun _=>Sg.c f x l
def Sg.a (f:Fl) (x:El) (l:List El):Option Sg:=(Cert.parts 160 1 1 (l.getD 0 El.none_)).bind fun v=>Sg.b f x l v
def Cert.signed (f:Fl) (x:El):Option Sg:=(Cert.parts 48 7 8 x).bind fun l=>Sg.a f x l
theorem dz {α β:Type} {o:Option α} {f:α→Option β} (h:o=none):o.bind f=none:=by rw[h];rfl
theorem dA {α β:Type} {o:Option α} {f:α→Option β} {a:α} (h:o=some a):o.bind f=f a:=by rw[h];rfl
theorem qp {n:Nat} {f:Nat→Nat} {b:List UInt8} {t:Tm} (h:Stamp.told n f b=some t):t.ok8:=by
 have hr:Stamp.right t=true:=by
  unfold Stamp.told at h
  split at h
  ·rename_i hc
   injection h with h
   subst h;exact hc.2.2.2
  ·cases h
 unfold Stamp.right at hr;simp only[Bool.and_eq_true,decide_eq_true_eq]at hr;obtain⟨⟨⟨⟨⟨⟨h1,h2⟩,h3⟩,h4⟩,h5⟩,h6⟩,h7⟩:=hr;have hd:t.d≤31∧t.mo<13:=by
  unfold Stamp.days at h2
  split at h2
  ·omega
  ·by_cases hm:t.mo<13
   ·refine⟨?_,hm⟩
    generalize t.mo=m at h2 hm
    match m,hm,h2 with
    | 0,_,h2|1,_,h2|2,_,h2|3,_,h2|4,_,h2|5,_,h2|6,_,h2|7,_,h2|8,_,h2|9,_,h2|10,_,h2|11,_,h2|12,_,h2=>simp at h2;omega
   ·rw[List.getD_eq_getElem?_getD,List.getElem?_eq_none ai]at h2
    simp at h2;omega
 exact⟨ab,ab,ab,ab,ab⟩
theorem lY {x:El} {t:Tm} (h:Cert.moment x=some t):t.ok8:=by
 unfold Cert.moment at h
 split at h
 ·exact qp h
 ·split at h
  ·exact qp h
  ·cases h
theorem sz (acc:List Lit) (x:Lit):(addKey acc x).length≤acc.length+1:=by
 unfold addKey
 split<;>simp
theorem nF:∀(xs:List Lit) (acc:List Lit),(xs.foldl addKey acc).length≤acc.length+xs.length
 | [],acc=>by simp
 | x::xs,acc=>by
  have h:=nF xs (addKey acc x);have h2:=sz acc x;simp only[List.foldl_cons,List.length_cons];omega
theorem kQ (x:List UInt8):∀acc:List (List UInt8),(acc.map Lit.string).any (fun y=>y.sameKey (.string x))=acc.contains x
 | []=>rfl
 | a::acc=>by
  rw[List.map_cons,List.any_cons,kQ x acc,List.contains_cons];show((a==x)||_)=_
  congr 1
  exact Bool.eq_iff_iff.2 (by simp only[beq_iff_eq];exact eq_comm)
def ex (acc:List (List UInt8)):List (List UInt8)→Bool
 | []=>true
 | x::l=>!acc.contains x&&ex (acc++[x]) l
theorem jv:∀(xs acc:List (List UInt8)),(((xs.map Lit.string).foldl addKey (acc.map Lit.string)).length==acc.length+xs.length)=ex acc xs
 | [],acc=>by simp[ex]
 | x::xs,acc=>by
  simp only[List.map_cons,List.foldl_cons,ex,List.length_cons];rw[show addKey (acc.map Lit.string) (.string x)=if acc.contains x=true then acc.map Lit.string else acc.map Lit.string++[.string x] by unfold addKey;rw[kQ]]
  by_cases hc:acc.contains x=true
  ·rw[if_pos hc,hc]
   have:=nF (xs.map Lit.string) (acc.map Lit.string);simp only[List.length_map]at this;simp only[Bool.not_true,Bool.false_and,beq_eq_false_iff_ne];omega
  ·rw[if_neg hc,Bool.not_eq_true _ |>.mp hc]
   have h:=jv xs (acc++[x]);simp only[List.map_append,List.map_cons,List.map_nil,List.length_append,List.length_cons,List.length_nil]at h;rw[←h];simp only[Bool.not_false,Bool.true_and]
   congr 1
   omega
theorem ju:∀(l acc:List (List UInt8)),ex acc l=(l.all (fun x=>!acc.contains x)&&dl l)
 | [],acc=>by simp[ex,dl]
 | x::l,acc=>by
  simp only[ex,dl,ju l (acc++[x]),List.all_cons];rw[Bool.eq_iff_iff];simp only[Bool.and_eq_true,Bool.not_eq_true',List.all_eq_true,List.contains_eq_mem,decide_eq_false_iff_not,List.mem_append,List.mem_singleton,not_or]
  constructor
  ·rintro⟨h1,h2,h3⟩
   exact⟨⟨h1,fun y hy=>(h2 y hy).1⟩,fun hx=>(h2 x hx).2 rfl,h3⟩
  ·rintro⟨⟨h1,h2⟩,h3,h4⟩
   exact⟨h1,fun y hy=>⟨h2 y hy,fun e=>h3 (e▸hy)⟩,h4⟩
theorem oK {H:Type} (u:DataW H) (xs:List (List UInt8)):(Maps.size (setOf u (xs.map Lit.string))==xs.length)=dl xs:=by
 rw[size_setOf u _ (fun x hx=>by
  obtain⟨a,_,rfl⟩:=List.mem_map.1 hx;simp[WideAt.IsKeyLit])]
 have h:=jv xs [];simp only[List.map_nil,List.length_nil,Nat.zero_add]at h;rw[h,ju];simp
theorem cT {f:Fl} {y:El} {l:List El} {p:Fl×List UInt8} (h:Cert.extension f y=some p):Cert.exts f (y::l)=(Cert.exts p.1 l).bind fun q=>some (q.1,p.2::q.2):=by
 rw[Cert.exts,h];rfl
theorem vF {f:Fl} {y:El} {l:List El} (h:Cert.extension f y=none):Cert.exts f (y::l)=none:=by
 rw[Cert.exts,h];rfl
def St (w W:World) (gc:Nat) (C:CV) (lo hi g n c:Nat) (L:List EI):Prop:=
 w.grownBy W (some gc)∧Bc W gc C∧aU W lo hi (.slice (some ⟨g,0,none⟩) n c) L∧hi≤W.heap.size∧gc<lo
variable {w W W' : World} {gc lo hi g n c : Nat} {C C' : CV} {L : List EI}
theorem St.below (h:St w W gc C lo hi g n c L) (hb:Below W.heap.size W W'):St w W' gc C lo hi g n c L:=
 ⟨h.1.trans (aH hb _),h.2.1.below hb h.2.1.lt,h.2.2.1.keepRows (au.below hb nl_),by have:=hb.size;have:=h.2.2.2.1;omega,h.2.2.2.2⟩
theorem St.grown (h:St w W gc C lo hi g n c L) (hg:W.grownBy W' (some gc)) (hC:Bc W' gc C'):St w W' gc C' lo hi g n c L:=
 ⟨h.1.trans hg,hC,h.2.2.1.keepRows (au.grown hg h.2.2.2.2),by have:=hg.size;have:=h.2.2.2.1;omega,h.2.2.2.2⟩
theorem St.set (h:St w W gc C lo hi g n c L) {i:Nat} {u:Value} (hC:Bc (W.setCell ⟨gc,i,none⟩ u) gc C'):St w (W.setCell ⟨gc,i,none⟩ u) gc C' lo hi g n c L:=
 ⟨h.1.trans (bF _ _ _),hC,h.2.2.1.keepRows (au.setCell (by exact h.2.2.2.2) _),by have:=h.2.2.2.1;simpa using this,h.2.2.2.2⟩
theorem aU.cells3 {x:EI} {k:Nat} (h:aU W lo hi (.slice (some ⟨g,0,none⟩) n c) L) (hk:L[k]? = some x) (o0 o1 o2:Nat) (ho:o0=k*3∧o1=k*3+1∧o2=k*3+2) :
 W.cell? ⟨g,o0,none⟩=some (.int .u8 (x.t.toNat:Int))∧W.cell? ⟨g,o1,none⟩=some x.vb∧W.cell? ⟨g,o2,none⟩=some x.vr:=by
 have qc:k<n:=by have:=eK h;have:=(List.getElem?_eq_some_iff.1 hk).1;omega
 obtain⟨t,A1,n1,c1,body,A2,n2,c2,raw,_,q0,q1,q2,_,_,hx⟩:=h.el rfl (Below.refl hi W) nl_ k (k*3) qc rfl;rw[hk]at hx;injection hx with hx
 subst hx;obtain⟨rfl,rfl,rfl⟩:=ho;exact⟨q0,q1,q2⟩
theorem aU.own1 {x:EI} {k:Nat} {v:Value} (h:aU W lo hi v L) (hk:L[k]? = some x):az W lo hi x.vb x.body:=
 h.2.1 (x.vb,x.body) (List.mem_flatMap.2 ⟨x,List.mem_of_getElem? hk,by simp[EI.rows]⟩)
theorem aU.own2 {x:EI} {k:Nat} {v:Value} (h:aU W lo hi v L) (hk:L[k]? = some x):az W lo hi x.vr x.raw:=
 h.2.1 (x.vr,x.raw) (List.mem_flatMap.2 ⟨x,List.mem_of_getElem? hk,by simp[EI.rows]⟩)
theorem az.rdx {A:Option Addr} {m d:Nat} {xs:List UInt8} (h:az W lo hi (.slice A m d) xs):Rd W hi A m d xs:=by
 obtain⟨A',m',d',e,hr⟩:=h.rd;injection e with e1 e2 e3
 subst e1 e2 e3;exact hr
theorem St.rdb {t:UInt8} {A:Option Addr} {m d k:Nat} {body raw:List UInt8} {vr:Value} (h:St w W gc C lo hi g n c L) (hk:L[k]? = some ⟨t,.slice A m d,body,vr,raw⟩):Rd W W.heap.size A m d body:=(h.2.2.1.own1 hk).rdx.more h.2.2.2.1
theorem St.el {l:List El} (h:St w W gc C lo hi g n c L) (hl:l=L.map EI.dat) (k:Nat) (hk:k<n) :
 ∃t A1 n1 c1 body A2 n2 c2 raw,l.getD k El.none_=(t,body,raw)∧L[k]? = some ⟨t,.slice A1 n1 c1,body,.slice A2 n2 c2,raw⟩:=by
 obtain⟨t,A1,n1,c1,body,A2,n2,c2,raw,hd,_,_,_,_,_,hx⟩:=h.2.2.1.el hl (Below.refl hi W) nl_ k (k*3) hk rfl;exact⟨t,A1,n1,c1,body,A2,n2,c2,raw,hd,hx⟩
theorem St.small {u lo' hi':Int} {x:El} {l:List El} {N k m d:Nat} {t:UInt8} {A:Option Addr} {body raw:List UInt8} {vr:Value} (h:St w W gc C lo hi g n c L) (ho:Cert.parts u lo' hi' x=some l) (hb:x.2.1.length≤N)
 (hd:l.getD k El.none_=(t,body,raw)) (hx:L[k]? = some ⟨t,.slice A m d,body,vr,raw⟩):m≤N:=by
 have:=bO ho k hd;have:=(h.rdb hx).len;omega
theorem Bc.tbs (h:Bc W gc C) (x:Value):Bc (W.setCell ⟨gc,1,none⟩ x) gc {C with tbs:=x}:=aw.set_ h 1 x
theorem Bc.iss (h:Bc W gc C) (x:Value):Bc (W.setCell ⟨gc,2,none⟩ x) gc {C with iss:=x}:=aw.set_ h 2 x
theorem Bc.sub (h:Bc W gc C) (x:Value):Bc (W.setCell ⟨gc,3,none⟩ x) gc {C with sub:=x}:=aw.set_ h 3 x
theorem Bc.ser (h:Bc W gc C) (x:Value):Bc (W.setCell ⟨gc,4,none⟩ x) gc {C with ser:=x}:=aw.set_ h 4 x
theorem Bc.n_ (h:Bc W gc C) (x:Value):Bc (W.setCell ⟨gc,17,none⟩ x) gc {C with n:=x}:=aw.set_ h 17 x
theorem Bc.e_ (h:Bc W gc C) (x:Nat):Bc (W.setCell ⟨gc,18,none⟩ (.int .u64 (x:Int))) gc {C with e:=x}:=aw.set_ h 18 _
theorem Bc.sig_ (h:Bc W gc C) (x:Value):Bc (W.setCell ⟨gc,19,none⟩ x) gc {C with sig:=x}:=aw.set_ h 19 x
theorem Bc.time5 (h:Bc W gc C) (t:Tm):Bc ((((((W.setCell ⟨gc,5,none⟩ (.int .u16 (t.y:Int))).setCell ⟨gc,6,none⟩ (.int .u8 (t.mo:Int))).setCell ⟨gc,7,none⟩ (.int .u8 (t.d:Int))).setCell ⟨gc,8,none⟩ (.int .u8 (t.h:Int))).setCell ⟨gc,9,none⟩ (.int .u8 (t.mi:Int))).setCell ⟨gc,10,none⟩ (.int .u8 (t.s:Int))) gc {C with from_:=t}:=
 aw.set_ (aw.set_ (aw.set_ (aw.set_ (aw.set_ (aw.set_ h 5 _) 6 _) 7 _) 8 _) 9 _) 10 _
theorem Bc.time11 (h:Bc W gc C) (t:Tm):Bc ((((((W.setCell ⟨gc,11,none⟩ (.int .u16 (t.y:Int))).setCell ⟨gc,12,none⟩ (.int .u8 (t.mo:Int))).setCell ⟨gc,13,none⟩ (.int .u8 (t.d:Int))).setCell ⟨gc,14,none⟩ (.int .u8 (t.h:Int))).setCell ⟨gc,15,none⟩ (.int .u8 (t.mi:Int))).setCell ⟨gc,16,none⟩ (.int .u8 (t.s:Int))) gc {C with to:=t}:=
 aw.set_ (aw.set_ (aw.set_ (aw.set_ (aw.set_ (aw.set_ h 11 _) 12 _) 13 _) 14 _) 15 _) 16 _
end
section
open Go.RowKit Go.Maps
set_option maxRecDepth 100000
def Cc (w:World) (gc:Nat) (C:CV) (vt:Value) (s:Sg) (v:Value) (w':World):Prop:=
 v=.tuple #[]∧∃vi vs ve vn,Bc w' gc {C with tbs:=vt,iss:=vi,sub:=vs,ser:=ve,from_:=s.from_,to:=s.to,n:=vn,e:=s.e,fl:=s.fl}∧
  (∀p∈[(vi,s.iss),(vs,s.sub),(ve,s.ser),(vn,s.n)],az w' (w.heap.size+1) w'.heap.size p.1 p.2)∧bQ [(vi,s.iss),(vs,s.sub),(ve,s.ser),(vn,s.n)]
variable {w W W' : World} {gc lo hi g n c : Nat} {C C' : CV} {L : List EI}
theorem St.time5 (h:St w W gc C lo hi g n c L) (t:Tm):St w ((((((W.setCell ⟨gc,5,none⟩ (.int .u16 (t.y:Int))).setCell ⟨gc,6,none⟩ (.int .u8 (t.mo:Int))).setCell ⟨gc,7,none⟩ (.int .u8 (t.d:Int))).setCell ⟨gc,8,none⟩ (.int .u8 (t.h:Int))).setCell ⟨gc,9,none⟩ (.int .u8 (t.mi:Int))).setCell ⟨gc,10,none⟩ (.int .u8 (t.s:Int))) gc {C with from_:=t} lo hi g n c L:=
 h.grown ((((((bF _ ⟨gc,5,none⟩ _).trans (bF _ ⟨gc,6,none⟩ _)).trans (bF _ ⟨gc,7,none⟩ _)).trans (bF _ ⟨gc,8,none⟩ _)).trans (bF _ ⟨gc,9,none⟩ _)).trans (bF _ ⟨gc,10,none⟩ _)) (h.2.1.time5 t)
theorem St.time11 (h:St w W gc C lo hi g n c L) (t:Tm):St w ((((((W.setCell ⟨gc,11,none⟩ (.int .u16 (t.y:Int))).setCell ⟨gc,12,none⟩ (.int .u8 (t.mo:Int))).setCell ⟨gc,13,none⟩ (.int .u8 (t.d:Int))).setCell ⟨gc,14,none⟩ (.int .u8 (t.h:Int))).setCell ⟨gc,15,none⟩ (.int .u8 (t.mi:Int))).setCell ⟨gc,16,none⟩ (.int .u8 (t.s:Int))) gc {C with to:=t} lo hi g n c L:=
 h.grown ((((((bF _ ⟨gc,11,none⟩ _).trans (bF _ ⟨gc,12,none⟩ _)).trans (bF _ ⟨gc,13,none⟩ _)).trans (bF _ ⟨gc,14,none⟩ _)).trans (bF _ ⟨gc,15,none⟩ _)).trans (bF _ ⟨gc,16,none⟩ _)) (h.2.1.time11 t)
theorem yg (y mo d h mi s y' mo' d' h' mi' s':Nat) (ha:(⟨y,mo,d,h,mi,s⟩:Tm).ok8) (hb:(⟨y',mo',d',h',mi',s'⟩:Tm).ok8) (w:World) :
 Calls Tryz.prog 151 #[.agg #[.int .u16 (y:Int),.int .u8 (mo:Int),.int .u8 (d:Int),.int .u8 (h:Int),.int .u8 (mi:Int),.int .u8 (s:Int)],.agg #[.int .u16 (y':Int),.int .u8 (mo':Int),.int .u8 (d':Int),.int .u8 (h':Int),.int .u8 (mi':Int),.int .u8 (s':Int)]] w
  fun e w'=>e=.returned (.bool (Stamp.less ⟨y,mo,d,h,mi,s⟩ ⟨y',mo',d',h',mi',s'⟩))∧Below w.heap.size w w':=yf ⟨y,mo,d,h,mi,s⟩ ⟨y',mo',d',h',mi',s'⟩ ha hb w
theorem eS:∀{L:List EI} {k:Nat} {x:EI},L[k]? = some x→(L.flatMap EI.rows)[2*k]? = some (x.vb,x.body)∧(L.flatMap EI.rows)[2*k+1]? = some (x.vr,x.raw)
 | [],k,x,h=>by simp at h
 | y::L,0,x,h=>by
  simp only[List.getElem?_cons_zero,Option.some.injEq]at h;subst h;exact⟨rfl,rfl⟩
 | y::L,k+1,x,h=>by
  have:=eS (L:=L) (k:=k) (x:=x) (by simpa using h);exact this
theorem Be {a b c d:Value×List UInt8} (h1:∀g,a.1.ownBlock=some g→b.1.ownBlock≠some g) (h2:∀g,a.1.ownBlock=some g→c.1.ownBlock≠some g) (h3:∀g,b.1.ownBlock=some g→c.1.ownBlock≠some g)
 {W:World} {lo hi hi':Nat} (ha:az W lo hi a.1 a.2) (hb:az W lo hi b.1 b.2) (hc:az W lo hi c.1 c.2) (hd:az W hi hi' d.1 d.2):bQ [a,b,c,d]:=by
 have key:∀{x:Value×List UInt8},az W lo hi x.1 x.2→∀g,x.1.ownBlock=some g→d.1.ownBlock≠some g:=fun hx g e1 e2=>by
  have:=hx.2 g e1;have:=(hd.1.lt g e2).1;omega
 refine .cons (fun x hx=>?_) (.cons (fun x hx=>?_) (.cons (fun x hx=>?_) (.cons (fun x hx=>?_) .nil)))
 ·simp only[List.mem_cons,List.not_mem_nil,or_false]at hx
  rcases hx with rfl|rfl|rfl
  ·exact h1
  ·exact h2
  ·exact key ha
 ·simp only[List.mem_cons,List.not_mem_nil,or_false]at hx
  rcases hx with rfl|rfl
  ·exact h3
  ·exact key hb
 ·obtain rfl:=List.mem_singleton.1 hx
  exact key hc
 ·simp at hx
theorem St.rows4 {x1 x3 x5:EI} {M:Nat} {vn:Value} {ns:List UInt8} (h:St w W gc C lo hi g n c L) (h1:L[1]? = some x1) (h3:L[3]? = some x3) (h5:L[5]? = some x5) (hn:az W M W.heap.size vn ns) (hM:hi≤M) :
 (∀p∈[(x3.vr,x3.raw),(x5.vr,x5.raw),(x1.vb,x1.body),(vn,ns)],az W lo W.heap.size p.1 p.2)∧bQ [(x3.vr,x3.raw),(x5.vr,x5.raw),(x1.vb,x1.body),(vn,ns)]:=by
 have a1:=h.2.2.1.own1 h1;have a3:=h.2.2.1.own2 h3;have a5:=h.2.2.1.own2 h5;have qd:lo≤hi:=by
  obtain⟨A,_,hA,hB⟩:=h.2.2.1.spot_ (by have:=eK h.2.2.1;have:=(List.getElem?_eq_some_iff.1 h1).1;omega);omega
 constructor
 ·intro p hp
  simp only[List.mem_cons,List.not_mem_nil,or_false]at hp;rcases hp with rfl|rfl|rfl|rfl
  ·exact a3.mono nl_ h.2.2.2.1
  ·exact a5.mono nl_ h.2.2.2.1
  ·exact a1.mono nl_ h.2.2.2.1
  ·exact hn.mono ab nl_
 ·have qc:=h.2.2.1.2.2
  exact Be (W:=W) (lo:=lo) (hi:=hi) (hi':=W.heap.size) (i9 qc (eS h3).2 (eS h5).2 ab) (i9 qc (eS h3).2 (eS h1).1 ab) (i9 qc (eS h5).2 (eS h1).1 ab) a3 a5 a1 (hn.mono hM nl_)
theorem au.map {w w':World} {b lo clk:Nat} {es:Array MapEntry} (hg:w.grownBy w' (some b)) (hm:w.heap[b]? = some (.map es clk)):au lo w w':=fun g cs t h1 h2=>
 (hg.block g (Array.getElem?_eq_some_iff.1 h2).1 (fun e=>by injection e with e;subst e;rw[h2]at hm;cases hm)).trans h2
theorem St.map {b clk:Nat} {es:Array MapEntry} (h:St w W gc C lo hi g n c L) (hg:W.grownBy W' (some b)) (hm:W.heap[b]? = some (.map es clk)) (hb:w.heap.size≤b) (hgc:gc<b):St w W' gc C lo hi g n c L:=
 ⟨⟨hg.os.trans h.1.os,hg.tape.trans h.1.tape,hg.output.trans h.1.output,Nat.le_trans h.1.size hg.size,fun k hk hne=>(hg.block k (by have:=h.1.size;omega) (fun e=>by injection e with e;omega)).trans (h.1.block k hk hne)⟩,
   aw.grown h.2.1 hg (fun e=>by injection e with e;omega),h.2.2.1.keepRows (au.map hg hm),Nat.le_trans h.2.2.2.1 hg.size,h.2.2.2.2⟩
theorem zp {f:Fl} {x:El} {p:Fl×List UInt8} (h:Cert.extension f x=some p):p.2.length≤x.2.1.length:=by
 unfold Cert.extension at h
 cases hl:Cert.parts 48 2 3 x with
 | none=>rw[hl]at h;cases h
 | some l=>
  rw[hl]at h;simp only[Option.bind_some]at h
  cases h1:Cert.arcs (l.getD 0 El.none_) with
  | none=>rw[h1]at h;cases h
  | some o=>
   rw[h1]at h;simp only[Option.bind_some]at h
   cases h2:Cert.must (Cert.lastOk l (l.length - 1)) with
   | none=>rw[h2]at h;cases h
   | some _=>
    rw[h2]at h;simp only[Option.bind_some]at h
    cases h3:Cert.told f o l (l.length - 1) with
    | none=>rw[h3]at h;cases h
    | some g=>
     rw[h3]at h;injection h with h
     subst h;obtain⟨⟨t,b,r⟩,hd⟩:∃y,l.getD 0 El.none_=y:=⟨_,rfl⟩
     simp only[hd];exact(bO hl 0 hd).1
set_option maxHeartbeats 4000000 in
theorem ue (gc:Nat) (C:CV) (t:UInt8) (A1 A2:Option Addr) (n1 c1 n2 c2:Nat) (b r:List UInt8) (w:World) (hC:Bc w gc C) (h1:Rd w w.heap.size A1 n1 c1 b) (hn:n1≤1099511627) :
 Calls Tryz.prog 135 #[.pointer (some ⟨gc,0,none⟩),.agg #[.int .u8 (t.toNat:Int),.slice A1 n1 c1,.slice A2 n2 c2]] w (aY gc w (Cert.signed C.fl (t,b,r)) (Cc w gc C (.slice A2 n2 c2))):=by
 have vo:=hd1 h1.len;have m8:=hC.lt
 go_enter Tryz.func135,Tryz.ntmps135
 go_wp2_with fail
 refine(du t A1 A2 n1 c1 n2 c2 48 7 8 b r _ ((h1.alloc nl_ _).more ag) hn).mono ?_;rintro e w1 ⟨hb1,⟨ho,rfl⟩|⟨l,v,ho,rfl,L,A,n,c,rfl,hl,hE,hnl⟩⟩
 ·have j0:Below w.heap.size w w1:=Below.trans aa (hb1.mono al)
  have HH:=hd3 ho (aH j0 (some gc)) (hC.below j0 m8);clear ho hb1 h1 j0 hC
  go_wp2
  exact⟨rfl,aY.wrong (dz HH.1) HH.2.1 HH.2.2⟩
 have qk:=dE ho;have h7:7≤n:=ab
 have h8:n≤8:=ab
 have j0:Below w.heap.size w w1:=Below.trans aa (hb1.mono al);have rs:=hb1.size;simp only[World.size_alloc]at rs;obtain⟨g,rfl,hg,hg2⟩:=hE.spot_ ab;have m7:=(aw.new w 84 #[.int .u8 (t.toNat:Int),.slice A1 n1 c1,.slice A2 n2 c2]).below hb1 ag;have x2:=m7.cell 2;simp only[List.getElem?_toArray,List.getElem?_cons_zero,List.getElem?_cons_succ]at x2;have mm:St w w1 gc C (w.heap.size+1) w1.heap.size g n c L:=⟨aH j0 _,hC.below j0 m8,hE.mono ag nl_,Nat.le_refl _,ab⟩
 have y1:Hid (Cert.signed C.fl (t,b,r)=Sg.a C.fl (t,b,r) l):=hd1 (dA ho);have H1:=hd3 ho hl hnl;have v9:Bc w1 gc C:=mm.2.1;have k0:w1.cell? ⟨gc,1,none⟩=some C.tbs:=v9.at_ 1;have k1:=v9.frozen 1;have zz:=hd1 (mm.set (v9.tbs (.slice A2 n2 c2)));clear ho hb1 j0 h1 hE hl qk hC hnl m7 mm v9;obtain⟨t0,Aa,na,ca,b0,Ab,nb,cb,r0,hd0,hx0⟩:=zz.out.el H1.2.1 0 ab;have rl:=zz.out.small H1.1 (N:=1099511627) (by have:=vo.out;simp;omega) hd0 hx0;obtain⟨p0,p1,p2⟩:=zz.2.2.1.cells3 hx0 0 1 2 ⟨rfl,rfl,rfl⟩;have H0:=hd2 hd0 (zz.out.rdb hx0);clear hd0 hx0
 go_wp2_with fail
 refine(du t0 Aa Ab na ca nb cb 160 1 1 b0 r0 _ H0.2 ab).mono ?_;rintro e w2 ⟨hb2,⟨ho,rfl⟩|⟨lv,v,ho,rfl,Lv,Av,nv,cv,rfl,hlv,hEv,hnlv⟩⟩
 ·have HH:=hd2 ho (zz.out.below hb2)
  clear ho hb2
  go_wp2
  exact⟨rfl,aY.wrong (y1.out.trans (dz (by rw[H0.1];exact HH.1))) HH.2.1 HH.2.2.1⟩
 have qk:=dE ho;obtain rfl:nv=1:=ab
 obtain⟨gv,rfl,hgv,hgv2⟩:=hEv.spot_ ab;obtain⟨t1,Ac,nc,cc,b1,Ad,nd,cd,r1,hq_1,q0,q1,q2,R0,R1,_⟩:=hEv.el hlv (Below.refl w2.heap.size w2) nl_ 0 0 ab rfl;have ry:=hb2.size;simp only[World.size_setCell]at ry;have j1:Hid (Cert.signed C.fl (t,b,r)=Sg.b C.fl (t,b,r) l lv):=hd1 (y1.out.trans (dA (by rw[H0.1];exact ho)));have v4:=hd1 (zz.out.below hb2);have H2:=hd2 hq_1 R1;clear ho hb2 hlv hEv hnlv qk hq_1 R0 R1 y1 zz H0 p0 p1 p2 k0 k1 x2
 go_wp2_with fail
 refine(ej Ad _ nd cd 3 3 r1 [2,1,2] w2.heap.size _ _ (H2.2.rds.alloc nl_ _) (aV w2 5 ([2,1,2].map bv) w2.heap.size rfl) ag ag (by have:=H2.2.cap;have:=H2.2.capm;omega)).mono ?_;rintro e w3 ⟨rfl,hb3⟩;obtain⟨q,hq⟩:∃q,(r1==[2,1,2])=q:=⟨_,rfl⟩
 rw[hq];have v1:Below w2.heap.size w2 w3:=Below.trans aa (hb3.mono al);have H3:=hd2 hq v1;clear hq hb3 v1
 go_wp2_with fail
 refine(dm _ _).mono ?_;rintro e w' ⟨rfl,⟨hq,rfl⟩|⟨hq,rfl⟩⟩
 ·have HQ:=hd1 hq
  clear hq
  go_wp2
  exact⟨rfl,aY.wrong (j1.out.trans (dz (cX (by rw[H2.1];exact H3.1.trans HQ.out)))) (v4.out.below H3.2).1 (v4.out.below H3.2).2.1⟩
 have j2:Hid (Cert.signed C.fl (t,b,r)=Sg.c C.fl (t,b,r) l):=hd1 (j1.out.trans (dA (bI (by rw[H2.1];exact H3.1.trans hq))));have y7:=hd1 (v4.out.below H3.2);have s3:=H3.2.size;clear j1 v4 H3 H2 hq q0 q1 q2;obtain⟨t1,Aa,na,ca,b1,Ab,nb,cb,r1,hq_1,hx1⟩:=y7.out.el H1.2.1 1 ab;have rl:=y7.out.small H1.1 (N:=1099511627) (by have:=vo.out;simp;omega) hq_1 hx1;obtain⟨p0,p1,p2⟩:=y7.2.2.1.cells3 hx1 3 4 5 ⟨rfl,rfl,rfl⟩;have y3:=hd2 hq_1 hx1;clear hq_1 hx1
 go_wp2_with fail
 refine(jl t1 Aa Ab na ca nb cb b1 r1 _ (y7.out.rdb y3.2) ab).mono ?_;rintro e w4 ⟨hb4,⟨ho,rfl⟩|⟨nn,v,ho,rfl,An,m4,c4,rfl,hO⟩⟩
 ·have HH:=hd2 ho (y7.out.below hb4)
  clear ho hb4
  go_wp2
  exact⟨rfl,aY.wrong (j2.out.trans (dz (by rw[y3.1];exact HH.1))) HH.2.1 HH.2.2.1⟩
 have tc:=aM hO;have y2:=hd1 (y7.out.below hb4);have v0:b1.length=na:=(y7.out.rdb y3.2).len;have q7:∀q:Bool,q=(decide (0<(m4:Int))&&decide ((na:Int)≤20))→Hid (Cert.signed C.fl (t,b,r)=(Cert.must q).bind fun _=>Sg.d C.fl (t,b,r) l):=by
  rintro q rfl;refine hd1 (j2.out.trans ((dA (by rw[y3.1];exact ho)).trans ?_));rw[y3.1,tc];simp only[v0];rw[show decide (0<m4)=decide (0<(m4:Int)) from decide_eq_decide.2 ab,show decide (na≤20)=decide ((na:Int)≤20) from decide_eq_decide.2 ab]
 have r9:=hb4.size;obtain⟨p0,p1,p2⟩:=y2.2.2.1.cells3 y3.2 3 4 5 ⟨rfl,rfl,rfl⟩;have te:=hd3 ho hb4 hO;clear ho hb4 hO tc y7 j2 v0
 by_cases hm:0<m4
 rotate_left
 ·obtain rfl:m4=0:=ab
  have hf:=q7 false ag;clear q7
  go_wp2_with fail
  refine(bE _).mono ?_;rintro e w' ⟨rfl,rfl⟩
  go_wp2
  exact⟨rfl,aY.wrong (hf.out.trans rfl) y2.1 y2.2.1⟩
 have f1:(0:Int)<(m4:Int):=ab
 have hf:=q7 (decide ((na:Int)≤20)) (by simp[hm]);clear q7 hm
 go_wp2_with fail
 refine(dm _ _).mono ?_;rintro e w' ⟨rfl,⟨hq,rfl⟩|⟨hq,rfl⟩⟩
 ·have HQ:=hd1 hq
  clear hq
  go_wp2
  exact⟨rfl,aY.wrong (hf.out.trans (by rw[HQ.out];rfl)) y2.1 y2.2.1⟩
 have j3:Hid (Cert.signed C.fl (t,b,r)=Sg.d C.fl (t,b,r) l):=hd1 (hf.out.trans (dA (bI hq)));clear hf hq f1 r9 te;have k0:w'.cell? ⟨gc,4,none⟩=some C.ser:=y2.2.1.at_ 4;have k1:=y2.2.1.frozen 4;have z2:=hd1 (y2.out.set (y2.2.1.ser (.slice Aa na ca)));obtain⟨t2,A5,n5,c5,b2,A6,n6,c6,r2,hq_2,hx2⟩:=z2.out.el H1.2.1 2 ab;have sm:=z2.out.small H1.1 (N:=1099511627) (by have:=vo.out;simp;omega) hq_2 hx2;obtain⟨q0,q1,q2⟩:=z2.2.2.1.cells3 hx2 6 7 8 ⟨rfl,rfl,rfl⟩;have v5:=hd2 hq_2 hx2;clear hq_2 hx2 y2
 go_wp2_with fail
 refine(jj t2 A5 A6 n5 c5 n6 c6 11 b2 r2 _ (z2.out.rdb v5.2) ab).mono ?_;rintro e w5 ⟨hb5,⟨ho,rfl⟩|⟨_,v,ho,rfl,rfl⟩⟩
 ·have HH:=hd2 ho (z2.out.below hb5)
  clear ho hb5
  go_wp2
  exact⟨rfl,aY.wrong (j3.out.trans (dz (by rw[v5.1];exact HH.1))) HH.2.1 HH.2.2.1⟩
 have j4:Hid (Cert.signed C.fl (t,b,r)=Sg.e_ C.fl (t,b,r) l):=hd1 (j3.out.trans (dA (by rw[v5.1];exact ho)));have vw:=hd1 (z2.out.below hb5);clear ho hb5 j3 z2 v5 p0 p1 p2 q0 q1 q2 k0 k1;obtain⟨t3,A5,n5,c5,b3,A6,n6,c6,r3,hq_3,hx3⟩:=vw.out.el H1.2.1 3 ab;obtain⟨p0,p1,p2⟩:=vw.2.2.1.cells3 hx3 9 10 11 ⟨rfl,rfl,rfl⟩;have z3:=hd2 hq_3 hx3;clear hq_3 hx3
 go_wp2_with fail
 refine(eH t3 _ _ 48 b3 r3 _).mono ?_;rintro e w6 ⟨hb6,⟨ho,rfl⟩|⟨_,v,ho,rfl,rfl,rfl⟩⟩
 ·have HH:=hd2 ho (vw.out.below hb6)
  clear ho hb6
  go_wp2
  exact⟨rfl,aY.wrong (j4.out.trans (dz (by rw[z3.1];exact HH.1))) HH.2.1 HH.2.2.1⟩
 have j5:Hid (Cert.signed C.fl (t,b,r)=Sg.f C.fl (t,b,r) l):=hd1 (j4.out.trans (dA (by rw[z3.1];exact ho)));have vy:=hd1 (vw.out.below hb6);clear ho hb6 j4 vw p0 p1 p2;obtain⟨t5,B5,m5,d5,b5,B6,m6,d6,r5,hq_5,hx5⟩:=vy.out.el H1.2.1 5 ab;obtain⟨p0,p1,p2⟩:=vy.2.2.1.cells3 hx5 15 16 17 ⟨rfl,rfl,rfl⟩;have z4:=hd2 hq_5 hx5;clear hq_5 hx5
 go_wp2_with fail
 refine(eH t5 _ _ 48 b5 r5 _).mono ?_;rintro e w7 ⟨hb7,⟨ho,rfl⟩|⟨_,v,ho,rfl,rfl,rfl⟩⟩
 ·have HH:=hd2 ho (vy.out.below hb7)
  clear ho hb7
  go_wp2
  exact⟨rfl,aY.wrong (j5.out.trans (dz (by rw[z4.1];exact HH.1))) HH.2.1 HH.2.2.1⟩
 have j6:Hid (Cert.signed C.fl (t,b,r)=Sg.g C.fl (t,b,r) l):=hd1 (j5.out.trans (dA (by rw[z4.1];exact ho)));have yv:=hd1 (vy.out.below hb7);clear ho hb7 j5 vy p0 p1 p2;obtain⟨_,_,p2⟩:=yv.2.2.1.cells3 z3.2 9 10 11 ⟨rfl,rfl,rfl⟩;obtain⟨_,_,q2⟩:=yv.2.2.1.cells3 z4.2 15 16 17 ⟨rfl,rfl,rfl⟩;have k0:w7.cell? ⟨gc,2,none⟩=some C.iss:=yv.2.1.at_ 2;have k1:=yv.2.1.frozen 2;have k2:w7.cell? ⟨gc,3,none⟩=some C.sub:=yv.2.1.at_ 3;have k3:=yv.2.1.frozen 3;have sf:=yv.2.2.2.2
 go_wp2
 go_region
 have zn:=hd1 (((yv.out.set (yv.2.1.iss (.slice A6 n6 c6))).set ((yv.2.1.iss (.slice A6 n6 c6)).sub (.slice B6 m6 d6))).below br_.drew);clear p2 q2 k0 k1 k2 k3 yv;obtain⟨t4,D5,e5,f5,b4,D6,e6,f6,r4,hq_4,hx4⟩:=zn.out.el H1.2.1 4 ab;have sl:=zn.out.small H1.1 (N:=1099511627) (by have:=vo.out;simp;omega) hq_4 hx4;obtain⟨p0,p1,p2⟩:=zn.2.2.1.cells3 hx4 12 13 14 ⟨rfl,rfl,rfl⟩;have v6:=hd2 hq_4 hx4;clear hq_4 hx4
 go_wp2_with fail
 refine(du t4 D5 D6 e5 f5 e6 f6 48 2 2 b4 r4 _ (zn.out.rdb v6.2) ab).mono ?_;rintro e w8 ⟨hb8,⟨ho,rfl⟩|⟨lt,v,ho,rfl,Lt,At,nt,ct,rfl,hlt,hEt,hnlt⟩⟩
 ·have HH:=hd2 ho (zn.out.below hb8)
  clear ho hb8
  go_wp2
  exact⟨rfl,aY.wrong (j6.out.trans (dz (by rw[v6.1];exact HH.1))) HH.2.1 HH.2.2.1⟩
 have qk:=dE ho;obtain rfl:nt=2:=ab
 obtain⟨gt,rfl,hgt,hgt2⟩:=hEt.spot_ ab;obtain⟨ta,Ba,ma,da,ba,Bb,mb,db,ra,hxa,s0,s1,s2,Ra,_,_⟩:=hEt.el hlt (Below.refl w8.heap.size w8) nl_ 0 0 ab rfl;obtain⟨tb,Bc_,mc,dc,bb,Bd,md,dd,rb,hxb,u0,u1,u2,Rb,_,_⟩:=hEt.el hlt (Below.refl w8.heap.size w8) nl_ 1 3 ab rfl;have sc:=hb8.size;have q9:Hid (Cert.signed C.fl (t,b,r)=(Cert.moment (ta,ba,ra)).bind fun x=>(Cert.moment (tb,bb,rb)).bind fun y=>Sg.i C.fl (t,b,r) l x y):=hd1 (j6.out.trans ((dA (by rw[v6.1];exact ho)).trans (by unfold Sg.h;rw[hxa,hxb])));have y4:=hd1 (zn.out.below hb8);have HR:=hd2 Ra Rb;have re:gc<gt:=by
  have h1:=zn.2.1.lt;omega
 clear ho hb8 hlt hEt hnlt qk hxa hxb Ra Rb j6 zn v6 p0 p1 p2;simp only[Nat.zero_add,Nat.reduceAdd]at s1 s2 u1 u2
 go_wp2
 go_region_held2 (fun w'=>w'.cell? ⟨gt,0,none⟩=some (.int .u8 (ta.toNat:Int))∧w'.cell? ⟨gt,1,none⟩=some (.slice Ba ma da)∧w'.cell? ⟨gt,2,none⟩=some (.slice Bb mb db)∧w'.cell? ⟨gt,3,none⟩=some (.int .u8 (tb.toNat:Int))∧w'.cell? ⟨gt,4,none⟩=some (.slice Bc_ mc dc)∧w'.cell? ⟨gt,5,none⟩=some (.slice Bd md dd)) (first|go_keep|(refine⟨?_,?_,?_,?_,?_,?_⟩<;>((repeat (rw[World.cell?_setCell_other _ _ _ _ (by intro e;injection e with e;omega)]));assumption)))
  (first
    | (go_at_call 150;((with_reducible refine(lW ta Ba ma da _ ba ra _ HR.out.1.drew).mono ?_);rintro e w9 ⟨hb9,⟨ho,rfl⟩|⟨xa,v,ho,rfl,hv⟩⟩);(·exact⟨rfl,aY.wrong (q9.out.trans (dz ho)) ((y4.out.below br_.drew).below hb9).1 ((y4.out.below br_.drew).below hb9).2.1⟩);obtain⟨xy,xmo,xd,xh,xmi,xs_⟩:=xa;simp only[Tm.v]at hv;subst hv;have HA:=hd1 ho;clear ho;have y5:=hd1 ((y4.out.below br_.drew).below hb9);have td:=hb9.size;simp only[World.size_drew]at td hb9;have k0:w9.cell? ⟨gt,0,none⟩=some (.int .u8 (ta.toNat:Int)):=(hb9.cell (p:=⟨gt,0,none⟩) am).trans an;have k1:w9.cell? ⟨gt,1,none⟩=some (.slice Ba ma da):=(hb9.cell (p:=⟨gt,1,none⟩) am).trans an;have k2:w9.cell? ⟨gt,2,none⟩=some (.slice Bb mb db):=(hb9.cell (p:=⟨gt,2,none⟩) am).trans an;have k3:w9.cell? ⟨gt,3,none⟩=some (.int .u8 (tb.toNat:Int)):=(hb9.cell (p:=⟨gt,3,none⟩) am).trans an;have k4:w9.cell? ⟨gt,4,none⟩=some (.slice Bc_ mc dc):=(hb9.cell (p:=⟨gt,4,none⟩) am).trans an;have k5:w9.cell? ⟨gt,5,none⟩=some (.slice Bd md dd):=(hb9.cell (p:=⟨gt,5,none⟩) am).trans an)
    | (go_at_call 150;((with_reducible refine(lW tb Bc_ mc dc _ bb rb _ (HR.out.2.up (Below.trans aa (hb9.mono nl_)))).mono ?_);rintro e w10 ⟨hb10,⟨ho,rfl⟩|⟨xb,v,ho,rfl,hv⟩⟩);(·exact⟨rfl,aY.wrong (q9.out.trans ((dA HA.out).trans (dz ho))) (y5.out.below hb10).1 (y5.out.below hb10).2.1⟩);obtain⟨yy,ymo,yd,yh,ymi,ys_⟩:=xb;simp only[Tm.v]at hv;subst hv;have HB:=hd1 ho;clear ho;have m1:=hb10.size;have z0:=hd1 (y5.out.below hb10);have qd:=hd1 z0.out.2.1;have kl:w10.cell? ⟨gc,5,none⟩=some (.int .u16 (C.from_.y:Int)):=qd.out.at_ 5;have tr:=qd.out.frozen 5 ;have ko:w10.cell? ⟨gc,6,none⟩=some (.int .u8 (C.from_.mo:Int)):=qd.out.at_ 6;have ts:=qd.out.frozen 6 ;have ks:w10.cell? ⟨gc,7,none⟩=some (.int .u8 (C.from_.d:Int)):=qd.out.at_ 7;have tv:=qd.out.frozen 7 ;have kt:w10.cell? ⟨gc,8,none⟩=some (.int .u8 (C.from_.h:Int)):=qd.out.at_ 8;have tw:=qd.out.frozen 8 ;have kv:w10.cell? ⟨gc,9,none⟩=some (.int .u8 (C.from_.mi:Int)):=qd.out.at_ 9;have tx:=qd.out.frozen 9 ;have z5:w10.cell? ⟨gc,10,none⟩=some (.int .u8 (C.from_.s:Int)):=qd.out.at_ 10;have pv:=qd.out.frozen 10 ;have z6:w10.cell? ⟨gc,11,none⟩=some (.int .u16 (C.to.y:Int)):=qd.out.at_ 11;have p3:=qd.out.frozen 11 ;have z7:w10.cell? ⟨gc,12,none⟩=some (.int .u8 (C.to.mo:Int)):=qd.out.at_ 12;have p4:=qd.out.frozen 12 ;have va:w10.cell? ⟨gc,13,none⟩=some (.int .u8 (C.to.d:Int)):=qd.out.at_ 13;have p5:=qd.out.frozen 13 ;have ve:w10.cell? ⟨gc,14,none⟩=some (.int .u8 (C.to.h:Int)):=qd.out.at_ 14;have p6:=qd.out.frozen 14 ;have vi:w10.cell? ⟨gc,15,none⟩=some (.int .u8 (C.to.mi:Int)):=qd.out.at_ 15;have p7:=qd.out.frozen 15 ;have vn:w10.cell? ⟨gc,16,none⟩=some (.int .u8 (C.to.s:Int)):=qd.out.at_ 16;have mj:=qd.out.frozen 16;have l0:w10.cell? ⟨gt,0,none⟩=some (.int .u8 (ta.toNat:Int)):=(hb10.cell (p:=⟨gt,0,none⟩) am).trans an;have l1:w10.cell? ⟨gt,1,none⟩=some (.slice Ba ma da):=(hb10.cell (p:=⟨gt,1,none⟩) am).trans an;have l2:w10.cell? ⟨gt,2,none⟩=some (.slice Bb mb db):=(hb10.cell (p:=⟨gt,2,none⟩) am).trans an;have l3:w10.cell? ⟨gt,3,none⟩=some (.int .u8 (tb.toNat:Int)):=(hb10.cell (p:=⟨gt,3,none⟩) am).trans an;have l4:w10.cell? ⟨gt,4,none⟩=some (.slice Bc_ mc dc):=(hb10.cell (p:=⟨gt,4,none⟩) am).trans an;have l5:w10.cell? ⟨gt,5,none⟩=some (.slice Bd md dd):=(hb10.cell (p:=⟨gt,5,none⟩) am).trans an))
 obtain⟨w11,hw11,HS13⟩:∃w11,w11=((((((((((((w10.setCell ⟨gc,5,none⟩ (.int .u16 (xy:Int))).setCell ⟨gc,6,none⟩ (.int .u8 (xmo:Int))).setCell ⟨gc,7,none⟩ (.int .u8 (xd:Int))).setCell ⟨gc,8,none⟩ (.int .u8 (xh:Int))).setCell ⟨gc,9,none⟩ (.int .u8 (xmi:Int))).setCell ⟨gc,10,none⟩ (.int .u8 (xs_:Int))).setCell ⟨gc,11,none⟩ (.int .u16 (yy:Int))).setCell ⟨gc,12,none⟩ (.int .u8 (ymo:Int))).setCell ⟨gc,13,none⟩ (.int .u8 (yd:Int))).setCell ⟨gc,14,none⟩ (.int .u8 (yh:Int))).setCell ⟨gc,15,none⟩ (.int .u8 (ymi:Int))).setCell ⟨gc,16,none⟩ (.int .u8 (ys_:Int)))∧Hid (St w w11 gc {C with tbs:=.slice A2 n2 c2,iss:=.slice A6 n6 c6,sub:=.slice B6 m6 d6,ser:=.slice Aa na ca,from_:=⟨xy,xmo,xd,xh,xmi,xs_⟩,to:=⟨yy,ymo,yd,yh,ymi,ys_⟩} (w.heap.size+1) w1.heap.size g n c L):=
  ⟨_,rfl,hd1 ((z0.out.time5 ⟨xy,xmo,xd,xh,xmi,xs_⟩).time11 ⟨yy,ymo,yd,yh,ymi,ys_⟩)⟩
 rw[←hw11];have qs:Hid (Cert.signed C.fl (t,b,r)=Sg.i C.fl (t,b,r) l ⟨xy,xmo,xd,xh,xmi,xs_⟩ ⟨yy,ymo,yd,yh,ymi,ys_⟩):=hd1 (q9.out.trans ((dA HA.out).trans (dA HB.out)));have kd:=hd2 (lY HA.out) (lY HB.out);clear hw11 z0 y5 y4 qd q9 HA HB HR m1 td sc hb10 hb9 hgt hgt2 re s0 s1 s2 u0 u1 u2 k0 k1 k2 k3 k4 k5 l0 l1 l2 l3 l4 l5 kl tr ko ts ks tv kt tw kv tx z5 pv z6 p3 z7 p4 va p5 ve p6 vi p7 vn mj;have kl:w11.cell? ⟨gc,5,none⟩=some (.int .u16 (xy:Int)):=HS13.2.1.at_ 5;have ko:w11.cell? ⟨gc,6,none⟩=some (.int .u8 (xmo:Int)):=HS13.2.1.at_ 6;have ks:w11.cell? ⟨gc,7,none⟩=some (.int .u8 (xd:Int)):=HS13.2.1.at_ 7;have kt:w11.cell? ⟨gc,8,none⟩=some (.int .u8 (xh:Int)):=HS13.2.1.at_ 8;have kv:w11.cell? ⟨gc,9,none⟩=some (.int .u8 (xmi:Int)):=HS13.2.1.at_ 9;have z5:w11.cell? ⟨gc,10,none⟩=some (.int .u8 (xs_:Int)):=HS13.2.1.at_ 10;have z6:w11.cell? ⟨gc,11,none⟩=some (.int .u16 (yy:Int)):=HS13.2.1.at_ 11;have z7:w11.cell? ⟨gc,12,none⟩=some (.int .u8 (ymo:Int)):=HS13.2.1.at_ 12;have va:w11.cell? ⟨gc,13,none⟩=some (.int .u8 (yd:Int)):=HS13.2.1.at_ 13;have ve:w11.cell? ⟨gc,14,none⟩=some (.int .u8 (yh:Int)):=HS13.2.1.at_ 14;have vi:w11.cell? ⟨gc,15,none⟩=some (.int .u8 (ymi:Int)):=HS13.2.1.at_ 15;have vn:w11.cell? ⟨gc,16,none⟩=some (.int .u8 (ys_:Int)):=HS13.2.1.at_ 16
 go_wp2
 go_region_held2 (fun w'=>w'.cell? ⟨gc,5,none⟩=some (.int .u16 (xy:Int))∧w'.cell? ⟨gc,6,none⟩=some (.int .u8 (xmo:Int))∧w'.cell? ⟨gc,7,none⟩=some (.int .u8 (xd:Int))∧w'.cell? ⟨gc,8,none⟩=some (.int .u8 (xh:Int))∧w'.cell? ⟨gc,9,none⟩=some (.int .u8 (xmi:Int))∧w'.cell? ⟨gc,10,none⟩=some (.int .u8 (xs_:Int))∧w'.cell? ⟨gc,11,none⟩=some (.int .u16 (yy:Int))∧w'.cell? ⟨gc,12,none⟩=some (.int .u8 (ymo:Int))∧w'.cell? ⟨gc,13,none⟩=some (.int .u8 (yd:Int))∧w'.cell? ⟨gc,14,none⟩=some (.int .u8 (yh:Int))∧w'.cell? ⟨gc,15,none⟩=some (.int .u8 (ymi:Int))∧w'.cell? ⟨gc,16,none⟩=some (.int .u8 (ys_:Int))) (first|go_keep)
  (first
    | (go_at_call 151;((with_reducible refine(yg _ _ _ _ _ _ _ _ _ _ _ _ kd.out.2 kd.out.1 _).mono ?_);rintro e w12 ⟨rfl,hb12⟩);have qc:=hd1 ((HS13.out.below br_.drew).below hb12);obtain⟨q,hq⟩:∃q,Stamp.less ⟨yy,ymo,yd,yh,ymi,ys_⟩ ⟨xy,xmo,xd,xh,xmi,xs_⟩=q:=⟨_,rfl⟩;rw[hq];have HQ:=hd1 hq;have tf:w12.cell? ⟨gc,5,none⟩=some (.int .u16 (xy:Int)):=qc.out.2.1.at_ 5;have tg:w12.cell? ⟨gc,6,none⟩=some (.int .u8 (xmo:Int)):=qc.out.2.1.at_ 6;have ti:w12.cell? ⟨gc,7,none⟩=some (.int .u8 (xd:Int)):=qc.out.2.1.at_ 7;have tj:w12.cell? ⟨gc,8,none⟩=some (.int .u8 (xh:Int)):=qc.out.2.1.at_ 8;have tl:w12.cell? ⟨gc,9,none⟩=some (.int .u8 (xmi:Int)):=qc.out.2.1.at_ 9;have kx:w12.cell? ⟨gc,10,none⟩=some (.int .u8 (xs_:Int)):=qc.out.2.1.at_ 10;have ky:w12.cell? ⟨gc,11,none⟩=some (.int .u16 (yy:Int)):=qc.out.2.1.at_ 11;have kz:w12.cell? ⟨gc,12,none⟩=some (.int .u8 (ymo:Int)):=qc.out.2.1.at_ 12;have k6:w12.cell? ⟨gc,13,none⟩=some (.int .u8 (yd:Int)):=qc.out.2.1.at_ 13;have pa:w12.cell? ⟨gc,14,none⟩=some (.int .u8 (yh:Int)):=qc.out.2.1.at_ 14;have pb:w12.cell? ⟨gc,15,none⟩=some (.int .u8 (ymi:Int)):=qc.out.2.1.at_ 15;have ps:w12.cell? ⟨gc,16,none⟩=some (.int .u8 (ys_:Int)):=qc.out.2.1.at_ 16;clear hq hb12)
    | (go_at_call 148;((with_reducible refine(dm _ _).mono ?_);rintro e w13 ⟨rfl,⟨hq,rfl⟩|⟨hq,rfl⟩⟩);(·exact⟨rfl,aY.wrong (qs.out.trans (dz (by rw[HQ.out,hq];rfl))) qc.out.1 qc.out.2.1⟩);have HM:=hd1 hq;clear hq))
 have qv:Hid (Cert.signed C.fl (t,b,r)=Sg.j C.fl (t,b,r) l ⟨xy,xmo,xd,xh,xmi,xs_⟩ ⟨yy,ymo,yd,yh,ymi,ys_⟩):=hd1 (qs.out.trans (dA (bI (by rw[HQ.out];exact HM.out))));clear kl ko ks kt kv z5 z6 z7 va ve vi vn tf tg ti tj tl kx ky kz k6 pa pb ps qs kd HQ HM HS13;obtain⟨t6,A7,n7,c7,b6,A8,n8,c8,r6,hq_6,hx6⟩:=qc.out.el H1.2.1 6 ab;have so:=qc.out.small H1.1 (N:=1099511627) (by have:=vo.out;simp;omega) hq_6 hx6;obtain⟨p0,p1,p2⟩:=qc.2.2.1.cells3 hx6 18 19 20 ⟨rfl,rfl,rfl⟩;have v7:=hd2 hq_6 hx6;clear hq_6 hx6
 go_wp2_with fail
 refine(zD t6 A7 A8 n7 c7 n8 c8 b6 r6 _ (qc.out.rdb v7.2) ab).mono ?_;rintro e w14 ⟨hb14,⟨ho,rfl⟩|⟨⟨kn,ke⟩,v,ho,rfl,A9,n9,c9,rfl,hO⟩⟩
 ·have HH:=hd2 ho (qc.out.below hb14)
  clear ho hb14
  go_wp2
  exact⟨rfl,aY.wrong (qv.out.trans (dz (by rw[v7.1];exact HH.1))) HH.2.1 HH.2.2.1⟩
 have qh:=hd1 (qc.out.below hb14);have q0:w14.cell? ⟨gc,17,none⟩=some C.n:=qh.2.1.at_ 17;have q1:=qh.2.1.frozen 17;have q2:w14.cell? ⟨gc,18,none⟩=some (.int .u64 (C.e:Int)):=qh.2.1.at_ 18;have q3:=qh.2.1.frozen 18;have q4:Hid (Cert.signed C.fl (t,b,r)=Cert.told8 ⟨r,(l.getD 3 El.none_).2.2,(l.getD 5 El.none_).2.2,(l.getD 1 El.none_).2.1,⟨xy,xmo,xd,xh,xmi,xs_⟩,⟨yy,ymo,yd,yh,ymi,ys_⟩,kn,ke,C.fl⟩ l):=hd1 (qv.out.trans (by have hk:Cert.key (l.getD 6 El.none_)=some (kn,ke):=(by rw[v7.1];exact ho);unfold Sg.j;rw[hk];rfl));have HK:=hd3 hO hb14 hb14.size;clear ho hb14 hO qv p0 p1 p2 v7;have qg:=hd1 ((qh.out.set (qh.2.1.n_ (.slice A9 n9 c9))).set ((qh.2.1.n_ (.slice A9 n9 c9)).e_ ke));have rv:=HK.2.2;have ty:=qh.2.2.2.2;have v3:=qc.2.2.2.1;have HN:=hd1 ((HK.1.setCell (p:=⟨gc,17,none⟩) ai (.slice A9 n9 c9)).setCell (p:=⟨gc,18,none⟩) ai (.int .u64 (ke:Int)));clear qh HK;rcases(by omega:n=7∨n=8) with rfl|rfl
 ·go_wp2
  go_end0
  have y0:=qg.out.rows4 y3.2 z3.2 z4.2 (HN.out.mono nl_ ag) v3;refine aY.right (a:=⟨r,(l.getD 3 El.none_).2.2,(l.getD 5 El.none_).2.2,(l.getD 1 El.none_).2.1,⟨xy,xmo,xd,xh,xmi,xs_⟩,⟨yy,ymo,yd,yh,ymi,ys_⟩,kn,ke,C.fl⟩) (q4.out.trans (by unfold Cert.told8;rw[if_pos H1.2.2.symm])) qg.1 ⟨rfl,_,_,_,_,qg.2.1,?_⟩;rw[y3.1,z3.1,z4.1];exact y0
 obtain⟨t7,Aq,nq,cq,b7,Ar,nr,cr,r7,hq_7,hx7⟩:=qg.out.el H1.2.1 7 ab;have st:=qg.out.small H1.1 (N:=1099511627) (by have:=vo.out;simp;omega) hq_7 hx7;obtain⟨p0,p1,p2⟩:=qg.2.2.1.cells3 hx7 21 22 23 ⟨rfl,rfl,rfl⟩;have v8:=hd2 hq_7 hx7;clear hq_7 hx7;have q5:Hid (Cert.signed C.fl (t,b,r)=(Cert.parts 163 1 1 (t7,b7,r7)).bind fun o=>(Cert.parts 48 1 8192 (o.getD 0 El.none_)).bind fun all=>
  (Cert.exts C.fl all).bind fun p=>(Cert.must (dl p.2)).bind fun _=>some (⟨r,(l.getD 3 El.none_).2.2,(l.getD 5 El.none_).2.2,(l.getD 1 El.none_).2.1,⟨xy,xmo,xd,xh,xmi,xs_⟩,⟨yy,ymo,yd,yh,ymi,ys_⟩,kn,ke,p.1⟩:Sg)):=hd1 (q4.out.trans (by unfold Cert.told8;rw[if_neg (by have:=H1.2.2;omega),v8.1]))
 clear q4
 go_wp2_with fail
 refine(du t7 Aq Ar nq cq nr cr 163 1 1 b7 r7 _ (qg.out.rdb v8.2) ab).mono ?_;rintro e w17 ⟨hb17,⟨ho,rfl⟩|⟨lo_,v,ho,rfl,Lo,Ao,no,co,rfl,hlo,hEo,hnlo⟩⟩
 ·have HH:=hd2 ho (qg.out.below hb17)
  clear ho hb17
  go_wp2
  exact⟨rfl,aY.wrong (q5.out.trans (dz HH.1)) HH.2.1 HH.2.2.1⟩
 have qk:=dE ho;obtain rfl:no=1:=ab
 obtain⟨go_,rfl,hgo,hgo2⟩:=hEo.spot_ ab;obtain⟨to_,As,ns,cs,bo,At_,nt,ct,ro,hdo,u0,u1,u2,Ro,_,_⟩:=hEo.el hlo (Below.refl w17.heap.size w17) nl_ 0 0 ab rfl;have sv:ns≤1099511627:=by
  have h1:=bO ho 0 hdo;have h2:=(qg.out.rdb v8.2).len;have h3:=Ro.len;simp at h1;omega
 have q6:Hid (Cert.signed C.fl (t,b,r)=(Cert.parts 48 1 8192 (to_,bo,ro)).bind fun all=>
  (Cert.exts C.fl all).bind fun p=>(Cert.must (dl p.2)).bind fun _=>some (⟨r,(l.getD 3 El.none_).2.2,(l.getD 5 El.none_).2.2,(l.getD 1 El.none_).2.1,⟨xy,xmo,xd,xh,xmi,xs_⟩,⟨yy,ymo,yd,yh,ymi,ys_⟩,kn,ke,p.1⟩:Sg)):=hd1 (q5.out.trans ((dA ho).trans (by rw[hdo])))
 have z1:=hd1 (qg.out.below hb17);have vt:=hd1 ((HN.out).below hb17 ag);have kf:=hd1 Ro;have m2:=hb17.size;simp only[World.size_setCell]at m2;clear ho hb17 hlo hEo hnlo qk hdo Ro q5 qg HN v8 p0 p1 p2 q0 q1 q2 q3
 go_wp2_with fail
 refine(du to_ As At_ ns cs nt ct 48 1 8192 bo ro _ kf.out ab).mono ?_;rintro e w18 ⟨hb18,⟨ho,rfl⟩|⟨la,v,ho,rfl,La,Aw,nl,cw,rfl,hla,hEa,hnla⟩⟩
 ·have HH:=hd2 ho (z1.out.below hb18)
  clear ho hb18
  go_wp2
  exact⟨rfl,aY.wrong (q6.out.trans (dz HH.1)) HH.2.1 HH.2.2.1⟩
 have qk:=dE ho;obtain⟨ga,rfl,hga_,hga2_⟩:=hEa.spot_ ab;have j7:Hid (Cert.signed C.fl (t,b,r)=(Cert.exts C.fl la).bind fun p=>(Cert.must (dl p.2)).bind fun _=>some (⟨r,(l.getD 3 El.none_).2.2,(l.getD 5 El.none_).2.2,(l.getD 1 El.none_).2.1,⟨xy,xmo,xd,xh,xmi,xs_⟩,⟨yy,ymo,yd,yh,ymi,ys_⟩,kn,ke,p.1⟩:Sg)):=hd1 (q6.out.trans (dA ho));have y6:=hd1 (z1.out.below hb18);have vv:=hd1 ((vt.out).below hb18 ab);have rx:=hb18.size;have vp:Hid (St w w18 gc {C with tbs:=.slice A2 n2 c2,iss:=.slice A6 n6 c6,sub:=.slice B6 m6 d6,ser:=.slice Aa na ca,from_:=⟨xy,xmo,xd,xh,xmi,xs_⟩,to:=⟨yy,ymo,yd,yh,ymi,ys_⟩,n:=.slice A9 n9 c9,e:=ke,fl:=C.fl} w17.heap.size w18.heap.size ga nl cw La):=hd1 ⟨y6.1,y6.2.1,hEa,Nat.le_refl _,ab⟩;have rn:1≤nl∧nl≤8192:=ab
 have HP:=hd3 ho hla hnla;have se:bo.length≤1099511627:=by have:=kf.out.len;omega
 clear ho hb18 hla hEa hnla qk q6 z1 vt kf u0 u1 u2;have sh:=@run_makeMap Tryz.prog
 go_wp2
 go_loopw [126] (fun i wr=>∃(k:Nat) (f:Fl) (names:List (List UInt8)),k≤nl∧i=.int .i64 k∧names.length=k∧w18.heap.size<wr.heap.size∧wr.ownsMap Tryz.prog 9 (unitElem (H:=Unit)) w18.heap.size k (setOf (.agg []) (names.map Lit.string))∧
  St w wr gc {C with tbs:=.slice A2 n2 c2,iss:=.slice A6 n6 c6,sub:=.slice B6 m6 d6,ser:=.slice Aa na ca,from_:=⟨xy,xmo,xd,xh,xmi,xs_⟩,to:=⟨yy,ymo,yd,yh,ymi,ys_⟩,n:=.slice A9 n9 c9,e:=ke,fl:=f} (w.heap.size+1) w1.heap.size g 8 c L∧St w wr gc {C with tbs:=.slice A2 n2 c2,iss:=.slice A6 n6 c6,sub:=.slice B6 m6 d6,ser:=.slice Aa na ca,from_:=⟨xy,xmo,xd,xh,xmi,xs_⟩,to:=⟨yy,ymo,yd,yh,ymi,ys_⟩,n:=.slice A9 n9 c9,e:=ke,fl:=f} w17.heap.size w18.heap.size ga nl cw La∧az wr w13.heap.size w14.heap.size (.slice A9 n9 c9) kn∧
  Cert.signed C.fl (t,b,r)=(Cert.exts f (la.drop k)).bind fun p=>(Cert.must (dl (names++p.2))).bind fun _=>some (⟨r,(l.getD 3 El.none_).2.2,(l.getD 5 El.none_).2.2,(l.getD 1 El.none_).2.1,⟨xy,xmo,xd,xh,xmi,xs_⟩,⟨yy,ymo,yd,yh,ymi,ys_⟩,kn,ke,p.1⟩:Sg)) (fun i _=>nl - (intOf i).toNat)
 case atStart=>exact⟨0,C.fl,[],Nat.zero_le _,rfl,rfl,ag,World.ownsMap_made _ _ _ _,y6.out.below (br_.alloc nl_ _),vp.out.below (br_.alloc nl_ _),vv.out.alloc ab _,j7.out⟩
 case round=>
  obtain⟨k,f,names,hk,rfl,hnk,hsz,ys,hS,hA,hN,hrun⟩:=hrel;have HK:=hd4 hS hA hN hrun;have HM:=hd2 hnk ys;clear hS hA hN hrun hnk ys j7 y6 vp vv;have t9:=HK.1.2.2.2.2
  by_cases hlt:k<nl
  ·have rj:(k:Int)<nl:=ab
   obtain⟨tk,Ak,nk,ck,bk,Al,nm,cm,rk,hdk,hxk⟩:=HK.2.1.el HP.2.1 k hlt;obtain⟨p0,p1,p2⟩:=HK.2.1.2.2.1.cells3 hxk (k*3) (k*3+1) (k*3+2) ⟨rfl,rfl,rfl⟩;have v2:=bO HP.1 k hdk;have ml:=HK.2.1.rdb hxk;have m0:nk≤1099511627:=by have:=ml.len;simp at v2;omega
   have zs:la.drop k=(tk,bk,rk)::la.drop (k+1):=by
    have m9:k<la.length:=by have:=HP.2.2;omega
    rw[←hdk,List.getD_eq_getElem?_getD,List.getElem?_eq_getElem m9];exact List.drop_eq_getElem_cons m9
   have HX:=hd2 zs ml;clear hdk hxk v2 ml zs
   go_wp2_with fail
   refine(oq gc _ tk Ak Al nk ck nm cm bk rk _ (HK.1.2.1.below (br_.alloc nl_ _) ab) ((HX.2.alloc nl_ _).more ag) m0).mono ?_;rintro e w20 ⟨hg20,⟨ho,rfl,C',hC'⟩|⟨⟨f',nme⟩,v,ho,rfl,rfl,hB20⟩⟩
   ·have HH:=hd3 ho hg20 hC'
    clear ho hg20 hC'
    go_wp2
    exact⟨rfl,aY.wrong (HK.2.2.2.trans (by rw[HX.1,vF HH.1];rfl)) ((HK.1.below (br_.alloc nl_ _)).1.trans HH.2.1) HH.2.2⟩
   have m3:=hg20.size;simp only[World.size_alloc]at m3;have kk:=hd1 ((HK.1.below (br_.alloc nl_ _)).grown hg20 hB20);have kb:=hd1 ((HK.2.1.below (br_.alloc nl_ _)).grown hg20 hB20);have kc:=hd1 ((HK.2.2.1.alloc ab (.cells #[.int .u8 (tk.toNat:Int),.slice Ak nk ck,.slice Al nm cm] 84)).keep (fun j h1 h2=>hg20.block j ai (fun e=>by injection e with e;omega)));have ys:=(HM.2.alloc (.cells #[.int .u8 (tk.toNat:Int),.slice Ak nk ck,.slice Al nm cm] 84)).kept hg20 (fun e=>by injection e with e;omega);have mz:keyOf Tryz.prog 9 (.string ⟨nme.toArray⟩)=some (.string nme):=WideMaps.keyOf_string_mk Tryz.underlying9 (by
    have h1:=zp ho;have h2:=HX.2.len;show nme.toArray.size≤maxLen;simp only[List.size_toArray,maxLen];simp at h1;omega)
   have HR:=hd2 ho HX.1;clear ho hg20 hB20 p0 p1 p2
   go_wp2_with (first
    | (at_mapUpdate;refine wpList_mapUpdate_own _ rfl _ _ _ 186 rfl 9 179 (string_keyed Tryz.underlying9) Tryz.underlying186 (unitElem (H:=Unit)) w18.heap.size k _ rfl ys (by unfold maxLen;omega) _ _ _ rfl rfl mz _ [] unitElem_mk ?_;intro w21 hown1 hgrow1)
    | go_in)
   have r8:=hgrow1.size;go_roundw
   case rel=>
    have mv:Below w18.heap.size w20 w21:=br_.grown hgrow1 ab (fun j hj=>by cases hj;exact Nat.le_refl _);refine⟨k+1,f',names++[nme],ab,by go_num,by rw[List.length_append,HM.1];rfl,ab,?_,?_,?_,?_,?_⟩
    ·rw[List.map_append,List.map_cons,List.map_nil,setOf_snoc]
     exact hown1
    ·obtain⟨es,clk,hbm,_⟩:=ys
     exact kk.out.map hgrow1 hbm ab ab
    ·obtain⟨es,clk,hbm,_⟩:=ys
     exact kb.out.map hgrow1 hbm ab ab
    ·exact kc.out.below mv ab
    ·rw[HK.2.2.2,HR.2,cT HR.1]
     cases Cert.exts f' (la.drop (k+1)) with
     | none=>rfl
     | some q=>simp only[Option.bind_some,List.append_assoc,List.singleton_append]
   case measure=>simp[intOf];omega
  ·obtain rfl:k=nl:=ab
   have j8:Hid (Cert.signed C.fl (t,b,r)=(Cert.must (((Maps.size (setOf (H:=Unit) (.agg []) (names.map Lit.string)):Int)==(k:Int)))).bind fun _=>some (⟨r,(l.getD 3 El.none_).2.2,(l.getD 5 El.none_).2.2,(l.getD 1 El.none_).2.1,⟨xy,xmo,xd,xh,xmi,xs_⟩,⟨yy,ymo,yd,yh,ymi,ys_⟩,kn,ke,f⟩:Sg)):=hd1 (HK.2.2.2.trans (by
    rw[List.drop_eq_nil_of_le (by have:=HP.2.2;omega)];simp only[Cert.exts,Option.bind_some,List.append_nil];rw[←oK (H:=Unit) (.agg []) names,HM.1]
    congr 2
    exact Bool.eq_iff_iff.2 (by simp only[beq_iff_eq];omega)))
   go_wp2_with (first
    | (at_len;refine wpList_len_own _ rfl _ 186 rfl 9 179 Tryz.underlying186 (unitElem (H:=Unit)) w18.heap.size k _ rfl HM.2 ?_)
    | fail)
   refine(dm _ _).mono ?_;rintro e w' ⟨rfl,⟨hq,rfl⟩|⟨hq,rfl⟩⟩
   ·have HQ:=hd1 hq
    clear hq
    go_wp2
    exact⟨rfl,aY.wrong (j8.out.trans (dz (cX HQ.out))) HK.1.1 HK.1.2.1⟩
   ·have HQ:=hd1 hq
    clear hq
    go_wp2
    go_end0
    have y0:=HK.1.rows4 y3.2 z3.2 z4.2 (HK.2.2.1.mono nl_ ab) v3;refine aY.right (a:=(⟨r,(l.getD 3 El.none_).2.2,(l.getD 5 El.none_).2.2,(l.getD 1 El.none_).2.1,⟨xy,xmo,xd,xh,xmi,xs_⟩,⟨yy,ymo,yd,yh,ymi,ys_⟩,kn,ke,f⟩:Sg)) (j8.out.trans (dA (bI HQ.out))) HK.1.1 ⟨rfl,_,_,_,_,HK.1.2.1,?_⟩;rw[y3.1,z3.1,z4.1];exact y0
end
end
end Go.Proofs.YtmpkpphfoidbeaaGreatDoor
