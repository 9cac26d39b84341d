import Derived.Deep.MidRow
import Derived.Defers
import Derived.Recover
import Derived.Test.YtmpkpphfoidbeaaGreatDoorV09
set_option linter.unusedVariables false
set_option linter.unusedSimpArgs false
namespace Go.Proofs.YtmpkpphfoidbeaaGreatDoor
open Go.RowKit
section
section
set_option maxRecDepth 100000
def Der.check (xs:List UInt8):Nat:=match Der.elem xs with
 | none=>9
 | some (t,body,_,rest)=>if rest=[] then Der.thr 15 t body else 9
set_option maxHeartbeats 400000 in
theorem jK (A:Option Addr) (n c:Nat) (xs:List UInt8) (w:World) (h:Rd w w.heap.size A n c xs) :
 Calls Tryz.prog 44 #[.slice A n c] w (iH (Der.check xs) w):=by
 obtain⟨V,hV⟩:∃V,Der.check xs=V:=⟨_,rfl⟩
 rw[hV];have HV:=hd1 hV;clear hV
 go_enter Tryz.func44,Tryz.ntmps44
 go_wp2_with fail
 refine(iz A n c xs _ _ h nl_).mono ?_;rintro e w1 ⟨hb1,⟨hno,rfl⟩|⟨t,body,raw,rest,A1,n1,c1,A2,n2,c2,A3,n3,c3,hel,rfl,h1,h2,h3⟩⟩
 ·have qk:=hb1.size
  have hv:=HV.out;unfold Der.check at hv;rw[hno]at hv;have HN:=hd1 hv;clear hno hv
  go_wp2
  go_ret
  exact iT (v:=9) HN.out aa
 ·have qk:=hb1.size
  have hv:=HV.out;unfold Der.check at hv;rw[hel]at hv;simp only at hv;have qc:=h3.len
  by_cases hr:rest=[]
  ·rw[if_pos hr]at hv
   subst hr;obtain rfl:n3=0:=by simpa using qc.symm
   have HN:=hd2 hv (h1.up hb1);have qg:=aw.new w1 84 #[.int .u8 (t.toNat:Int),.slice A1 n1 c1,.slice A2 n2 c2];obtain⟨hc,hf⟩:=qg.facts;clear hv qc h1 h2 h3 hel qg
   go_wp2_with fail
   refine(qT 15 1 rfl t A1 A2 n1 c1 n2 c2 body _ (HN.2.up aa)).mono ?_;rintro e w2 ⟨rfl,hb2⟩;have hs:=hb1.size;have qh:Below w.heap.size w w2:=Below.trans aa (hb2.mono ai)
   go_wp2
   go_ret
   exact iT HN.1 qh
  ·rw[if_neg hr]at hv
   have qd:0<rest.length:=List.length_pos_iff.2 hr;have qs:(0:Int)<n3:=ab
   have HN:=hd1 hv;clear hv qc h1 h2 h3 hel qd
   go_wp2
   go_ret
   exact iT (v:=9) HN.out aa
end
section
set_option maxRecDepth 100000
def CV.zero:CV:=⟨.slice none 0 0,.slice none 0 0,.slice none 0 0,.slice none 0 0,.slice none 0 0,⟨0,0,0,0,0,0⟩,⟨0,0,0,0,0,0⟩,.slice none 0 0,0,.slice none 0 0,⟨false,0,0,false⟩⟩
def CV.val (c:CV):Value:=.agg c.cells
theorem yw {w:World} {gc:Nat} {C:CV} (h:Bc w gc C) (D:CV) (hD:∀v∈D.cells.toList,v.oneCell'=true) :
 (storeCells ⟨gc,0,none⟩ D.cells.toList 0).run Tryz.prog w=.ok () (w.setRow gc D.cells):=by
 have:=run_storeCells_at (P:=Tryz.prog) gc 0 72 D.cells.toList 0 C.cells w h (by simp[CV.cells]) hD
 simpa [CV.cells]using this
theorem jJ:(Tryz.prog.info? 72).map (·.size)=some 24:=rfl
theorem jW {w:World} {gc:Nat} {C:CV} (h:Bc w gc C) (D:CV) (hD:∀v∈D.cells.toList,v.oneCell'=true) :
 (storeVar 72 ⟨gc,0,none⟩ (.agg D.cells)).run Tryz.prog w=.ok () (w.setRow gc D.cells):=by
 have h1:=yw h D hD
 cases hq:Tryz.prog.info? 72 with
 | none=>have:=jJ;rw[hq]at this;cases this
 | some i=>
  have hs:i.size=24:=by have:=jJ;rw[hq]at this;injection this
  simpa [storeVar,sizeOf,typeInfo,hq,Value.cells,hs,CV.cells]using h1
theorem cA {ops:Array Oper} {rest:List Oper} {op:Oper} {a:Act} {w:World} {Q:Exit→Act→World→Prop} (hgd:op.guard=none) (x y:Operand) (ho:op.op=.store 72 x y)
 (gc:Nat) (C D:CV) (hx:a.eval x=.pointer (some ⟨gc,0,none⟩)) (hy:a.eval y=.agg D.cells) (hB:Bc w gc C) (hD:∀v∈D.cells.toList,v.oneCell'=true)
 (h:∀w',Bc w' gc D→w.grownBy w' (some gc)→wpList Tryz.prog ops Q rest (a.put op.dst undef) w'):wpList Tryz.prog ops Q (op::rest) a w:=by
 refine wpList_plain hgd fun K hK=>?_
 unfold Oper.wp execOp;simp only[ho,hx,hy,Instr.storeAt,Instr.sureAddr,Sem.run_bind,Sem.run_pure,Result.andThen_ok,jW hB D hD];refine hK _ _ (h _ (setRow_heap w gc C.cells D.cells _ _ hB) ?_);refine⟨rfl,rfl,rfl,by simp[World.setRow],fun k hk hne=>?_⟩;unfold World.setRow;simp only[Array.getElem?_modify];rw[if_neg (fun e=>hne (by rw[e]))]
theorem de {P:Program} {ops:Array Oper} {rest:List Oper} {d:Option Tmp} {ty:TypeId} {pos:String} {af:Array Edge} {g:Option (Nat×Bool)} {x y:Operand} {a:Act} {w:World} {Q:Exit→Act→World→Prop}
 (h:wpList P ops Q ({dst:=d,op:=.store 72 x y,type:=ty,pos:=pos,after:=af,guard:=g}::rest) a w):wpList P ops Q ({dst:=d,op:=.store 72 x y,type:=ty,pos:=pos,after:=af,guard:=g}::rest) a w:=h
theorem jE {P:Program} {ops:Array Oper} {rest:List Oper} {d:Option Tmp} {ty:TypeId} {pos:String} {af:Array Edge} {g:Option (Nat×Bool)} {x:Operand} {a:Act} {w:World} {Q:Exit→Act→World→Prop}
 (h:wpList P ops Q ({dst:=d,op:=.load 72 x,type:=ty,pos:=pos,after:=af,guard:=g}::rest) a w):wpList P ops Q ({dst:=d,op:=.load 72 x,type:=ty,pos:=pos,after:=af,guard:=g}::rest) a w:=h
theorem CV.zero_cells:∀v∈CV.zero.cells.toList,v.oneCell'=true:=by
 intro v hv;simp only[CV.zero,CV.cells,List.mem_cons,List.not_mem_nil,or_false]at hv;rcases hv with rfl|rfl|rfl|rfl|rfl|rfl|rfl|rfl|rfl|rfl|rfl|rfl|rfl|rfl|rfl|rfl|rfl|rfl|rfl|rfl|rfl|rfl|rfl|rfl<;>rfl
set_option maxHeartbeats 4000000 in
theorem vq (gc ge:Nat) (C:CV) (x:Int) (w:World) (hB:Bc w gc C) (hE:aw w ge 29 #[.int .i64 x]) (hne:gc≠ge) :
 CallsD Tryz.prog 132 #[.pointer (some ⟨gc,0,none⟩),.pointer (some ⟨ge,0,none⟩)] (.panicking fR) w fun e u' w'=>
  e=.returned (.tuple #[])∧u'=.panicking [{v:=.iface 180 (.agg #[]),recovered:=true}]∧Bc w' gc CV.zero∧aw w' ge 29 #[.int .i64 9]∧∀B,B≤gc→B≤ge→Below B w w':=by
 refine callsD_of_wpS Tryz.func132 rfl fun c₀ cs hu=>?_
 have q0:=hB.lt;have qk:=hE.lt
 apply wpS_seq
 apply wpS_region
 have hr:Array.replicate 15 undef=#[undef,undef,undef,undef,undef,undef,undef,undef,undef,undef,undef,undef,undef,undef,undef]:=rfl;have q1:∀W:World,(Instr.typeAssert (.iface 180 (.agg #[])) 20 180 true).run Tryz.prog W=.ok (.tuple #[.agg #[],.bool true]) W:=fun W=>rfl
 simp[wpOpsS,go_sem,recoverD,hu,Tryz.ntmps132,Exit.thenS,fR,hr];refine wpS_of_wp ?_
 go_wp2_with (first
  | ((with_reducible refine de ?_);refine cA rfl _ _ rfl gc C CV.zero rfl rfl (hB.alloc _) CV.zero_cells ?_;intro w1 hB1 hg1;have qc:=(hE.alloc (.cells #[] 180)).grown hg1 (fun e=>by injection e with e;omega);have qh:=qc.cell 0;have qv:=qc.frozen 0;simp only[List.getElem?_toArray,List.getElem?_cons_zero]at qh)
  | go_in)
 have qg:=qc.set_ 0 (.int .i64 9);have qd:=aw.far hB1 (p:=⟨ge,0,none⟩) hne (.int .i64 9);simp[bodyPostS,results,Tryz.results132];refine⟨qd,qg,fun B h1 h2=>?_⟩;have qs:=hg1.size;simp at qs;exact(((Below.refl B w).alloc ab (.cells #[] 180)).grown hg1 ai (fun j hj=>by cases hj;exact h1)).setCell (by exact h2) _
theorem sQ (gc ge:Nat) (w:World) :
 CallsD Tryz.prog 132 #[.pointer (some ⟨gc,0,none⟩),.pointer (some ⟨ge,0,none⟩)] .returning w fun e u' w'=>e=.returned (.tuple #[])∧u'=.returning∧w'=w:=by
 refine callsD_of_wpS Tryz.func132 rfl fun c₀ cs hu=>?_
 apply wpS_seq
 apply wpS_region
 have hr:Array.replicate 15 undef=#[undef,undef,undef,undef,undef,undef,undef,undef,undef,undef,undef,undef,undef,undef,undef]:=rfl;simp[wpOpsS,go_sem,recoverD,hu,Tryz.ntmps132,Exit.thenS,hr];refine wpS_of_wp ?_
 go_wp2
 cases c₀
 simp_all [bodyPostS,results,Tryz.results132]
def Cert.read (b:List UInt8):Option (Sg×List UInt8):=(Cert.only b).bind fun x=>(Cert.parts 48 3 3 x).bind fun l=>
 (Cert.signed ⟨false,-1,-1,true⟩ (l.getD 0 El.none_)).bind fun s=>(Cert.method 11 (l.getD 1 El.none_)).bind fun _=>(Cert.whole (l.getD 2 El.none_)).bind fun g=>some (s,g)
inductive Cert.Ans where
 | no (e:Nat)
 | yes (s:Sg) (g:List UInt8)
def Cert.parse (b:List UInt8):Cert.Ans:=
 if 8192<b.length then .no 10 else if Der.check b≠0 then .no (Der.check b) else
  match Cert.read b with
  | none=>.no 9
  | some p=>.yes p.1 p.2
def Sg.cv (s:Sg) (vr vt vi vs ve vn vg:Value):CV:=⟨vr,vt,vi,vs,ve,s.from_,s.to,vn,s.e,vg,s.fl⟩
def uI (b:List UInt8) (w:World) (e:Ending) (w':World):Prop:=Below w.heap.size w w'∧
 ((∃n,Cert.parse b=.no n∧n≠0∧e=.returned (.tuple #[CV.zero.val,.int .i64 (n:Int)]))∨
   ∃s g vr vt vi vs ve vn vg,Cert.parse b=.yes s g∧e=.returned (.tuple #[(s.cv vr vt vi vs ve vn vg).val,.int .i64 0])∧
    (∀p∈[(vr,b),(vt,s.tbs),(vi,s.iss),(vs,s.sub),(ve,s.ser),(vn,s.n),(vg,g)],az w' w.heap.size w'.heap.size p.1 p.2)∧bQ [(vr,b),(vt,s.tbs),(vi,s.iss),(vs,s.sub),(ve,s.ser),(vn,s.n),(vg,g)])
theorem io {w:World} {gc:Nat} {C:CV} (h:Bc w gc C):(loadVar 72 ⟨gc,0,none⟩).run Tryz.prog w=.ok C.val w:=by
 have hk:=h.cell;have h0:=run_loadVar_mid (P:=Tryz.prog) w gc 0 72 C.cells.toList _ (fun j v hv=>by rw[Nat.zero_add,hk];simpa using hv) Tryz.underlying72 rfl rfl;exact h0
theorem mW {fn:Func} {t u:Tmp} {ty ty':TypeId} (h:fn.results=#[.cell t ty,.cell u ty']) (tmps:Array Value) (P:Program) (w:World) (ad ad':Addr) (v v':Value)
 (ha:tmps.getD t undef=.pointer (some ad)) (hl:(loadVar ty ad).run P w=.ok v w) (ha':tmps.getD u undef=.pointer (some ad')) (hl':(loadVar ty' ad').run P w=.ok v' w) :
 (results fn tmps).run P w=.ok (.tuple #[v,v']) w:=by
 simp only[Array.getD_eq_getD_getElem?]at ha ha';simp[results,h,ha,hl,ha',hl',asAddr]
theorem tC {w:World} {ge:Nat} {x:Int} (hE:aw w ge 29 #[.int .i64 x]):(loadVar 29 ⟨ge,0,none⟩).run Tryz.prog w=.ok (.int .i64 x) w:=by
 have he:=hE.cell 0;simp only[List.getElem?_toArray,List.getElem?_cons_zero]at he;simp[go_sem,he]
theorem ff {w:World} {gc ge:Nat} {C:CV} {x:Int} (tmps:Array Value) (h2:tmps.getD 2 undef=.pointer (some ⟨gc,0,none⟩)) (h3:tmps.getD 3 undef=.pointer (some ⟨ge,0,none⟩)) (hB:Bc w gc C) (hE:aw w ge 29 #[.int .i64 x]) :
 (results Tryz.f110 tmps).run Tryz.prog w=.ok (.tuple #[C.val,.int .i64 x]) w:=
 mW Tryz.results110 tmps _ w _ _ _ _ h2 (io hB) h3 (tC hE)
theorem ep {W:World} {l l':List (Value×List UInt8)} {lo mid hi:Nat} (h:∀p∈l,az W lo mid p.1 p.2) (h':∀p∈l',az W mid hi p.1 p.2) (ha:bQ l) (ha':bQ l'):bQ (l++l'):=by
 refine List.pairwise_append.2 ⟨ha,ha',fun p hp q hq g e1 e2=>?_⟩;have:=(h p hp).2 g e1;have:=((h' q hq).1.lt g e2).1;omega
def PS (w W:World) (C:CV):Prop:=Below w.heap.size w W∧Bc W w.heap.size C∧aw W (w.heap.size+1) 29 #[.int .i64 0]
theorem PS.grown {w W W':World} {C C':CV} (h:PS w W C) (hg:W.grownBy W' (some w.heap.size)) (hC:Bc W' w.heap.size C'):PS w W' C':=
 ⟨h.1.grown hg h.1.size (fun j hj=>by cases hj;exact Nat.le_refl _),hC,h.2.2.grown hg (fun e=>by injection e with e;omega)⟩
theorem PS.below {w W W':World} {C:CV} (h:PS w W C) (hb:Below W.heap.size W W'):PS w W' C:=h.grown (aH hb _) (h.2.1.below hb h.2.1.lt)
theorem az.grownC {w W W':World} {lo hi:Nat} {v:Value} {xs:List UInt8} (h:az W lo hi v xs) (hg:W.grownBy W' (some w.heap.size)) (hlo:w.heap.size<lo) (hhi:hi≤W.heap.size):az W' lo hi v xs:=
 h.keep fun k h1 h2=>hg.block k ab (fun e=>by injection e with e;omega)
theorem PS.rd {w W:World} {C:CV} {A:Option Addr} {n c:Nat} {b:List UInt8} (h:PS w W C) (hr:Rd w w.heap.size A n c b):Rd W W.heap.size A n c b:=(hr.below h.1).more h.1.size
def ka (w:World):List Deferred:=[{target:=.fn (.func 132) #[.pointer (some ⟨w.heap.size,0,none⟩),.pointer (some ⟨w.heap.size+1,0,none⟩)],args:=#[]}]
theorem eM {w W:World} {C:CV} {R:Ending→World→Prop} (tmps:Array Value) (h2:tmps.getD 2 undef=.pointer (some ⟨w.heap.size,0,none⟩)) (h3:tmps.getD 3 undef=.pointer (some ⟨w.heap.size+1,0,none⟩)) (h:PS w W C)
 (hR:∀W',Below w.heap.size w W'→R (.returned (.tuple #[CV.zero.val,.int .i64 9])) W') :
 bodyPostD Tryz.prog Tryz.f110 R (.panic fR) {tmps:=tmps,defers:=ka w} W:=by
 unfold ka;refine leaves_cons (f:=132) (args:=#[.pointer (some ⟨w.heap.size,0,none⟩),.pointer (some ⟨w.heap.size+1,0,none⟩)]) ag (by simp[go_sem]) ?_;refine(vq w.heap.size (w.heap.size+1) C 0 W h.2.1 h.2.2 ab).mono ?_;rintro e u' w'' ⟨rfl,rfl,hB,hE,hb⟩;simp only[settle,List.dropWhile];exact⟨_,ff _ h2 h3 hB hE,hR _ (Below.trans h.1 (hb _ nl_ ab))⟩
theorem oG {w W:World} {C:CV} {R:Ending→World→Prop} (tmps:Array Value) (h2:tmps.getD 2 undef=.pointer (some ⟨w.heap.size,0,none⟩)) (h3:tmps.getD 3 undef=.pointer (some ⟨w.heap.size+1,0,none⟩)) (h:PS w W C)
 (hR:R (.returned (.tuple #[C.val,.int .i64 0])) W) :
 bodyPostD Tryz.prog Tryz.f110 R .ret {tmps:=tmps,defers:=ka w} W:=by
 unfold ka;refine leaves_cons (f:=132) (args:=#[.pointer (some ⟨w.heap.size,0,none⟩),.pointer (some ⟨w.heap.size+1,0,none⟩)]) ag (by simp[go_sem]) ?_;refine(sQ w.heap.size (w.heap.size+1) W).mono ?_;rintro e u' w'' ⟨rfl,rfl,rfl⟩;exact⟨_,ff _ h2 h3 h.2.1 h.2.2,hR⟩
theorem eC {ops:Array Oper} {rest:List Oper} {op:Oper} {a:Act} {w:World} {Q:Exit→Act→World→Prop} (hgd:op.guard=none) (x:Operand) (ho:op.op=.load 72 x)
 (gc:Nat) (C:CV) (hx:a.eval x=.pointer (some ⟨gc,0,none⟩)) (hB:Bc w gc C) (h:wpList Tryz.prog ops Q rest (a.put op.dst C.val) w):wpList Tryz.prog ops Q (op::rest) a w:=by
 refine wpList_plain hgd fun K hK=>?_
 unfold Oper.wp execOp;simp only[ho,hx,Instr.loadAt,Instr.sureAddr,Sem.run_bind,Sem.run_pure,Result.andThen_ok,io hB];exact hK _ _ h
theorem gV {w:World} {lo hi:Nat} {v:Value} {xs:List UInt8} (h:az w lo hi v xs):v.oneCell'=true:=by
 obtain⟨A,n,c,rfl,_⟩:=h.rd
 rfl
theorem CV.one {C:CV} (h0:C.raw.oneCell'=true) (h1:C.tbs.oneCell'=true) (h2:C.iss.oneCell'=true) (h3:C.sub.oneCell'=true) (h4:C.ser.oneCell'=true) (h5:C.n.oneCell'=true) (h6:C.sig.oneCell'=true):∀v∈C.cells.toList,v.oneCell'=true:=by
 intro v hv;simp only[CV.cells,List.mem_cons,List.not_mem_nil,or_false]at hv;rcases hv with rfl|rfl|rfl|rfl|rfl|rfl|rfl|rfl|rfl|rfl|rfl|rfl|rfl|rfl|rfl|rfl|rfl|rfl|rfl|rfl|rfl|rfl|rfl|rfl<;>first|rfl|assumption
theorem wW {s s':Sg} {l:List El} (h:Cert.told8 s l=some s'):s'.tbs=s.tbs∧s'.iss=s.iss∧s'.sub=s.sub∧s'.ser=s.ser∧s'.from_=s.from_∧s'.to=s.to∧s'.n=s.n∧s'.e=s.e:=by
 unfold Cert.told8 at h
 split at h
 ·injection h with h;subst h;exact⟨rfl,rfl,rfl,rfl,rfl,rfl,rfl,rfl⟩
 ·simp only[Option.bind_eq_some_iff]at h
  obtain⟨_,_,_,_,_,_,_,_,h⟩:=h;injection h with h;subst h;exact⟨rfl,rfl,rfl,rfl,rfl,rfl,rfl,rfl⟩
theorem uf {f:Fl} {x:El} {s:Sg} (h:Cert.signed f x=some s):s.tbs=x.2.2:=by
 simp only[Cert.signed,Sg.a,Sg.b,Sg.c,Sg.d,Sg.e_,Sg.f,Sg.g,Sg.h,Sg.i,Sg.j,Option.bind_eq_some_iff]at h;obtain⟨_,_,_,_,_,_,_,_,_,_,_,_,_,_,_,_,_,_,_,_,_,_,_,_,_,_,h⟩:=h;exact(wW h).1
set_option maxHeartbeats 4000000 in
theorem mT (A:Option Addr) (n c:Nat) (b:List UInt8) (w:World) (h:Rd w w.heap.size A n c b) :
 Calls Tryz.prog 110 #[.slice A n c] w (uI b w):=by
 have v0:∀(fn:Fn) (first cap:Array Value) (w:World),(Instr.makeFunc fn first cap).run Tryz.prog w=.ok (.func fn first cap) w:=fun _ _ _ _=>rfl
 have j6:=h.len
 go_enter_defers Tryz.func110,Tryz.ntmps110
 have yd:Bc ((w.alloc (.cells CV.zero.cells 72)).alloc (.cells #[.int .i64 0] 29)) w.heap.size CV.zero:=aw.alloc (aw.new w _ _) _;have ys:aw ((w.alloc (.cells CV.zero.cells 72)).alloc (.cells #[.int .i64 0] 29)) (w.heap.size+1) 29 #[.int .i64 0]:=aw.new' _ _ ag
 by_cases h8:8192<n
 ·have va:(8192:Int)<n:=ab
  go_wp2_with (first
   | ((with_reducible refine de ?_);refine cA rfl _ _ rfl w.heap.size CV.zero CV.zero rfl rfl yd CV.zero_cells ?_;intro w1 j4 hg1;have q4:=ys.grown hg1 (fun e=>by injection e with e;omega);have q9:=q4.cell 0;have z1:=q4.frozen 0;simp only[List.getElem?_toArray,List.getElem?_cons_zero]at q9)
   | go_in)
  have q6:=q4.set_ 0 (.int .i64 10);have qg:=aw.far j4 (p:=⟨w.heap.size+1,0,none⟩) ag (.int .i64 10);refine⟨_,ff _ rfl rfl qg q6,?_,.inl ⟨10,by unfold Cert.parse;rw[if_pos ab],ab,rfl⟩⟩;exact(((Below.refl _ w).alloc nl_ _).alloc ag _ |>.grown hg1 (by have:=hg1.size;simp only[World.size_alloc]at this ⊢;omega) (fun j hj=>by cases hj;exact Nat.le_refl _)).setCell ag _
 have va:¬(8192:Int)<n:=ab
 have y3:Rd ((w.alloc (.cells CV.zero.cells 72)).alloc (.cells #[.int .i64 0] 29)) ((w.alloc (.cells CV.zero.cells 72)).alloc (.cells #[.int .i64 0] 29)).heap.size A n c b:=(((h.alloc nl_ _).alloc ag _).more ai)
 go_wp2_with fail
 refine(jK A n c b _ y3).mono ?_;rintro e w1 ⟨rfl,hb1⟩;have vp:=hb1.size;simp only[World.size_alloc]at vp;have q7:Below w.heap.size w w1:=Below.trans (((Below.refl _ w).alloc nl_ (.cells CV.zero.cells 72)).alloc ag (.cells #[.int .i64 0] 29)) (hb1.mono ai);have j4:=yd.below hb1 ai;have q4:=ys.below hb1 ag;have j0:Rd w1 w1.heap.size A n c b:=y3.up hb1;obtain⟨V,hV⟩:∃V,Der.check b=V:=⟨_,rfl⟩
 rw[hV];have HV:=hd5 hV q7 j4 q4 j0;have z5:=hd1 h;clear hV hb1 q7 j4 q4 y3 yd ys j0 h;have HN:=hd1 j6;clear j6
 by_cases hv:V=0
 rotate_left
 ·have v7:¬(V:Int)=0:=ab
  go_wp2_with (first
   | ((with_reducible refine de ?_);refine cA rfl _ _ rfl w.heap.size CV.zero CV.zero rfl rfl HV.out.2.2.1 CV.zero_cells ?_;intro w2 qg hg2;have q6:=HV.out.2.2.2.1.grown hg2 (fun e=>by injection e with e;omega);have q9:=q6.cell 0;have z1:=q6.frozen 0;simp only[List.getElem?_toArray,List.getElem?_cons_zero]at q9)
   | go_in)
  have vo:=q6.set_ 0 (.int .i64 V);have j5:=aw.far qg (p:=⟨w.heap.size+1,0,none⟩) ag (.int .i64 V);refine⟨_,ff _ rfl rfl j5 vo,?_,.inl ⟨V,by unfold Cert.parse;rw[if_neg (by have:=HN.out;omega),if_pos (by rw[HV.1];exact hv),HV.1],hv,rfl⟩⟩;exact(HV.2.1.grown hg2 (by have:=hg2.size;omega) (fun j hj=>by cases hj;exact Nat.le_refl _)).setCell ag _
 subst hv;have qd:Hid (Cert.parse b=match Cert.read b with|none=>.no 9|some p=>.yes p.1 p.2):=hd1 (by unfold Cert.parse;rw[if_neg (by have:=HN.out;omega),if_neg (by rw[HV.1];simp)]);have z2:Cert.read b=none→Cert.parse b=.no 9:=fun e=>by rw[qd.out,e]
 have q5:=hd1 z2;clear z2
 go_wp2_with fail
 refine(cu A n c b _ HV.2.2.2.2 ab).mono ?_;rintro e w2 ⟨A2,n2,c2,rfl,hO2,hb2⟩;have v1:=hb2.size;have qg:=HV.2.2.1.below hb2 ab;have zz:PS w w2 CV.zero:=⟨HV.2.1.trans (hb2.mono ab),qg,HV.2.2.2.1.below hb2 ab⟩
 have j1:=HV.2.2.2.2.up hb2;have H2:=hd3 zz hO2 j1;clear hb2 hO2 zz j1
 go_wp2_with (first
  | ((with_reducible refine de ?_);refine cA rfl _ _ rfl w.heap.size CV.zero {CV.zero with raw:=.slice A2 n2 c2,fl:=⟨false,-1,-1,true⟩} rfl rfl qg (by
      intro v hv;simp only[CV.zero,CV.cells,List.mem_cons,List.not_mem_nil,or_false]at hv;rcases hv with rfl|rfl|rfl|rfl|rfl|rfl|rfl|rfl|rfl|rfl|rfl|rfl|rfl|rfl|rfl|rfl|rfl|rfl|rfl|rfl|rfl|rfl|rfl|rfl<;>rfl) ?_;intro w3 j5 hg3)
  | fail)
 have j7:Hid (PS w w3 {CV.zero with raw:=.slice A2 n2 c2,fl:=⟨false,-1,-1,true⟩}):=hd1 (H2.1.grown hg3 j5);have v2:=hg3.size;have H3:=hd1 (H2.2.1.grownC hg3 ab nl_);clear qg j5 hg3;refine(gT A n c b _ (j7.out.rd z5.out) (by have:=HN.out;omega)).mono ?_;rintro e w4 ⟨hb4,⟨ho,rfl⟩|⟨⟨tx,bx,rx⟩,v,ho,rfl,A3,n3,c3,A4,n4,c4,rfl,hO4⟩⟩
 ·have HH:=hd2 ho (j7.out.below hb4)
  clear ho
  go_wp2
  exact eM _ rfl rfl HH.2 fun W' hb=>⟨hb,.inl ⟨9,q5.out (by unfold Cert.read;exact dz HH.1),ab,rfl⟩⟩
 have y6:=hd1 (j7.out.below hb4);have v3:=hb4.size;have H4:=hd1 (H3.out.below hb4 ab);have y0:=(az.rdx (hO4.rd (by simp:(Value.slice A3 n3 c3,bx)∈_)))
 have vt:n3≤n:=by have:=gU ho;have:=y0.len;have:=HN.out;simp at *;omega
 have qk:Hid (Cert.read b=(Cert.parts 48 3 3 (tx,bx,rx)).bind fun l=>(Cert.signed ⟨false,-1,-1,true⟩ (l.getD 0 El.none_)).bind fun s=>(Cert.method 11 (l.getD 1 El.none_)).bind fun _=>(Cert.whole (l.getD 2 El.none_)).bind fun g=>some (s,g)):=hd1 (by unfold Cert.read;exact dA ho);have j3:=hd1 y0;clear ho hb4 hO4 y0
 go_wp2_with fail
 refine(du tx A3 A4 n3 c3 n4 c4 48 3 3 bx rx _ j3.out ab).mono ?_;rintro e w5 ⟨hb5,⟨ho,rfl⟩|⟨l,v,ho,rfl,L,A5,n5,c5,rfl,hl,hE,j6⟩⟩
 ·have HH:=hd2 ho (y6.out.below hb5)
  clear ho
  go_wp2
  exact eM _ rfl rfl HH.2 fun W' hb=>⟨hb,.inl ⟨9,q5.out (qk.out.trans (dz HH.1)),ab,rfl⟩⟩
 have y1:=dE ho;obtain rfl:n5=3:=ab
 obtain⟨g,rfl,hg,hg2⟩:=hE.spot_ ab;have j8:=hd1 (y6.out.below hb5);have v4:=hb5.size;have H5:=hd1 (H4.out.below hb5 ab);obtain⟨t0,B1,m1,d1,b0,B2,m2,d2,r0,hd0,p0,p1,p2,R0,R1,hx0⟩:=hE.el hl (Below.refl w5.heap.size w5) nl_ 0 0 ab rfl;have vv:m1≤n:=by have:=(bO ho 0 hd0).1;have:=R0.len;have:=j3.out.len;simp at *;omega
 have qs:Hid (Cert.read b=(Cert.signed ⟨false,-1,-1,true⟩ (t0,b0,r0)).bind fun s=>(Cert.method 11 (l.getD 1 El.none_)).bind fun _=>(Cert.whole (l.getD 2 El.none_)).bind fun g=>some (s,g)):=hd1 (qk.out.trans ((dA ho).trans (by rw[hd0])));have HE:=hd5 ho hl hE R0 hx0;clear ho hl hE hb5 y1 j6 R0 R1 hd0 hx0 qk
 go_wp2_with fail
 refine(ue w.heap.size {CV.zero with raw:=.slice A2 n2 c2,fl:=⟨false,-1,-1,true⟩} t0 B1 B2 m1 d1 m2 d2 b0 r0 _ j8.2.1 HE.2.2.2.1 ab).mono ?_;rintro e w6 ⟨hg6,⟨ho,rfl,C',hC'⟩|⟨sg,v,ho,rfl,rfl,vi,vs,ve,vn,hB6,hrows,hap⟩⟩
 ·have HH:=hd2 ho (j8.out.grown hg6 hC')
  clear ho
  go_wp2
  exact eM _ rfl rfl HH.2 fun W' hb=>⟨hb,.inl ⟨9,q5.out (qs.out.trans (dz HH.1)),ab,rfl⟩⟩
 have y7:=hd1 (j8.out.grown hg6 hB6);have z3:=hg6.size;have H6:=hd1 (H5.out.grownC hg6 ab ab);have yv:=HE.2.2.1.keepRows (au.grown hg6 ab);obtain⟨t1,B3,m3,d3,b1,B4,m4,d4,r1,hq_1,q0,q1,q2,R0,R1,_⟩:=yv.el HE.2.1 (Below.refl _ w6) z3 1 3 ab rfl;have vw:m3≤n:=by have:=(bO HE.1 1 hq_1).1;have:=R0.len;have:=j3.out.len;simp at *;omega
 have qv:Hid (Cert.read b=(Cert.method 11 (t1,b1,r1)).bind fun _=>(Cert.whole (l.getD 2 El.none_)).bind fun g=>some (sg,g)):=hd1 (qs.out.trans ((dA ho).trans (by rw[hq_1])));have HS:=hd5 hrows hap yv R0 ho;clear ho hg6 hB6 hrows hap yv hq_1 R0 R1 qs p0 p1 p2
 go_wp2_with fail
 refine(jj t1 B3 B4 m3 d3 m4 d4 11 b1 r1 _ (HS.2.2.2.1.more z3) ab).mono ?_;rintro e w7 ⟨hb7,⟨ho,rfl⟩|⟨_,v,ho,rfl,rfl⟩⟩
 ·have HH:=hd2 ho (y7.out.below hb7)
  clear ho
  go_wp2
  exact eM _ rfl rfl HH.2 fun W' hb=>⟨hb,.inl ⟨9,q5.out (qv.out.trans (dz HH.1)),ab,rfl⟩⟩
 have zn:=hd1 (y7.out.below hb7);have v5:=hb7.size;have H7:=hd1 (H6.out.below hb7 ab);have yy:=HS.2.2.1.keepRows (au.below hb7 nl_);obtain⟨t2,B5,m5,d5,b2,B6,m6,d6,r2,hq_2,s0,s1,s2,R0,R1,_⟩:=yy.el HE.2.1 (Below.refl _ w7) ab 2 6 ab rfl;have vy:m5≤n:=by have:=(bO HE.1 2 hq_2).1;have:=R0.len;have:=j3.out.len;simp at *;omega
 have q3:Hid (Cert.read b=(Cert.whole (t2,b2,r2)).bind fun g=>some (sg,g)):=hd1 (qv.out.trans ((dA ho).trans (by rw[hq_2])));have HW:=hd3 yy R0 hb7;clear ho hb7 yy hq_2 R0 R1 qv q0 q1 q2
 go_wp2_with fail
 refine(oj t2 B5 B6 m5 d5 m6 d6 b2 r2 _ (HW.2.1.more ab) ab).mono ?_;rintro e w8 ⟨hb8,⟨ho,rfl⟩|⟨gs,v,ho,rfl,B7,m7,d7,rfl,hO8⟩⟩
 ·have HH:=hd2 ho (zn.out.below hb8)
  clear ho
  go_wp2
  exact eM _ rfl rfl HH.2 fun W' hb=>⟨hb,.inl ⟨9,q5.out (q3.out.trans (dz HH.1)),ab,rfl⟩⟩
 have j2:=hd1 (zn.out.below hb8);have v6:=hb8.size;have y5:Hid (Cert.parse b=.yes sg gs):=hd1 (by rw[qd.out,q3.out,ho];rfl);have HO:=hd2 hO8 hb8;have yh:=j2.2.1;have k0:w8.cell? ⟨w.heap.size,19,none⟩=some (.slice none 0 0):=yh.at_ 19;have k1:=yh.frozen 19;clear ho hb8 hO8 q3 s0 s1 s2;have zs:=yh.sig_ (.slice B7 m7 d7);have qc:=HS.1;have y2:=CV.one (C:={CV.zero with raw:=.slice A2 n2 c2,tbs:=.slice B2 m2 d2,iss:=vi,sub:=vs,ser:=ve,from_:=sg.from_,to:=sg.to,n:=vn,e:=sg.e,sig:=.slice B7 m7 d7,fl:=sg.fl}) rfl rfl (gV (qc (vi,sg.iss) ag)) (gV (qc (vs,sg.sub) ag)) (gV (qc (ve,sg.ser) ag)) (gV (qc (vn,sg.n) ag)) rfl
 go_wp2_with (first
  | ((with_reducible refine jE ?_);refine eC rfl _ rfl w.heap.size _ rfl zs ?_)
  | ((with_reducible refine de ?_);refine cA rfl _ _ rfl w.heap.size _ _ rfl rfl zs y2 ?_;intro w10 hB10 hg10;have qh:=(aw.far j2.out.2.2 (p:=⟨w.heap.size,19,none⟩) ag (.slice B7 m7 d7)).grown hg10 (fun e=>by injection e with e;omega);have q9:=qh.cell 0;have z1:=qh.frozen 0;simp only[List.getElem?_toArray,List.getElem?_cons_zero]at q9)
  | go_in)
 have y4:=hg10.size;simp only[World.size_setCell]at y4;have tr:∀(v:Value) (xs:List UInt8) (lo hi:Nat),w.heap.size+1<lo→hi≤w8.heap.size→az w8 lo hi v xs→az (w10.setCell ⟨w.heap.size+1,0,none⟩ (.int .i64 0)) lo hi v xs:=fun v xs lo hi h1 h2 h3=>
  ((h3.setCell (p:=⟨w.heap.size,19,none⟩) ai (.slice B7 m7 d7)).grownC hg10 ab (by simpa using h2)).setCell (p:=⟨w.heap.size+1,0,none⟩) ai _
 have ha:=tr _ _ _ _ ab ab (H7.out.below HO.2 ab);have hb:=tr _ _ _ _ ab ab ((HW.1.own2 HE.2.2.2.2).below HO.2 ab);have hc:∀p∈[(vi,sg.iss),(vs,sg.sub),(ve,sg.ser),(vn,sg.n)],az (w10.setCell ⟨w.heap.size+1,0,none⟩ (.int .i64 0)) (w5.heap.size+1) w6.heap.size p.1 p.2:=fun p hp=>
  tr _ _ _ _ ab ab (((qc p hp).below HW.2.2 nl_).below HO.2 ab)
 have hd:=tr _ _ _ _ ab ab HO.1;have z4:sg.tbs=r0:=uf HS.2.2.2.2;have z0:Below w.heap.size w (w10.setCell ⟨w.heap.size+1,0,none⟩ (.int .i64 0)):=
  ((j2.1.setCell (p:=⟨w.heap.size,19,none⟩) nl_ (.slice B7 m7 d7)).grown hg10 (by have:=j2.1.size;simp;omega) (fun j hj=>by cases hj;exact Nat.le_refl _)).setCell ag _
 refine oG _ rfl rfl ⟨z0,aw.far hB10 (p:=⟨w.heap.size+1,0,none⟩) ag _,qh.set_ 0 _⟩ ⟨z0,.inr ⟨sg,gs,.slice A2 n2 c2,.slice B2 m2 d2,vi,vs,ve,vn,.slice B7 m7 d7,y5.out,rfl,?_,?_⟩⟩
 ·intro p hp
  simp only[List.mem_cons,List.not_mem_nil,or_false]at hp;rcases hp with rfl|rfl|hp|hp|hp|hp|rfl
  ·exact ha.mono ab ai
  ·rw[z4];exact hb.mono ab ai
  ·exact(hc p (by simp[hp])).mono ab ai
  ·exact(hc p (by simp[hp])).mono ab ai
  ·exact(hc p (by simp[hp])).mono ab ai
  ·exact(hc p (by simp[hp])).mono ab ai
  ·exact hd.mono ab ai
 ·rw[z4]
  have o1:∀p∈[(Value.slice A2 n2 c2,b)],az (w10.setCell ⟨w.heap.size+1,0,none⟩ (.int .i64 0)) w1.heap.size w2.heap.size p.1 p.2:=fun p hp=>by obtain rfl:=List.mem_singleton.1 hp;exact ha
  have o2:∀p∈[(Value.slice B2 m2 d2,r0)],az (w10.setCell ⟨w.heap.size+1,0,none⟩ (.int .i64 0)) w2.heap.size w5.heap.size p.1 p.2:=fun p hp=>by obtain rfl:=List.mem_singleton.1 hp;exact hb.mono ab nl_
  have o4:∀p∈[(Value.slice B7 m7 d7,gs)],az (w10.setCell ⟨w.heap.size+1,0,none⟩ (.int .i64 0)) w6.heap.size w8.heap.size p.1 p.2:=fun p hp=>by obtain rfl:=List.mem_singleton.1 hp;exact hd.mono ab nl_
  have z6:=ep (fun p hp=>(hc p hp).mono (Nat.le_succ _) nl_) o4 HS.2.1 (by simp[bQ]);have z7:=ep (lo:=w2.heap.size) (hi:=w8.heap.size) o2 (fun p hp=>by
   rcases List.mem_append.1 hp with hp|hp
   ·exact(hc p hp).mono (Nat.le_succ _) ab
   ·exact(o4 p hp).mono ab nl_) (by simp[bQ]) z6
  exact ep (lo:=w1.heap.size) (mid:=w2.heap.size) (hi:=w8.heap.size) (l:=[(Value.slice A2 n2 c2,b)]) (l':=[(Value.slice B2 m2 d2,r0)]++([(vi,sg.iss),(vs,sg.sub),(ve,sg.ser),(vn,sg.n)]++[(Value.slice B7 m7 d7,gs)])) o1 (fun p hp=>by
   rcases List.mem_append.1 hp with hp|hp
   ·exact(o2 p hp).mono nl_ ab
   ·rcases List.mem_append.1 hp with hp|hp
    ·exact(hc p hp).mono ab ab
    ·exact(o4 p hp).mono ab nl_) (by simp[bQ]) z7
end
end
end Go.Proofs.YtmpkpphfoidbeaaGreatDoor
