import Derived.Test.YtmpkpphfoidbeaaGreatDoorV16
import Derived.Test.YtmpkpphfoidbeaaGreatDoorV17
set_option linter.unusedVariables false
set_option linter.unusedSimpArgs false
set_option maxRecDepth 100000
namespace Go.Proofs.YtmpkpphfoidbeaaGreatDoor
open Go.RowKit
section
variable {P : Program} {ops : Array Oper} {Q : Exit → Act → World → Prop} {a0 : Act} {J : Nat → Value → World → Prop} {G : World → Prop} {R : World → World → Prop}
def fI (ops:Array Oper) (t:Nat):Bool:=(List.range ops.size).all fun i=>decide ((ops[i]?).bind (·.dst)≠some t)
def fq (ops:Array Oper) (o:Oper) (j:Nat):Bool:=o.after.any fun e=>Region.binds .any e&&decide (e.on=j)&&decide (j<ops.size)
def aA (P:Program) (ops:Array Oper) (Q:Exit→Act→World→Prop) (a0:Act) (J:Nat→Value→World→Prop) (G:World→Prop) (R:World→World→Prop) (i:Nat) (o:Oper):Prop:=
 (∃j b,o.guard=some (j,b)∧fq ops o j=true∧(∀v w,J j v w→v≠.bool b)∧∀w,J i undef w)∨
 ((o.guard=none∨∃j b,o.guard=some (j,b)∧fq ops o j=true∧∀v w,J j v w→v=.bool b)∧
   ∀a w,(∀t,fI ops t=true→a.eval (.tmp t)=a0.eval (.tmp t))→G w→(∀j,fq ops o j=true→J j (bJ ops a j) w)→
    o.wp P a w (fun a' w'=>∃v,a'=a.put o.dst v∧(o.dst=none→v=undef)∧J i v w'∧R w w') Q)
theorem BO (ops:Array Oper) (a:Act) (j:Nat):yielded ops a.tmps j=match bJ ops a j with
 | .bool b=>some b
 | _=>none:=by
 unfold yielded bJ
 cases h:(ops[j]?).bind (·.dst) with
 | none=>simp[undef]
 | some d=>
  simp only[Option.bind_some,Act.eval,Array.getD_eq_getD_getElem?]
  cases h2:a.tmps[d]? with
  | none=>simp[undef]
  | some v=>cases v<;>simp
theorem kh {o:Oper} {a:Act} {j:Nat} {b:Bool} (hg:o.guard=some (j,b)):Region.wanted o (yielded ops a.tmps)=true↔bJ ops a j=.bool b:=by
 unfold Region.wanted;rw[hg];simp only[BO]
 constructor
 ·intro h
  split at h
  ·rename_i c hc
   rw[hc];simp at h;rw[h]
  ·simp at h
 ·intro h
  rw[h];simp
theorem qw (hRr:∀w,R w w) (hmono:∀i v w w',R w w'→J i v w→J i v w') (hGR:∀w w',G w→R w w'→G w') (hd:bp ops a0.tmps.size=true) (hA:eE ops=true)
 (hstep:∀i o,ops[i]? = some o→aA P ops Q a0 J G R i o)
 (hdone:∀a w,a.defers=a0.defers→a.tmps.size=a0.tmps.size→(∀t,fI ops t=true→a.eval (.tmp t)=a0.eval (.tmp t))→G w→(∀i,i<ops.size→J i (bJ ops a i) w)→Q .normal a w) :
 ∀(fuel:Nat) (listed:Array Bool) (a:Act) (w:World),listed.toList.count false≤fuel→Mk a0 ops J G listed a w→wpAny P .any ops Q fuel listed a w:=by
 have fin:∀(listed:Array Bool) (a:Act) (w:World),Mk a0 ops J G listed a w→Region.ready .any ops listed=[]→Q .normal a w:=fun listed a w h hr=>
  hdone a w h.defers h.size h.frame h.world fun i hi=>h.marks i hi (gn hA h.len hr i i nl_ hi)
 intro fuel
 induction fuel with
 | zero=>
  intro listed a w hc h;have hr:Region.ready .any ops listed=[]:=by
   refine List.eq_nil_iff_forall_not_mem.2 fun i hi=>?_
   have qg:i<ops.size:=by
    have:=(List.mem_filter.1 hi).1
    simpa using this
   have:=((dK (Array.getElem?_eq_getElem qg)).1 hi).1;have qh:i<listed.size:=by rw[h.len];exact qg
   have hf:false∈listed.toList:=by
    simp only[Array.getD,qh,dite_true]at this;rw[←this];simp
   have:=List.count_pos_iff.2 hf;omega
  exact⟨hr,fin _ _ _ h hr⟩
 | succ fuel ih=>
  intro listed a w hc h;refine⟨fin _ _ _ h,fun i hi=>?_⟩;have qg:i<ops.size:=by
   have:=(List.mem_filter.1 hi).1
   simpa using this
  have ho:ops[i]? = some ops[i]:=Array.getElem?_eq_getElem qg;have hr:=(dK ho).1 hi;have qh:i<listed.size:=by rw[h.len];exact qg
  have qk:listed[i]=false:=by simpa [Array.getD,qh]using hr.1
  have qd:(listed.setIfInBounds i true).toList.count false≤fuel:=by
   rw[Array.toList_setIfInBounds,List.count_set (by simpa using qh)];simp only[Array.getElem_toList,qk];have:0<listed.toList.count false:=List.count_pos_iff.2 (by rw[←qk];simp);simp only[show(false==false)=true from rfl,show(true==false)=false from rfl,if_true,Bool.false_eq_true,if_false];omega
  have qc:∀j,fq ops ops[i] j=true→J j (bJ ops a j) w:=fun j hj=>by
   obtain⟨e,he,hb⟩:=Array.any_eq_true'.1 hj;simp only[Bool.and_eq_true,decide_eq_true_eq]at hb;obtain⟨⟨hb1,rfl⟩,hb2⟩:=hb;exact h.marks _ hb2 (hr.2 e he hb1)
  unfold wpOp;rw[ho];simp only;rcases hstep i _ ho with⟨j,b,hg,hj,hJ,hu⟩|⟨hg,hs⟩
  ·rw[if_neg (fun hw=>hJ _ _ (qc j hj) ((kh hg).1 hw))]
   exact ih _ _ _ qd (h.step hmono hGR hd ho (fun _=>rfl) (hu w) (hRr w))
  ·rw[if_pos (by
    rcases hg with hg|⟨j,b,hg,hj,hJ⟩
    ·simp[Region.wanted,hg]
    ·exact(kh hg).2 (hJ _ _ (qc j hj)))]
   refine .inl (Oper.wp_mono ?_ (hs a w h.frame h.world qc));rintro a' w' ⟨v,rfl,hn,hJ,hB⟩;exact ih _ _ _ qd (h.step hmono hGR hd ho hn hJ hB)
def mE (P:Program) (ops:Array Oper) (Q:Exit→Act→World→Prop) (a0:Act) (J:Nat→Value→World→Prop) (G:World→Prop) (R:World→World→Prop):List Oper→Nat→Prop
 | [],_=>True
 | o::l,k=>aA P ops Q a0 J G R k o∧mE P ops Q a0 J G R l (k+1)
theorem mE.get:∀{l:List Oper} {k:Nat},mE P ops Q a0 J G R l k→∀i o,l[i]? = some o→aA P ops Q a0 J G R (k+i) o
 | [],_,_,i,o,h=>by simp at h
 | x::l,k,h,0,o,ho=>by
  simp only[List.getElem?_cons_zero,Option.some.injEq]at ho;subst ho;exact h.1
 | x::l,k,h,i+1,o,ho=>by
  have:=mE.get h.2 i o (by simpa using ho)
  rwa [show k+1+i=k+(i+1) by omega]at this
theorem bK {id:Nat} {w0:World} (J:Nat→Value→World→Prop) (G:World→Prop) (R:World→World→Prop) (hm:P.follows .mixedOrders=true) (hRr:∀w,R w w) (hmono:∀i v w w',R w w'→J i v w→J i v w') (hGR:∀w w',G w→R w w'→G w') (hd:bp ops a0.tmps.size=true) (hA:eE ops=true)
 (hG0:G w0.drew) (hstep:mE P ops Q a0 J G R ops.toList 0)
 (hdone:∀a w,a.defers=a0.defers→a.tmps.size=a0.tmps.size→(∀t,fI ops t=true→a.eval (.tmp t)=a0.eval (.tmp t))→G w→(∀i,i<ops.size→J i (bJ ops a i) w)→Q .normal a w) :
 (Code.region id ops true).wp P Q a0 w0:=by
 refine wp_region_any hm (qw hRr hmono hGR hd hA (fun i o ho=>?_) hdone _ _ _ _ ?_ ⟨ag,rfl,rfl,fun t _=>rfl,fun i hi h=>?_,hG0⟩)
 ·have:=mE.get hstep i o (by simpa using ho)
  rwa [Nat.zero_add]at this
 ·simp
 ·simp[Array.getD,hi]at h
variable {o : Oper} {i : Nat}
theorem aA.run (hg:o.guard=none)
 (h:∀a w,(∀t,fI ops t=true→a.eval (.tmp t)=a0.eval (.tmp t))→G w→(∀j,fq ops o j=true→J j (bJ ops a j) w)→o.wp P a w (fun a' w'=>∃v,a'=a.put o.dst v∧(o.dst=none→v=undef)∧J i v w'∧R w w') Q):aA P ops Q a0 J G R i o:=
 .inr ⟨.inl hg,h⟩
theorem aA.on (j:Nat) (b c:Bool) (hg:o.guard=some (j,c)) (hj:fq ops o j=true) (hv:∀v w,J j v w→v=.bool b) (hu:b≠c→∀w,J i undef w)
 (h:b=c→∀a w,(∀t,fI ops t=true→a.eval (.tmp t)=a0.eval (.tmp t))→G w→(∀j,fq ops o j=true→J j (bJ ops a j) w)→o.wp P a w (fun a' w'=>∃v,a'=a.put o.dst v∧(o.dst=none→v=undef)∧J i v w'∧R w w') Q):aA P ops Q a0 J G R i o:=by
 by_cases hbc:b=c
 ·exact .inr ⟨.inr ⟨j,c,hg,hj,fun v w hJ=>by rw[hv v w hJ,hbc]⟩,h hbc⟩
 ·exact .inl ⟨j,c,hg,hj,fun v w hJ e=>hbc (by have:=(hv v w hJ).symm.trans e;injection this),hu hbc⟩
theorem aA.may (j:Nat) (b p:Bool) (hg:o.guard=some (j,b)) (hj:fq ops o j=true) (hp:p=true→∀v w,J j v w→v=.bool b) (hn:p=false→∀v w,J j v w→v≠.bool b) (hu:p=false→∀w,J i undef w)
 (h:p=true→∀a w,(∀t,fI ops t=true→a.eval (.tmp t)=a0.eval (.tmp t))→G w→(∀j,fq ops o j=true→J j (bJ ops a j) w)→o.wp P a w (fun a' w'=>∃v,a'=a.put o.dst v∧(o.dst=none→v=undef)∧J i v w'∧R w w') Q):aA P ops Q a0 J G R i o:=by
 cases p with
 | true=>exact .inr ⟨.inr ⟨j,b,hg,hj,hp rfl⟩,h rfl⟩
 | false=>exact .inl ⟨j,b,hg,hj,hn rfl,hu rfl⟩
variable {a : Act} {w w' : World} {v : Value} {Ji : Value → World → Prop}
theorem bU (hn:o.dst≠none) (hrun:(execOp a.eval o).run P w=.ok (.value v) w) (hJ:Ji v w) (hR:R w w):o.wp P a w (fun a' w'=>∃v,a'=a.put o.dst v∧(o.dst=none→v=undef)∧Ji v w'∧R w w') Q:=by
 unfold Oper.wp;rw[hrun,Oper.upon_value];exact⟨v,rfl,fun e=>absurd e hn,hJ,hR⟩
theorem cP {x:Operand} (hn:o.dst≠none) (ho:o.op=.move x) (hx:a.eval x=v) (hJ:Ji v w) (hR:R w w):o.wp P a w (fun a' w'=>∃v,a'=a.put o.dst v∧(o.dst=none→v=undef)∧Ji v w'∧R w w') Q:=bU hn (by simp[execOp,ho,hx]) hJ hR
theorem gI {x:Operand} (hn:o.dst≠none) (ho:o.op=.assign x) (hx:a.eval x=v) (hJ:Ji v w) (hR:R w w):o.wp P a w (fun a' w'=>∃v,a'=a.put o.dst v∧(o.dst=none→v=undef)∧Ji v w'∧R w w') Q:=bU hn (by simp[execOp,ho,hx]) hJ hR
theorem dq {t:TypeId} {x:Operand} {ad:Addr} (hn:o.dst≠none) (ho:o.op=.load t x) (hx:a.eval x=.pointer (some ad)) (hl:(loadVar t ad).run P w=.ok v w) (hJ:Ji v w) (hR:R w w):o.wp P a w (fun a' w'=>∃v,a'=a.put o.dst v∧(o.dst=none→v=undef)∧Ji v w'∧R w w') Q:=
 bU hn (by simp[execOp,ho,hx,Instr.loadAt,Instr.sureAddr,hl]) hJ hR
theorem bV {f:FuncId} {fn:Func} {c:Code} {xs:Array Operand} {ts:Array TypeId} {args:Array Value} {S:Ending→World→Prop} (hn:o.dst≠none) (ho:o.op=.call {callee:=.value (.func f),args:=xs,argTypes:=ts})
 (hf:P.funcs[f]? = some fn) (hb:fn.body=some c) (hnm:fn.name≠"runtime.NumGoroutine") (ha:xs.map a.eval=args) (hc:Calls P f args w S) (h:∀e w'',S e w''→∃v,e=.returned v∧Ji v w''∧R w w''):o.wp P a w (fun a' w'=>∃v,a'=a.put o.dst v∧(o.dst=none→v=undef)∧Ji v w'∧R w w') Q:=by
 have qc:(execOp a.eval o).run P w=.ok (.enter f args) w:=by
  simp[execOp,ho,resolve,invoke,Deferred.ofValue,callFunc,hf,hb,hnm,ha,Act.eval]
 unfold Oper.wp;rw[qc,Oper.upon_enter];refine hc.mono fun e w'' hR=>?_
 obtain⟨v,rfl,hM,hR⟩:=h e w'' hR;exact⟨v,rfl,fun e=>absurd e hn,hM,hR⟩
theorem lx {c x y:Operand} (hn:o.dst≠none) (ho:o.op=.pick c x y) {b:Bool} (hc:a.eval c=.bool b) (hx:(if b then a.eval x else a.eval y)=v) (hJ:Ji v w) (hR:R w w):o.wp P a w (fun a' w'=>∃v,a'=a.put o.dst v∧(o.dst=none→v=undef)∧Ji v w'∧R w w') Q:=by
 refine bU hn ?_ hJ hR
 cases b<;>simp only[if_true,Bool.false_eq_true,if_false]at hx<;>simp only[execOp,ho,hc,hx,Sem.run_bind,Sem.run_pure,asBool,Result.andThen_ok]<;>rfl
end
def dT (ds:List (Option Tmp)) (vs:List Value) (b:Act):Act:=(ds.zip vs).foldl (fun b p=>b.put p.1 p.2) b
theorem nX (b:Act) (d:Option Tmp) (v:Value):(b.put d v).defers=b.defers∧(b.put d v).tmps.size=b.tmps.size:=by
 cases d with
 | none=>exact⟨rfl,rfl⟩
 | some d=>exact⟨rfl,by simp[Act.put]⟩
theorem lL:∀(l:List (Option Tmp×Value)) (b:Act),(l.foldl (fun b p=>b.put p.1 p.2) b).defers=b.defers∧(l.foldl (fun b p=>b.put p.1 p.2) b).tmps.size=b.tmps.size
 | [],b=>⟨rfl,rfl⟩
 | p::l,b=>by
  rw[List.foldl_cons];have h:=lL l (b.put p.1 p.2);have k:=nX b p.1 p.2;exact⟨h.1.trans k.1,h.2.trans k.2⟩
theorem ji:∀(l:List (Option Tmp×Value)) (b:Act) (t:Nat),(∀p∈l,p.1≠some t)→(l.foldl (fun b p=>b.put p.1 p.2) b).eval (.tmp t)=b.eval (.tmp t)
 | [],b,t,_=>rfl
 | p::l,b,t,h=>by
  rw[List.foldl_cons,ji l _ t fun q hq=>h q (by simp[hq])]
  cases hp:p.1 with
  | none=>rfl
  | some d=>exact Act.eval_put_ne b d t p.2 (fun e=>h p ag (by rw[hp,e]))
theorem rC:∀(l:List (Option Tmp×Value)) (b:Act) (t:Nat) (v:Value),t<b.tmps.size→(∀p∈l,p.1=some t→p.2=v)→(∃p∈l,p.1=some t)→(l.foldl (fun b p=>b.put p.1 p.2) b).eval (.tmp t)=v
 | [],b,t,v,_,_,h=>by obtain⟨p,hp,_⟩:=h;cases hp
 | p::l,b,t,v,ht,hv,h=>by
  rw[List.foldl_cons]
  by_cases hl:∃q∈l,q.1=some t
  ·exact rC l _ t v (by rw[(nX b p.1 p.2).2];exact ht) (fun q hq=>hv q (by simp[hq])) hl
  ·rw[ji l _ t fun q hq e=>hl ⟨q,hq,e⟩]
   have hp:p.1=some t:=by
    obtain⟨q,hq,e⟩:=h;rcases List.mem_cons.1 hq with rfl|hq
    ·exact e
    ·exact absurd ⟨q,hq,e⟩ hl
   rw[hp,hv p ag hp];exact Act.eval_put_same b t v ht
theorem zd {a b:Act} (hd:a.defers=b.defers) (hs:a.tmps.size=b.tmps.size) (h:∀t,t<b.tmps.size→a.eval (.tmp t)=b.eval (.tmp t)):a=b:=by
 obtain⟨t,d⟩:=a;obtain⟨t',d'⟩:=b;dsimp only at hd hs h;subst hd
 congr 1
 apply Array.ext hs
 intro i h1 h2;have:=h i h2
 simpa [Act.eval,Array.getD,h1,h2]using this
theorem dL {ops:Array Oper} {a0 a:Act} (VS:Nat→Value) (hd:bp ops a0.tmps.size=true) (hdef:a.defers=a0.defers) (hsz:a.tmps.size=a0.tmps.size)
 (hfr:∀t,fI ops t=true→a.eval (.tmp t)=a0.eval (.tmp t)) (hs:∀i,i<ops.size→bJ ops a i=VS i) :
 a=dT (ops.toList.map (·.dst)) ((List.range ops.size).map VS) a0:=by
 have hk:=lL ((ops.toList.map (·.dst)).zip ((List.range ops.size).map VS)) a0;have key:∀i,i<ops.size→((ops.toList.map (·.dst)).zip ((List.range ops.size).map VS))[i]? = some ((ops[i]?).bind (·.dst),VS i):=fun i hi=>by
  rw[List.getElem?_zip_eq_some];refine⟨?_,?_⟩
  ·rw[List.getElem?_map]
   simp[hi]
  ·simp[hi]
 have qg:∀p∈(ops.toList.map (·.dst)).zip ((List.range ops.size).map VS),∃i,i<ops.size∧p=((ops[i]?).bind (·.dst),VS i):=fun p hp=>by
  obtain⟨i,hi⟩:=List.mem_iff_getElem?.1 hp;have qd:i<ops.size:=by
   have:=(List.getElem?_eq_some_iff.1 hi).1;simp at this;exact this
  rw[key i qd]at hi;exact⟨i,qd,by injection hi with hi;exact hi.symm⟩
 refine zd (hdef.trans hk.1.symm) (hsz.trans hk.2.symm) fun t ht=>?_
 have qh:t<a0.tmps.size:=by rw[←hk.2];exact ht
 by_cases hn:fI ops t=true
 ·rw[hfr t hn]
  refine(ji _ _ t fun p hp e=>?_).symm;obtain⟨i,hi,rfl⟩:=qg p hp;unfold fI at hn;have:=List.all_eq_true.1 hn i (by simpa using hi);exact of_decide_eq_true this e
 ·obtain⟨i,hi,hie⟩:∃i,i<ops.size∧(ops[i]?).bind (·.dst)=some t:=by
   unfold fI at hn;rw[Bool.not_eq_true,List.all_eq_false]at hn;obtain⟨i,hi,h⟩:=hn;exact⟨i,by simpa using hi,by simpa using h⟩
  have qc:=hs i hi;unfold bJ at qc;rw[hie]at qc;dsimp only at qc;rw[qc];refine(rC _ _ t (VS i) qh (fun p hp e=>?_) ⟨_,List.mem_iff_getElem?.2 ⟨i,key i hi⟩,hie⟩).symm;obtain⟨j,hj,rfl⟩:=qg p hp;dsimp only at e;have h1:=List.all_eq_true.1 hd i (by simpa using hi);rw[hie]at h1;simp only[Bool.and_eq_true,List.all_eq_true,Bool.or_eq_true,decide_eq_true_eq]at h1;rcases h1.2 j (by simpa using hj) with h2|h2
  ·rw[h2]
  ·exact absurd e h2
theorem eD {ops:Array Oper} {a0 a:Act} (hd:bp ops a0.tmps.size=true) (hdef:a.defers=a0.defers) (hsz:a.tmps.size=a0.tmps.size)
 (hfr:∀t,fI ops t=true→a.eval (.tmp t)=a0.eval (.tmp t)):∃vs:Nat→Value,(∀i,bJ ops a i=vs i)∧a=dT (ops.toList.map (·.dst)) ((List.range ops.size).map vs) a0:=
 ⟨fun i=>bJ ops a i,fun _=>rfl,dL _ hd hdef hsz hfr fun _ _=>rfl⟩
def KU (B:Nat) (w w':World):Prop:=Below B w w'∧w.heap.size≤w'.heap.size∧∀g,g<w.heap.size→w'.heap[g]? = w.heap[g]?∨∃C,C.size≤15∧w.heap[g]? = some (.cells C 5 (0,0))∧w'.heap[g]? = some (.cells C 5 (C.size,C.size+1))
theorem KU.kr {B:Nat} {w w':World} (h:KU B w w'):KR B w w':=⟨h.1,h.2.1,fun g hg=>(h.2.2 g hg).imp id fun⟨C,h1,h2,h3⟩=>⟨C,_,h1,h2,h3⟩⟩
theorem KU.refl (B:Nat) (w:World):KU B w w:=⟨Below.refl _ _,Nat.le_refl _,fun g _=>.inl rfl⟩
theorem KU.below {B:Nat} {w w':World} (h:Below w.heap.size w w') (hB:B≤w.heap.size):KU B w w':=⟨h.mono hB,h.size,fun g hg=>.inl (h.block g hg)⟩
theorem KU.rdt {B:Nat} {w w':World} {v:Value} {xs:List UInt8} (h:KU B w w') (hr:aE w v xs):aE w' v xs:=by
 obtain⟨A,n,c,rfl,hr,ht⟩:=hr;refine⟨A,n,c,rfl,(hr.keep fun p hp=>h.kr.cell p hp).more h.2.1,fun ad e=>?_⟩;obtain⟨cs,fr,hg⟩:=ht ad e;rcases h.2.2 ad.block (Array.getElem?_eq_some_iff.1 hg).1 with e1|⟨C,_,e1,e2⟩
 ·exact⟨cs,fr,e1.trans hg⟩
 ·exact⟨_,_,e2⟩
theorem KU.xs {B lo:Nat} {w w':World} {v:Value} {l:List (Value×List UInt8)} (h:KU B w w') (hx:XS w lo v l):XS w' lo v l:=by
 refine⟨?_,fun p hp=>h.rdt (hx.2 p hp)⟩;obtain⟨⟨h1,h2⟩,h3⟩:=hx.1;refine⟨⟨h1,?_⟩,fun k hk=>Nat.lt_of_lt_of_le (h3 k hk) h.2.1⟩;rcases h2 with e|⟨g,cap,cur,rfl,hb,hg,r⟩
 ·exact .inl e
 ·refine .inr ⟨g,cap,cur,rfl,hb,?_,r⟩
  rcases h.2.2 g (h3 g rfl) with e|⟨C,_,e1,_⟩
  ·exact e.trans hg
  ·rw[hg]at e1
   injection e1 with e1
   injection e1 with e1 e3
   exact absurd e3 aj
theorem dW.rdt {n:Nat} {w:World} {v:Value} {xs:List UInt8} (h:dW (xs.map bv) n v w) (hn:xs.length=n) (hm:n≤1000):aE w v xs:=by
 have hr:=h.rdv hn hm;obtain⟨g,rfl,hg⟩:=h;obtain⟨A,m,c,e,hr⟩:=hr;injection e with e1 e2 e3
 subst e1 e2 e3;rcases hg with hg|hg<;>exact aE.blk hg hr
theorem zk {B n:Nat} {w:World} {v:Value} {xs:List UInt8} (h:dW (xs.map bv) n v w) (hn:xs.length=n) (hm:n≤15) (hB:∀g,v=.slice (some ⟨g,0,none⟩) n n→B≤g) :
 ∃w',(convert 22 22 v).run Tryz.prog w=.ok v w'∧KU B w w'∧aE w' v xs:=by
 obtain⟨g,rfl,hg⟩:=h;subst hn;have qs:=hB g rfl;have qv:g<w.heap.size:=by rcases hg with hg|hg<;>exact(Array.getElem?_eq_some_iff.1 hg).1
 have qk:w.shape? g=some (5,xs.length):=by
  unfold World.shape?;rcases hg with hg|hg<;>rw[hg]<;>simp
 have qg:(convert 22 22 (.slice (some ⟨g,0,none⟩) xs.length xs.length)).run Tryz.prog w=.ok (.slice (some ⟨g,0,none⟩) xs.length xs.length) (w.freeze ⟨g,xs.length,none⟩ 1):=by
  simp[convert,run_underlying Tryz.underlying22,run_underlying Tryz.underlying5,markStringish,qk]
 have qh:∀k,k≠g→(w.freeze ⟨g,xs.length,none⟩ 1).heap[k]? = w.heap[k]?:=fun k hk=>by
  unfold World.freeze;rw[if_neg ab];simp only[Array.getElem?_modify];rw[if_neg (fun e=>hk e.symm)]
 have qc:(w.freeze ⟨g,xs.length,none⟩ 1).heap[g]? = some (.cells (xs.map bv).toArray 5 (xs.length,xs.length+1)):=by
  unfold World.freeze;rw[if_neg ab];simp only[Array.getElem?_modify,if_true];rcases hg with hg|hg<;>rw[hg]<;>simp
 have q0:(w.freeze ⟨g,xs.length,none⟩ 1).heap.size=w.heap.size:=by
  unfold World.freeze;rw[if_neg ab];simp
 have qd:(w.freeze ⟨g,xs.length,none⟩ 1).os=w.os∧(w.freeze ⟨g,xs.length,none⟩ 1).tape=w.tape∧(w.freeze ⟨g,xs.length,none⟩ 1).output=w.output:=by
  unfold World.freeze;rw[if_neg ab];exact⟨rfl,rfl,rfl⟩
 refine⟨_,qg,⟨⟨qd.1,qd.2.1,qd.2.2,ab,fun k hk=>qh k ab⟩,ab,fun k hk=>?_⟩,?_⟩
 ·by_cases hkg:k=g
  ·subst hkg
   rcases hg with hg|hg
   ·exact .inr ⟨_,by simpa using hm,hg,by rw[qc];simp⟩
   ·exact .inl (by rw[qc,hg];simp)
  ·exact .inl (qh k hkg)
 ·exact dW.rdt ⟨g,rfl,.inr (by rw[qc];simp)⟩ rfl ab
section
variable {o : Oper} {a : Act} {w : World} {Q : Exit → Act → World → Prop} {J : Value → World → Prop} {B : Nat}
theorem cH {v:Value} (hrun:(execOp a.eval o).run Tryz.prog w=.ok (.value v) w) (hd:o.dst≠none) (hJ:J v w):o.wp Tryz.prog a w (KK a o J (KU B) w) Q:=eZ hrun ⟨_,rfl,fun h=>absurd h hd,hJ,KU.refl _ _⟩
theorem xu {x:Operand} (ho:o.op=.assign x) (hd:o.dst≠none) (hJ:J (a.eval x) w):o.wp Tryz.prog a w (KK a o J (KU B) w) Q:=om ho ⟨_,rfl,fun h=>absurd h hd,hJ,KU.refl _ _⟩
theorem di {x:Operand} (ho:o.op=.move x) (hd:o.dst≠none) (hJ:J (a.eval x) w):o.wp Tryz.prog a w (KK a o J (KU B) w) Q:=nz ho ⟨_,rfl,fun h=>absurd h hd,hJ,KU.refl _ _⟩
theorem dt {t:TypeId} {x:Operand} {ad:Addr} {v:Value} (ho:o.op=.load t x) (hd:o.dst≠none) (hx:a.eval x=.pointer (some ad)) (hl:(loadVar t ad).run Tryz.prog w=.ok v w) (hJ:J v w):o.wp Tryz.prog a w (KK a o J (KU B) w) Q:=
 sn ho hx hl ⟨_,rfl,fun h=>absurd h hd,hJ,KU.refl _ _⟩
theorem yU {n:Nat} {parts:Array (Nat×Operand)} {zs:List Int} {xs:List UInt8} (ho:o.op=.buildSlice 22 n parts) (hd:o.dst≠none) (hn:0<n) (hm:n≤1000) (hB:B≤w.heap.size)
 (hf:parts.toList=(zs.zipIdx 0).map fun x=>(x.2,Operand.const (Value.int .u8 x.1))) (hzs:zs=xs.map fun x=>(x.toNat:Int)) (hl:zs.length=n)
 (hJ:∀v w',dW (xs.map bv) n v w'→(∀g,v=.slice (some ⟨g,0,none⟩) n n→B≤g)→J v w'):o.wp Tryz.prog a w (KK a o J (KU B) w) Q:=by
 obtain⟨i0,hi0,hz0,hz1,hz2⟩:=info_parts eG;have qc:zs.map (Value.int .u8)=xs.map bv:=by rw[hzs,List.map_map];rfl
 refine wp_buildSlice 22 5 n parts ho (xs.map bv).toArray i0 _ Tryz.underlying22 hi0 hz0 (by rw[hz1];omega) (by rw[hz1];omega) ?_ ⟨_,rfl,fun h=>absurd h hd,hJ _ _ ⟨_,rfl,.inl (heap_alloc_new w _)⟩ (fun g e=>?_),KU.below (br_.alloc nl_ _) hB⟩
 ·rw[parts_eval a parts .u8 zs hf,hz1,qc]
  exact Great.fill_flat _ _ (fun v hv=>by obtain⟨n,_,rfl⟩:=List.mem_map.1 hv;rfl) (by rw[←qc];simp[hl])
 ·injection e with e;injection e with e;injection e with e;omega
def gm (lo:Nat) (xss:List (List UInt8)) (v:Value) (w:World):Prop:=∃l,XS w lo v l∧l.map (·.2)=xss
theorem KU.rowsT {B lo:Nat} {xss:List (List UInt8)} {v:Value} {w w':World} (h:KU B w w') (hj:gm lo xss v w):gm lo xss v w':=by
 obtain⟨l,h1,h2⟩:=hj;exact⟨l,h.xs h1,h2⟩
theorem uO {n:Nat} {parts:Array (Nat×Operand)} {l:List (Value×List UInt8)} (ho:o.op=.buildSlice 39 n parts) (hd:o.dst≠none) (hn:0<n) (hm:n≤1000) (hB:B≤w.heap.size)
 (hf:(parts.toList.map fun(i,x)=>(i,a.eval x))=((l.map (·.1)).zipIdx 0).map fun x=>(x.2,x.1)) (hl:l.length=n)
 (h:∀p∈l,aE w p.1 p.2) (hJ:∀v w',gm B (l.map (·.2)) v w'→J v w'):o.wp Tryz.prog a w (KK a o J (KU B) w) Q:=by
 obtain⟨i0,hi0,hz0,hz1,hz2⟩:=info_parts jb;refine wp_buildSlice 39 22 n parts ho (l.map (·.1)).toArray i0 _ Tryz.underlying39 hi0 hz0 (by rw[hz1];omega) (by rw[hz1];omega) ?_ ⟨_,rfl,fun h=>absurd h hd,hJ _ _ ⟨l,(XS.lit w l _ _ n rfl rfl hl hm h).lower hB,rfl⟩,KU.below (br_.alloc nl_ _) hB⟩;rw[Array.toList_map,hf,hz1];exact Great.fill_flat _ _ (fun v hv=>by
  obtain⟨p,hp,rfl⟩:=List.mem_map.1 hv;obtain⟨A,n,c,e,_⟩:=h p hp;rw[e];rfl) (by simp[hl])
theorem uN {n:Nat} {x:Operand} {xs:List UInt8} {v:Value} (ho:o.op=.convert 22 22 x) (hd:o.dst≠none) (hx:a.eval x=v) (h:dW (xs.map bv) n v w) (hn:xs.length=n) (hm:n≤15) (hB:∀g,v=.slice (some ⟨g,0,none⟩) n n→B≤g)
 (hJ:∀w',aE w' v xs→J v w'):o.wp Tryz.prog a w (KK a o J (KU B) w) Q:=by
 obtain⟨w',hr,hk,hv⟩:=zk h hn hm hB;exact eZ (w':=w') (by simp[execOp,ho,hx,hr]) ⟨_,rfl,fun h=>absurd h hd,hJ _ hv,hk⟩
theorem zc {k:Int} {t:UInt8} {x y:Operand} {ts:Array TypeId} {xs:List UInt8} (ho:o.op=.call {callee:=.value (.func 30),args:=#[x,y],argTypes:=ts}) (hd:o.dst≠none) (hk:(t.toNat:Int)=k)
 (hx:a.eval x=.int .u8 k) (hy:aJ w w.heap.size (a.eval y) xs) (hn:xs.length≤1099511627000) (hB:B≤w.heap.size) (hJ:∀v w',aE w' v (Der.write t xs)→J v w'):o.wp Tryz.prog a w (KK a o J (KU B) w) Q:=by
 obtain⟨A,n,c,e,hr⟩:=hy;refine ic ho Tryz.func30 rfl aj (args:=#[.int .u8 k,.slice A n c]) (by simp[hx,e]) (aL k t hk A n c xs w hr (by have:=hr.len;omega)) ?_;rintro en w' ⟨A',n',c',rfl,ho',hb'⟩;exact⟨_,rfl,_,rfl,fun h=>absurd h hd,hJ _ _ (aE.own ho'),KU.below hb' hB⟩
theorem BH {y:Operand} {ts:Array TypeId} {lo:Nat} {xss:List (List UInt8)} (ho:o.op=.call {callee:=.value (.func 32),args:=#[y],argTypes:=ts}) (hd:o.dst≠none)
 (hy:gm lo xss (a.eval y) w) (hn:xss.flatten.length≤1099511627000) (hm:xss.length≤1000) (hB:B≤w.heap.size) (hJ:∀v w',aE w' v (Ref.seq xss)→J v w'):o.wp Tryz.prog a w (KK a o J (KU B) w) Q:=by
 obtain⟨l,hx,rfl⟩:=hy;obtain⟨A,c,e,hr⟩:=hx.rdl;refine ic ho Tryz.func32 rfl aj (args:=#[.slice A l.length c]) (by simp[e]) (bu A _ c l w hr (by simp at hm;omega) (by unfold aZ;exact hn)) ?_;rintro en w' ⟨A',n',c',rfl,ho',hb'⟩;exact⟨_,rfl,_,rfl,fun h=>absurd h hd,hJ _ _ (aE.own ho'),KU.below hb' hB⟩
end
def Zc.oneB:List UInt8:=[2,1,1]
def Zc.shaAlg:List UInt8:=[48,13,6,9,96,134,72,1,101,3,4,2,1,5,0]
def Zc.rsaAlg:List UInt8:=[48,13,6,9,42,134,72,134,247,13,1,1,1,5,0]
def Zc.atB (a:List UInt8):List (List UInt8):=if 0<a.length then[Der.write 160 (((Der.elem a).map (·.2.1)).getD [])] else []
def Zc.one1 (i se a sg:List UInt8):List UInt8:=Ref.seq ([Zc.oneB,Ref.seq [i,Der.write 2 se],Zc.shaAlg]++Zc.atB a++[Zc.rsaAlg,Der.write 4 sg])
def o6 (B p:Nat) (vi vse:Value) (i se:List UInt8) (k:Nat) (v:Value) (w:World):Prop:=
 match k with
 | 0=>dW (Zc.oneB.map bv) 3 v w∧∀g,v=.slice (some ⟨g,0,none⟩) 3 3→B≤g
 | 1=>aE w v Zc.oneB
 | 2=>v=.pointer (some ⟨p,0,none⟩)
 | 3=>v=vi
 | 4=>v=.pointer (some ⟨p,1,none⟩)
 | 5=>v=vse
 | 6=>aE w v (Der.write 2 se)
 | 7=>gm B [i,Der.write 2 se] v w
 | 8=>aE w v (Ref.seq [i,Der.write 2 se])
 | 9=>dW (Zc.shaAlg.map bv) 15 v w∧∀g,v=.slice (some ⟨g,0,none⟩) 15 15→B≤g
 | 10=>aE w v Zc.shaAlg
 | _=>gm B [Zc.oneB,Ref.seq [i,Der.write 2 se],Zc.shaAlg] v w
theorem o6.up {B p:Nat} {vi vse:Value} {i se:List UInt8} (k:Nat) (v:Value) (w w':World) (hR:KU B w w') (h:o6 B p vi vse i se k v w):o6 B p vi vse i se k v w':=by
 match k,h with
 | 0,h|9,h=>exact⟨hR.kr.lit h.1,h.2⟩
 | 1,h|6,h|8,h|10,h=>exact hR.rdt h
 | 2,h|3,h|4,h|5,h=>exact h
 | 7,h=>exact hR.rowsT h
 | _+11,h=>exact hR.rowsT h
theorem uy {w:World} {l:List (Value×List UInt8)} {v:Value} {ops:Array Oper} {rest:List Oper} {o:Oper} {a:Act} {Q:Exit→Act→World→Prop} (hgd:o.guard=none) (s x:Operand)
 (ho:o.op=.call {callee:=.builtin .append,args:=#[s,x],argTypes:=#[39,39]})
 (lo:Nat) (hs:a.eval s=v) (hown:XS w lo v l) (hlo:lo≤w.heap.size)
 (g:Nat) (v1 v2:Value) (x1 x2:List UInt8) (hx:a.eval x=.slice (some ⟨g,0,none⟩) 2 2) (hg1:w.cell? ⟨g,0,none⟩=some v1) (hg2:w.cell? ⟨g,1,none⟩=some v2) (hgl:g<w.heap.size) (h1:aE w v1 x1) (h2:aE w v2 x2) (hlen:l.length≤1000)
 (h:∀v' w',XS w' lo v' (l++[(v1,x1),(v2,x2)])→Below lo w w'→wpList Tryz.prog ops Q rest (a.put o.dst v') w') :
 wpList Tryz.prog ops Q (o::rest) a w:=by
 have qd:v1.oneCell'=true:=by obtain⟨A,n,c,rfl,_⟩:=h1;rfl
 have qg:v2.oneCell'=true:=by obtain⟨A,n,c,rfl,_⟩:=h2;rfl
 refine bn hgd s x 39 ho 22 _ 1 24 jb Tryz.underlying39 rfl ab lo w.heap.size v l.length (l.map (·.1)) hs hown.1 hlo (g+1) _ 2 2 [v1,v2] hx ⟨rfl,fun _=>⟨_,rfl,ag,fun j u hu=>?_⟩⟩ (by simpa using⟨qd,qg⟩) ab ab ?_
 ·rcases j with _|_|j
  ·simp only[List.getElem?_cons_zero,Option.some.injEq]at hu;subst hu;exact hg1
  ·simp only[List.getElem?_cons_succ,List.getElem?_cons_zero,Option.some.injEq]at hu;subst hu;exact hg2
  ·simp at hu
 intro v' w' h1' h2' h3 h4;have qc:∀(g:Nat) (cs:Array Value) (fr:Nat×Nat),w.heap[g]? = some (Obj.cells cs 5 fr)→w'.heap[g]? = w.heap[g]?:=fun g cs fr hgg=>by
  refine h2'.block g (Array.getElem?_eq_some_iff.1 hgg).1 (fun e=>?_);rcases hown.1.1.2 with⟨e1,_⟩|⟨g0,cap,cur,e1,_,hg0,_⟩
  ·rw[e1]at e;simp[Value.ownBlock]at e
  ·rw[e1]at e
   simp[Value.ownBlock]at e;subst e;rw[hg0]at hgg;injection hgg with e2
   injection e2 with e3 e4
   exact absurd e4 aj
 refine h v' w' ⟨by rw[List.length_append,List.map_append];exact h1',fun p hp=>?_⟩ h4;rcases List.mem_append.1 hp with hp|hp
 ·exact(hown.2 p hp).keep h2'.size qc
 ·simp only[List.mem_cons,List.not_mem_nil,or_false]at hp
  rcases hp with rfl|rfl
  ·exact h1.keep h2'.size qc
  ·exact h2.keep h2'.size qc
theorem nU {i se a sg:List UInt8} (h0:i.length≤10000) (h1:se.length≤10000) (h2:a.length≤10000) (h3:sg.length≤10000) :
 ([Zc.oneB,Ref.seq [i,Der.write 2 se],Zc.shaAlg]++Zc.atB a++[Zc.rsaAlg,Der.write 4 sg]).flatten.length≤60000:=by
 have a1:=aC 2 se ab;have a2:=f9 i (Der.write 2 se) ab;have a3:=aC 4 sg ab;have e1:Zc.oneB.length=3:=rfl;have e2:Zc.shaAlg.length=15:=rfl;have e3:Zc.rsaAlg.length=15:=rfl;have a4:(Zc.atB a).flatten.length≤10010:=by
  unfold Zc.atB
  split
  ·have:(((Der.elem a).map (·.2.1)).getD []).length≤a.length:=by
    rcases he:Der.elem a with _|⟨t,b,r,q⟩
    ·simp
    ·simpa using(fp he).1
   have:=aC 160 (((Der.elem a).map (·.2.1)).getD []) ab;simp only[List.flatten_cons,List.flatten_nil,List.append_nil];omega
  ·simp
 simp only[List.flatten_append,List.flatten_cons,List.flatten_nil,List.append_nil,List.length_append];omega
set_option maxHeartbeats 8000000 in
theorem pZ (A0 A1 A2 A5:Option Addr) (n0 c0 n1 c1 n2 c2 n5 c5:Nat) (v3 v4:Value) (i se a sg:List UInt8) (w:World) (h0:aE w (.slice A0 n0 c0) i) (h1:Rd w w.heap.size A1 n1 c1 se) (h2:Rd w w.heap.size A2 n2 c2 a) (h5:Rd w w.heap.size A5 n5 c5 sg) (k0:i.length≤10000) (k1:n1≤10000) (k2:n2≤10000) (k5:n5≤10000) :
 Calls Tryz.prog 27 #[.agg #[.slice A0 n0 c0,.slice A1 n1 c1,.slice A2 n2 c2,v3,v4,.slice A5 n5 c5]] w (aO (Zc.one1 i se a sg) w):=by
 have hB:=aw.new w 54 #[.slice A0 n0 c0,.slice A1 n1 c1,.slice A2 n2 c2,v3,v4,.slice A5 n5 c5];obtain⟨w1,hw1⟩:∃W,W=w.alloc (.cells #[.slice A0 n0 c0,.slice A1 n1 c1,.slice A2 n2 c2,v3,v4,.slice A5 n5 c5] 54):=⟨_,rfl⟩
 have qg:Below w.heap.size w w1:=by rw[hw1];exact aB _ _
 have ys:w1.heap.size=w.heap.size+1:=by rw[hw1];simp
 have ll:=h1.len;rw[←hw1]at hB;have H0:=hd8 qg hB (h0.below qg) (h1.up qg) (h2.up qg) (h5.up qg) ll hw1;clear h0 h1 h2 h5 qg hB ll
 go_enter Tryz.func27,Tryz.ntmps27
 go_upto_region 1 with fail
 rw[←H0.2.2.2.2.2.2.2];clear hw1;have hk:∀V,Below w1.heap.size w1 V→aw V w.heap.size 54 #[.slice A0 n0 c0,.slice A1 n1 c1,.slice A2 n2 c2,v3,v4,.slice A5 n5 c5]∧aE V (.slice A0 n0 c0) i∧Rd V V.heap.size A1 n1 c1 se:=fun V hV=>⟨H0.2.1.below hV ab,H0.2.2.1.below hV,H0.2.2.2.1.up hV⟩
 refine bK (o6 w1.heap.size w.heap.size (.slice A0 n0 c0) (.slice A1 n1 c1) i se) (fun V=>Below w1.heap.size w1 V) (KU w1.heap.size) rfl (KU.refl _) o6.up (fun _ _ h h'=>h.trans h'.1) (by show bp _ 46=true;decide +kernel) ac br_.drew ⟨?_,?_,?_,?_,?_,?_,?_,?_,?_,?_,?_,?_,?_,trivial⟩ ?_
 ·refine aA.run rfl ?_;intro a' V hfr hG hdep
  exact yU (zs:=[2,1,1]) (xs:=Zc.oneB) rfl ag ab ab hG.size rfl rfl rfl (fun v w' h1 h2=>⟨h1,h2⟩)
 ·refine aA.run rfl ?_;intro a' V hfr hG hdep
  have d:dW (Zc.oneB.map bv) 3 (a'.eval (.tmp 7)) V∧∀g,a'.eval (.tmp 7)=.slice (some ⟨g,0,none⟩) 3 3→w1.heap.size≤g:=hdep 0 ac;exact uN rfl ag rfl d.1 rfl ab d.2 (fun w' h=>h)
 ·refine aA.run rfl ?_;intro a' V hfr hG hdep
  have d:a'.eval (.tmp 1)=.pointer (some ⟨w.heap.size,0,none⟩):=hfr 1 ac;exact cH (v:=.pointer (some ⟨w.heap.size,0,none⟩)) (by simp only[execOp,d];simp[go_sem,Act.eval]) ag rfl
 ·refine aA.run rfl ?_;intro a' V hfr hG hdep
  have d:a'.eval (.tmp 9)=.pointer (some ⟨w.heap.size,0,none⟩):=hdep 2 ac;exact dt rfl ag d (fV ((hk V hG).1.cell 0)) rfl
 ·refine aA.run rfl ?_;intro a' V hfr hG hdep
  have d:a'.eval (.tmp 1)=.pointer (some ⟨w.heap.size,0,none⟩):=hfr 1 ac;exact cH (v:=.pointer (some ⟨w.heap.size,1,none⟩)) (by simp only[execOp,d];simp[go_sem,Act.eval]) ag rfl
 ·refine aA.run rfl ?_;intro a' V hfr hG hdep
  have d:a'.eval (.tmp 11)=.pointer (some ⟨w.heap.size,1,none⟩):=hdep 4 ac;exact dt rfl ag d (fV ((hk V hG).1.cell 1)) rfl
 ·refine aA.run rfl ?_;intro a' V hfr hG hdep
  have d:a'.eval (.tmp 12)=.slice A1 n1 c1:=hdep 5 ac;exact zc (t:=2) rfl ag rfl rfl (by rw[d];exact aJ.mk (hk V hG).2.2) (by have:=H0.2.2.2.2.2.2.1;omega) hG.size (fun v w' h=>h)
 ·refine aA.run rfl ?_;intro a' V hfr hG hdep
  have d:a'.eval (.tmp 10)=.slice A0 n0 c0:=hdep 3 ac;have d2:aE V (a'.eval (.tmp 13)) (Der.write 2 se):=hdep 6 ac;exact uO (l:=[(a'.eval (.tmp 10),i),(a'.eval (.tmp 13),Der.write 2 se)]) rfl ag ab ab hG.size rfl rfl (by
   intro p hp;simp only[List.mem_cons,List.not_mem_nil,or_false]at hp;rcases hp with rfl|rfl
   ·rw[d];exact(hk V hG).2.1
   ·exact d2) (fun v w' h=>h)
 ·refine aA.run rfl ?_;intro a' V hfr hG hdep
  have d:gm w1.heap.size [i,Der.write 2 se] (a'.eval (.tmp 14)) V:=hdep 7 ac;exact BH rfl ag d (by have h1:=aC 2 se (by have:=H0.2.2.2.2.2.2.1;omega);have:=H0.2.2.2.2.2.2.1;simp;omega) ag hG.size (fun v w' h=>h)
 ·refine aA.run rfl ?_;intro a' V hfr hG hdep
  exact yU (zs:=[48,13,6,9,96,134,72,1,101,3,4,2,1,5,0]) (xs:=Zc.shaAlg) rfl ag ab ab hG.size rfl rfl rfl (fun v w' h1 h2=>⟨h1,h2⟩)
 ·refine aA.run rfl ?_;intro a' V hfr hG hdep
  have d:dW (Zc.shaAlg.map bv) 15 (a'.eval (.tmp 16)) V∧∀g,a'.eval (.tmp 16)=.slice (some ⟨g,0,none⟩) 15 15→w1.heap.size≤g:=hdep 9 ac;exact uN rfl ag rfl d.1 rfl ab d.2 (fun w' h=>h)
 ·refine aA.run rfl ?_;intro a' V hfr hG hdep
  have d:aE V (a'.eval (.tmp 8)) Zc.oneB:=hdep 1 ac;have d2:aE V (a'.eval (.tmp 15)) (Ref.seq [i,Der.write 2 se]):=hdep 8 ac;have d3:aE V (a'.eval (.tmp 17)) Zc.shaAlg:=hdep 10 ac;exact uO (l:=[(a'.eval (.tmp 8),Zc.oneB),(a'.eval (.tmp 15),Ref.seq [i,Der.write 2 se]),(a'.eval (.tmp 17),Zc.shaAlg)]) rfl ag ab ab hG.size rfl rfl (by
   intro p hp;simp only[List.mem_cons,List.not_mem_nil,or_false]at hp;rcases hp with rfl|rfl|rfl
   ·exact d
   ·exact d2
   ·exact d3) (fun v w' h=>h)
 ·refine aA.run rfl ?_;intro a' V hfr hG hdep
  have d:gm w1.heap.size [Zc.oneB,Ref.seq [i,Der.write 2 se],Zc.shaAlg] (a'.eval (.tmp 18)) V:=hdep 11 ac;exact xu rfl ag d
 intro a' w2 hd hsz hfr hG hJ;obtain⟨vs,hvs,ha⟩:=eD (by show bp _ 46=true;decide +kernel) hd hsz hfr;have j4:gm w1.heap.size [Zc.oneB,Ref.seq [i,Der.write 2 se],Zc.shaAlg] (vs 12) w2:=hvs 12▸hJ 12 aj;obtain⟨l,hx,hl⟩:=j4;obtain⟨A3,c3,hv12,hr3⟩:=hx.rdl;have q4:l.length=3:=by have:=congrArg List.length hl;simpa using this
 rw[q4]at hv12;have j2:w1.heap.size≤w2.heap.size:=hG.size;have q1:=H0.2.1.below hG ab;have j8:=q1.cell 2;have HX:=hd5 (hv12▸hx) hl hG q1 (H0.2.2.2.2.1.up hG);have j1:List.range 13=[0,1,2,3,4,5,6,7,8,9,10,11,12]:=rfl;simp only[dT,List.map_cons,List.map_nil,List.size_toArray,List.length_cons,List.length_nil,Nat.reduceAdd,j1,List.zip_cons_cons,List.zip_nil_left,List.foldl_cons,List.foldl_nil,Act.put,List.setIfInBounds_toArray,List.set_cons_zero,List.set_cons_succ,List.getD_cons_zero,List.getD_cons_succ,hv12]at ha;subst ha;have HL:=hd1 q4;clear j1 hd hsz hfr hG hJ hx hl hr3 q4 q1 hk hvs hv12;apply_assumption
 go_upto_if 22 with fail
 go_cut [3] from 4 (fun s3 wx=>∃l':List (Value×List UInt8),XS wx w1.heap.size s3 l'∧l'.map (·.2)=[Zc.oneB,Ref.seq [i,Der.write 2 se],Zc.shaAlg]++Zc.atB a∧Below w1.heap.size w1 wx)
 case first=>
  by_cases h0:0<n2
  ·have j3:(0:Int)<(n2:Int):=ab
   go_wp2_with fail
   refine(gW A2 n2 c2 a _ HX.2.2.2.2 ab).mono ?_;rintro e w3 ⟨hb3,⟨hno,rfl⟩|⟨t,body,raw,rest,B1,m1,d1,B2,m2,d2,B3,m3,d3,hel,rfl,hO⟩⟩
   ·have R3:Rd w3 w3.heap.size none 0 0 []:=(az.nil_ (w:=w3) (lo:=w3.heap.size) (hi:=w3.heap.size)).rdx
    have qh:Zc.atB a=[Der.write 160 []]:=by unfold Zc.atB;rw[if_pos (by have:=HX.2.2.2.2.len;omega),hno];rfl
    have q5:=hb3.size;have qc:=aB w3 (.cells #[.int .u8 0,.slice none 0 0,.slice none 0 0] 84);have HY:=hd4 (R3.up qc) ((HX.1.below hb3).below qc) qh (hb3.trans (qc.mono q5));clear R3 qh qc hb3
    go_wp2_with fail
    refine(aL 160 160 rfl none 0 0 [] _ HY.1 ab).mono ?_;rintro e w4 ⟨A4,n4,c4,rfl,ho4,hb4⟩;have qd:=hb4.size;have HZ:=hd3 (aE.own ho4) (HY.2.1.below hb4) hb4;have qk:w3.heap.size+1≤w4.heap.size:=by simpa using qd
    clear ho4 hb4 qd
    go_wp2_with (first
     | (at_builtin
        refine fF rfl (.tmp 30) (.tmp 34) rfl w1.heap.size _ l aq (HZ.2.1.alloc _) ai _ _ _ aq (fA _ _ _) ag (HZ.1.alloc _) (by have:=HL.out;omega) ?_;intro v9 w9 hx9 hb9)
     | fail)
    go_meet
    case rel=>exact⟨_,hx9,by rw[List.map_append,HX.2.1,HY.2.2.1];rfl,(HX.2.2.1.trans ((HY.2.2.2.mono j2).trans (HZ.2.2.mono ai))).trans (Below.trans (br_.alloc ab _) hb9)⟩
   ·have R3:Rd w3 w3.heap.size B1 m1 d1 body:=(hO.rd ag).rdx
    have yh:m1≤10000:=by have h1:=(fp hel).1;have h2:=HX.2.2.2.2.len;have h3:=R3.len;omega
    have qh:Zc.atB a=[Der.write 160 body]:=by unfold Zc.atB;rw[if_pos (by have:=HX.2.2.2.2.len;omega),hel];rfl
    have q5:=hb3.size;have qc:=aB w3 (.cells #[.int .u8 (t.toNat:Int),.slice B1 m1 d1,.slice B2 m2 d2] 84);have HY:=hd4 (R3.up qc) ((HX.1.below hb3).below qc) qh (hb3.trans (qc.mono q5));clear R3 qh qc hb3
    go_wp2_with fail
    refine(aL 160 160 rfl B1 m1 d1 body _ HY.1 ab).mono ?_;rintro e w4 ⟨A4,n4,c4,rfl,ho4,hb4⟩;have qd:=hb4.size;have HZ:=hd3 (aE.own ho4) (HY.2.1.below hb4) hb4;have qk:w3.heap.size+1≤w4.heap.size:=by simpa using qd
    clear ho4 hb4 qd
    go_wp2_with (first
     | (at_builtin
        refine fF rfl (.tmp 30) (.tmp 34) rfl w1.heap.size _ l aq (HZ.2.1.alloc _) ai _ _ _ aq (fA _ _ _) ag (HZ.1.alloc _) (by have:=HL.out;omega) ?_;intro v9 w9 hx9 hb9)
     | fail)
    go_meet
    case rel=>exact⟨_,hx9,by rw[List.map_append,HX.2.1,HY.2.2.1];rfl,(HX.2.2.1.trans ((HY.2.2.2.mono j2).trans (HZ.2.2.mono ai))).trans (Below.trans (br_.alloc ab _) hb9)⟩
  ·have j3:¬(0:Int)<(n2:Int):=ab
   go_wp2
   go_meet
   case rel=>exact⟨l,HX.1,by rw[HX.2.1];unfold Zc.atB;rw[if_neg (by have:=HX.2.2.2.2.len;omega)];rfl,HX.2.2.1⟩
 case rest=>
  obtain⟨l',hx',hl',hb'⟩:=hcut;obtain⟨wr,hwr⟩:∃W,W=wc:=⟨_,rfl⟩
  subst hwr;have q2:=H0.2.1.below hb' ab;have yv:w1.heap.size≤wr.heap.size:=hb'.size;have j5:=q2.cell 5;have j7:w.heap.size<wr.heap.size:=ab
  have q3:=(q2.alloc (.cells #[.int .u8 48,.int .u8 13,.int .u8 6,.int .u8 9,.int .u8 42,.int .u8 134,.int .u8 72,.int .u8 134,.int .u8 247,.int .u8 13,.int .u8 1,.int .u8 1,.int .u8 1,.int .u8 5,.int .u8 0] 5 (15,16))).cell 5;have q0:Below wr.heap.size wr (wr.alloc (.cells #[.int .u8 48,.int .u8 13,.int .u8 6,.int .u8 9,.int .u8 42,.int .u8 134,.int .u8 72,.int .u8 134,.int .u8 247,.int .u8 13,.int .u8 1,.int .u8 1,.int .u8 1,.int .u8 5,.int .u8 0] 5 (15,16))):=aB _ _;have R5:=(H0.2.2.2.2.2.1.up hb').up q0;have yd:=ft;have HC:=hd6 (aE.blk (heap_alloc_new wr _) (Rd.conv wr Zc.rsaAlg [.int .u8 48,.int .u8 13,.int .u8 6,.int .u8 9,.int .u8 42,.int .u8 134,.int .u8 72,.int .u8 134,.int .u8 247,.int .u8 13,.int .u8 1,.int .u8 1,.int .u8 1,.int .u8 5,.int .u8 0] 15 (15,16) rfl rfl ab)) (hx'.below q0) hl' hb' R5 q0;obtain⟨A3',c3',rfl,_⟩:=hx'.rdl;clear hx' hl' hb' q2 R5 q0;apply_assumption
  go_wp2_with fail
  refine(aL 4 4 rfl A5 n5 c5 sg _ HC.2.2.2.2.1 ab).mono ?_;rintro e w4 ⟨A4,n4,c4,rfl,ho4,hb4⟩;have qd:=hb4.size;have qk:wr.heap.size+1≤w4.heap.size:=by simpa using qd
  have HZ:=hd4 (aE.own ho4) (HC.2.1.below hb4) hb4 (HC.1.below hb4);clear ho4 hb4 qd;have hn:=(aw.new w4 22 #[.slice (some ⟨wr.heap.size,0,none⟩) 15 15,.slice A4 n4 c4])
  have q9:=hn.cell 0;have j0:=hn.cell 1;clear hn;have j6:l'.length≤1000:=by have:=congrArg List.length HC.2.2.1;simp[Zc.atB]at this;split at this<;>simp at this<;>omega
  go_wp2_with (first
   | (at_builtin
      refine uy rfl (.tmp 36) (.tmp 42) rfl w1.heap.size aq (HZ.2.1.alloc _) ai _ (.slice (some ⟨wr.heap.size,0,none⟩) 15 15) (.slice A4 n4 c4) Zc.rsaAlg (Der.write 4 sg) aq q9 j0 ag (HZ.2.2.2.alloc _) (HZ.1.alloc _) j6 ?_;intro v9 w9 hx9 hb9)
   | fail)
  have qs:=hb9.size;have HN:=hd2 hx9 hb9;obtain⟨A9,c9,rfl,hr9⟩:=hx9.rdl;have q7:(l'++[((.slice (some ⟨wr.heap.size,0,none⟩) 15 15:Value),Zc.rsaAlg),(.slice A4 n4 c4,Der.write 4 sg)]).map (·.2)=[Zc.oneB,Ref.seq [i,Der.write 2 se],Zc.shaAlg]++Zc.atB a++[Zc.rsaAlg,Der.write 4 sg]:=by rw[List.map_append,HC.2.2.1];rfl
  have q6:=nU (i:=i) (se:=se) (a:=a) (sg:=sg) k0 (by have:=H0.2.2.2.2.2.2.1;omega) (by rw[H0.2.2.2.2.1.len];omega) (by rw[H0.2.2.2.2.2.1.len];omega);have qv:=hd3 hr9 q7 q6;clear hx9 hb9 hr9 q7 q6 j5 q3 q9 j0
  go_wp2_with fail
  refine(bu A9 _ c9 _ w9 qv.1 ai (by unfold aZ;rw[qv.2.1];have:=qv.2.2;omega)).mono ?_;rintro e w10 ⟨A10,n10,c10,rfl,ho10,hb10⟩;have HT:=hd2 ho10 hb10;clear ho10 hb10
  go_wp2
  go_ret
  exact⟨_,_,_,rfl,by have h:=HT.1;rw[qv.2.1]at h;exact h.mono (by simp at qs;omega) nl_,((H0.1.trans (HC.2.2.2.1.mono ab)).trans ((HC.2.2.2.2.2.trans (HZ.2.2.1.mono ag)).mono ab)).trans (((aB w4 _).mono ab).trans ((HN.2.mono ab).trans (HT.2.mono (by simp at qs;omega))))⟩
def E.cOne:El:=El.mk 2 [1]
def E.sha:El:=El.mk 48 (ax [El.mk 6 Zc.sha,El.mk 5 []])
def E.rsaC:El:=El.mk 48 (ax [El.mk 6 Zc.rsa,El.mk 5 []])
theorem pi:E.cOne.2.2=Zc.oneB:=ac
theorem mZ:E.sha.2.2=Zc.shaAlg:=ac
theorem yB:E.rsaC.2.2=Zc.rsaAlg:=ac
theorem iK:El.wf E.cOne:=El.mk_wf aj aj
theorem hU:El.wf E.sha:=El.mk_wf aj ac
theorem mX:El.wf E.rsaC:=El.mk_wf aj ac
theorem aG {α β:Type} (a:α) (f:α→Except Nat β):(Except.ok a:Except Nat α).bind f=f a:=rfl
theorem cO {b:Bool} (h:b=true):Zc.form b=.ok ():=by subst h;rfl
theorem bD {u lo hi:Int} {x:El} {L:List El} (ht:(x.1.toNat:Int)=u) (hb:x.2.1=ax L) (hw:∀y∈L,El.wf y) (h1:lo≤(L.length:Int)) (h2:(L.length:Int)≤hi):Zc.parts u lo hi x=.ok L:=by
 unfold Zc.parts;rw[dN ht hb hw h1 h2]
theorem eu {u:Int} {x:El} (h:(x.1.toNat:Int)=u):Zc.body u x=.ok x.2.1:=by
 unfold Zc.body;rw[cO (by simp[h]),aG]
theorem kg {b:List UInt8} (h:(Der.oid b).isSome=true):Zc.oid (El.mk 6 b)=.ok b:=by
 unfold Zc.oid;show(Zc.form (Der.oid b).isSome).bind _=_;rw[cO h,aG,eu (u:=6) (x:=El.mk 6 b) rfl]
 rfl
theorem fX:Zc.hash E.sha=.ok ():=by
 unfold Zc.hash;rw[bD (u:=48) (x:=E.sha) (L:=[El.mk 6 Zc.sha,El.mk 5 []]) rfl rfl (fun y hy=>by
  simp only[List.mem_cons,List.not_mem_nil,or_false]at hy;rcases hy with rfl|rfl<;>exact El.mk_wf aj aj) ag ag,aG]
 exact cO ac
theorem kK:Zc.cipher E.rsaC=.ok ():=by
 unfold Zc.cipher;rw[bD (u:=48) (x:=E.rsaC) (L:=[El.mk 6 Zc.rsa,El.mk 5 []]) rfl rfl (fun y hy=>by
  simp only[List.mem_cons,List.not_mem_nil,or_false]at hy;rcases hy with rfl|rfl<;>exact El.mk_wf aj aj) ag ag,aG]
 exact cO ac
theorem kV:Zc.one E.cOne=.ok ():=cO ac
theorem og {x v who h c s w0 w1:El} {M:List El} (hp:Zc.parts 48 5 6 x=.ok ([v,who,h]++M++[c,s])) (hM:M.length≤1) (hw:Zc.parts 48 2 2 who=.ok [w0,w1])
 (h0:w0.1=48) (h1:w1.1=2) (hi:(Der.int w1.2.1).isSome=true) (hc:Zc.cipher c=.ok ()) (hs:s.1=4) :
 Zc.signer x=(Zc.one v).bind fun _=>(Zc.hash h).bind fun _=>(Zc.more ([v,who,h]++M++[c,s])).bind fun a=>.ok ⟨w0.2.2,w1.2.1,a.1,a.2.1,a.2.2,s.2.1⟩:=by
 unfold Zc.signer;rw[hp,aG]
 match M,hM with
 | [],_=>
  simp only[List.append_nil,List.cons_append,List.nil_append,List.getD_cons_zero,List.getD_cons_succ,List.length_cons,List.length_nil,Nat.zero_add,Nat.reduceAdd,Nat.reduceSub];rw[hw];simp only[aG,List.getD_cons_zero,List.getD_cons_succ];rw[eu (by rw[h0];rfl),eu (by rw[h1];rfl),hc,eu (by rw[hs];rfl)];simp only[aG,cO hi]
 | [y],_=>
  simp only[List.append_nil,List.cons_append,List.nil_append,List.getD_cons_zero,List.getD_cons_succ,List.length_cons,List.length_nil,Nat.zero_add,Nat.reduceAdd,Nat.reduceSub];rw[hw];simp only[aG,List.getD_cons_zero,List.getD_cons_succ];rw[eu (by rw[h0];rfl),eu (by rw[h1];rfl),hc,eu (by rw[hs];rfl)];simp only[aG,cO hi]
theorem zm {v a h w S:El} {C:List El} (hC:C.length≤1) (ha:Zc.parts 49 1 1 a=.ok [h]) :
 Zc.data ([v,a,w]++C++[S])=(Zc.one v).bind fun _=>(Zc.hash h).bind fun _=>(Zc.parts 48 1 2 w).bind fun what=>(Zc.oid (what.getD 0 El.none_)).bind fun k=>(Zc.inner what).bind fun c=>
  (match C with|[]=>(.ok []:Except Nat (List (List UInt8×Sg×List UInt8)))|y::_=>Zc.certs y).bind fun cs=>(Zc.signers S).bind fun ss=>.ok ⟨k,c,cs,ss⟩:=by
 unfold Zc.data Zc.some_
 match C,hC with
 | [],_=>
  simp only[List.append_nil,List.cons_append,List.nil_append,List.getD_cons_zero,List.getD_cons_succ,List.length_cons,List.length_nil,Nat.zero_add,Nat.reduceAdd,Nat.reduceSub];rw[ha]
  rfl
 | [y],_=>
  simp only[List.append_nil,List.cons_append,List.nil_append,List.getD_cons_zero,List.getD_cons_succ,List.length_cons,List.length_nil,Nat.zero_add,Nat.reduceAdd,Nat.reduceSub];rw[ha]
  rfl
theorem jL {x:El} (h:El.wf x) (hc:Der.check x.2.2=0):Zc.whole x.2.2=.ok x:=by
 unfold Zc.whole;have:=fC h [];rw[List.append_nil]at this;rw[hc,if_neg aj,this]
theorem sV {b:List UInt8} {n:Nat} (h:Der.check b=n) (hn:n≠0):Zc.whole b=.error n:=by
 unfold Zc.whole;rw[h,if_pos hn]
theorem qD {b:List UInt8} (hl:b.length≤65536) (h:Der.check b=9):Zc.parse b=.error 9:=by
 unfold Zc.parse;rw[if_neg ab,sV h aj]
 rfl
def E.bare (L:List El):El:=El.mk 48 (ax L)
def E.wrap (L:List El):El:=El.mk 48 (ax [El.mk 6 Zc.wrapped,El.mk 160 (ax [El.mk 48 (ax L)])])
theorem rp {L:List El} (hl:(E.bare L).2.2.length≤65536):El.wf (E.bare L):=by
 have:=cD 48 (ax L);exact El.mk_wf aj (by unfold E.bare El.mk at hl;simp only at hl;omega)
theorem l8 {L:List El} (hw:∀y∈L,El.wf y) (hd:∀y∈L,Der.thr 14 y.1 y.2.1=0) (h4:4≤L.length) (h5:L.length≤5) (hl:(E.bare L).2.2.length≤65536):Zc.parse (E.bare L).2.2=Zc.data L:=by
 have hx:=rp hl;unfold Zc.parse;rw[if_neg ab,jL hx (by rw[jd hx];exact aQ hw hd),aG];unfold Zc.read Zc.outer;rw[bD (u:=48) (x:=E.bare L) (L:=L) rfl rfl hw ab ab,aG,if_neg ab,aG,cO (by simpa using h4),aG]
theorem mD {L:List El} (hl:(E.wrap L).2.2.length≤65536):El.wf (E.wrap L)∧El.wf (El.mk 6 Zc.wrapped)∧El.wf (El.mk 160 (ax [El.mk 48 (ax L)]))∧El.wf (El.mk 48 (ax L)):=by
 have g1:=cD 48 (ax [El.mk 6 Zc.wrapped,El.mk 160 (ax [El.mk 48 (ax L)])]);have g2:=cD 160 (ax [El.mk 48 (ax L)]);have g3:=cD 48 (ax L);have e1:ax [El.mk 6 Zc.wrapped,El.mk 160 (ax [El.mk 48 (ax L)])]=(El.mk 6 Zc.wrapped).2.2++Der.write 160 (ax [El.mk 48 (ax L)]):=by rw[aN,aN,bP,List.append_nil];rfl
 have e2:ax [El.mk 48 (ax L)]=Der.write 48 (ax L):=by rw[aN,bP,List.append_nil];rfl
 have h1:(ax [El.mk 6 Zc.wrapped,El.mk 160 (ax [El.mk 48 (ax L)])]).length≤65536:=by unfold E.wrap El.mk at hl;simp only at hl;exact Nat.le_trans g1 hl
 have h2:(ax [El.mk 48 (ax L)]).length≤65536:=by rw[e1,List.length_append]at h1;omega
 rw[e2]at h2;exact⟨El.mk_wf aj ab,El.mk_wf aj aj,El.mk_wf aj (by rw[e2];omega),El.mk_wf aj ab⟩
theorem tI {L:List El} (hw:∀y∈L,El.wf y) (hd:∀y∈L,Der.thr 12 y.1 y.2.1=0) (h4:4≤L.length) (h5:L.length≤5) (hl:(E.wrap L).2.2.length≤65536):Zc.parse (E.wrap L).2.2=Zc.data L:=by
 obtain⟨hx,w1,w2,w3⟩:=mD hl;have qc:∀y∈[El.mk 6 Zc.wrapped,El.mk 160 (ax [El.mk 48 (ax L)])],El.wf y:=fun y hy=>by
  simp only[List.mem_cons,List.not_mem_nil,or_false]at hy;rcases hy with rfl|rfl
  ·exact w1
  ·exact w2
 have qd:∀y∈[El.mk 48 (ax L)],El.wf y:=fun y hy=>by rw[List.mem_singleton.1 hy];exact w3
 have hc:Der.check (E.wrap L).2.2=0:=by
  rw[jd hx];refine aQ (k:=14) qc fun y hy=>?_
  simp only[List.mem_cons,List.not_mem_nil,or_false]at hy;rcases hy with rfl|rfl
  ·exact bq _ rfl
  ·refine aQ (k:=13) qd fun y hy=>?_
   rw[List.mem_singleton.1 hy];exact aQ (k:=12) hw hd
 unfold Zc.parse;rw[if_neg ab,jL hx hc,aG];unfold Zc.read Zc.outer;rw[bD (u:=48) (x:=E.wrap L) (L:=[El.mk 6 Zc.wrapped,El.mk 160 (ax [El.mk 48 (ax L)])]) rfl rfl qc ag ag,aG,if_pos (show[El.mk 6 Zc.wrapped,El.mk 160 (ax [El.mk 48 (ax L)])].length=2 from rfl)];simp only[List.getD_cons_zero,List.getD_cons_succ];rw[cO ac,aG,bD (u:=160) (x:=El.mk 160 (ax [El.mk 48 (ax L)])) (L:=[El.mk 48 (ax L)]) rfl rfl qd ag ag,aG];simp only[List.getD_cons_zero];rw[bD (u:=48) (x:=El.mk 48 (ax L)) (L:=L) rfl rfl hw ab ab,aG,cO (by simpa using h4),aG]
theorem nJ:∀(L:List El) (last:List UInt8),(last=[]∨∀y∈L,Op.bytesLess y.2.2 last=false)→eo (L.map (·.2.2))→Der.chain last (L.map some)=true
 | [],_,_,_=>rfl
 | (t,b,r)::L,last,hl,ho=>by
  rw[List.map_cons]at ho;obtain⟨h1,h2⟩:=List.pairwise_cons.1 ho;rw[List.map_cons,Der.chain,nJ L r (.inr fun y hy=>h1 _ (List.mem_map_of_mem hy)) h2,Bool.and_true];rcases hl with rfl|hl
  ·rw[Der.less_nil];rfl
  ·rw[hl (t,b,r) List.mem_cons_self];rfl
theorem pn {L:List El} (hw:∀y∈L,El.wf y) (ho:eo (L.map (·.2.2))):Zc.isSet (ax L)=true:=by
 unfold Zc.isSet;rw[jX hw];exact nJ L [] (.inl rfl) ho
theorem iq:∀{L:List El},(∀y∈L,El.wf y)→L.length≤(ax L).length
 | [],_=>Nat.zero_le _
 | x::L,h=>by
  rw[aN,List.length_append,List.length_cons];have:=mB (h x List.mem_cons_self);have:=iq (fun y hy=>h y (List.mem_cons_of_mem _ hy));omega
theorem mu {x:El} {L:List El} (ht:x.1=49) (hb:x.2.1=ax L) (hw:∀y∈L,El.wf y) (h1:1≤L.length) (ho:eo (L.map (·.2.2))) :
 Zc.signers x=(Zc.must (decide (L.length≤8)) 10).bind fun _=>Zc.each Zc.signer L:=by
 have qc:L.length≤(ax L).length:=iq hw;unfold Zc.signers;rw[bD (u:=49) (x:=x) (L:=L) (by rw[ht];rfl) hb hw ab (by rw[hb];omega),aG,cO (by rw[hb];exact pn hw ho),aG]
def E.aK (k:List UInt8):El:=El.mk 48 (ax [El.mk 6 Zc.kind,El.mk 49 (ax [El.mk 6 k])])
def E.aD (d:List UInt8):El:=El.mk 48 (ax [El.mk 6 Zc.digest,El.mk 49 (ax [El.mk 4 d])])
theorem aX (x:El):ax [x]=x.2.2:=by rw[aN,bP,List.append_nil]
theorem bH (x y:El):ax [x,y]=x.2.2++y.2.2:=by rw[aN,aX]
theorem lD (k:List UInt8):(E.aK k).2.2=Zc.attrK k:=by
 unfold E.aK Zc.attrK Ref.seq;rw[aR,bH,aX,aR,aR,aR];simp
theorem lC (k:List UInt8):(E.aD k).2.2=Zc.attrD k:=by
 unfold E.aD Zc.attrD Ref.seq;rw[aR,bH,aX,aR,aR,aR];simp
def Zc.peB (d:List UInt8):List UInt8:=Ref.seq [Ref.seq [Der.write 6 Zc.pe,Ref.seq []],Ref.seq [Zc.shaAlg,Der.write 4 d]]
theorem yt (xs:List UInt8) (hx:xs.length=32):(Der.write 6 Zc.pe).length≤16∧(Ref.seq []).length≤6∧(Der.write 4 xs).length≤38∧Zc.shaAlg.length=15∧(Ref.seq [Der.write 6 Zc.pe,Ref.seq []]).length≤30∧(Ref.seq [Zc.shaAlg,Der.write 4 xs]).length≤60:=by
 have a1:=aC 6 Zc.pe aj;have e1:Zc.pe.length=10:=rfl;have a2:(Ref.seq []).length≤6:=by have:=aC 48 ([]:List (List UInt8)).flatten aj;simpa [Ref.seq]using this.1
 have a3:=aC 4 xs ab;have e2:Zc.shaAlg.length=15:=rfl;have a4:=f9 (Der.write 6 Zc.pe) (Ref.seq []) ab;have a5:=f9 Zc.shaAlg (Der.write 4 xs) ab;omega
set_option maxHeartbeats 8000000 in
theorem zT (xs:List UInt8) (hx:xs.length=32) (w:World) :
 Calls Tryz.prog 26 #[.agg (xs.map bv).toArray] w (aO (Zc.peB xs) w):=by
 have H:=hd1 hx;clear hx
 go_enter Tryz.func26,Tryz.ntmps26
 go_wp2_with fail
 obtain⟨w1,hw1⟩:∃W,W=w.alloc (.cells (xs.map bv).toArray 47):=⟨_,rfl⟩
 rw[←hw1];have qv:aw w1 w.heap.size 47 (xs.map bv).toArray:=by rw[hw1];exact aw.new _ _ _
 have q1:Below w.heap.size w w1:=by rw[hw1];exact aB _ _
 have j3:w1.heap.size=w.heap.size+1:=by rw[hw1];simp
 have H1:=hd2 qv q1;clear qv q1 hw1
 go_loopw [3,4] (fun v i wr=>∃k:Nat,k≤32∧i=.int .i64 k∧az wr w1.heap.size wr.heap.size v (xs.take k)∧Below w1.heap.size w1 wr) (fun _ i _=>32 - (intOf i).toNat)
 case atStart=>exact⟨0,ab,rfl,by simpa using az.nil_,Below.refl _ _⟩
 case round=>
  obtain⟨k,hk,rfl,ho,hb⟩:=hrel;obtain⟨wq,hwq⟩:∃W,W=wr:=⟨_,rfl⟩
  subst hwq;have q9:=hb.size;obtain⟨Av,mv,dv,rfl,hrv⟩:=ho.rd
  by_cases hlt:k<32
  ·have q4:(k:Int)<32:=ab
   obtain⟨x,hx⟩:∃x,xs[k]? = some x:=⟨_,List.getElem?_eq_getElem (by rw[H.out];exact hlt)⟩
   have hc:wq.cell? ⟨w.heap.size,k,none⟩=some (.int .u8 (x.toNat:Int)):=by rw[(H1.1.below hb ab).cell k];simp[hx,bv]
   have HO:=hd3 ho hb hx;have j2:(xs.take k).length≤32:=by rw[List.length_take];omega
   clear ho hb hx hrv
   go_wp2_with (first
    | (at_builtin
       refine aP rfl (.tmp 10) (.tmp 14) rfl w1.heap.size wq.heap.size _ (xs.take k) rfl (HO.1.alloc nl_ _) ai _ _ _ _ [x] rfl (Rd.lit wq 5 [x] [.int .u8 (x.toNat:Int)] wq.heap.size 1 rfl rfl rfl ab).rds ab ?_;intro v2 w2 ho2 hg2 hat2 hb2)
    | fail)
   go_roundw
   case rel=>exact⟨k+1,ab,by go_num,by rw[List.take_add_one,HO.2.2];exact ho2,HO.2.1.trans (Below.trans (br_.alloc q9 _) hb2)⟩
   case measure=>simp[intOf];omega
  ·obtain rfl:k=32:=ab
   rw[List.take_of_length_le (by rw[H.out];omega)]at ho;have q2:=aM ho;have HO:=hd3 ho hb q2;have q5:mv=32:=by have:=H.out;omega
   subst q5;clear ho hb q2 hrv;have j1:=ft
   go_wp2_with fail
   refine(aL 6 6 rfl _ 10 10 Zc.pe _ (Rd.conv wq Zc.pe [.int .u8 43,.int .u8 6,.int .u8 1,.int .u8 4,.int .u8 1,.int .u8 130,.int .u8 55,.int .u8 2,.int .u8 1,.int .u8 15] 10 (10,11) rfl rfl ab) ab).mono ?_;rintro e w2 ⟨A2,n2,c2,rfl,ho2,hb2⟩;have qh:=(aB wq _).trans (hb2.mono ag);have j4:=qh.size;have H2:=hd3 (aE.own ho2) (HO.1.below qh nl_) qh;clear ho2 hb2 qh
   go_wp2_with fail
   have qg:dn w2 w2.heap.size none 0 0 []:=by
    obtain⟨A,c,e,h⟩:=(XS.nil_ (w:=w2) (lo:=0)).rdl;injection e with e1 e2 e3
    subst e1 e3;exact h
   refine(bu none 0 0 [] w2 qg ab (show(aZ []).length≤1099511627000 from Nat.zero_le _)).mono ?_;rintro e w3 ⟨A3,n3,c3,rfl,ho3,hb3⟩;have q6:=hb3.size;have H3:=hd3 (aE.own ho3) (H2.1.below hb3) hb3;clear ho3 hb3 qg;have j0:=yt xs H.out
   go_wp2_with fail
   refine(bu _ 2 2 [(.slice A2 n2 c2,Der.write 6 Zc.pe),(.slice A3 n3 c3,Ref.seq [])] _ (jm w3 _ _ _ _ H3.2.1.rdv H3.1.rdv) ab (by rw[iy];omega)).mono ?_;rintro e w4 ⟨A4,n4,c4,rfl,ho4,hb4⟩;have qs:=(aB w3 _).trans (hb4.mono ag);have j5:=qs.size;have qd:=H3.2.2.trans (qs.mono q6);have H4:=hd3 (aE.own ho4) (H2.2.1.below qd (Nat.le_trans H2.2.2.size nl_)) qd;clear ho4 hb4 qs qd;have qc:=aB w4 (.cells #[.int .u8 48,.int .u8 13,.int .u8 6,.int .u8 9,.int .u8 96,.int .u8 134,.int .u8 72,.int .u8 1,.int .u8 101,.int .u8 3,.int .u8 4,.int .u8 2,.int .u8 1,.int .u8 5,.int .u8 0] 5 (15,16));have HC:=hd4 (aE.blk (heap_alloc_new w4 _) (Rd.conv w4 Zc.shaAlg [.int .u8 48,.int .u8 13,.int .u8 6,.int .u8 9,.int .u8 96,.int .u8 134,.int .u8 72,.int .u8 1,.int .u8 101,.int .u8 3,.int .u8 4,.int .u8 2,.int .u8 1,.int .u8 5,.int .u8 0] 15 (15,16) rfl rfl ab)) (H4.1.below qc) ((H4.2.1.below qc ab).mono nl_ (show wq.heap.size≤(w4.alloc (.cells #[.int .u8 48,.int .u8 13,.int .u8 6,.int .u8 9,.int .u8 96,.int .u8 134,.int .u8 72,.int .u8 1,.int .u8 101,.int .u8 3,.int .u8 4,.int .u8 2,.int .u8 1,.int .u8 5,.int .u8 0] 5 (15,16))).heap.size by simp;omega)).rdx qc;clear qc
   go_wp2_with fail
   refine(aL 4 4 rfl Av 32 dv xs _ HC.2.2.1 ab).mono ?_;rintro e w5 ⟨A5,n5,c5,rfl,ho5,qc⟩;have q3:=qc.size;have q7:w4.heap.size+1≤w5.heap.size:=by simpa using q3
   have H5:=hd4 (aE.own ho5) (HC.1.below qc) (HC.2.1.below qc) (HC.2.2.2.trans (qc.mono ag));clear ho5 qc q3
   go_wp2_with fail
   refine(bu _ 2 2 [(.slice (some ⟨w4.heap.size,0,none⟩) 15 15,Zc.shaAlg),(.slice A5 n5 c5,Der.write 4 xs)] _ (jm w5 _ _ _ _ H5.2.1.rdv H5.1.rdv) ab (by rw[iy];omega)).mono ?_;rintro e w6 ⟨A6,n6,c6,rfl,ho6,hb6⟩;have qk:=(aB w5 _).trans (hb6.mono ag);have j6:=qk.size;have H6:=hd3 (aE.own ho6) (H5.2.2.1.below qk) qk;clear ho6 hb6 qk
   go_wp2_with fail
   refine(bu _ 2 2 [(.slice A4 n4 c4,Ref.seq [Der.write 6 Zc.pe,Ref.seq []]),(.slice A6 n6 c6,Ref.seq [Zc.shaAlg,Der.write 4 xs])] _ (jm w6 _ _ _ _ H6.2.1.rdv H6.1.rdv) ab (by rw[iy];omega)).mono ?_;rintro e w7 ⟨A7,n7,c7,rfl,ho7,hb7⟩;have q0:=(aB w6 _).trans (hb7.mono ag);have H7:=hd2 ho7 q0;clear ho7 hb7 q0
   go_wp2
   go_ret
   exact⟨_,_,_,rfl,H7.1.mono ai nl_,(H1.2.trans (HO.2.1.mono ab)).trans ((H2.2.2.mono ab).trans ((H4.2.2.mono ab).trans ((H5.2.2.2.mono ab).trans ((H6.2.2.mono ab).trans (H7.2.mono ab)))))⟩
section
variable {P : Program} {ops : Array Oper} {Q : Exit → Act → World → Prop} {a0 : Act} {J : Nat → Value → World → Prop} {G : World → Prop} {R : World → World → Prop}
theorem iA (listed:Array Bool) (i j:Nat) (hi:i<listed.size):(listed.setIfInBounds i true).getD j false=if j=i then true else listed.getD j false:=by
 simp only[Array.getD_eq_getD_getElem?,Array.getElem?_setIfInBounds]
 by_cases h:j=i
 ·subst h;simp[hi]
 ·rw[if_neg (fun e=>h e.symm),if_neg h]
theorem tR {listed:Array Bool} (hl:listed.size=ops.size) (h:∀i,i<ops.size→listed.getD i false=true):Region.ready .any ops listed=[]:=List.eq_nil_iff_forall_not_mem.2 fun i hi=>by
 have qc:i<ops.size:=by
  have:=(List.mem_filter.1 hi).1
  simpa using this
 have h1:=((dK (Array.getElem?_eq_getElem qc)).1 hi).1;have h2:=h i qc;have qd:i<listed.size:=ab
 simp only[Array.getD,qd,dite_true]at h1 h2;rw[h1]at h2
 cases h2
def oX (ops:Array Oper) (listed:Array Bool):Prop:=∀j o,ops[j]? = some o→listed.getD j false=true→∀i,fq ops o i=true→listed.getD i false=true
end
end Go.Proofs.YtmpkpphfoidbeaaGreatDoor
