import Derived.Test.YtmpkpphfoidbeaaGreatDoorV11
set_option linter.unusedVariables false
set_option linter.unusedSimpArgs false
namespace Go.Proofs.YtmpkpphfoidbeaaGreatDoor
open Go.RowKit
section
section
set_option maxRecDepth 100000
variable {P : Program} {o : Oper} {a : Act} {w w' : World} {K : Act → World → Prop} {Q : Exit → Act → World → Prop}
theorem eZ {v:Value} (hrun:(execOp a.eval o).run P w=.ok (.value v) w') (h:K (a.put o.dst v) w'):o.wp P a w K Q:=by
 unfold Oper.wp;rw[hrun,Oper.upon_value];exact h
theorem nz {x:Operand} (ho:o.op=.move x) (h:K (a.put o.dst (a.eval x)) w):o.wp P a w K Q:=eZ (by simp[execOp,ho]) h
theorem om {x:Operand} (ho:o.op=.assign x) (h:K (a.put o.dst (a.eval x)) w):o.wp P a w K Q:=eZ (by simp[execOp,ho]) h
theorem sn {t:TypeId} {x:Operand} {ad:Addr} {v:Value} (ho:o.op=.load t x) (hx:a.eval x=.pointer (some ad)) (hl:(loadVar t ad).run P w=.ok v w) (h:K (a.put o.dst v) w):o.wp P a w K Q:=
 eZ (by simp[execOp,ho,hx,Instr.loadAt,Instr.sureAddr,hl]) h
theorem ic {f:FuncId} {fn:Func} {c:Code} {xs:Array Operand} {ts:Array TypeId} {args:Array Value} {R:Ending→World→Prop} (ho:o.op=.call {callee:=.value (.func f),args:=xs,argTypes:=ts})
 (hf:P.funcs[f]? = some fn) (hb:fn.body=some c) (hnm:fn.name≠"runtime.NumGoroutine") (ha:xs.map a.eval=args) (hc:Calls P f args w R) (h:∀e w'',R e w''→∃v,e=.returned v∧K (a.put o.dst v) w''):o.wp P a w K Q:=by
 have qc:(execOp a.eval o).run P w=.ok (.enter f args) w:=by
  simp[execOp,ho,resolve,invoke,Deferred.ofValue,callFunc,hf,hb,hnm,ha,Act.eval]
 unfold Oper.wp;rw[qc,Oper.upon_enter];refine hc.mono fun e w'' hR=>?_
 obtain⟨v,rfl,hK⟩:=h e w'' hR;exact hK
theorem aL (k:Int) (t:UInt8) (hk:(t.toNat:Int)=k) (A:Option Addr) (n c:Nat) (xs:List UInt8) (w:World) (h:Rd w w.heap.size A n c xs) (hn:n≤1099511627000) :
 Calls Tryz.prog 30 #[.int .u8 k,.slice A n c] w (aO (Der.write t xs) w):=by
 subst hk;exact cZ t A n c xs w h hn
end
section
set_option maxRecDepth 100000
def aE (w:World) (v:Value) (xs:List UInt8):Prop:=∃A n c,v=.slice A n c∧Rd w w.heap.size A n c xs∧∀ad,A=some ad→∃cs fr,w.heap[ad.block]? = some (Obj.cells cs 5 fr)
variable {w w' : World} {lo hi : Nat} {v : Value} {xs : List UInt8} {l : List (Value × List UInt8)}
theorem aE.rdv (h:aE w v xs):aJ w w.heap.size v xs:=by
 obtain⟨A,n,c,rfl,hr,_⟩:=h;exact aJ.mk hr
theorem aE.own (h:az w lo w.heap.size v xs):aE w v xs:=by
 obtain⟨A,n,c,rfl,hr⟩:=h.rd;refine⟨A,n,c,rfl,hr,fun ad e=>?_⟩;rcases h.1.2 with⟨e1,_⟩|⟨g,cap,cur,e1,_,hg,_⟩
 ·injection e1 with e2;rw[e2]at e;cases e
 ·injection e1 with e2;rw[e2]at e;injection e with e;subst e;exact⟨_,_,hg⟩
theorem aE.blk {g n:Nat} {cs:Array Value} {fr:Nat×Nat} (hg:w.heap[g]? = some (Obj.cells cs 5 fr)) (hr:Rd w w.heap.size (some ⟨g,0,none⟩) n n xs):aE w (.slice (some ⟨g,0,none⟩) n n) xs:=
 ⟨_,_,_,rfl,hr,fun ad e=>by injection e with e;subst e;exact⟨_,_,hg⟩⟩
theorem aE.keep (h:aE w v xs) (hs:w.heap.size≤w'.heap.size) (hk:∀(g:Nat) (cs:Array Value) (fr:Nat×Nat),w.heap[g]? = some (Obj.cells cs 5 fr)→w'.heap[g]? = w.heap[g]?):aE w' v xs:=by
 obtain⟨A,n,c,rfl,hr,ht⟩:=h;refine⟨A,n,c,rfl,⟨hr.len,hr.cap,hr.capm,hr.nil,fun h0=>?_,⟨hr.rds.1,fun h0=>?_⟩⟩,fun ad e=>?_⟩
 ·obtain⟨b,o,e,hb⟩:=hr.spot h0
  exact⟨b,o,e,ab⟩
 ·obtain⟨ad,e,hb,hc⟩:=hr.rds.2 h0
  obtain⟨cs,fr,hg⟩:=ht ad e;refine⟨ad,e,ab,fun j u hu=>?_⟩;rw[World.cell?_of_block (a:=ad.add j) (show w'.heap[(ad.add j).block]? = w.heap[(ad.add j).block]? from by
   have:(ad.add j).block=ad.block:=by unfold Addr.add;split<;>rfl
   rw[this];exact hk _ cs fr hg)]
  exact hc j u hu
 ·obtain⟨cs,fr,hg⟩:=ht ad e
  exact⟨cs,fr,(hk _ cs fr hg).trans hg⟩
theorem aE.below (h:aE w v xs) (hb:Below w.heap.size w w'):aE w' v xs:=h.keep hb.size fun g cs fr hg=>hb.block g (Array.getElem?_eq_some_iff.1 hg).1
def XS (w:World) (lo:Nat) (v:Value) (l:List (Value×List UInt8)):Prop:=
 aI 22 1 w lo w.heap.size v l.length (l.map (·.1))∧∀p∈l,aE w p.1 p.2
theorem XS.nil_:XS w lo (.slice none 0 0) []:=⟨aI.nil_,fun p hp=>by cases hp⟩
theorem XS.below (h:XS w lo v l) (hb:Below w.heap.size w w'):XS w' lo v l:=⟨(h.1.below hb nl_).mono nl_ hb.size,fun p hp=>(h.2 p hp).below hb⟩
theorem XS.rdl (h:XS w lo v l):∃A c,v=.slice A l.length c∧dn w w.heap.size A l.length c l:=by
 obtain⟨A,c,rfl,h1,h2,h3,h4⟩:=h.1.shape;exact⟨A,c,rfl,⟨rfl,h1,h2,h4,fun v xs hm=>(h.2 _ hm).rdv⟩⟩
theorem XS.lit (w:World) (l:List (Value×List UInt8)) (cs:List Value) (g n:Nat) (hgw:g=w.heap.size) (hcs:cs=l.map (·.1)) (hl:l.length=n) (hn:n≤1000) (h:∀p∈l,aE w p.1 p.2) :
 XS (w.alloc (.cells cs.toArray 22)) w.heap.size (.slice (some ⟨g,0,none⟩) n n) l:=by
 subst hcs hl hgw;refine⟨⟨⟨ag,.inr ⟨w.heap.size,_,_,rfl,Nat.le_refl _,heap_alloc_new w _,Nat.le_refl _,by simp only[maxLen];omega,ag,by simp only[Nat.mul_one];rw[List.take_of_length_le ag]⟩⟩,fun k hk=>?_⟩,fun p hp=>(h p hp).below (br_.alloc nl_ _)⟩;simp[Value.ownBlock]at hk;subst hk;simp
theorem XS.lower {lo':Nat} (h:XS w lo v l) (hlo:lo'≤lo):XS w lo' v l:=⟨h.1.mono hlo nl_,h.2⟩
theorem fA (w:World) (v1:Value) (t:TypeId):(w.alloc (.cells #[v1] t)).cell? ⟨w.heap.size,0,none⟩=some v1:=(aw.new w t #[v1]).cell 0
theorem aE.ownx (h:az w lo hi v xs) (hh:hi≤w.heap.size):aE w v xs:=aE.own (h.mono nl_ hh)
theorem aE.alloc (h:aE w v xs) (o:Obj):aE (w.alloc o) v xs:=h.below (br_.alloc nl_ _)
theorem XS.alloc (h:XS w lo v l) (o:Obj):XS (w.alloc o) lo v l:=h.below (br_.alloc nl_ _)
theorem jb:(Tryz.prog.info? 22).map (fun i=>(i.zero,i.size,i.bytes))=some (some (.slice none 0 0),1,24):=by rfl
theorem fF {ops:Array Oper} {rest:List Oper} {o:Oper} {a:Act} {Q:Exit→Act→World→Prop} (hgd:o.guard=none) (s x:Operand)
 (ho:o.op=.call {callee:=.builtin .append,args:=#[s,x],argTypes:=#[39,39]})
 (lo:Nat) (v:Value) (l:List (Value×List UInt8)) (hs:a.eval s=v) (hown:XS w lo v l) (hlo:lo≤w.heap.size)
 (g:Nat) (v1:Value) (x1:List UInt8) (hx:a.eval x=.slice (some ⟨g,0,none⟩) 1 1) (hg:w.cell? ⟨g,0,none⟩=some v1) (hgl:g<w.heap.size) (h1:aE w v1 x1) (hlen:l.length≤1000)
 (h:∀v' w',XS w' lo v' (l++[(v1,x1)])→Below lo w w'→wpList Tryz.prog ops Q rest (a.put o.dst v') w') :
 wpList Tryz.prog ops Q (o::rest) a w:=by
 have qd:v1.oneCell'=true:=by obtain⟨A,n,c,rfl,_⟩:=h1;rfl
 refine bn hgd s x 39 ho 22 _ 1 24 jb Tryz.underlying39 rfl ab lo w.heap.size v l.length (l.map (·.1)) hs hown.1 hlo (g+1) _ 1 1 [v1] hx ⟨rfl,fun _=>⟨_,rfl,ag,fun j u hu=>?_⟩⟩ (by simpa using qd) ab ab ?_
 ·rcases j with _|j
  ·simp only[List.getElem?_cons_zero,Option.some.injEq]at hu;subst hu;exact hg
  ·simp at hu
 intro v' w' h1' h2 h3 h4;have qc:∀(g:Nat) (cs:Array Value) (fr:Nat×Nat),w.heap[g]? = some (Obj.cells cs 5 fr)→w'.heap[g]? = w.heap[g]?:=fun g cs fr hgg=>by
  refine h2.block g (Array.getElem?_eq_some_iff.1 hgg).1 (fun e=>?_);rcases hown.1.1.2 with⟨e1,_⟩|⟨g0,cap,cur,e1,_,hg0,_⟩
  ·rw[e1]at e;simp[Value.ownBlock]at e
  ·rw[e1]at e
   simp[Value.ownBlock]at e;subst e;rw[hg0]at hgg;injection hgg with e2
   injection e2 with e3 e4
   exact absurd e4 aj
 refine h v' w' ⟨by rw[List.length_append,List.map_append];exact h1',fun p hp=>?_⟩ h4;rcases List.mem_append.1 hp with hp|hp
 ·exact(hown.2 p hp).keep h2.size qc
 ·obtain rfl:=List.mem_singleton.1 hp
  exact h1.keep h2.size qc
end
section
set_option maxRecDepth 100000
def KR (B:Nat) (w w':World):Prop:=Below B w w'∧w.heap.size≤w'.heap.size∧∀g,g<w.heap.size→w'.heap[g]? = w.heap[g]?∨∃C e,C.size≤15∧w.heap[g]? = some (.cells C e (0,0))∧w'.heap[g]? = some (.cells C e (C.size,C.size+1))
theorem KR.refl (B:Nat) (w:World):KR B w w:=⟨Below.refl _ _,Nat.le_refl _,fun g _=>.inl rfl⟩
theorem KR.below {B:Nat} {w w':World} (h:Below w.heap.size w w') (hB:B≤w.heap.size):KR B w w':=⟨h.mono hB,h.size,fun g hg=>.inl (h.block g hg)⟩
theorem KR.cell {B:Nat} {w w':World} (h:KR B w w') (p:Addr) (hp:p.block<w.heap.size):w'.cell? p=w.cell? p:=by
 rcases h.2.2 p.block hp with e|⟨C,t,_,e1,e2⟩
 ·exact World.cell?_of_block e
 ·obtain⟨g,o,x⟩:=p
  cases x with
  | none=>rw[cell_of_row _ g o _ _ _ e1,cell_of_row _ g o _ _ _ e2]
  | some _=>simp[World.cell?,e1,e2]
theorem KR.rdv {B:Nat} {w w':World} {v:Value} {xs:List UInt8} (h:KR B w w') (hr:aJ w w.heap.size v xs):aJ w' w'.heap.size v xs:=(hr.keep fun p hp=>h.cell p hp).more h.2.1
theorem KR.own {B lo:Nat} {w w':World} {v:Value} {xs:List UInt8} (h:KR B w w') (hx:15<xs.length) (ho:az w lo w.heap.size v xs):az w' lo w'.heap.size v xs:=by
 suffices hk:az w' lo w.heap.size v xs from hk.mono nl_ h.2.1
 refine⟨⟨ho.1.1,?_⟩,ho.2⟩;rcases ho.1.2 with e|⟨g,cap,cur,rfl,hb,hg,hnc,hcm,hcs,ht⟩
 ·exact .inl e
 ·refine .inr ⟨g,cap,cur,rfl,hb,?_,hnc,hcm,hcs,ht⟩
  rcases h.2.2 g (ho.2 g rfl) with e|⟨C,t,hC,e1,e2⟩
  ·exact e.trans hg
  ·rw[hg]at e1
   injection e1 with e1
   injection e1 with e1
   subst e1;omega
def dW (cs:List Value) (n:Nat) (v:Value) (w:World):Prop:=∃g,v=.slice (some ⟨g,0,none⟩) n n∧(w.heap[g]? = some (.cells cs.toArray 5 (0,0))∨w.heap[g]? = some (.cells cs.toArray 5 (cs.length,cs.length+1)))
theorem KR.lit {B n:Nat} {w w':World} {v:Value} {cs:List Value} (h:KR B w w') (hj:dW cs n v w):dW cs n v w':=by
 obtain⟨g,rfl,hg⟩:=hj;refine⟨g,rfl,?_⟩;have qc:g<w.heap.size:=by rcases hg with hg|hg<;>exact(Array.getElem?_eq_some_iff.1 hg).1
 rcases h.2.2 g qc with e|⟨C,t,_,e1,e2⟩
 ·rw[e];exact hg
 ·rcases hg with hg|hg
  ·rw[hg]at e1
   injection e1 with e1
   injection e1 with e1 e3
   subst e1 e3;exact .inr (by rw[e2];simp)
  ·rw[hg]at e1
   injection e1 with e1
   injection e1 with e1 e3 e4
   simp at e4
theorem dW.rdv {n:Nat} {w:World} {v:Value} {xs:List UInt8} (h:dW (xs.map bv) n v w) (hn:xs.length=n) (hm:n≤1000):aJ w w.heap.size v xs:=by
 obtain⟨g,rfl,hg⟩:=h;subst hn;have qc:g<w.heap.size:=by rcases hg with hg|hg<;>exact(Array.getElem?_eq_some_iff.1 hg).1
 refine aJ.mk ⟨rfl,Nat.le_refl _,ab,(fun e=>by cases e),fun _=>⟨_,_,rfl,qc⟩,ag,fun _=>⟨_,rfl,qc,fun j u hu=>?_⟩⟩;rw[Addr.add_lit,Nat.zero_add];rcases hg with hg|hg<;>exact(cell_of_row _ _ j _ _ _ hg).trans (by simpa using hu)
theorem xF {B n:Nat} {w:World} {v:Value} {xs:List UInt8} (h:dW (xs.map bv) n v w) (hn:xs.length=n) (hm:n≤15) (hB:∀g,v=.slice (some ⟨g,0,none⟩) n n→B≤g) :
 ∃w',(convert 22 22 v).run Tryz.prog w=.ok v w'∧KR B w w'∧aJ w' w'.heap.size v xs:=by
 obtain⟨g,rfl,hg⟩:=h;subst hn;have qs:=hB g rfl;have qv:g<w.heap.size:=by rcases hg with hg|hg<;>exact(Array.getElem?_eq_some_iff.1 hg).1
 have qk:w.shape? g=some (5,xs.length):=by
  unfold World.shape?;rcases hg with hg|hg<;>rw[hg]<;>simp
 have qg:(convert 22 22 (.slice (some ⟨g,0,none⟩) xs.length xs.length)).run Tryz.prog w=.ok (.slice (some ⟨g,0,none⟩) xs.length xs.length) (w.freeze ⟨g,xs.length,none⟩ 1):=by
  simp[convert,run_underlying Tryz.underlying22,run_underlying Tryz.underlying5,markStringish,qk]
 have qh:∀k,k≠g→(w.freeze ⟨g,xs.length,none⟩ 1).heap[k]? = w.heap[k]?:=fun k hk=>by
  unfold World.freeze;rw[if_neg ab];simp only[Array.getElem?_modify];rw[if_neg (fun e=>hk e.symm)]
 have qc:(w.freeze ⟨g,xs.length,none⟩ 1).heap[g]? = some (.cells (xs.map bv).toArray 5 (xs.length,xs.length+1)):=by
  unfold World.freeze;rw[if_neg ab];simp only[Array.getElem?_modify,if_true];rcases hg with hg|hg<;>rw[hg]<;>simp
 have q0:(w.freeze ⟨g,xs.length,none⟩ 1).heap.size=w.heap.size:=by
  unfold World.freeze;rw[if_neg ab];simp
 have qd:(w.freeze ⟨g,xs.length,none⟩ 1).os=w.os∧(w.freeze ⟨g,xs.length,none⟩ 1).tape=w.tape∧(w.freeze ⟨g,xs.length,none⟩ 1).output=w.output:=by
  unfold World.freeze;rw[if_neg ab];exact⟨rfl,rfl,rfl⟩
 refine⟨_,qg,⟨⟨qd.1,qd.2.1,qd.2.2,ab,fun k hk=>qh k ab⟩,ab,fun k hk=>?_⟩,?_⟩
 ·by_cases hkg:k=g
  ·subst hkg
   rcases hg with hg|hg
   ·exact .inr ⟨_,_,by simpa using hm,hg,by rw[qc];simp⟩
   ·exact .inl (by rw[qc,hg];simp)
  ·exact .inl (qh k hkg)
 ·exact dW.rdv ⟨g,rfl,.inr (by rw[qc];simp)⟩ rfl ab
def iY (xss:List (List UInt8)) (n:Nat) (v:Value) (w:World):Prop:=∃A c l,v=.slice A n c∧dn w w.heap.size A n c l∧l.map (·.2)=xss
theorem KR.rows {B n:Nat} {w w':World} {v:Value} {xss:List (List UInt8)} (h:KR B w w') (hj:iY xss n v w):iY xss n v w':=by
 obtain⟨A,c,l,rfl,hr,hl⟩:=hj;exact⟨A,c,l,rfl,(hr.keep fun p hp=>h.cell p hp).more h.2.1,hl⟩
def KK (a:Act) (o:Oper) (J:Value→World→Prop) (R:World→World→Prop) (w:World) (a':Act) (w':World):Prop:=∃v,a'=a.put o.dst v∧(o.dst=none→v=undef)∧J v w'∧R w w'
section
variable {o : Oper} {a : Act} {w : World} {Q : Exit → Act → World → Prop} {J : Value → World → Prop} {B : Nat}
theorem uL {x:Operand} (ho:o.op=.move x) (hd:o.dst≠none) (hJ:J (a.eval x) w):o.wp Tryz.prog a w (KK a o J (KR B) w) Q:=nz ho ⟨_,rfl,fun h=>absurd h hd,hJ,KR.refl _ _⟩
theorem xq {x:Operand} (ho:o.op=.assign x) (hd:o.dst≠none) (hJ:J (a.eval x) w):o.wp Tryz.prog a w (KK a o J (KR B) w) Q:=om ho ⟨_,rfl,fun h=>absurd h hd,hJ,KR.refl _ _⟩
theorem BG {v:Value} (hrun:(execOp a.eval o).run Tryz.prog w=.ok (.value v) w) (hd:o.dst≠none) (hJ:J v w):o.wp Tryz.prog a w (KK a o J (KR B) w) Q:=eZ hrun ⟨_,rfl,fun h=>absurd h hd,hJ,KR.refl _ _⟩
theorem jD {t:TypeId} {x:Operand} {ad:Addr} {v:Value} (ho:o.op=.load t x) (hd:o.dst≠none) (hx:a.eval x=.pointer (some ad)) (hl:(loadVar t ad).run Tryz.prog w=.ok v w) (hJ:J v w):o.wp Tryz.prog a w (KK a o J (KR B) w) Q:=
 sn ho hx hl ⟨_,rfl,fun h=>absurd h hd,hJ,KR.refl _ _⟩
theorem sx {n:Nat} {parts:Array (Nat×Operand)} {zs:List Int} {xs:List UInt8} (ho:o.op=.buildSlice 22 n parts) (hd:o.dst≠none) (hn:0<n) (hm:n≤1000) (hB:B≤w.heap.size)
 (hf:parts.toList=(zs.zipIdx 0).map fun x=>(x.2,Operand.const (Value.int .u8 x.1))) (hzs:zs=xs.map fun x=>(x.toNat:Int)) (hl:zs.length=n)
 (hJ:∀v w',dW (xs.map bv) n v w'→(∀g,v=.slice (some ⟨g,0,none⟩) n n→B≤g)→J v w'):o.wp Tryz.prog a w (KK a o J (KR B) w) Q:=by
 obtain⟨i0,hi0,hz0,hz1,hz2⟩:=info_parts eG;have qc:zs.map (Value.int .u8)=xs.map bv:=by rw[hzs,List.map_map];rfl
 refine wp_buildSlice 22 5 n parts ho (xs.map bv).toArray i0 _ Tryz.underlying22 hi0 hz0 (by rw[hz1];omega) (by rw[hz1];omega) ?_ ⟨_,rfl,fun h=>absurd h hd,hJ _ _ ⟨_,rfl,.inl (heap_alloc_new w _)⟩ (fun g e=>?_),KR.below (br_.alloc nl_ _) hB⟩
 ·rw[parts_eval a parts .u8 zs hf,hz1,qc]
  exact Great.fill_flat _ _ (fun v hv=>by obtain⟨n,_,rfl⟩:=List.mem_map.1 hv;rfl) (by rw[←qc];simp[hl])
 ·injection e with e;injection e with e;injection e with e;omega
theorem pd {n:Nat} {parts:Array (Nat×Operand)} {l:List (Value×List UInt8)} (ho:o.op=.buildSlice 39 n parts) (hd:o.dst≠none) (hn:0<n) (hm:n≤1000) (hB:B≤w.heap.size)
 (hf:(parts.toList.map fun(i,x)=>(i,a.eval x))=((l.map (·.1)).zipIdx 0).map fun x=>(x.2,x.1)) (hl:l.length=n)
 (h:∀p∈l,aJ w w.heap.size p.1 p.2) (hJ:∀v w',iY (l.map (·.2)) n v w'→J v w'):o.wp Tryz.prog a w (KK a o J (KR B) w) Q:=by
 obtain⟨i0,hi0,hz0,hz1,hz2⟩:=info_parts jb;refine wp_buildSlice 39 22 n parts ho (l.map (·.1)).toArray i0 _ Tryz.underlying39 hi0 hz0 (by rw[hz1];omega) (by rw[hz1];omega) ?_ ⟨_,rfl,fun h=>absurd h hd,hJ _ _ ⟨_,_,l,rfl,dn.lit w _ l _ _ n rfl rfl hl ab (fun v xs hm=>h _ hm),rfl⟩,KR.below (br_.alloc nl_ _) hB⟩;rw[Array.toList_map,hf,hz1];exact Great.fill_flat _ _ (fun v hv=>by
  obtain⟨p,hp,rfl⟩:=List.mem_map.1 hv;obtain⟨A,n,c,e,_⟩:=h p hp;rw[e];rfl) (by simp[hl])
theorem pc {n:Nat} {x:Operand} {xs:List UInt8} {v:Value} (ho:o.op=.convert 22 22 x) (hd:o.dst≠none) (hx:a.eval x=v) (h:dW (xs.map bv) n v w) (hn:xs.length=n) (hm:n≤15) (hB:∀g,v=.slice (some ⟨g,0,none⟩) n n→B≤g)
 (hJ:∀w',aJ w' w'.heap.size v xs→J v w'):o.wp Tryz.prog a w (KK a o J (KR B) w) Q:=by
 obtain⟨w',hr,hk,hv⟩:=xF h hn hm hB;exact eZ (w':=w') (by simp[execOp,ho,hx,hr]) ⟨_,rfl,fun h=>absurd h hd,hJ _ hv,hk⟩
theorem rh {k:Int} {t:UInt8} {x y:Operand} {ts:Array TypeId} {xs:List UInt8} (ho:o.op=.call {callee:=.value (.func 30),args:=#[x,y],argTypes:=ts}) (hd:o.dst≠none) (hk:(t.toNat:Int)=k)
 (hx:a.eval x=.int .u8 k) (hy:aJ w w.heap.size (a.eval y) xs) (hn:xs.length≤1099511627000) (hB:B≤w.heap.size) (hJ:∀v w',az w' w.heap.size w'.heap.size v (Der.write t xs)→w.heap.size≤w'.heap.size→J v w'):o.wp Tryz.prog a w (KK a o J (KR B) w) Q:=by
 obtain⟨A,n,c,e,hr⟩:=hy;refine ic ho Tryz.func30 rfl aj (args:=#[.int .u8 k,.slice A n c]) (by simp[hx,e]) (aL k t hk A n c xs w hr (by have:=hr.len;omega)) ?_;rintro en w' ⟨A',n',c',rfl,ho',hb'⟩;exact⟨_,rfl,_,rfl,fun h=>absurd h hd,hJ _ _ ho' hb'.size,KR.below hb' hB⟩
theorem sy {y:Operand} {ts:Array TypeId} {n:Nat} {xss:List (List UInt8)} (ho:o.op=.call {callee:=.value (.func 32),args:=#[y],argTypes:=ts}) (hd:o.dst≠none)
 (hy:iY xss n (a.eval y) w) (hn:xss.flatten.length≤1099511627000) (hm:n≤1000) (hB:B≤w.heap.size) (hJ:∀v w',az w' w.heap.size w'.heap.size v (Ref.seq xss)→w.heap.size≤w'.heap.size→J v w'):o.wp Tryz.prog a w (KK a o J (KR B) w) Q:=by
 obtain⟨A,c,l,e,hr,rfl⟩:=hy;refine ic ho Tryz.func32 rfl aj (args:=#[.slice A n c]) (by simp[e]) (bu A n c l w hr ab (by unfold aZ;exact hn)) ?_;rintro en w' ⟨A',n',c',rfl,ho',hb'⟩;exact⟨_,rfl,_,rfl,fun h=>absurd h hd,hJ _ _ ho' hb'.size,KR.below hb' hB⟩
theorem yS {y:Operand} {ts:Array TypeId} {t:Tm} (ho:o.op=.call {callee:=.value (.func 93),args:=#[y],argTypes:=ts}) (hd:o.dst≠none)
 (hy:a.eval y=t.v) (ht:t.fits) (hB:B≤w.heap.size) (hJ:∀v w',az w' w.heap.size w'.heap.size v (Ref.general t)→w.heap.size≤w'.heap.size→J v w'):o.wp Tryz.prog a w (KK a o J (KR B) w) Q:=by
 refine ic ho Tryz.func93 rfl aj (args:=#[t.v]) (by simp[hy]) (tU t ht w) ?_;rintro en w' ⟨A',n',c',rfl,ho',hb'⟩;exact⟨_,rfl,_,rfl,fun h=>absurd h hd,hJ _ _ ho' hb'.size,KR.below hb' hB⟩
end
theorem lB {o:Oper} {a:Act} {w:World} {Q:Exit→Act→World→Prop} {J:Value→World→Prop} {B:Nat} {x:Operand} {k off p:Nat} (ho:o.op=.fieldAddr 72 x k) (hd:o.dst≠none) (hx:a.eval x=.pointer (some ⟨p,0,none⟩))
 (hr:(Instr.fieldAt 72 (.pointer (some ⟨p,0,none⟩)) k).run Tryz.prog w=.ok (.pointer (some ⟨p,off,none⟩)) w) (hJ:J (.pointer (some ⟨p,off,none⟩)) w):o.wp Tryz.prog a w (KK a o J (KR B) w) Q:=
 BG (by simp only[execOp,ho,hx];simp[hr]) hd hJ
theorem BJ (w:World) (p:Nat):(Instr.fieldAt 72 (.pointer (some ⟨p,0,none⟩)) 2).run Tryz.prog w=.ok (.pointer (some ⟨p,2,none⟩)) w:=by simp[go_sem]
theorem BK (w:World) (p:Nat):(Instr.fieldAt 72 (.pointer (some ⟨p,0,none⟩)) 3).run Tryz.prog w=.ok (.pointer (some ⟨p,3,none⟩)) w:=by simp[go_sem]
theorem BL (w:World) (p:Nat):(Instr.fieldAt 72 (.pointer (some ⟨p,0,none⟩)) 4).run Tryz.prog w=.ok (.pointer (some ⟨p,4,none⟩)) w:=by simp[go_sem]
theorem BM (w:World) (p:Nat):(Instr.fieldAt 72 (.pointer (some ⟨p,0,none⟩)) 5).run Tryz.prog w=.ok (.pointer (some ⟨p,5,none⟩)) w:=by simp[go_sem]
theorem BN (w:World) (p:Nat):(Instr.fieldAt 72 (.pointer (some ⟨p,0,none⟩)) 6).run Tryz.prog w=.ok (.pointer (some ⟨p,11,none⟩)) w:=by simp[go_sem]
theorem fV {w:World} {g k:Nat} {v:Value} (h:w.cell? ⟨g,k,none⟩=some v):(loadVar 22 ⟨g,k,none⟩).run Tryz.prog w=.ok v w:=by
 simp[go_sem,h]
theorem rJ {w:World} {g o:Nat} {t:Tm} {cs:List Value} (hcs:Value.agg cs.toArray=t.v) (h:∀j v,cs[j]? = some v→w.cell? ⟨g,o+j,none⟩=some v) (hl:cs.length=6):(loadVar 70 ⟨g,o,none⟩).run Tryz.prog w=.ok t.v w:=by
 have:=run_loadVar_mid (P:=Tryz.prog) w g o 70 cs _ h Tryz.underlying70 rfl (by rw[hl];rfl);rw[←hcs];exact this
end
section
def Der.trim (xs:List UInt8):List UInt8:=xs.dropWhile (·==0)
def Der.putInt (xs:List UInt8):List UInt8:=if Der.trim xs=[]∨128≤((Der.trim xs).headD 0).toNat then 0::Der.trim xs else Der.trim xs
theorem gx (xs:List UInt8):Der.trim (0::xs)=Der.trim xs:=rfl
theorem eq {x:UInt8} (xs:List UInt8) (h:x≠0):Der.trim (x::xs)=x::xs:=by
 unfold Der.trim;rw[List.dropWhile_cons,if_neg (by simpa using h)]
theorem trim_len (xs:List UInt8):(Der.trim xs).length≤xs.length:=by
 induction xs with
 | nil=>simp[Der.trim]
 | cons x xs ih=>
  by_cases h:x=0
  ·subst h;rw[gx];simp;omega
  ·rw[eq xs h];exact Nat.le_refl _
end
section
set_option maxRecDepth 100000
set_option maxHeartbeats 1000000 in
theorem fh (A:Option Addr) (n c:Nat) (xs:List UInt8) (w:World) (h:Rd w w.heap.size A n c xs) (hn:n≤1099511627) :
 Calls Tryz.prog 42 #[.slice A n c] w (aO (Der.putInt xs) w):=by
 have hl:=h.len;have H:=hd2 h hl;clear h hl
 go_enter Tryz.func42,Tryz.ntmps42
 go_wp2
 go_loop [0] (fun v=>∃A' n' c' ys,v=.slice A' n' c'∧Rd w w.heap.size A' n' c' ys∧Der.trim xs=Der.trim ys∧n'≤n) (fun v=>match v with|.slice _ m _=>m|_=>0)
 case atStart=>exact⟨A,n,c,xs,rfl,H.1,rfl,Nat.le_refl _⟩
 case round=>
  obtain⟨A',n',c',ys,rfl,hr,ht,hn'⟩:=hrel;have hl:=hr.len;have qc:Hid (az (w.alloc (.cells #[.int .u8 0] 5)) w.heap.size (w.heap.size+1) (.slice (some ⟨w.heap.size,0,none⟩) 1 1) [0]):=az.lit w [0] [.int .u8 0] 1 rfl rfl ab;rcases ys with _|⟨y,ys⟩
  ·obtain rfl:n'=0:=by simpa using hl.symm
   have hp:Der.putInt xs=[0]:=by rw[Der.putInt,ht];rfl
   have HX:=hd2 hp hr;clear hr ht hl hp
   go_wp2_with
    (at_builtin
     refine aP rfl (.tmp 27) (.tmp 28) rfl w.heap.size (w.heap.size+1) _ [0] rfl qc.out ag _ A' 0 c' [] rfl (HX.2.alloc nl_ _).rds ag ?_;intro v3 w3 ho3 hg3 hat3 hb3)
   go_ret
   rw[HX.1];exact cE ho3 (Below.trans aa hb3)
  ·have qg:0<n':=by simp at hl;omega
   have qh:(0:Int)<n':=ab
   obtain⟨b,o,rfl,hb,hcell⟩:=hr.at_ qg;have qd:=hcell 0 y rfl;rw[Nat.add_zero]at qd
   by_cases hy:y=0
   ·subst hy
    obtain⟨A1,hr1,_,hcut⟩:=cQ hr 1 1 rfl ab;have qk:w.cell? ⟨b,o,none⟩=some (.int .u8 0):=qd;have HX:=hd2 hr1 ht;clear hr ht hl hcell qd hr1 qc
    go_wp2
    go_round
    case rel=>exact⟨A1,_,_,ys,rfl,by simpa using HX.1,HX.2,ab⟩
    case measure=>simp;omega
   ·have qs:((y.toNat:Int)==0)=false:=by
     have:y.toNat≠0:=fun e=>hy (UInt8.toNat_inj.1 e)
     simp;omega
    rw[eq ys hy]at ht
    by_cases h8:(y.toNat:Int)<128
    ·have hp:Der.putInt xs=y::ys:=by rw[Der.putInt,ht,if_neg ai]
     have HX:=hd2 hp hr;clear hr ht hl hcell hy hp qc
     go_wp2_with fail
     refine(dM _ n' c' _ w HX.2 ab).mono ?_;rintro e w2 ⟨A2,n2,c2,rfl,ho2,hb2⟩
     go_wp2
     go_ret
     rw[HX.1];exact cE ho2 hb2
    ·have hp:Der.putInt xs=0::y::ys:=by rw[Der.putInt,ht,if_pos (.inr ai)]
     have HX:=hd3 hp hr hl;clear hr ht hl hcell hy hp
     go_wp2_with
      (at_builtin
       refine aP rfl (.tmp 27) (.tmp 28) rfl w.heap.size (w.heap.size+1) _ [0] rfl qc.out ag _ _ n' c' (y::ys) rfl (HX.2.1.alloc nl_ _).rds ai ?_;intro v3 w3 ho3 hg3 hat3 hb3)
     go_ret
     rw[HX.1];exact cE ho3 (Below.trans aa hb3)
end
end
end Go.Proofs.YtmpkpphfoidbeaaGreatDoor
