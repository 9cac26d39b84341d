import Derived.Test.YtmpkpphfoidbeaaGreatDoorV06
set_option linter.unusedVariables false
set_option linter.unusedSimpArgs false
namespace Go.Proofs.YtmpkpphfoidbeaaGreatDoor
open Go.RowKit
section
section
set_option maxRecDepth 100000
def Cert.moment (x:El):Option Tm:=if (x.1.toNat:Int)=23 then Stamp.told 2 Stamp.year2 x.2.1 else if (x.1.toNat:Int)=24 then Stamp.told 4 id x.2.1 else none
set_option maxHeartbeats 1000000 in
theorem lW (t:UInt8) (A1:Option Addr) (n1 c1:Nat) (vr:Value) (b r:List UInt8) (w:World) (h1:Rd w w.heap.size A1 n1 c1 b) :
 Calls Tryz.prog 150 #[.agg #[.int .u8 (t.toNat:Int),.slice A1 n1 c1,vr]] w (Ans w (Cert.moment (t,b,r)) fun a v _=>v=a.v):=by
 have qg:=aw.new (w.alloc (.cells #[.int .u8 (t.toNat:Int),.slice A1 n1 c1,vr] 84)) 70 #[.int .u16 0,.int .u8 0,.int .u8 0,.int .u8 0,.int .u8 0,.int .u8 0];rw[World.size_alloc]at qg
 by_cases h23:(t.toNat:Int)=23
 ·have qv:Cert.moment (t,b,r)=Stamp.told 2 Stamp.year2 b:=by unfold Cert.moment;rw[if_pos h23]
  have q1:((t.toNat:Int)==23)=true:=by simp[h23]
  clear h23
  go_enter Tryz.func150,Tryz.ntmps150
  go_wp2_with fail
  obtain⟨o,ho⟩:∃o,Stamp.told 2 Stamp.year2 b=o:=⟨_,rfl⟩
  refine(AB A1 n1 c1 b _ (((h1.alloc nl_ _).alloc ag _).more ai)).mono ?_;rw[ho];rintro e w1 ⟨hb1,⟨rfl,rfl⟩|⟨⟨y,mo,d,hh,mi,s⟩,rfl,rfl⟩⟩
  ·have qc:Below w.heap.size w w1:=Below.trans aa (hb1.mono ai)
   have qk:=qc.size;have H1:=hd2 ho qc;clear ho qc hb1 qg h1;dsimp only[Tm.v,Tm.zero]
   go_wp2_with fail
   refine(bE _).mono ?_;rintro e w' ⟨rfl,rfl⟩;have HX:=hd1 (H1.2.alloc ab (.cells #[.int .u16 0,.int .u8 0,.int .u8 0,.int .u8 0,.int .u8 0,.int .u8 0] 70))
   go_wp2
   exact⟨rfl,Ans.wrong (qv.trans H1.1) HX.out⟩
  ·have qc:Below w.heap.size w w1:=Below.trans aa (hb1.mono ai)
   have qk:=qc.size;have e1:=qg.below hb1 ag;have H1:=hd3 ho qc e1;have qs:=hb1.size;simp only[World.size_alloc]at qs;clear ho qc hb1 qg h1 e1;dsimp only[Tm.v]
   go_wp2_with fail
   refine(cU _).mono ?_;rintro e w' ⟨rfl,rfl⟩;have e3:=aw.new w1 70 #[.int .u16 (y:Int),.int .u8 (mo:Int),.int .u8 (d:Int),.int .u8 (hh:Int),.int .u8 (mi:Int),.int .u8 (s:Int)];have e2:=H1.2.2.alloc (.cells #[.int .u16 (y:Int),.int .u8 (mo:Int),.int .u8 (d:Int),.int .u8 (hh:Int),.int .u8 (mi:Int),.int .u8 (s:Int)] 70);have qd:=H1.2.1.alloc ab (.cells #[.int .u16 (y:Int),.int .u8 (mo:Int),.int .u8 (d:Int),.int .u8 (hh:Int),.int .u8 (mi:Int),.int .u8 (s:Int)] 70);obtain⟨k0,k1⟩:=e3.facts;obtain⟨k2,k3⟩:=e2.facts;have H2:=hd2 e2 qd;clear e2 e3 qd
   go_wp2
   have e4:=((((((H2.1.set_ 0 (.int .u16 (y:Int))).set_ 1 (.int .u8 (mo:Int))).set_ 2 (.int .u8 (d:Int))).set_ 3 (.int .u8 (hh:Int))).set_ 4 (.int .u8 (mi:Int))).set_ 5 (.int .u8 (s:Int)))
   have qh:=dI _ _ _ _ _ _ _ _ e4;refine bodyPost_ret (gY rfl _ _ _ _ _ rfl qh) rfl ?_;refine Ans.right (qv.trans H1.1) ?_ rfl;have qd:=H2.2;exact((((((qd.setCell ak _).setCell ak _).setCell ak _).setCell ak _).setCell ak _).setCell ak _)
 ·have q1:((t.toNat:Int)==23)=false:=by simp[h23]
  by_cases h24:(t.toNat:Int)=24
  ·have q0:Cert.moment (t,b,r)=Stamp.told 4 id b:=by unfold Cert.moment;rw[if_neg h23,if_pos h24]
   have q2:((t.toNat:Int)==24)=true:=by simp[h24]
   clear h23 h24
   go_enter Tryz.func150,Tryz.ntmps150
   go_wp2_with fail
   refine(cU _).mono ?_;rintro e w' ⟨rfl,rfl⟩
   go_wp2_with fail
   obtain⟨o,ho⟩:∃o,Stamp.told 4 id b=o:=⟨_,rfl⟩
   refine(qB A1 n1 c1 b _ (((h1.alloc nl_ _).alloc ag _).more ai)).mono ?_;rw[ho];rintro e w1 ⟨hb1,⟨rfl,rfl⟩|⟨⟨y,mo,d,hh,mi,s⟩,rfl,rfl⟩⟩
   ·have qc:Below w.heap.size w w1:=Below.trans aa (hb1.mono ai)
    have qk:=qc.size;have H1:=hd2 ho qc;clear ho qc hb1 qg h1;dsimp only[Tm.v,Tm.zero]
    go_wp2_with fail
    refine(bE _).mono ?_;rintro e w' ⟨rfl,rfl⟩;have HX:=hd1 (H1.2.alloc ab (.cells #[.int .u16 0,.int .u8 0,.int .u8 0,.int .u8 0,.int .u8 0,.int .u8 0] 70))
    go_wp2
    exact⟨rfl,Ans.wrong (q0.trans H1.1) HX.out⟩
   ·have qc:Below w.heap.size w w1:=Below.trans aa (hb1.mono ai)
    have qk:=qc.size;have e1:=qg.below hb1 ag;have H1:=hd3 ho qc e1;have qs:=hb1.size;simp only[World.size_alloc]at qs;clear ho qc hb1 qg h1 e1;dsimp only[Tm.v]
    go_wp2_with fail
    refine(cU _).mono ?_;rintro e w' ⟨rfl,rfl⟩;have e3:=aw.new w1 70 #[.int .u16 (y:Int),.int .u8 (mo:Int),.int .u8 (d:Int),.int .u8 (hh:Int),.int .u8 (mi:Int),.int .u8 (s:Int)];have e2:=H1.2.2.alloc (.cells #[.int .u16 (y:Int),.int .u8 (mo:Int),.int .u8 (d:Int),.int .u8 (hh:Int),.int .u8 (mi:Int),.int .u8 (s:Int)] 70);have qd:=H1.2.1.alloc ab (.cells #[.int .u16 (y:Int),.int .u8 (mo:Int),.int .u8 (d:Int),.int .u8 (hh:Int),.int .u8 (mi:Int),.int .u8 (s:Int)] 70);obtain⟨k0,k1⟩:=e3.facts;obtain⟨k2,k3⟩:=e2.facts;have H2:=hd2 e2 qd;clear e2 e3 qd
    go_wp2
    have e4:=((((((H2.1.set_ 0 (.int .u16 (y:Int))).set_ 1 (.int .u8 (mo:Int))).set_ 2 (.int .u8 (d:Int))).set_ 3 (.int .u8 (hh:Int))).set_ 4 (.int .u8 (mi:Int))).set_ 5 (.int .u8 (s:Int)))
    have qh:=dI _ _ _ _ _ _ _ _ e4;refine bodyPost_ret (gY rfl _ _ _ _ _ rfl qh) rfl ?_;refine Ans.right (q0.trans H1.1) ?_ rfl;have qd:=H2.2;exact((((((qd.setCell ak _).setCell ak _).setCell ak _).setCell ak _).setCell ak _).setCell ak _)
  ·have e0:Cert.moment (t,b,r)=none:=by unfold Cert.moment;rw[if_neg h23,if_neg h24]
   have q2:((t.toNat:Int)==24)=false:=by simp[h24]
   clear h23 h24
   go_enter Tryz.func150,Tryz.ntmps150
   go_wp2_with fail
   refine(bE _).mono ?_;rintro e w' ⟨rfl,rfl⟩
   go_wp2
   exact⟨rfl,Ans.wrong e0 aa⟩
end
section
set_option maxRecDepth 100000
structure Fl where
 ca:Bool
 path:Int
 usage:Int
 code:Bool
 deriving DecidableEq
structure CV where
 raw:Value
 tbs:Value
 iss:Value
 sub:Value
 ser:Value
 from_:Tm
 to:Tm
 n:Value
 e:Nat
 sig:Value
 fl:Fl
def CV.cells (c:CV):Array Value:=#[c.raw,c.tbs,c.iss,c.sub,c.ser,
 .int .u16 (c.from_.y:Int),.int .u8 (c.from_.mo:Int),.int .u8 (c.from_.d:Int),.int .u8 (c.from_.h:Int),.int .u8 (c.from_.mi:Int),.int .u8 (c.from_.s:Int),
 .int .u16 (c.to.y:Int),.int .u8 (c.to.mo:Int),.int .u8 (c.to.d:Int),.int .u8 (c.to.h:Int),.int .u8 (c.to.mi:Int),.int .u8 (c.to.s:Int),
 c.n,.int .u64 (c.e:Int),c.sig,.bool c.fl.ca,.int .i64 c.fl.path,.int .i64 c.fl.usage,.bool c.fl.code]
def Bc (w:World) (gc:Nat) (C:CV):Prop:=aw w gc 72 C.cells
theorem Bc.at_ {w:World} {gc:Nat} {C:CV} (h:Bc w gc C) (i:Nat):w.cell? ⟨gc,i,none⟩=C.cells[i]?:=aw.cell h i
theorem Bc.frozen {w:World} {gc:Nat} {C:CV} (h:Bc w gc C) (i:Nat):w.frozen? ⟨gc,i,none⟩=false:=aw.frozen h i
theorem Bc.lt {w:World} {gc:Nat} {C:CV} (h:Bc w gc C):gc<w.heap.size:=aw.lt h
theorem Bc.below {B:Nat} {w w':World} {gc:Nat} {C:CV} (h:Bc w gc C) (hb:Below B w w') (hg:gc<B):Bc w' gc C:=aw.below h hb hg
theorem Bc.ca {w:World} {gc:Nat} {C:CV} (h:Bc w gc C) (x:Bool):Bc (w.setCell ⟨gc,20,none⟩ (.bool x)) gc {C with fl:={C.fl with ca:=x}}:=aw.set_ h 20 (.bool x)
theorem Bc.path {w:World} {gc:Nat} {C:CV} (h:Bc w gc C) (x:Int):Bc (w.setCell ⟨gc,21,none⟩ (.int .i64 x)) gc {C with fl:={C.fl with path:=x}}:=aw.set_ h 21 (.int .i64 x)
theorem Bc.usage {w:World} {gc:Nat} {C:CV} (h:Bc w gc C) (x:Int):Bc (w.setCell ⟨gc,22,none⟩ (.int .i64 x)) gc {C with fl:={C.fl with usage:=x}}:=aw.set_ h 22 (.int .i64 x)
theorem Bc.code {w:World} {gc:Nat} {C:CV} (h:Bc w gc C) (x:Bool):Bc (w.setCell ⟨gc,23,none⟩ (.bool x)) gc {C with fl:={C.fl with code:=x}}:=aw.set_ h 23 (.bool x)
theorem aH {w w':World} (h:Below w.heap.size w w') (row:Option Nat):w.grownBy w' row:=⟨h.os,h.tape,h.output,h.size,fun k hk _=>h.block k hk⟩
theorem bF (w:World) (a:Addr) (u:Value):w.grownBy (w.setCell a u) (some a.block):=⟨rfl,rfl,rfl,ag,fun k _ hk=>Below.heap_setCell w a u k (fun e=>hk (by rw[e]))⟩
theorem au.grown {lo gc:Nat} {w w':World} (hg:w.grownBy w' (some gc)) (h:gc<lo):au lo w w':=by
 intro g cs t h1 h2;exact(hg.block g (Array.getElem?_eq_some_iff.1 h2).1 (fun e=>by injection e with e;omega)).trans h2
def aY {α:Type} (gc:Nat) (w:World) (o:Option α) (R:α→Value→World→Prop) (e:Ending) (w':World):Prop:=
 w.grownBy w' (some gc)∧((o=none∧e=.panicked fR∧∃C:CV,Bc w' gc C)∨∃a v,o=some a∧e=.returned v∧R a v w')
theorem aY.wrong {α:Type} {gc:Nat} {w w':World} {o:Option α} {R:α→Value→World→Prop} {C:CV} (h:o=none) (hb:w.grownBy w' (some gc)) (hC:Bc w' gc C):aY gc w o R (.panicked fR) w':=⟨hb,.inl ⟨h,rfl,C,hC⟩⟩
theorem aY.right {α:Type} {gc:Nat} {w w':World} {o:Option α} {R:α→Value→World→Prop} {a:α} {v:Value} (h:o=some a) (hb:w.grownBy w' (some gc)) (hR:R a v w'):aY gc w o R (.returned v) w':=⟨hb,.inr ⟨a,v,h,rfl,hR⟩⟩
def Cert.yes (x:El):Bool:=x.2.2==[1,1,255]
def Cert.constraints (f:Fl) (x:El):Option Fl:=(Cert.parts 48 0 2 x).bind fun l=>
 if l.length=0 then some f else (Cert.must (Cert.yes (l.getD 0 El.none_))).bind fun _=>
  if l.length=1 then some {f with ca:=true} else (Cert.small 256 (l.getD 1 El.none_)).bind fun v=>some {f with ca:=true,path:=(v:Int)}
def AM (gc:Nat) (C:CV) (f:Fl) (v:Value) (w':World):Prop:=v=.tuple #[]∧Bc w' gc {C with fl:=f}
set_option maxHeartbeats 1000000 in
theorem lJ (gc:Nat) (C:CV) (t:UInt8) (A1 A2:Option Addr) (n1 c1 n2 c2:Nat) (b r:List UInt8) (w:World) (hC:Bc w gc C) (h1:Rd w w.heap.size A1 n1 c1 b) (hn:n1≤1099511627) :
 Calls Tryz.prog 171 #[.pointer (some ⟨gc,0,none⟩),.agg #[.int .u8 (t.toNat:Int),.slice A1 n1 c1,.slice A2 n2 c2]] w (aY gc w (Cert.constraints C.fl (t,b,r)) (AM gc C)):=by
 have j1:=hd1 h1.len;have q4:=hC.lt
 go_enter Tryz.func171,Tryz.ntmps171
 go_wp2_with fail
 refine(du t A1 A2 n1 c1 n2 c2 48 0 2 b r _ ((h1.alloc nl_ _).more ag) hn).mono ?_;rintro e w1 ⟨hb1,⟨ho,rfl⟩|⟨l,v,ho,rfl,L,A,n,c,rfl,hl,hE,hnl⟩⟩
 ·have qc:Below w.heap.size w w1:=Below.trans aa (hb1.mono al)
  have HH:=hd3 ho (aH qc (some gc)) (hC.below qc q4);clear ho hb1 h1 qc hC
  go_wp2
  exact⟨rfl,aY.wrong (by simp only[Cert.constraints,HH.1,Option.bind_none]) HH.2.1 HH.2.2⟩
 have q3:=dE ho;have qc:Below w.heap.size w w1:=Below.trans aa (hb1.mono al);have j2:=hb1.size;simp only[World.size_alloc]at j2;have hE:=hE.mono (lo':=w.heap.size+1) ag nl_;have H1:=hd5 ho qc hE hl (hC.below qc q4);have q7:n≤2:=ab
 have qg:=hd1 hnl.symm;clear ho hb1 qc h1 hE hl q3 hC hnl
 by_cases h0:n=0
 ·subst h0
  go_wp2
  go_end0
  exact aY.right (by simp only[Cert.constraints,H1.1,Option.bind_some,qg.out,if_true]) (aH H1.2.1 _) ⟨rfl,H1.2.2.2.2⟩
 have qh:0<n:=ab
 obtain⟨g,rfl,hg,hg2⟩:=H1.2.2.1.spot_ qh;obtain⟨t0,A3,n3,c3,b0,A4,n4,c4,r0,hx0,p0,p1,p2,R0,R1,_⟩:=H1.2.2.1.el H1.2.2.2.1 (Below.refl w1.heap.size w1) nl_ 0 0 qh rfl;have H2:=hd2 hx0 R1;clear hx0 R0 R1
 go_wp2_with fail
 refine(sp t0 _ A4 n4 c4 r0 _ H2.2).mono ?_;rintro e w2 ⟨rfl,hb2⟩;obtain⟨q,hq⟩:∃q,(r0==[1,1,255])=q:=⟨_,rfl⟩
 rw[hq];have H3:=hd2 hq hb2;have j4:=hb2.size;clear hq hb2
 go_wp2_with fail
 refine(dm _ _).mono ?_;rintro e w' ⟨rfl,⟨hq,rfl⟩|⟨hq,rfl⟩⟩
 ·have HQ:=hd1 hq
  clear hq
  go_wp2
  exact⟨rfl,aY.wrong (by simp only[Cert.constraints,H1.1,Option.bind_some];rw[if_neg (by have:=qg.out;omega),cX (by simp only[Cert.yes,H2.1];exact H3.1.trans HQ.out)];rfl) (aH (H1.2.1.trans (H3.2.mono ab)) _) (H1.2.2.2.2.below H3.2 ab)⟩
 have HQ:=hd1 hq;clear hq;have qk:=H1.2.2.2.2.below H3.2 ab;have k0:w'.cell? ⟨gc,20,none⟩=some (.bool C.fl.ca):=qk.at_ 20;have k1:=qk.frozen 20;have qv:=hd1 (qk.ca true);have q5:w.grownBy (w'.setCell ⟨gc,20,none⟩ (.bool true)) (some gc):=(aH (H1.2.1.trans (H3.2.mono ab)) _).trans (bF _ _ _);have q6:au (w.heap.size+1) w1 (w'.setCell ⟨gc,20,none⟩ (.bool true)):=(au.below H3.2 nl_).trans (au.setCell ak _);have H4:=hd2 q5 (H1.2.2.1.keepRows q6);clear qk q5 q6;have qd:Hid (Cert.constraints C.fl (t,b,r)=if l.length=1 then some {C.fl with ca:=true} else (Cert.small 256 (l.getD 1 El.none_)).bind fun v=>some {C.fl with ca:=true,path:=(v:Int)}):=
  hd1 (by simp only[Cert.constraints,H1.1,Option.bind_some];rw[if_neg (by have:=qg.out;omega),bI (by simp only[Cert.yes,H2.1];exact H3.1.trans HQ.out)];rfl)
 by_cases h2:n=1
 ·subst h2
  go_wp2
  go_end0
  exact aY.right (qd.out.trans (by rw[if_pos qg.out])) H4.1 ⟨rfl,qv.out⟩
 obtain rfl:n=2:=ab
 obtain⟨t1,A6,n6,c6,b1,A7,n7,c7,r1,hx1,q0,q1,q2,Q0,Q1,_⟩:=H4.2.el H1.2.2.2.1 (Below.refl w1.heap.size _) nl_ 1 3 ab rfl;have q9:=bO H1.1 1 hx1;have j3:n6≤1099511627:=by have:=Q0.len;have:=j1.out;simp at q9;omega
 have H5:=hd2 hx1 (Q0.more (B':=(w'.setCell ⟨gc,20,none⟩ (.bool true)).heap.size) ai);clear hx1 Q0 Q1 q9 p0 p1 p2
 go_wp2_with fail
 refine(oh t1 A6 A7 n6 c6 n7 c7 256 b1 r1 _ H5.2 ab ab ab).mono ?_;rintro e w3 ⟨hb3,⟨ho,rfl⟩|⟨z,v,ho,rfl,rfl⟩⟩
 ·have HH:=hd2 ho hb3
  clear ho hb3
  go_wp2
  refine⟨rfl,aY.wrong (qd.out.trans (by rw[if_neg (by have:=qg.out;omega),H5.1,HH.1];rfl)) (H4.1.trans (aH HH.2 _)) (qv.out.below HH.2 ai)⟩
 have hz:(z:Int)<256:=by
  unfold Cert.small at ho
  cases hnu:Cert.number (t1,b1,r1) with
  | none=>rw[hnu]at ho;cases ho
  | some ys=>
   rw[hnu]at ho;simp only[Option.bind_some]at ho
   by_cases hlt:((Der.be ys:Int)<256)
   ·rw[bI (by simpa using hlt)]at ho
    injection ho with ho
    omega
   ·rw[cX (by simpa using hlt)]at ho
    cases ho
 have qs:=qv.out.below hb3 ai;have k2:w3.cell? ⟨gc,21,none⟩=some (.int .i64 C.fl.path):=qs.at_ 21;have k3:=qs.frozen 21;have j0:=hd1 (qs.path z);have H6:=hd2 ho (aH hb3 (some gc));clear ho hb3 qs
 go_wp2
 go_end0
 exact aY.right (qd.out.trans (by rw[if_neg (by have:=qg.out;omega),H5.1,H6.1];rfl)) ((H4.1.trans H6.2).trans (bF _ _ _)) ⟨rfl,j0.out⟩
end
section
set_option maxRecDepth 100000
def Cert.mean (q:Bool):List El→Option Bool
 | []=>some q
 | x::r=>(Cert.arcs x).bind fun z=>Cert.mean (q||z==[1,3,6,1,5,5,7,3,3]) r
def Cert.purposes (f:Fl) (x:El):Option Fl:=(Cert.body 48 x).bind fun b=>(Der.all b).bind fun l=>(Cert.must (decide (0<(l.length:Int)))).bind fun _=>(Cert.mean false l).bind fun q=>some {f with code:=q}
set_option maxHeartbeats 1000000 in
theorem pU (gc:Nat) (C:CV) (t:UInt8) (A1 A2:Option Addr) (n1 c1 n2 c2:Nat) (b r:List UInt8) (w:World) (hC:Bc w gc C) (h1:Rd w w.heap.size A1 n1 c1 b) (hn:n1≤1099511627) :
 Calls Tryz.prog 173 #[.pointer (some ⟨gc,0,none⟩),.agg #[.int .u8 (t.toNat:Int),.slice A1 n1 c1,.slice A2 n2 c2]] w (aY gc w (Cert.purposes C.fl (t,b,r)) (AM gc C)):=by
 have j3:=hd1 h1.len;have q7:=hC.lt
 go_enter Tryz.func173,Tryz.ntmps173
 go_wp2_with fail
 refine(eH t _ _ 48 b r _).mono ?_;rintro e w1 ⟨hb1,⟨ho,rfl⟩|⟨a,v,ho,rfl,rfl,rfl⟩⟩
 ·have qc:Below w.heap.size w w1:=Below.trans aa (hb1.mono al)
  have HH:=hd3 ho (aH qc (some gc)) (hC.below qc q7);clear ho hb1 h1 qc hC
  go_wp2
  exact⟨rfl,aY.wrong (by simp only[Cert.purposes,HH.1,Option.bind_none]) HH.2.1 HH.2.2⟩
 have qc:Below w.heap.size w w1:=Below.trans aa (hb1.mono al);have j6:=hb1.size;simp only[World.size_alloc]at j6;have H1:=hd4 ho qc (h1.up qc) (hC.below qc q7);clear ho hb1 qc h1 hC
 go_wp2_with fail
 refine(mI A1 n1 c1 a _ H1.2.2.1 hn).mono ?_;rintro e w2 ⟨hb2,⟨hany,rfl⟩|⟨L,A,n,c,hs,rfl,hE⟩⟩
 ·have qg:=H1.2.1.trans (hb2.mono H1.2.1.size)
  have H2:=hd3 hany qg (H1.2.2.2.below hb2 ab);clear hany hb2 qg
  go_wp2_with fail
  refine(bE _).mono ?_;rintro e w' ⟨rfl,rfl⟩
  go_wp2
  exact⟨rfl,aY.wrong (by simp only[Cert.purposes,H1.1,Option.bind_some,kP H2.1,Option.bind_none]) (aH H2.2.1 _) H2.2.2⟩
 have hl:=eK hE;have j8:n≤9223372036854775807:=by
  obtain⟨_,_,e,q1,q2,_⟩:=hE.1.shape;injection e with e1 e2 e3
  omega
 have q0:Der.all a=some (L.map EI.dat):=i6 (by rw[hs,List.map_map];rfl);obtain⟨l,hl'⟩:∃l,l=L.map EI.dat:=⟨_,rfl⟩
 rw[←hl']at q0;have j0:l.length=n:=by rw[hl',hl,List.length_map]
 have qg:=H1.2.1.trans (hb2.mono H1.2.1.size);have yh:=hb2.size;have H2:=hd6 q0 qg hE hl' (H1.2.2.2.below hb2 ab) j0;clear q0 hE hs hb2 hl qg hl' j0
 by_cases h0:n=0
 ·subst h0
  go_wp2_with fail
  refine(bE _).mono ?_;rintro e w' ⟨rfl,rfl⟩
  go_wp2
  exact⟨rfl,aY.wrong (by simp only[Cert.purposes,H1.1,Option.bind_some,H2.1,H2.2.2.2.2.2];rfl) (aH H2.2.1 _) H2.2.2.2.2.1⟩
 have q5:(0:Int)<n:=ab
 have j1:0<n:=ab
 have qv:Hid (Cert.purposes C.fl (t,a,r)=(Cert.mean false l).bind fun q=>some {C.fl with code:=q}):=hd1 (by
  simp only[Cert.purposes,H1.1,Option.bind_some,H2.1,H2.2.2.2.2.2];rw[bI (by simpa using q5)];rfl)
 go_wp2_with fail
 refine(cU _).mono ?_;rintro e w' ⟨rfl,rfl⟩;have q3:=H2.2.2.2.2.1;have k0:w'.cell? ⟨gc,23,none⟩=some (.bool C.fl.code):=q3.at_ 23;have k1:=q3.frozen 23;have j2:=hd1 (q3.code false);clear q3;obtain⟨g,rfl,hg,hg2⟩:=H2.2.2.1.spot_ ab
 go_wp2
 clear k0 k1
 go_loopw [27] (fun i wr=>∃(k:Nat) (q:Bool),k≤n∧i=.int .i64 k∧w'.grownBy wr (some gc)∧Bc wr gc {C with fl:={C.fl with code:=q}}∧Cert.mean false l=Cert.mean q (l.drop k)) (fun i _=>n - (intOf i).toNat)
 case atStart=>exact⟨0,false,Nat.zero_le _,rfl,bF _ _ _,j2.out,rfl⟩
 case round=>
  obtain⟨k,q,hk,rfl,hg',hBc,qh⟩:=hrel;have yy:=hg'.size;have HK:=hd3 hg' hBc qh;clear hg' hBc qh
  by_cases hlt:k<n
  ·have j4:(k:Int)<n:=ab
   have q6:=H2.2.2.1.keepRows (au.grown HK.1 ab);obtain⟨t0,A3,n3,c3,b0,A4,n4,c4,r0,hx0,p0,p1,p2,R0,R1,hxk⟩:=q6.el H2.2.2.2.1 (Below.refl w'.heap.size wr) nl_ k (k*3) hlt rfl;have j5:n3≤1099511627776:=by
    have j7:=jp H2.1 (t0,b0,r0) (by
     rw[H2.2.2.2.1];exact List.mem_map.2 ⟨_,List.mem_of_getElem? hxk,rfl⟩)
    have:=R0.len;have:=j3.out;simp at j7;omega
   have qs:l.drop k=(t0,b0,r0)::l.drop (k+1):=by
    have q9:k<l.length:=by have:=H2.2.2.2.2.2;omega
    rw[←hx0,List.getD_eq_getElem?_getD,List.getElem?_eq_getElem q9];exact List.drop_eq_getElem_cons q9
   have HX:=hd2 qs R0;clear hx0 R0 R1 hxk q6 qs
   go_wp2_with fail
   refine(kR t0 A3 A4 n3 c3 n4 c4 b0 r0 _ (((HX.2.alloc ab _).more ai)) j5).mono ?_;rintro e w3 ⟨hb3,⟨ho,rfl⟩|⟨zs,v,ho,rfl,hO⟩⟩
   ·have qd:Below wr.heap.size wr w3:=Below.trans aa (hb3.mono ag)
    have HH:=hd2 ho qd;clear ho hb3 qd
    go_wp2
    exact⟨rfl,aY.wrong (qv.out.trans (by rw[HK.2.2,HX.1];simp only[Cert.mean,HH.1,Option.bind_none])) ((aH H2.2.1 (some gc)).trans (HK.1.trans (aH HH.2 (some gc)))) (HK.2.1.below HH.2 ab)⟩
   obtain⟨A5,c5,rfl,hc5,hcm5,hn5,hr5⟩:=hO.shape;obtain⟨zn,hzn⟩:∃zn,zs.length=zn:=⟨_,rfl⟩
   rw[hzn]at hc5 hr5 ⊢;have qd:Below wr.heap.size wr w3:=Below.trans aa (hb3.mono ag);have ys:=qd.size;have H3:=hd3 ho qd hr5;clear ho hb3 qd hO hr5 hn5 hzn p0 p1 p2
   go_wp2_with fail
   refine(jf A5 _ zn c5 9 9 zs [1,3,6,1,5,5,7,3,3] w3.heap.size _ _ (H3.2.2.alloc nl_ _) (aV w3 65 ([1,3,6,1,5,5,7,3,3].map uv) w3.heap.size rfl) ag ag ab).mono ?_;rintro e w4 ⟨rfl,hb4⟩;obtain⟨z,hz⟩:∃z,(zs==[1,3,6,1,5,5,7,3,3])=z:=⟨_,rfl⟩
   rw[hz];have qk:Below wr.heap.size wr w4:=(H3.2.1.alloc ab _).trans (hb4.mono ai);have yv:=qk.size;have qh:Hid (Cert.mean false l=Cert.mean (q||z) (l.drop (k+1))):=hd1 (by
    rw[HK.2.2,HX.1];simp only[Cert.mean,H3.1,Option.bind_some,hz])
   have q4:=HK.2.1.below qk ab;have k0:w4.cell? ⟨gc,23,none⟩=some (.bool q):=q4.at_ 23;have k1:=q4.frozen 23;have H4:=hd2 (HK.1.trans (aH qk (some gc))) q4;clear hz hb4 qk q4
   cases z
   ·go_wp2
    go_roundw
    case rel=>exact⟨k+1,q,ab,by go_num,H4.1,H4.2,by rw[qh.out,Bool.or_false]⟩
    case measure=>simp[intOf];omega
   ·go_wp2
    go_roundw
    case rel=>exact⟨k+1,true,ab,by go_num,H4.1.trans (bF _ _ _),H4.2.code true,by rw[qh.out,Bool.or_true]⟩
    case measure=>simp[intOf];omega
  ·obtain rfl:n=k:=ab
   have yd:¬(n:Int)<n:=ab
   go_wp2
   go_end0
   exact aY.right (qv.out.trans (by rw[HK.2.2,List.drop_eq_nil_of_le (by have:=H2.2.2.2.2.2;omega)];rfl)) ((aH H2.2.1 (some gc)).trans HK.1) ⟨rfl,HK.2.1⟩
end
section
set_option maxRecDepth 100000
def Cert.bit (b:List UInt8) (i:Nat):Nat:=(b.getD (i / 8) 0).toNat / 2 ^ (7 - i % 8) % 2
def Cert.bitsum (b:List UInt8):Nat→Nat
 | 0=>0
 | k+1=>Cert.bitsum b k+Cert.bit b k*2 ^ k
def Cert.usage (f:Fl) (x:El):Option Fl:=(Cert.body 3 x).bind fun b=>(Der.bits b).bind fun p=>
 (Cert.must (decide (1≤8*(p.1.length:Int) - (p.2:Int))&&decide (8*(p.1.length:Int) - (p.2:Int)≤9))).bind fun _=>
  (Cert.must (Cert.bit p.1 (8*p.1.length - p.2 - 1)==1)).bind fun _=>some {f with usage:=(Cert.bitsum p.1 (8*p.1.length - p.2):Int)}
theorem sG {xs ys:List UInt8} {k:Nat} (h:Der.bits xs=some (ys,k)):k≤7:=by
 unfold Der.bits at h
 split at h
 ·cases h
 ·split at h
  ·cases h
  ·rename_i hn
   split at h
   ·injection h with h;injection h with _ h;omega
   ·cases h
theorem Bf (b:List UInt8) (i:Nat):Cert.bit b i<2:=Nat.mod_lt _ ab
theorem jF (b:List UInt8):∀k,Cert.bitsum b k<2 ^ k
 | 0=>by simp[Cert.bitsum]
 | k+1=>by
  have h1:=jF b k;have h2:=Bf b k;have h3:Cert.bit b k*2 ^ k≤1*2 ^ k:=Nat.mul_le_mul_right _ ab;simp only[Cert.bitsum,Nat.pow_succ];omega
theorem sZ (w:World) (row:Option Nat):w.grownBy w.drew row:=⟨rfl,rfl,rfl,Nat.le_refl _,fun _ _ _=>rfl⟩
theorem xi (n:Int) (h : -9223372036854775808≤n∧n≤9223372036854775807):wrap64 n=n:=by unfold wrap64;omega
theorem Bq (z p V:Nat) (hz:z<2) (hp:p≤256) (hV:V<p) (k:Nat) (hk:2 ^ k=p) :
 bits .or .i64 (V:Int) (wrap64 (wrap64 (z:Int)*(p:Int)))=((V+z*p:Nat):Int):=by
 have h6:z*p≤1*p:=Nat.mul_le_mul_right _ ab;have w1:wrap64 (z:Int)=(z:Int):=xi _ ab;have w2:(z:Int)*(p:Int)=((z*p:Nat):Int):=(Int.natCast_mul z p).symm;have w3:wrap64 ((z*p:Nat):Int)=((z*p:Nat):Int):=xi _ ab;rw[w1,w2,w3,lN _ _ ab ab]
 congr 1
 have qc:z=0∨z=1:=ab
 rcases qc with rfl|rfl
 ·simp
 ·subst hk
  have:=Nat.two_pow_add_eq_or_of_lt hV 1;rw[Nat.mul_one]at this;rw[Nat.one_mul,Nat.or_comm,←this,Nat.add_comm]
theorem Bp (x:UInt8) (V k s:Nat) (hV:V<2 ^ k) (hk:k<9) :
 bits .or .i64 (V:Int) (wrap64 (wrap64 (bits .and .u8 ((x.toNat:Int) / 2 ^ s) 1)*2 ^ k))=((V+x.toNat / 2 ^ s % 2*2 ^ k:Nat):Int):=by
 have hx:=x.toNat_lt;obtain⟨q,hq⟩:∃q,2 ^ s=q:=⟨_,rfl⟩
 have qd:(2:Int) ^ s=(q:Int):=by rw[←hq,Int.natCast_pow];rfl
 obtain⟨p,hp⟩:∃p,2 ^ k=p:=⟨_,rfl⟩
 have qc:(2:Int) ^ k=(p:Int):=by rw[←hp,Int.natCast_pow];rfl
 have h3:2 ^ k≤2 ^ 8:=Nat.pow_le_pow_right ab ab;rw[hp]at h3 hV;rw[qd,qc,hq,hp,←Int.natCast_ediv];have h2:x.toNat / q<256:=Nat.lt_of_le_of_lt (Nat.div_le_self _ _) hx;have h4:bits .and .u8 ((x.toNat / q:Nat):Int) 1=((x.toNat / q % 2:Nat):Int):=by
  have:=u8_and_nat (x.toNat / q) 1 h2 ab;rw[Nat.and_one_is_mod]at this;exact this
 rw[h4];exact Bq _ p V (Nat.mod_lt _ ab) ab hV k hp
theorem zg (ys:List UInt8) (m:Nat) (hm:1≤m):((Cert.bitsum ys m:Nat):Int) / 2 ^ (m - 1)=((Cert.bit ys (m - 1):Nat):Int):=by
 obtain⟨j,rfl⟩:∃j,m=j+1:=⟨m - 1,ab⟩
 have hb:=jF ys j;simp only[Nat.add_sub_cancel,Cert.bitsum];obtain⟨p,hp⟩:∃p,2 ^ j=p:=⟨_,rfl⟩
 have qc:(2:Int) ^ j=(p:Int):=by rw[←hp,Int.natCast_pow];rfl
 rw[hp]at hb ⊢;rw[qc,←Int.natCast_ediv,Nat.add_mul_div_right _ _ ab,Nat.div_eq_of_lt hb,Nat.zero_add]
set_option maxHeartbeats 1000000 in
theorem xg (gc:Nat) (C:CV) (t:UInt8) (A1 A2:Option Addr) (n1 c1 n2 c2:Nat) (b r:List UInt8) (w:World) (hC:Bc w gc C) (h1:Rd w w.heap.size A1 n1 c1 b) (hn:n1≤1099511627) :
 Calls Tryz.prog 172 #[.pointer (some ⟨gc,0,none⟩),.agg #[.int .u8 (t.toNat:Int),.slice A1 n1 c1,.slice A2 n2 c2]] w (aY gc w (Cert.usage C.fl (t,b,r)) (AM gc C)):=by
 have q5:=hd1 h1.len;have q2:=hC.lt
 go_enter Tryz.func172,Tryz.ntmps172
 go_wp2_with fail
 refine(eH t _ _ 3 b r _).mono ?_;rintro e w1 ⟨hb1,⟨ho,rfl⟩|⟨a,v,ho,rfl,rfl,rfl⟩⟩
 ·have qc:Below w.heap.size w w1:=Below.trans aa (hb1.mono al)
  have HH:=hd3 ho (aH qc (some gc)) (hC.below qc q2);clear ho hb1 h1 qc hC
  go_wp2
  exact⟨rfl,aY.wrong (by simp only[Cert.usage,HH.1,Option.bind_none]) HH.2.1 HH.2.2⟩
 have qc:Below w.heap.size w w1:=Below.trans aa (hb1.mono al);have j4:=hb1.size;simp only[World.size_alloc]at j4;have H1:=hd4 ho qc (h1.up qc) (hC.below qc q2);clear ho hb1 qc h1 hC
 go_wp2_with fail
 refine(pg A1 n1 c1 a _ H1.2.2.1 ab).mono ?_;rintro e w2 ⟨hb2,⟨hx,rfl⟩|⟨ys,u,A,n,c,hx,rfl,hO⟩⟩
 ·have qd:=H1.2.1.trans (hb2.mono H1.2.1.size)
  have H2:=hd3 hx qd (H1.2.2.2.below hb2 ab);clear hx hb2 qd
  go_wp2_with fail
  refine(bE _).mono ?_;rintro e w' ⟨rfl,rfl⟩
  go_wp2
  exact⟨rfl,aY.wrong (by simp only[Cert.usage,H1.1,Option.bind_some,H2.1,Option.bind_none]) (aH H2.2.1 _) H2.2.2⟩
 have qd:=H1.2.1.trans (hb2.mono H1.2.1.size);have y0:=hb2.size;have y2:=sG hx;have qs:=aM hO;have y3:n≤1099511627:=by have:=ph hx;have:=q5.out;omega
 have qg:Hid (Cert.usage C.fl (t,a,r)=(Cert.must (decide (1≤8*(n:Int) - (u:Int))&&decide (8*(n:Int) - (u:Int)≤9))).bind fun _=>(Cert.must (Cert.bit ys (8*n - u - 1)==1)).bind fun _=>some {C.fl with usage:=(Cert.bitsum ys (8*n - u):Int)}):=
  hd1 (by simp only[Cert.usage,H1.1,Option.bind_some,hx,qs])
 have H2:=hd4 qd hO (H1.2.2.2.below hb2 ab) qs;clear hx hb2 qd hO qs
 by_cases hr:1≤8*n - u∧8*n - u≤9
 ·obtain⟨m,hm⟩:∃m,8*n - u=m:=⟨_,rfl⟩
  have j2:8*(n:Int) - (u:Int)=(m:Int):=ab
  rw[hm]at hr;have q7:(1:Int)≤m:=ab
  have q9:(m:Int)≤9:=ab
  have yh:1≤m:=ab
  have yv:m≤9:=ab
  have yy:n*8=m+u:=ab
  go_wp2_with fail
  refine(cU _).mono ?_;rintro e w' ⟨rfl,rfl⟩;have qk:=H2.2.2.1;have k0:w'.cell? ⟨gc,22,none⟩=some (.int .i64 C.fl.usage):=qk.at_ 22;have k1:=qk.frozen 22;have q4:=hd1 (qk.usage 0);clear qk;obtain⟨A',n',c',e,hRd⟩:=H2.2.1.rd;injection e with e1 e2 e3
  subst e1 e2 e3;have HR:=hd1 hRd;clear hRd
  go_wp2
  clear k0 k1
  go_loopw [35] (fun i wr=>∃k:Nat,k≤m∧i=.int .i64 k∧w'.grownBy wr (some gc)∧Bc wr gc {C with fl:={C.fl with usage:=(Cert.bitsum ys k:Int)}}) (fun i _=>m - (intOf i).toNat)
  case atStart=>exact⟨0,Nat.zero_le _,rfl,bF _ _ _,q4.out⟩
  case round=>
   obtain⟨k,hk,rfl,hg',hBc⟩:=hrel;have y1:=hg'.size;obtain⟨V,hV⟩:∃V,Cert.bitsum ys k=V:=⟨_,rfl⟩
   have q1:=jF ys k;rw[hV]at hBc q1;have yd:2 ^ k≤2 ^ 9:=Nat.pow_le_pow_right ab ab;have j0:wr.cell? ⟨gc,22,none⟩=some (.int .i64 V):=hBc.at_ 22;have j1:=hBc.frozen 22;have HK:=hd3 hg' hBc hV;clear hg' hBc hV
   by_cases hlt:k<m
   ·have q6:(k:Int)<m:=ab
    have j5:k / 8<ys.length:=by have:=H2.2.2.2;omega
    obtain⟨x,hx⟩:∃x,ys[k / 8]? = some x:=⟨_,List.getElem?_eq_getElem j5⟩
    obtain⟨bl,o,rfl,hbl,hcell⟩:=HR.out.at_ ab;have q0:=H2.2.1.keep (w':=wr) (fun j h1 h2=>HK.1.block j ab (fun e=>by injection e with e;omega));have j6:wr.cell? ⟨bl,o+k / 8,none⟩=some (.int .u8 (x.toNat:Int)):=by
     obtain⟨A',n',c',e,hRr⟩:=q0.rd;injection e with e1 e2 e3
     subst e1 e2 e3;obtain⟨bl',o',e,_,hc⟩:=hRr.at_ ab;injection e with e
     injection e with e1 e2
     subst e1 e2;exact hc _ _ hx
    clear hcell q0;have j8:(k:Int)<9:=ab
    go_wp2
    go_region
    have j3:=Bp x V k (7 - k % 8) q1 ab;have qh:Cert.bit ys k=x.toNat / 2 ^ (7 - k % 8) % 2:=by
     unfold Cert.bit;rw[List.getD_eq_getElem?_getD,hx];rfl
    have e:Cert.bitsum ys (k+1)=V+x.toNat / 2 ^ (7 - k % 8) % 2*2 ^ k:=by simp only[Cert.bitsum,HK.2.2,qh]
    obtain⟨M,hM⟩:∃M,V+x.toNat / 2 ^ (7 - k % 8) % 2*2 ^ k=M:=⟨_,rfl⟩
    rw[hM]at j3 e;have HE:=hd1 e;clear qh hM e
    go_wp2
    go_roundw
    case rel=>exact⟨k+1,ab,by go_num,(HK.1.trans (bF wr ⟨gc,22,none⟩ (.int .i64 (M:Int)))).trans (sZ _ _),by
     rw[HE.out];exact HK.2.1.usage _⟩
    case measure=>simp[intOf];omega
   ·obtain rfl:m=k:=ab
    have j7:¬(m:Int)<m:=ab
    have hq:Hid (((V:Int) / 2 ^ (m - 1)==1)=(Cert.bit ys (m - 1)==1)):=hd1 (by
     have:=zg ys m ab;rw[HK.2.2]at this;rw[this]
     by_cases h1:Cert.bit ys (m - 1)=1
     ·rw[h1];rfl
     ·have h2:¬((Cert.bit ys (m - 1):Nat):Int)=1:=ab
      rw[beq_eq_false_iff_ne.2 h2,beq_eq_false_iff_ne.2 h1])
    have qv:=qg.out;rw[hm,bI (b:=decide (1≤8*(n:Int) - (u:Int))&&decide (8*(n:Int) - (u:Int)≤9)) (by rw[j2];simp[q7,q9])]at qv;have HS:=hd1 qv;clear qv
    go_wp2_with fail
    refine(dm _ _).mono ?_;rintro e w3 ⟨rfl,⟨hx,rfl⟩|⟨hx,rfl⟩⟩
    ·have HX:=hd1 hx
     clear hx
     go_wp2
     refine⟨rfl,aY.wrong (HS.out.trans ?_) ((aH H2.1 (some gc)).trans HK.1) HK.2.1⟩;rw[Option.bind_some,cX (hq.out.symm.trans HX.out)]
     rfl
    ·have HX:=hd1 hx
     clear hx
     go_wp2
     go_end0
     refine aY.right (a:={C.fl with usage:=(Cert.bitsum ys m:Int)}) (HS.out.trans ?_) ((aH H2.1 (some gc)).trans HK.1) ⟨rfl,?_⟩
     ·rw[Option.bind_some,bI (hq.out.symm.trans HX.out)]
      rfl
     ·have:=HK.2.1
      rw[←HK.2.2]at this;exact this
 ·have q3:Hid (Cert.usage C.fl (t,a,r)=none):=hd1 (qg.out.trans (by rw[cX (b:=decide (1≤8*(n:Int) - (u:Int))&&decide (8*(n:Int) - (u:Int)≤9)) ai];rfl))
  by_cases h1:1≤8*(n:Int) - (u:Int)
  ·have h2:¬(8*(n:Int) - (u:Int)≤9):=ab
   have h3:9<8*(n:Int) - (u:Int):=ab
   go_wp2_with fail
   refine(dm _ _).mono ?_;rintro e w' ⟨rfl,⟨hq,rfl⟩|⟨hq,rfl⟩⟩
   case inr=>exact absurd (of_decide_eq_true hq) ab
   clear hq
   go_wp2
   exact⟨rfl,aY.wrong q3.out (aH H2.1 _) H2.2.2.1⟩
  ·have h3:8*(n:Int) - (u:Int)<1:=ab
   go_wp2_with fail
   refine(bE _).mono ?_;rintro e w' ⟨rfl,rfl⟩
   go_wp2
   exact⟨rfl,aY.wrong q3.out (aH H2.1 _) H2.2.2.1⟩
end
end
end Go.Proofs.YtmpkpphfoidbeaaGreatDoor
