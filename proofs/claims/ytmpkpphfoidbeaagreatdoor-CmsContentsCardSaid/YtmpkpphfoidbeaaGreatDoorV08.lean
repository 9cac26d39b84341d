import Derived.Deep.Cut
import Derived.Test.YtmpkpphfoidbeaaGreatDoorV07
set_option linter.unusedVariables false
set_option linter.unusedSimpArgs false
namespace Go.Proofs.YtmpkpphfoidbeaaGreatDoor
open Go.RowKit
section
section
set_option maxRecDepth 100000
def Cert.lastOk (l:List El) (j:Nat):Bool:=(((l.getD j El.none_).1.toNat:Int)==4)&&(decide (j=1)||Cert.yes (l.getD 1 El.none_))
def Cert.told (f:Fl) (o:List Nat) (l:List El) (j:Nat):Option Fl:=
 if o=[2,5,29,19] then(Cert.only (l.getD j El.none_).2.1).bind (Cert.constraints f)
 else if o=[2,5,29,15] then(Cert.only (l.getD j El.none_).2.1).bind (Cert.usage f)
 else if o=[2,5,29,37] then(Cert.only (l.getD j El.none_).2.1).bind (Cert.purposes f)
 else (Cert.must (decide (j=1))).bind fun _=>some f
def Cert.extension (f:Fl) (x:El):Option (Fl×List UInt8):=(Cert.parts 48 2 3 x).bind fun l=>(Cert.arcs (l.getD 0 El.none_)).bind fun o=>
 (Cert.must (Cert.lastOk l (l.length - 1))).bind fun _=>(Cert.told f o l (l.length - 1)).bind fun g=>some (g,(l.getD 0 El.none_).2.1)
theorem aF.take {w:World} {B n:Nat} {A:Option Addr} {xs:List Value} (h:aF w B 1 A n xs) (k:Nat) (hk:k≤n):aF w B 1 A k (xs.take k):=by
 refine⟨by rw[List.length_take,h.1];omega,fun h0=>?_⟩;obtain⟨ad,e,hb,hc⟩:=h.2 ab;refine⟨ad,e,hb,fun j u hu=>hc j u ?_⟩;rw[List.getElem?_take]at hu
 split at hu
 ·exact hu
 ·cases hu
theorem uq (f:Fl) (o:List Nat) (l:List El) (j:Nat) (h:(decide (o.length=4)&&(o.take 3==[2,5,29]))=false):Cert.told f o l j=(Cert.must (decide (j=1))).bind fun _=>some f:=by
 unfold Cert.told;rw[if_neg,if_neg,if_neg]
 all_goals (rintro rfl;revert h;decide)
theorem wX (f:Fl) (o:List Nat) (l:List El) (j:Nat) (h:(decide (o.length=4)&&(o.take 3==[2,5,29]))=true):∃z,o=[2,5,29,z]∧Cert.told f o l j =
 if (z:Int)=19 then(Cert.only (l.getD j El.none_).2.1).bind (Cert.constraints f) else if (z:Int)=15 then(Cert.only (l.getD j El.none_).2.1).bind (Cert.usage f)
 else if (z:Int)=37 then(Cert.only (l.getD j El.none_).2.1).bind (Cert.purposes f) else (Cert.must (decide (j=1))).bind fun _=>some f:=by
 simp only[Bool.and_eq_true,decide_eq_true_eq,beq_iff_eq]at h;obtain⟨h1,h2⟩:=h
 match o,h1,h2 with
 | [a,b,c,z],_,h2=>
  simp only[List.take_succ_cons,List.take_zero,List.cons.injEq,and_true]at h2;obtain⟨rfl,rfl,rfl⟩:=h2;refine⟨z,rfl,?_⟩;unfold Cert.told;simp only[List.cons.injEq,and_true,true_and]
  by_cases e1:z=19
  ·rw[if_pos e1,if_pos (show(z:Int)=19 by omega)]
  rw[if_neg e1,if_neg (show ¬(z:Int)=19 by omega)]
  by_cases e2:z=15
  ·rw[if_pos e2,if_pos (show(z:Int)=15 by omega)]
  rw[if_neg e2,if_neg (show ¬(z:Int)=15 by omega)]
  by_cases e3:z=37
  ·rw[if_pos e3,if_pos (show(z:Int)=37 by omega)]
  rw[if_neg e3,if_neg (show ¬(z:Int)=37 by omega)]
def BU (gc:Nat) (C:CV) (p:Fl×List UInt8) (v:Value) (w':World):Prop:=v=.string ⟨p.2.toArray⟩∧Bc w' gc {C with fl:=p.1}
set_option maxHeartbeats 2000000 in
theorem oq (gc:Nat) (C:CV) (t:UInt8) (A1 A2:Option Addr) (n1 c1 n2 c2:Nat) (b r:List UInt8) (w:World) (hC:Bc w gc C) (h1:Rd w w.heap.size A1 n1 c1 b) (hn:n1≤1099511627) :
 Calls Tryz.prog 153 #[.pointer (some ⟨gc,0,none⟩),.agg #[.int .u8 (t.toNat:Int),.slice A1 n1 c1,.slice A2 n2 c2]] w (aY gc w (Cert.extension C.fl (t,b,r)) (BU gc C)):=by
 have y7:=hd1 h1.len;have yy:=hC.lt
 go_enter Tryz.func153,Tryz.ntmps153
 go_wp2_with fail
 refine(du t A1 A2 n1 c1 n2 c2 48 2 3 b r _ ((h1.alloc nl_ _).more ag) hn).mono ?_;rintro e w1 ⟨hb1,⟨ho,rfl⟩|⟨l,v,ho,rfl,L,A,n,c,rfl,hl,hE,hnl⟩⟩
 ·have qk:Below w.heap.size w w1:=Below.trans aa (hb1.mono al)
  have HH:=hd3 ho (aH qk (some gc)) (hC.below qk yy);clear ho hb1 h1 qk hC
  go_wp2
  exact⟨rfl,aY.wrong (by simp only[Cert.extension,HH.1,Option.bind_none]) HH.2.1 HH.2.2⟩
 have ys:=dE ho;obtain⟨j,rfl⟩:∃j,n=j+1:=⟨n - 1,ab⟩
 have hj:j=1∨j=2:=ab
 have y3:l.length - 1=j:=ab
 have qk:Below w.heap.size w w1:=Below.trans aa (hb1.mono al);have z4:=hb1.size;simp only[World.size_alloc]at z4;obtain⟨g,rfl,hg,hg2⟩:=hE.spot_ ab;have hE:=hE.mono (lo':=w.heap.size+1) ag nl_;obtain⟨t0,A3,n3,c3,b0,A4,n4,c4,r0,hx0,p0,p1,p2,R0,R1,_⟩:=hE.el hl (Below.refl w1.heap.size w1) nl_ 0 0 ab rfl;obtain⟨tj,Aj,nj,cj,bj,Ak,nk,ck,rj,hxj,s0,s1,s2,Rj,_,_⟩:=hE.el hl (Below.refl w1.heap.size w1) nl_ j (j*3) ab rfl;have y6:=bO ho 0 hx0;have j7:=bO ho j hxj;have ve:n3≤1099511627∧nj≤1099511627:=by have:=R0.len;have:=Rj.len;have:=y7.out;simp at y6 j7;omega
 have q4:Hid (Cert.extension C.fl (t,b,r)=(Cert.arcs (t0,b0,r0)).bind fun o=>(Cert.must (Cert.lastOk l j)).bind fun _=>(Cert.told C.fl o l j).bind fun g=>some (g,b0)):=hd1 (by
  simp only[Cert.extension,ho,Option.bind_some,y3,hx0])
 have H1:=hd8 qk hE hl (hC.below qk yy) R0 Rj hx0 hxj;clear ho hb1 qk h1 hE hl ys hC R0 R1 Rj hx0 hxj y6 j7 hnl y3;have va:(0:Int)≤j:=ab
 have qh:(j:Int)<(j:Int)+1:=ab
 go_wp2_with fail
 refine(kR t0 A3 A4 n3 c3 n4 c4 b0 r0 _ H1.2.2.2.2.1 ab).mono ?_;rintro e w2 ⟨hb2,⟨ho,rfl⟩|⟨zs,v,ho,rfl,hO⟩⟩
 ·have HH:=hd2 ho hb2
  clear ho hb2
  go_wp2
  exact⟨rfl,aY.wrong (q4.out.trans (by rw[HH.1];rfl)) (aH (H1.1.trans (HH.2.mono ab)) _) (H1.2.2.2.1.below HH.2 ab)⟩
 obtain⟨A5,c5,rfl,hc5,hcm5,hn5,hr5⟩:=hO.shape;obtain⟨zn,hzn⟩:∃zn,zs.length=zn:=⟨_,rfl⟩
 rw[hzn]at hc5 hr5 ⊢;have j1:=hb2.size;have qg:Hid (Cert.extension C.fl (t,b,r)=(Cert.must (Cert.lastOk l j)).bind fun _=>(Cert.told C.fl zs l j).bind fun g=>some (g,b0)):=hd1 (by rw[q4.out,ho];rfl);have q0:=(hb2.cell (p:=⟨g,j*3,none⟩) hg).trans s0;have q1:=(hb2.cell (p:=⟨g,j*3+1,none⟩) hg).trans s1;have q2:=(hb2.cell (p:=⟨g,j*3+2,none⟩) hg).trans s2;have j3:=H1.1.trans (hb2.mono ab);have H2:=hd5 hb2 j3 hr5 hzn hO;clear hb2 j3 hO hr5 hn5 hzn ho q4 s0 s1 s2
 go_upto_region 4 with fail
 have j4:=(Below.refl w2.heap.size w2).alloc nl_ (.cells #[.int .u8 (tj.toNat:Int),.slice Aj nj cj,.slice Ak nk ck] 84);have j0:=aw.new w2 84 #[.int .u8 (tj.toNat:Int),.slice Aj nj cj,.slice Ak nk ck];have yh:=(H1.2.2.2.1.below H2.1 ab).below j4 ab;obtain⟨w3,hw3⟩:∃w3,w2.alloc (.cells #[.int .u8 (tj.toNat:Int),.slice Aj nj cj,.slice Ak nk ck] 84)=w3:=⟨_,rfl⟩
 rw[hw3]at j4 j0 yh ⊢;clear hw3;have y4:=j4.size;have z3:=j0.lt;have e0:=j0.cell 0;have e1:=j0.cell 1;have e2:=j0.cell 2;simp only[List.getElem?_toArray,List.getElem?_cons_zero,List.getElem?_cons_succ]at e0 e1 e2;have H3:=hd3 j4 j0 yh;clear j4 j0 yh q0 q1 q2;have q5:∀q:Bool,q=((((tj.toNat:Int)==4))&&(decide (j=1)||Cert.yes (l.getD 1 El.none_)))→Cert.lastOk l j=q:=by
  rintro q rfl;unfold Cert.lastOk;rw[H1.2.2.2.2.2.2.2]
 have q6:=hd1 q5;clear q5
 go_cut [] from 9 (fun wx=>Below w3.heap.size w3 wx∧Cert.lastOk l j=true)
 case first=>
  by_cases h4:(tj.toNat:Int)=4
  ·have j8:((tj.toNat:Int)==4)=true:=by simp[h4]
   clear h4
   by_cases qh:j=1
   ·have f1:((j:Int)+1==2)=true:=by rw[qh];rfl
    have j5:Hid (Cert.lastOk l j=true):=hd1 (q6.out _ (by rw[j8,decide_eq_true qh];rfl));clear qh hj
    go_wp2_with fail
    refine(cU _).mono ?_;rintro e w' ⟨rfl,rfl⟩
    go_wp2
    go_meet
    case rel=>exact⟨Below.refl _ _,j5.out⟩
   ·have f1:((j:Int)+1==2)=false:=ai
    have f2:(1:Int)<(j:Int)+1:=ab
    have f3:1<j+1:=ab
    obtain⟨ty,A6,n6,c6,b6,A7,n7,c7,r7,hx1,y0,y1,y2,Y0,Y1,_⟩:=H1.2.1.el H1.2.2.1 (H2.1.trans (H3.1.mono j1)) nl_ 1 3 ab rfl;have j5:Hid (Cert.lastOk l j=(r7==[1,1,255])):=hd1 (q6.out _ (by rw[j8,decide_eq_false qh,hx1];rfl));have HY:=hd1 (Y1.more (B':=w3.heap.size) ab);clear qh hj Y0 Y1 hx1
    go_wp2_with fail
    refine(sp ty _ A7 n7 c7 r7 _ HY.out).mono ?_;rintro e w4 ⟨rfl,hb4⟩;obtain⟨q,hq⟩:∃q,(r7==[1,1,255])=q:=⟨_,rfl⟩
    rw[hq];have H4:=hd2 hb4 (j5.out.trans hq);clear hq hb4
    go_wp2_with fail
    refine(dm _ _).mono ?_;rintro e w' ⟨rfl,⟨hq,rfl⟩|⟨hq,rfl⟩⟩
    ·have HQ:=hd1 hq
     clear hq
     go_wp2
     exact⟨rfl,aY.wrong (qg.out.trans (by rw[cX (H4.2.trans HQ.out)];rfl)) (aH (H2.2.1.trans ((H3.1.mono ab).trans (H4.1.mono ab))) _) (H3.2.2.below H4.1 ab)⟩
    ·have HQ:=hd1 hq
     clear hq
     go_wp2
     go_meet
     case rel=>exact⟨H4.1,H4.2.trans HQ.out⟩
  ·have j8:((tj.toNat:Int)==4)=false:=by simp[h4]
   have j5:Hid (Cert.lastOk l j=false):=hd1 (q6.out _ (by rw[j8];rfl));clear h4
   go_wp2_with fail
   refine(bE _).mono ?_;rintro e w' ⟨rfl,rfl⟩
   go_wp2
   exact⟨rfl,aY.wrong (qg.out.trans (by rw[cX j5.out];rfl)) (aH (H2.2.1.trans (H3.1.mono ab)) _) H3.2.2⟩
 case rest=>
  obtain⟨wd,hwd⟩:∃wd,wd=wc:=⟨_,rfl⟩
  subst hwd;obtain⟨hb4,hlk⟩:=hcut;have vi:=hb4.size;have qc:Hid (Cert.extension C.fl (t,b,r)=(Cert.told C.fl zs l j).bind fun g=>some (g,b0)):=hd1 (qg.out.trans (by rw[bI hlk];rfl));have H4:=hd4 hb4 (H2.2.1.trans ((H3.1.mono ab).trans (hb4.mono ab))) (H3.2.1.below hb4 ab) (H3.2.2.below hb4 ab);clear qg hlk hb4 e0 e1 e2
  go_upto_region 5 with fail
  go_cut [8] from 9 (fun s8 wx=>s8=.bool (decide (zn=4)&&(zs.take 3==[2,5,29]))∧Below wd.heap.size wd wx)
  case first=>
   by_cases hz:zn=4
   ·have f1:((zn:Int)==4)=true:=by rw[hz];rfl
    have f2:(3:Int)≤(zn:Int):=ab
    have f3:3≤zn:=ab
    have f4:(3:Int)≤(c5:Int):=ab
    have f5:3≤c5:=ab
    have zz:=hd1 hz;clear hz
    go_wp2_with fail
    refine(jf A5 _ 3 c5 3 3 (zs.take 3) [2,5,29] w2.heap.size _ _ ((by
     have h:=(H2.2.2.1.take 3 f3)
     rw[←List.map_take]at h;exact(h.below (H3.1.trans (H4.1.mono y4))).alloc ab _)) (aV wd 65 ([2,5,29].map uv) wd.heap.size rfl) ai ag ab).mono ?_
    rintro e w6 ⟨rfl,hb6⟩;have j2:Below wd.heap.size wd w6:=Below.trans aa (hb6.mono ag);obtain⟨q,hq⟩:∃q,(zs.take 3==[2,5,29])=q:=⟨_,rfl⟩
    rw[hq];have H6:=hd2 hq j2;clear hb6 j2 hq
    go_wp2
    go_meet
    case rel=>exact⟨by rw[decide_eq_true zz.out,H6.1];rfl,H6.2⟩
   ·have f1:((zn:Int)==4)=false:=ai
    go_wp2
    go_meet
    case rel=>exact⟨by rw[decide_eq_false hz];rfl,Below.refl _ _⟩
  case rest=>
   obtain⟨hk,hb5⟩:=hcut;obtain⟨kn,hkn⟩:∃kn,(decide (zn=4)&&(zs.take 3==[2,5,29]))=kn:=⟨_,rfl⟩
   rw[hkn]at hk;subst hk;have z5:=hb5.size;have HC:=hd1 hb5;rw[←H2.2.2.2.1]at hkn
   cases kn
   ·have q3:=uq C.fl zs l j hkn
    have q9:=hd1 q3;clear q3 hkn hb5;have hd:Hid (Cert.extension C.fl (t,b,r)=((Cert.must (decide (j=1))).bind fun _=>some C.fl).bind fun g=>some (g,b0)):=hd1 (qc.out.trans (by rw[q9.out]))
    by_cases qh:j=1
    ·have f1:((j:Int)+1==2)=true:=by rw[qh];rfl
     have qs:Hid (Cert.told C.fl zs l j=some C.fl):=hd1 (by rw[q9.out,bI (decide_eq_true qh)];rfl);clear qh hj
     go_wp2_with fail
     refine(cU _).mono ?_;rintro e w6 ⟨rfl,rfl⟩;have HG:Hid (w1.grownBy w6 (some gc)∧Bc w6 gc {C with fl:=C.fl}∧Cert.told C.fl zs l j=some C.fl):=hd1 ⟨aH (H2.1.trans ((H3.1.mono j1).trans ((H4.1.mono ab).trans (HC.out.mono ab)))) _,H4.2.2.2.below HC.out ab,qs.out⟩;obtain⟨tx,B3,m3,d3,b3,B4,m4,d4,r3,hx3,z0,z1,z2,S0,S1,_⟩:=(H1.2.1.keepRows (au.grown HG.1 ab)).el H1.2.2.1 (Below.refl w1.heap.size w6) nl_ 0 0 ab rfl;have z7:=dp S0 9 Tryz.underlying9;have yd:=hd1 hx3;clear hx3 S0 S1 p0 p1 p2 z0 z2
     go_wp2
     go_ret
     have e:b3=b0:=by
      have h1:=yd.out;have h2:=H1.2.2.2.2.2.2.1;rw[h1]at h2;injection h2 with _ h2
      injection h2 with h2 _
     subst e;exact aY.right (qc.out.trans (by rw[HG.2.2];rfl)) ((aH H1.1 (some gc)).trans HG.1) ⟨rfl,HG.2.1⟩
    ·have f1:((j:Int)+1==2)=false:=ai
     have qs:Hid (Cert.extension C.fl (t,b,r)=none):=hd1 (hd.out.trans (by rw[cX (decide_eq_false qh)];rfl));clear qh hj
     go_wp2_with fail
     refine(bE _).mono ?_;rintro e w6 ⟨rfl,rfl⟩
     go_wp2
     exact⟨rfl,aY.wrong qs.out (aH (H4.2.1.trans (HC.out.mono ab)) _) (H4.2.2.2.below HC.out ab)⟩
   ·obtain⟨z,hzs,q3⟩:=wX C.fl zs l j hkn
    subst hzs;obtain rfl:zn=4:=by have:=H2.2.2.2.1;simp at this;omega
    have q9:=hd1 q3;obtain⟨ad5,e5,_,hc5⟩:=(H2.2.2.1.below (H3.1.trans ((H4.1.mono y4).trans (HC.out.mono ab)))).2 ab;obtain⟨g5,_,e6,_,_⟩:=H2.2.2.2.2.1.form ag;injection e6 with e6 e7 e8
    clear e7 e8;subst e6;injection e5 with e5
    subst e5;have yv:=hc5 3 (uv z) rfl;rw[Addr.add_lit,Nat.zero_add]at yv;clear hc5 q3 hkn hb5;have z6:wc.cell? ⟨g5,3,none⟩=some (.int .u64 (z:Int)):=yv;clear yv;have q7:=hd1 (((H1.2.2.2.2.2.1.below (H2.1.trans ((H3.1.mono j1).trans ((H4.1.mono ab).trans (HC.out.mono ab))))).more (B':=wc.heap.size) ab));have qd:=H4.2.2.1.below HC.out ab;have e0:=qd.cell 0;have e1:=qd.cell 1;have e2:=qd.cell 2;simp only[List.getElem?_toArray,List.getElem?_cons_zero,List.getElem?_cons_succ]at e0 e1 e2;clear qd;apply_assumption;refine wp_seq_k fun K hK=>?_
    go_cut [] from 9 (fun wx=>∃f,w1.grownBy wx (some gc)∧Bc wx gc {C with fl:=f}∧Cert.told C.fl [2,5,29,z] l j=some f)
    case first=>
     by_cases a1:(z:Int)=19
     ·have f1:((z:Int)==19)=true:=by simp[a1]
      have q3:Hid (Cert.told C.fl [2,5,29,z] l j=(Cert.only bj).bind (Cert.constraints C.fl)):=hd1 (by rw[q9.out,if_pos a1,H1.2.2.2.2.2.2.2]);clear a1
      go_wp2_with fail
      refine(gT Aj nj cj bj _ q7.out ab).mono ?_;rintro e w6 ⟨hb6,⟨ho,rfl⟩|⟨⟨t2,b2,r2⟩,v,ho,rfl,A9,n9,c9,Aa,na,ca,rfl,hO⟩⟩
      ·have HH:=hd2 ho hb6
       clear ho hb6
       go_wp2
       exact⟨rfl,aY.wrong (qc.out.trans (by rw[q3.out,HH.1];rfl)) (aH ((H4.2.1.trans (HC.out.mono ab)).trans (HH.2.mono ab)) _) ((H4.2.2.2.below HC.out ab).below HH.2 ab)⟩
      have y5:=hb6.size;have j6:n9≤1099511627:=by have:=gU ho;have:=q7.out.len;obtain⟨m,h1,h2,_⟩:=hO;have:=aM h2;simp at *;omega
      have qv:=(hO.rd (by simp:(Value.slice A9 n9 c9,b2)∈_)).rd;obtain⟨A8',n8',c8',e,qv⟩:=qv;injection e with e1 e2 e3
      subst e1 e2 e3;have H6:=hd5 hb6 qv ((H4.2.2.2.below HC.out ab).below hb6 ab) ((H4.2.1.trans (HC.out.mono ab)).trans (hb6.mono ab)) (show Cert.told C.fl [2,5,29,z] l j=Cert.constraints C.fl (t2,b2,r2) by rw[q3.out,ho];rfl);clear ho hb6 hO qv
      go_wp2_with fail
      refine(lJ gc C t2 A9 Aa n9 c9 na ca b2 r2 _ H6.2.2.1 H6.2.1 j6).mono ?_;rintro e w7 ⟨hg7,⟨ho,rfl,C',hC'⟩|⟨f,v,ho,rfl,rfl,hC'⟩⟩
      ·have HH:=hd3 ho hg7 hC'
       clear ho hg7 hC'
       go_wp2
       exact⟨rfl,aY.wrong (qc.out.trans (by rw[H6.2.2.2.2,HH.1];rfl)) ((aH H6.2.2.2.1 _).trans HH.2.1) HH.2.2⟩
      have HH:=hd3 ho hg7 hC';clear ho hg7 hC'
      go_wp2
      go_meet
      case rel=>exact⟨f,(aH (H2.1.trans ((H3.1.mono j1).trans ((H4.1.mono ab).trans ((HC.out.mono ab).trans (H6.1.mono ab))))) _).trans HH.2.1,HH.2.2,H6.2.2.2.2.trans HH.1⟩
     have f1:((z:Int)==19)=false:=by simp[a1]
     by_cases a2:(z:Int)=15
     ·have f2:((z:Int)==15)=true:=by simp[a2]
      have q3:Hid (Cert.told C.fl [2,5,29,z] l j=(Cert.only bj).bind (Cert.usage C.fl)):=hd1 (by rw[q9.out,if_neg a1,if_pos a2,H1.2.2.2.2.2.2.2]);clear a2
      go_wp2_with fail
      refine(gT Aj nj cj bj _ q7.out ab).mono ?_;rintro e w6 ⟨hb6,⟨ho,rfl⟩|⟨⟨t2,b2,r2⟩,v,ho,rfl,A9,n9,c9,Aa,na,ca,rfl,hO⟩⟩
      ·have HH:=hd2 ho hb6
       clear ho hb6
       go_wp2
       exact⟨rfl,aY.wrong (qc.out.trans (by rw[q3.out,HH.1];rfl)) (aH ((H4.2.1.trans (HC.out.mono ab)).trans (HH.2.mono ab)) _) ((H4.2.2.2.below HC.out ab).below HH.2 ab)⟩
      have y5:=hb6.size;have j6:n9≤1099511627:=by have:=gU ho;have:=q7.out.len;obtain⟨m,h1,h2,_⟩:=hO;have:=aM h2;simp at *;omega
      have qv:=(hO.rd (by simp:(Value.slice A9 n9 c9,b2)∈_)).rd;obtain⟨A8',n8',c8',e,qv⟩:=qv;injection e with e1 e2 e3
      subst e1 e2 e3;have H6:=hd5 hb6 qv ((H4.2.2.2.below HC.out ab).below hb6 ab) ((H4.2.1.trans (HC.out.mono ab)).trans (hb6.mono ab)) (show Cert.told C.fl [2,5,29,z] l j=Cert.usage C.fl (t2,b2,r2) by rw[q3.out,ho];rfl);clear ho hb6 hO qv
      go_wp2_with fail
      refine(xg gc C t2 A9 Aa n9 c9 na ca b2 r2 _ H6.2.2.1 H6.2.1 j6).mono ?_;rintro e w7 ⟨hg7,⟨ho,rfl,C',hC'⟩|⟨f,v,ho,rfl,rfl,hC'⟩⟩
      ·have HH:=hd3 ho hg7 hC'
       clear ho hg7 hC'
       go_wp2
       exact⟨rfl,aY.wrong (qc.out.trans (by rw[H6.2.2.2.2,HH.1];rfl)) ((aH H6.2.2.2.1 _).trans HH.2.1) HH.2.2⟩
      have HH:=hd3 ho hg7 hC';clear ho hg7 hC'
      go_wp2
      go_meet
      case rel=>exact⟨f,(aH (H2.1.trans ((H3.1.mono j1).trans ((H4.1.mono ab).trans ((HC.out.mono ab).trans (H6.1.mono ab))))) _).trans HH.2.1,HH.2.2,H6.2.2.2.2.trans HH.1⟩
     have f2:((z:Int)==15)=false:=by simp[a2]
     by_cases a3:(z:Int)=37
     ·have f3:((z:Int)==37)=true:=by simp[a3]
      have q3:Hid (Cert.told C.fl [2,5,29,z] l j=(Cert.only bj).bind (Cert.purposes C.fl)):=hd1 (by rw[q9.out,if_neg a1,if_neg a2,if_pos a3,H1.2.2.2.2.2.2.2]);clear a3
      go_wp2_with fail
      refine(gT Aj nj cj bj _ q7.out ab).mono ?_;rintro e w6 ⟨hb6,⟨ho,rfl⟩|⟨⟨t2,b2,r2⟩,v,ho,rfl,A9,n9,c9,Aa,na,ca,rfl,hO⟩⟩
      ·have HH:=hd2 ho hb6
       clear ho hb6
       go_wp2
       exact⟨rfl,aY.wrong (qc.out.trans (by rw[q3.out,HH.1];rfl)) (aH ((H4.2.1.trans (HC.out.mono ab)).trans (HH.2.mono ab)) _) ((H4.2.2.2.below HC.out ab).below HH.2 ab)⟩
      have y5:=hb6.size;have j6:n9≤1099511627:=by have:=gU ho;have:=q7.out.len;obtain⟨m,h1,h2,_⟩:=hO;have:=aM h2;simp at *;omega
      have qv:=(hO.rd (by simp:(Value.slice A9 n9 c9,b2)∈_)).rd;obtain⟨A8',n8',c8',e,qv⟩:=qv;injection e with e1 e2 e3
      subst e1 e2 e3;have H6:=hd5 hb6 qv ((H4.2.2.2.below HC.out ab).below hb6 ab) ((H4.2.1.trans (HC.out.mono ab)).trans (hb6.mono ab)) (show Cert.told C.fl [2,5,29,z] l j=Cert.purposes C.fl (t2,b2,r2) by rw[q3.out,ho];rfl);clear ho hb6 hO qv
      go_wp2_with fail
      refine(pU gc C t2 A9 Aa n9 c9 na ca b2 r2 _ H6.2.2.1 H6.2.1 j6).mono ?_;rintro e w7 ⟨hg7,⟨ho,rfl,C',hC'⟩|⟨f,v,ho,rfl,rfl,hC'⟩⟩
      ·have HH:=hd3 ho hg7 hC'
       clear ho hg7 hC'
       go_wp2
       exact⟨rfl,aY.wrong (qc.out.trans (by rw[H6.2.2.2.2,HH.1];rfl)) ((aH H6.2.2.2.1 _).trans HH.2.1) HH.2.2⟩
      have HH:=hd3 ho hg7 hC';clear ho hg7 hC'
      go_wp2
      go_meet
      case rel=>exact⟨f,(aH (H2.1.trans ((H3.1.mono j1).trans ((H4.1.mono ab).trans ((HC.out.mono ab).trans (H6.1.mono ab))))) _).trans HH.2.1,HH.2.2,H6.2.2.2.2.trans HH.1⟩
     have f3:((z:Int)==37)=false:=by simp[a3]
     have hd:Hid (Cert.told C.fl [2,5,29,z] l j=(Cert.must (decide (j=1))).bind fun _=>some C.fl):=hd1 (by rw[q9.out,if_neg a1,if_neg a2,if_neg a3]);clear a1 a2 a3
     by_cases qh:j=1
     ·have f5:((j:Int)+1==2)=true:=by rw[qh];rfl
      have qs:Hid (Cert.told C.fl [2,5,29,z] l j=some C.fl):=hd1 (by rw[hd.out,bI (decide_eq_true qh)];rfl);clear qh hj
      go_wp2_with fail
      refine(cU _).mono ?_;rintro e w6 ⟨rfl,rfl⟩
      go_wp2
      go_meet
      case rel=>exact⟨C.fl,aH (H2.1.trans ((H3.1.mono j1).trans ((H4.1.mono ab).trans (HC.out.mono ab)))) _,H4.2.2.2.below HC.out ab,qs.out⟩
     ·have f5:((j:Int)+1==2)=false:=ai
      have qs:Hid (Cert.extension C.fl (t,b,r)=none):=hd1 (qc.out.trans (by rw[hd.out,cX (decide_eq_false qh)];rfl));clear qh hj
      go_wp2_with fail
      refine(bE _).mono ?_;rintro e w6 ⟨rfl,rfl⟩
      go_wp2
      exact⟨rfl,aY.wrong qs.out (aH (H4.2.1.trans (HC.out.mono ab)) _) (H4.2.2.2.below HC.out ab)⟩
    case rest=>
     obtain⟨we,hwe⟩:∃we,we=wc:=⟨_,rfl⟩
     clear HC e0 e1 e2 q7 z6 z5;obtain⟨f,hG⟩:=hcut;have HG:=hd1 hG;clear hG;obtain⟨tx,B3,m3,d3,b3,B4,m4,d4,r3,hx3,z0,z1,z2,S0,S1,_⟩:=(H1.2.1.keepRows (au.grown HG.1 ab)).el H1.2.2.1 (Below.refl w1.heap.size _) nl_ 0 0 ab rfl;have z7:=dp S0 9 Tryz.underlying9;have yd:=hd1 hx3;clear hx3 S0 S1 p0 p1 p2 z0 z2
     go_wp2
     go_ret
     have e:b3=b0:=by
      have h1:=yd.out;have h2:=H1.2.2.2.2.2.2.1;rw[h1]at h2;injection h2 with _ h2
      injection h2 with h2 _
     subst e;exact aY.right (qc.out.trans (by rw[HG.2.2];rfl)) ((aH H1.1 (some gc)).trans HG.1) ⟨rfl,HG.2.1⟩
end
end
end Go.Proofs.YtmpkpphfoidbeaaGreatDoor
