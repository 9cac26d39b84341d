import Derived.Test.YtmpkpphfoidbeaaGreatDoorV19
set_option linter.unusedVariables false
set_option linter.unusedSimpArgs false
namespace Go.Proofs.YtmpkpphfoidbeaaGreatDoor
open Go.RowKit
theorem Zc.assoc {α β γ:Type} (o:Except Nat α) (f:α→Except Nat β) (g:β→Except Nat γ):(o.bind f).bind g=o.bind fun a=>(f a).bind g:=by cases o<;>rfl
theorem Zc.form_ok {b:Bool} {u:Unit} (h:Zc.form b=.ok u):b=true:=by
 unfold Zc.form Zc.must at h
 cases b
 ·simp at h
 ·rfl
theorem Zc.form_zero {er er':Nat} {b:Bool} (he:er'=Zc.next er (Zc.form b)) (h0:er'=0):Zc.form b=.ok ():=(Zc.next_zero .form (he▸h0)).2.elim fun _ h=>h
theorem Zc.body_ok {u:Int} {x:El} {a:List UInt8} (h:Zc.body u x=.ok a):a=x.2.1:=by
 unfold Zc.body at h
 cases hf:Zc.form ((x.1.toNat:Int)==u) with
 | ok _=>rw[hf]at h;injection h with h;exact h.symm
 | error k=>rw[hf]at h;cases h
theorem Zc.oid_ok {x:El} {a:List UInt8} (h:Zc.oid x=.ok a):a=x.2.1:=by
 unfold Zc.oid at h
 cases hf:Zc.form (Der.oid x.2.1).isSome with
 | ok _=>rw[hf]at h;exact Zc.body_ok h
 | error k=>rw[hf]at h;cases h
theorem Zc.oid_zero {er er':Nat} {x:El} (he:er'=Zc.next er (Zc.oid x)) (h0:er'=0):Zc.oid x=.ok x.2.1:=by
 obtain⟨_,a,ha⟩:=Zc.next_zero .oid (he▸h0);rw[ha,Zc.oid_ok ha]
theorem Zc.body_zero {er er':Nat} {u:Int} {x:El} (he:er'=Zc.next er (Zc.body u x)) (h0:er'=0):Zc.body u x=.ok x.2.1:=by
 obtain⟨_,a,ha⟩:=Zc.next_zero .body (he▸h0);rw[ha,Zc.body_ok ha]
theorem Zc.unit_zero {er er':Nat} {o:Except Nat Unit} (hn:Zc.No o) (he:er'=Zc.next er o) (h0:er'=0):o=.ok ():=(Zc.next_zero hn (he▸h0)).2.elim fun _ h=>h
theorem Zc.next_map {α β:Type} {er er':Nat} {o:Except Nat α} {f:α→β} (he:er'=Zc.next er o):er'=Zc.next er (o.bind fun a=>.ok (f a)):=by
 rw[he];unfold Zc.next;cases o<;>rfl
section
variable {β : Type} {er0 er er1 er2 er3 er4 er5 : Nat} {whole : Except Nat β} {ks ds ks' ds' : List UInt8} {ns : List (List UInt8)} {y : El} {rest l v : List El} {F : List UInt8 × List UInt8 → Except Nat β}
theorem Zc.round (h:Zc.At er0 whole er ((Zc.attrs (y::rest) (ks,ds) ns).bind F))
 (h1:er1=Zc.next er (Zc.parts 48 2 2 y)) (k1:er1=0→Zc.parts 48 2 2 y=.ok l) (h2:er2=Zc.next er1 (Zc.oid (l.getD 0 El.none_)))
 (h3:er3=Zc.next er2 (Zc.parts 49 1 1 (l.getD 1 El.none_))) (k3:er3=0→Zc.parts 49 1 1 (l.getD 1 El.none_)=.ok v)
 (h4:er4=Zc.next er3 (Zc.form (!ns.contains (l.getD 0 El.none_).2.1)))
 (h5:er5=Zc.next er4 (Zc.says (ks,ds) (l.getD 0 El.none_) (v.getD 0 El.none_))) (k5:er5=0→Zc.says (ks,ds) (l.getD 0 El.none_) (v.getD 0 El.none_)=.ok (ks',ds')) :
 Zc.At er0 whole er5 ((Zc.attrs rest (ks',ds') (ns++[(l.getD 0 El.none_).2.1])).bind F):=by
 rw[Zc.attrs,Zc.attr]at h;simp only[Zc.assoc]at h;have a1:=h.step .parts h1 k1;have a2:=a1.step .oid h2 (Zc.oid_zero h2);have a3:=a2.step .parts h3 k3;have a4:=a3.step .form h4 (Zc.form_zero h4);exact a4.step .says h5 k5
theorem Zc.says_kind {x v0:El} (hk:Zc.is x Zc.kind=true) (h5:er5=Zc.next er4 (Zc.oid v0)):er5=Zc.next er4 (Zc.says (ks,ds) x v0)∧(er5=0→Zc.says (ks,ds) x v0=.ok (v0.2.1,ds)):=by
 unfold Zc.says;rw[if_pos hk];exact⟨Zc.next_map h5,fun h0=>by rw[Zc.oid_zero h5 h0];rfl⟩
theorem Zc.says_digest {x v0:El} {er6:Nat} (hk:Zc.is x Zc.kind=false) (hd:Zc.is x Zc.digest=true) (h5:er5=Zc.next er4 (Zc.body 4 v0)) (h6:er6=Zc.next er5 (Zc.form (decide (v0.2.1.length=32)))) :
 er6=Zc.next er4 (Zc.says (ks,ds) x v0)∧(er6=0→Zc.says (ks,ds) x v0=.ok (ks,v0.2.1)):=by
 unfold Zc.says;rw[if_neg (by simp[hk]),if_pos hd];have a1:=(Zc.At.start er4 ((Zc.body 4 v0).bind fun d=>(Zc.form (decide (d.length=32))).bind fun _=>.ok (ks,d))).step .body h5 (Zc.body_zero h5);have a2:=(a1.step .form h6 (Zc.form_zero h6)).fin;exact a2
theorem Zc.says_none {x v0:El} (hk:Zc.is x Zc.kind=false) (hd:Zc.is x Zc.digest=false):er4=Zc.next er4 (Zc.says (ks,ds) x v0)∧(er4=0→Zc.says (ks,ds) x v0=.ok (ks,ds)):=by
 unfold Zc.says;rw[if_neg (by simp[hk]),if_neg (by simp[hd])];exact⟨by unfold Zc.next;split<;>simp_all,fun _=>rfl⟩
end
section
set_option maxRecDepth 100000
set_option maxHeartbeats 400000 in
theorem qY (t:UInt8) (A:Option Addr) (n c:Nat) (xs:List UInt8) (w:World) (h:Rd w w.heap.size A n c xs) (hn:n<128) :
 Calls Tryz.prog 139 #[.int .u8 (t.toNat:Int),.slice A n c] w (aO (Der.write t xs) w):=by
 have hl:=h.len;obtain⟨L,hL⟩:∃L,L=[(Value.slice (some ⟨w.heap.size,0,none⟩) 2 2,[t,UInt8.ofNat n]),(.slice A n c,xs)]:=⟨_,rfl⟩
 have hj:=dn.lit (w.alloc (.cells #[.int .u8 (t.toNat:Int),.int .u8 (n:Int)] 5)) 22
  L [.slice (some ⟨w.heap.size,0,none⟩) 2 2,.slice A n c] (w.heap.size+1) 2 ag (by rw[hL];rfl) (by rw[hL];rfl) ab
  (fun v ys hm=>by
    rw[hL]at hm;simp only[List.mem_cons,Prod.mk.injEq,List.not_mem_nil,or_false]at hm;rcases hm with⟨rfl,rfl⟩|⟨rfl,rfl⟩
    ·exact aJ.mk (Rd.lit w 5 [t,UInt8.ofNat n] [.int .u8 (t.toNat:Int),.int .u8 (n:Int)] _ 2 rfl (by simp only[List.map_cons,List.map_nil];rw[jc ab];rfl) rfl ab)
    ·exact aJ.mk (h.up aa))
 have ec:aZ L=Der.write t xs:=by
  rw[hL];simp[aZ,Der.write,Der.lenB,hl,hn]
 have el:(aZ L).length≤1000:=by
  rw[hL];simp[aZ];omega
 clear hL;have HJ:=hd2 hj ec;have qd:(n:Int)<128:=ab
 clear hj hl h ec
 go_enter Tryz.func139,Tryz.ntmps139
 go_wp2_with fail
 refine(po _ 2 2 L _ HJ.1 ab ab).mono ?_;rintro e w1 ⟨A1,n1,c1,rfl,ho1,hb1⟩;have qc:Below w.heap.size w w1:=Below.trans aa (hb1.mono ai)
 go_wp2
 go_ret
 refine cE ?_ qc;rw[HJ.2]at ho1;exact ho1.mono ai nl_
def uE (N:Nat) (w:World) (acc:List UInt8) (m:Nat) (v:Value) (wr:World):Prop:=acc++Der.leB m=Der.leB N∧az wr w.heap.size wr.heap.size v acc∧Below w.heap.size w wr
set_option maxHeartbeats 1000000 in
theorem uz (t:UInt8) (A:Option Addr) (n c:Nat) (xs:List UInt8) (w:World) (h:Rd w w.heap.size A n c xs) (hn:128≤n) (hn2:n≤1099511627000) :
 Calls Tryz.prog 139 #[.int .u8 (t.toNat:Int),.slice A n c] w (aO (Der.write t xs) w):=by
 have hl:=h.len;have q7:¬(n:Int)<128:=ab
 have qc:uE n w [] n (.slice none 0 0) w:=⟨rfl,az.nil_,Below.refl _ _⟩
 have HL:=hd1 hl;clear hl
 go_enter Tryz.func139,Tryz.ntmps139
 go_wp2
 go_loopw [5,6] (fun v i wr=>∃m acc,m≤n∧i=.int .i64 (m:Int)∧uE n w acc m v wr) (fun _ i _=>(intOf i).toNat)
 case atStart=>exact⟨n,[],Nat.le_refl _,rfl,qc⟩
 case round=>
  obtain⟨m,acc,hm,rfl,hacc,ho,hb⟩:=hrel
  by_cases hlt:0<m
  ·have q2:(0:Int)<m:=ab
   have e1:(Value.int .u8 ((m:Int) % 256))=bv (UInt8.ofNat m):=by
    simp only[bv,UInt8.toNat_ofNat']
    congr 1
   have qs:Hid (aF (wr.alloc (.cells #[.int .u8 ((m:Int) % 256)] 5)) (wr.heap.size+1) 1 (some ⟨wr.heap.size,0,none⟩) 1 ([UInt8.ofNat m].map bv)):=by
    rw[e1];exact aF.one wr 5 _
   have q4:acc.length≤8:=by
    have:=congrArg List.length hacc;rw[List.length_append]at this;have:=Der.leB_le 8 n ab;omega
   have q1:(acc++[UInt8.ofNat m])++Der.leB (m / 256)=Der.leB n:=by
    rw[List.append_assoc,←hacc,Der.leB_pos hlt];rfl
   have HS:=hd2 q1 ho;have q5:=hb.size;clear e1 q1 hacc ho
   go_wp2_with
    (at_builtin
     refine aP rfl (.tmp 24) (.tmp 27) rfl w.heap.size wr.heap.size _ acc rfl (HS.2.alloc nl_ _) ai _ _ 1 1 [UInt8.ofNat m] rfl qs.out ab ?_;intro v2 w2 ho2 hg2 hat2 qd)
   go_roundw
   case rel=>exact⟨m / 256,acc++[UInt8.ofNat m],ab,by go_num,HS.1,ho2,(hb.alloc ab _).trans qd⟩
   case measure=>simp[intOf];omega
  ·obtain rfl:m=0:=ab
   rw[Der.leB_zero,List.append_nil]at hacc;subst hacc;obtain⟨A5,n5,c5,rfl,hr5⟩:=ho.rd;have qv:=hr5.len;have qk:=Der.leB_le 8 n ab;have q6:n5≤8:=ab
   have HH:=hd2 ho qv;clear qv qk ho hr5 hlt
   go_wp2_with fail
   refine(kJ w.heap.size wr.heap.size A5 n5 c5 _ _ HH.1 ab).mono ?_;rintro e w2 ⟨rfl,ho2,hg2,hz2⟩;have qd:Below w.heap.size wr w2:=br_.grown hg2 (by have:=hb.size;omega) (fun k hk=>by
    have h1:=HH.1.1.lt k hk;exact h1.1)
   have qg:=hb.trans qd;have q3:=qg.size;obtain⟨L,hL⟩:∃L,L=[(Value.slice (some ⟨w2.heap.size,0,none⟩) 2 2,[t,UInt8.ofNat (128+n5)]),(.slice A5 n5 c5,(Der.leB n).reverse),(.slice A n c,xs)]:=⟨_,rfl⟩
   have hj:=dn.lit (w2.alloc (.cells #[.int .u8 (t.toNat:Int),.int .u8 (128+(n5:Int))] 5)) 22
    L [.slice (some ⟨w2.heap.size,0,none⟩) 2 2,.slice A5 n5 c5,.slice A n c] (w2.heap.size+1) 3 ag (by rw[hL];rfl) (by rw[hL];rfl) ab
    (fun v ys hm=>by
      rw[hL]at hm;simp only[List.mem_cons,Prod.mk.injEq,List.not_mem_nil,or_false]at hm;rcases hm with⟨rfl,rfl⟩|⟨rfl,rfl⟩|⟨rfl,rfl⟩
      ·exact aJ.mk (Rd.lit w2 5 [t,UInt8.ofNat (128+n5)] [.int .u8 (t.toNat:Int),.int .u8 (128+(n5:Int))] _ 2 rfl (by simp only[List.map_cons,List.map_nil];rw[jc ab];rfl) rfl ab)
      ·obtain⟨A6,n6,c6,e6,hr6⟩:=ho2.rd
       exact⟨A6,n6,c6,e6,(hr6.alloc ab _).more ai⟩
      ·exact aJ.mk (h.up aa))
   have hl:=HL.out;have q0:=HH.2;have ec:aZ L=Der.write t xs:=by
    rw[hL];unfold Der.write Der.lenB;rw[hl,if_neg ab,q0];simp[aZ]
   have el:(aZ L).length≤1099511627776:=by
    rw[hL];simp[aZ];omega
   have HJ:=hd2 hj ec;clear hL hj ec hl q0 ho2 hg2 hz2 qd
   go_wp2_with fail
   refine(po _ 3 3 L _ HJ.1 ab el).mono ?_;rintro e w3 ⟨A1,n1,c1,rfl,ho3,hb3⟩;have qh:Below w.heap.size w w3:=Below.trans aa (hb3.mono ai)
   go_wp2
   go_ret
   refine cE ?_ qh;rw[HJ.2]at ho3;exact ho3.mono ai nl_
theorem xn (t:UInt8) (A:Option Addr) (n c:Nat) (xs:List UInt8) (w:World) (h:Rd w w.heap.size A n c xs) (hn:n≤1099511627000) :
 Calls Tryz.prog 139 #[.int .u8 (t.toNat:Int),.slice A n c] w (aO (Der.write t xs) w):=by
 by_cases hs:n<128
 ·exact qY t A n c xs w h hs
 ·exact uz t A n c xs w h ab hn
end
section
set_option maxRecDepth 100000
def yQ (w:World) (xs:List UInt8) (b v:Value) (wr:World):Prop:=
 ∃(ys:List UInt8) (l:List EI),Der.seq xs=l.map (fun x=>some x.dat)++Der.seq ys∧aJ wr wr.heap.size b ys∧ys.length≤xs.length∧l.length+ys.length≤xs.length∧aU wr w.heap.size wr.heap.size v l∧Below w.heap.size w wr
theorem xN {xs:List UInt8} {t:UInt8} {b r s:List UInt8} (h:Der.elem xs=some (t,b,r,s)):s.length<xs.length:=il h
set_option maxHeartbeats 2000000 in
theorem tS (A1:Option Addr) (n1 c1:Nat) (xs:List UInt8) (w:World) (h1:Rd w w.heap.size A1 n1 c1 xs) (hn:n1≤1099511627) :
 Calls Tryz.prog 39 #[.slice A1 n1 c1] w (qZ xs w):=by
 have j0:=h1.len;have qc:yQ w xs (.slice A1 n1 c1) (.slice none 0 0) w:=⟨xs,[],rfl,aJ.mk h1,Nat.le_refl _,ag,aU.nil_,Below.refl _ _⟩
 have qv:=hd2 qc j0;clear qc h1 j0
 go_enter Tryz.func39,Tryz.ntmps39
 go_wp2
 go_loopw [0,4] (fun b v wr=>yQ w xs b v wr) (fun b _ _=>match b with|.slice _ m _=>m|_=>0)
 case atStart=>exact qv.1
 case round=>
  obtain⟨ys,l,hs,⟨A2,n2,c2,rfl,hr⟩,hyl,hll,hE,hb⟩:=hrel;have q0:=hb.size;have qs:=hr.len
  by_cases hpos:0<n2
  ·have j3:(0:Int)<n2:=ab
   have j2:ys≠[]:=by rintro rfl;simp at qs;omega
   have j8:n2≤1099511627:=by have:=qv.2;omega
   have yd:l.length+1≤1099511627:=by have:=qv.2;omega
   have HX:=hd7 hs hr hyl hll hE hb qs;obtain⟨Av,cv,rfl,_,_,_,_⟩:=hE.1.shape;clear hs hr hyl hll hE hb qs
   go_wp2_with fail
   refine(gW A2 n2 c2 ys _ HX.2.1 ab).mono ?_;rintro e w2 ⟨hb2,⟨hno,rfl⟩|⟨t,body,raw,rest,A3,n3,c3,A4,n4,c4,A5,n5,c5,hel,rfl,ho⟩⟩
   ·have qh:(Der.seq xs).any (·.isNone)=true:=by rw[HX.1,lf j2 hno];simp
    have HN:=hd2 qh (HX.2.2.2.2.2.1.trans (hb2.mono q0));have j5:=hb2.size;clear hno qh hb2
    go_wp2
    go_ret2
    exact⟨HN.2.alloc ab _,.inl ⟨HN.1,rfl⟩⟩
   ·have q9:=aw.new w2 84 #[.int .u8 (t.toNat:Int),.slice A3 n3 c3,.slice A4 n4 c4]
    have j5:=hb2.size;have j4:=xN hel;obtain⟨m1,q1,q2,m2,q3,q4,m3,q5,q6,q7⟩:=ho;have j7:m3≤w2.heap.size:=q7;have qg:bN w2 wr.heap.size w2.heap.size [(.slice A3 n3 c3,body),(.slice A4 n4 c4,raw)]:=⟨m1,q1,q2,m2,q3,q4,show m2≤w2.heap.size by omega⟩
    have qd:=q6;have j1:=(Rd.of_own q6).len;have yh:wr.heap.size≤m2:=by have:=q1;have:=q3;omega
    have HY:=hd7 hel hb2 q9 qg (qd.mono yh j7) j4 j1;clear hel hb2 q9 qg qd j4 q1 q2 q3 q4 q5 q6 q7 j7 j1;have qk:aI 84 3 ((w2.alloc (.cells #[.int .u8 (t.toNat:Int),.slice A3 n3 c3,.slice A4 n4 c4] 84)).alloc (.cells #[.int .u8 (t.toNat:Int),.slice A3 n3 c3,.slice A4 n4 c4] 84)) w.heap.size wr.heap.size (.slice Av l.length cv) l.length (l.flatMap EI.cells):=
     ((HX.2.2.2.2.1.1.below HY.2.1 nl_).alloc j5 _).alloc ai _
    have HM:=hd1 qk;clear qk
    go_wp2_with
     (at_builtin
      refine bn rfl (.tmp 20) (.tmp 22) 80 rfl 84 _ 3 56 fB Tryz.underlying80 rfl ab w.heap.size wr.heap.size _ l.length (l.flatMap EI.cells) rfl HM.out ai _ _ 1 1 [.int .u8 (t.toNat:Int),.slice A3 n3 c3,.slice A4 n4 c4] rfl (by have:=eX (w2.alloc (.cells #[.int .u8 (t.toNat:Int),.slice A3 n3 c3,.slice A4 n4 c4] 84)) 84 (.int .u8 (t.toNat:Int)) (.slice A3 n3 c3) (.slice A4 n4 c4);simpa using this) (by simp[Value.oneCell']) ab ab ?_;intro v6 w6 ho6 hg6 hat6 hb6)
    go_roundw
    case rel=>
     have h4:=HY.2.2.2.1;have yv:=hg6.size;simp at yv;refine⟨rest,l++[⟨t,.slice A3 n3 c3,body,.slice A4 n4 c4,raw⟩],?_,aJ.mk ?_,by have:=HX.2.2.1;have:=HY.2.2.2.2.2.1;omega,?_,?_,?_⟩
     ·rw[HX.1,lg j2 HY.1]
      simp[EI.dat]
     ·refine Rd.more (B:=w2.heap.size) (Rd.of_own (az.grown ((HY.2.2.2.2.1.alloc nl_ _).alloc ag _) hg6 ?_)) ab
      intro g hg e;have a:=HY.2.2.2.2.1.lt_ hg;have b:=HM.out.lt_ e;omega
     ·have:=HX.2.2.2.1;have:=HY.2.2.2.2.2.1;rw[List.length_append,List.length_singleton];omega
     ·have e1:aU ((w2.alloc (.cells #[.int .u8 (t.toNat:Int),.slice A3 n3 c3,.slice A4 n4 c4] 84)).alloc (.cells #[.int .u8 (t.toNat:Int),.slice A3 n3 c3,.slice A4 n4 c4] 84)) w.heap.size wr.heap.size (.slice Av l.length cv) l:=
       HX.2.2.2.2.1.keepRows (au.trans (au.below HY.2.1 nl_) (au.trans (au.alloc _ _) (au.alloc _ _)))
      exact aU.snoc (x:=⟨t,.slice A3 n3 c3,body,.slice A4 n4 c4,raw⟩) e1 (((h4.alloc nl_ _).alloc ag _).mono nl_ ai) ho6 hg6 q0
     ·exact HX.2.2.2.2.2.1.trans ((HY.2.1.mono q0).trans (Below.trans (Below.alloc (Below.alloc br_ ab _) ai _) hb6))
    case measure=>simp;have:=HY.2.2.2.2.2;have:=HX.2.2.2.2.2.2;omega
  ·obtain rfl:n2=0:=ab
   have j6:ys=[]:=List.eq_nil_of_length_eq_zero qs;rw[j6,rY,List.append_nil]at hs;obtain⟨Av,cv,rfl,_,_,_,_⟩:=hE.1.shape;have HX:=hd3 hs hE hb;clear hs hE hb hr qs hyl hll j6
   go_wp2
   go_ret2
   exact⟨HX.2.2,.inr ⟨l,Av,_,cv,HX.1,rfl,HX.2.1⟩⟩
theorem aU.at_ {w wr:World} {lo hi B n c:Nat} {A:Option Addr} {l:List EI} (h:aU w lo hi (.slice A n c) l) (hb:Below B w wr) (hB:hi≤B) {k:Nat} (hk:k<n) :
 ∃g t A1 n1 c1 body A2 n2 c2 raw,A=some ⟨g,0,none⟩∧g<hi∧l[k]? = some ⟨t,.slice A1 n1 c1,body,.slice A2 n2 c2,raw⟩∧
  wr.cell? ⟨g,k*3,none⟩=some (.int .u8 (t.toNat:Int))∧wr.cell? ⟨g,k*3+1,none⟩=some (.slice A1 n1 c1)∧wr.cell? ⟨g,k*3+2,none⟩=some (.slice A2 n2 c2)∧
  Rd wr hi A1 n1 c1 body∧Rd wr hi A2 n2 c2 raw:=by
 obtain⟨g,t,A1,n1,c1,body,A2,n2,c2,raw,rfl,hg,hx,q0,q1,q2,r1,r2⟩:=h.get hk;rw[Nat.mul_comm 3 k]at q0 q1 q2;have qc:∀p:Addr,p.block<hi→wr.cell? p=w.cell? p:=fun p hp=>hb.cell ab
 exact⟨g,t,A1,n1,c1,body,A2,n2,c2,raw,rfl,hg,hx,(qc ⟨g,k*3,none⟩ hg).trans q0,(qc ⟨g,k*3+1,none⟩ hg).trans q1,(qc ⟨g,k*3+2,none⟩ hg).trans q2,r1.keep qc,r2.keep qc⟩
end
section
open Go.RowKit Go.Shelf
attribute [local go_sem] Oper.semAt_some
set_option maxRecDepth 100000
def ri (b:Bool) (w:World) (e:Ending) (w':World):Prop:=e=.returned (.bool b)∧Below w.heap.size w w'
theorem wK {v V:Bool} (h:v=V) {w w':World} (hb:Below w.heap.size w w'):ri V w (.returned (.bool v)) w':=by subst h;exact⟨rfl,hb⟩
def mH (w:World) (pre:List cF) (W:World):Prop:=
 Below w.heap.size w W∧aw W w.heap.size 4 #[.bool false]∧∃v last,aw W (w.heap.size+1) 22 #[v]∧aJ w w.heap.size v last∧(∀tl,Der.chain [] (pre.map (·.dat)++tl)=Der.chain last tl)∧w.heap.size+3≤W.heap.size
theorem mH.own (w:World) (Bn N:Nat) (h1:w.heap.size+2≤Bn) (h2:w.heap.size≤N):bB Bn N (mH w):=by
 rintro s X Y row ⟨hb,he,v,last,hv,hr,hc,hz⟩ hg hrow;exact⟨bB.below (β:=Unit) ab h2 nl_ () X Y row hb hg hrow,bB.blk (β:=Unit) _ (fun _=>_) ab () X Y row he hg hrow,v,last,bB.blk (β:=Unit) _ (fun _=>#[v]) ab () X Y row hv hg hrow,hr,hc,Nat.le_trans hz hg.size⟩
set_option maxHeartbeats 2000000 in
theorem rZ (A1:Option Addr) (n1 c1:Nat) (xs:List UInt8) (w:World) (h1:Rd w w.heap.size A1 n1 c1 xs) :
 Calls Tryz.prog 81 #[.slice A1 n1 c1] w (ri (Der.chain [] (Der.seq xs)) w):=by
 obtain⟨V,hV⟩:∃V,Der.chain [] (Der.seq xs)=V:=⟨_,rfl⟩
 rw[hV];have HV:=hd1 hV;clear hV;refine(callsIn_wide (n:=5)).1 ?_;refine callsIn_of_wp_marks Tryz.func81 rfl trivial ?_ rfl;simp only[Tryz.ntmps81,List.size_toArray,List.length_cons,List.length_nil,Nat.reduceAdd,Nat.reduceSub,Array.replicate_succ,Array.replicate_zero,List.push_toArray,List.append_toArray,List.nil_append,List.cons_append];have q6:=(aw.new w 4 #[.bool false]).alloc (.cells #[.slice none 0 0] 22);have q4:=aw.new (w.alloc (.cells #[.bool false] 4)) 22 #[.slice none 0 0];simp only[World.size_alloc]at q4
 gi_wp2_with fail
 refine⟨trivial,(callsIn_wide.2 (je A1 n1 c1 _)).mono ?_⟩;rintro e w1 ⟨rfl,hb1,hBn,hz1⟩;simp only[World.size_alloc]at hb1 hBn hz1;have q5:Below w.heap.size w w1:=Below.trans aa (hb1.mono ab);have qs:=q6.below hb1 ab;have qv:=q4.below hb1 ab;clear hb1 q6 q4;have j0:mH w [] w1:=⟨q5,qs,_,[],qv,aJ.mk Rd.none_,fun tl=>rfl,ab⟩
 have j4:w1.heap.size=w.heap.size+3:=ab
 have HN:=hd1 hBn;clear qv hBn hz1 qs
 gi_wp2_with fail
 refine gu ab (w.heap.size+2) rfl rfl w.heap.size w A1 n1 c1 xs HN.out h1
  (fun pre W=>mH w pre W)
  (fun c pre W=>c=.ret∧Der.chain [] (Der.seq xs)=false∧Below w.heap.size w W∧aw W w.heap.size 4 #[.bool false])
  (mH.own _ _ _ ab ab) (fun c=>(bB.pure_ _ _ _).and ((bB.pure_ _ _ _).and ((bB.below ab ab nl_).and (bB.blk _ _ ab))))
  (fun s X h=>⟨h.1,h.1.size⟩) j0
  (fun x a' W=>∃Bx,(∃u0 u1 u6 u7 u8 u9 u10 u11 u12 u13 u14 u15 u16 u17 u18 u19 u20:Value,a' = {tmps:=#[u0,u1,.pointer (some ⟨w.heap.size,0,none⟩),.pointer (some ⟨w.heap.size+1,0,none⟩),.pointer (some ⟨Bx,0,none⟩),.bool x.ok,u6,u7,u8,u9,u10,u11,u12,u13,u14,u15,u16,u17,u18,u19,u20],defers:=[]})∧(w.heap.size+3≤Bx∧∃cs,x.v=.agg cs∧aw W Bx 84 cs)) ?hAx ?assign ?body ?done ?stop
 case hAx=>
  rintro x a' s X Y row ⟨Bx,hx,h3,cs,e,hb⟩ hg hr;exact⟨Bx,hx,h3,cs,e,bB.blk (β:=Unit) 84 (fun _=>cs) ab () X Y row hb hg hr⟩
 case assign=>
  intro l pre x W' K hi hg hK';have qd:∀cs,x.v=.agg cs→KeepsFrom w1.heap.size W' (W'.alloc (.cells cs 84))∧(W'.alloc (.cells cs 84)).heap[w.heap.size+2]? = W'.heap[w.heap.size+2]?∧
   mH w pre (W'.alloc (.cells cs 84))∧
   (w.heap.size+3≤W'.heap.size∧∃cs',x.v=.agg cs'∧aw (W'.alloc (.cells cs 84)) W'.heap.size 84 cs'):=by
   intro cs hcs;obtain⟨hb,he,v,last,hv,hr,hc,hz⟩:=hi;have j5:=hb.size;exact⟨(KeepsOthers.alloc _ _).from _,Below.heap_alloc _ _ _ ab,⟨hb.alloc ab _,he.alloc _,v,last,hv.alloc _,hr,hc,ai⟩,ab,cs,hcs,aw.new _ _ _⟩
  rcases hg with⟨_,hxv,hxo⟩|⟨t',b',r',A4,n4,c4,A5,n5,c5,_,hxv,hxo,_,_⟩
  ·have HF:=hd1 (qd _ hxv)
   rw[hxv];have q3:=hd1 hxo;clear qd hxv hi
   gi_wp2
   exact hK' _ _ HF.1 HF.2.1 HF.2.2.1 ⟨W'.heap.size,by rw[q3.out];exact⟨_,_,_,_,_,_,_,_,_,_,_,_,_,_,_,_,_,rfl⟩,HF.2.2.2⟩
  ·have HF:=hd1 (qd _ hxv)
   rw[hxv];have q3:=hd1 hxo;clear qd hxv hi
   gi_wp2
   exact hK' _ _ HF.1 HF.2.1 HF.2.2.1 ⟨W'.heap.size,by rw[q3.out];exact⟨_,_,_,_,_,_,_,_,_,_,_,_,_,_,_,_,_,rfl⟩,HF.2.2.2⟩
 case body=>
  rintro l pre x a' W hlN ⟨r,hr⟩ ⟨hb,he,v,last,hv,hrl,hch,hsz3⟩ ⟨Bx,⟨u0,u1,u6,u7,u8,u9,u10,u11,u12,u13,u14,u15,u16,u17,u18,u19,u20,rfl⟩,h3,cs,hcs,hBlk⟩ hg ⟨tl,htl⟩;obtain⟨hcv,hfv⟩:=hv.facts;obtain⟨hce,hfe⟩:=he.facts;have j6:=hv.lt;have j2:=he.lt;rcases hg with⟨hxd,hxv,hxo⟩|⟨t',b',r',A4,n4,c4,A5,n5,c5,hxd,hxv,hxo,hr4,hr5⟩
  ·have qg:Der.chain [] (Der.seq xs)=false:=by
    rw[htl,List.map_append,List.append_assoc,hch,List.map_cons,hxd]
    rfl
   have HO:=hd4 hb he qg hxo;clear hb he hv hch hr htl hcs hBlk hxd hxv qg
   gi_wp2_with fail
   refine⟨trivial,?_⟩
   gi_wp2
   refine⟨(KeepsOthers.setCell _ _ _).from _,rfl,HO.2.2.1,HO.1.setCell ag _,?_⟩
   simpa using HO.2.1.set_ 0 (.bool false)
  ·obtain rfl:cs=#[.int .u8 (t'.toNat:Int),.slice A4 n4 c4,.slice A5 n5 c5]:=by rw[hxv]at hcs;injection hcs with hcs;exact hcs.symm
   obtain⟨hcx,hfx⟩:=hBlk.facts;obtain⟨A6,n6,c6,rfl,hr6⟩:=hrl;have qh:∀tl',Der.chain [] ((pre++[x]).map (·.dat)++tl')=(!Op.bytesLess r' last&&Der.chain r' tl'):=by
    intro tl';rw[List.map_append,List.append_assoc,hch,List.map_cons,hxd]
    rfl
   have HX:=hd7 hb he hv hr5 hr6 qh htl;clear hb he hv hch hr htl hcs hBlk hxd hxv hr4 hr5 hr6 qh
   gi_wp2_with fail
   refine⟨trivial,(CallsIn.inRound l (callsIn_wide.2 (qz A6 A5 n6 c6 n5 c5 last r' _ _ W (HX.2.2.2.2.1.below HX.1) (HX.2.2.2.1.below HX.1)))).mono ?_⟩;rintro e W ⟨rfl,rfl⟩;have qk:=py last r';obtain⟨z,hz⟩:∃z,Lib.compareBytes last r'=z:=⟨_,rfl⟩
   rw[hz]at qk ⊢
   by_cases hzp:0<z
   ·rw[decide_eq_true hzp]at qk
    have qg:Der.chain [] (Der.seq xs)=false:=by rw[HX.2.2.2.2.2.2,HX.2.2.2.2.2.1,qk];rfl
    have HO:=hd1 qg;clear qg qk hz
    gi_wp2
    refine⟨(KeepsOthers.setCell _ _ _).from _,rfl,HO.out,HX.1.setCell ag _,?_⟩
    simpa using HX.2.1.set_ 0 (.bool false)
   ·rw[decide_eq_false hzp]at qk
    have qc:∀tl',Der.chain [] ((pre++[x]).map (·.dat)++tl')=Der.chain r' tl':=fun tl'=>by rw[HX.2.2.2.2.2.1,qk];rfl
    have HO:=hd1 qc;clear qc qk hz
    gi_wp2
    refine⟨(KeepsOthers.setCell _ _ _).from _,Below.heap_setCell _ _ _ _ ag,HX.1.setCell ag _,HX.2.1.far ag _,_,r',by simpa using HX.2.2.1.set_ 0 (.slice A5 n5 c5),aJ.mk HX.2.2.2.1,HO.out,by simpa using hsz3⟩
 case stop=>
  rintro D c pre W hD ⟨rfl,qg,hb,he⟩ hK;have j1:=he.lt;have q2:=grownBy_putObj' W D (.deferred none);have j3:w.heap.size≠D:=ab
  have q1:aw (W.putObj D (.deferred none)) w.heap.size 4 #[.bool false]:=he.grown q2 (by intro e;injection e with e;omega);have q0:Below w.heap.size w (W.putObj D (.deferred none)):=hb.grown q2 hb.size (fun k e=>by injection e with e;omega);obtain⟨hc2,hf2⟩:=q1.facts;have HP:=hd3 qg q0 hK;clear qg q0 hK q1 hb he
  gi_wp2
  refine⟨ag,.inl ⟨_,_,rfl,run_takeDeferred HP.2.2,?_⟩⟩;refine⟨.bool false,by simp[results,Tryz.results81,go_sem,hc2],?_⟩;exact wK (v:=false) (by rw[←HV.out];exact HP.1.symm) HP.2.1
 case done=>
  rintro D ys W hD hys ⟨hb,he,v,last,hv,hrl,hch,hsz3⟩ hK;have qc:Der.chain [] (Der.seq xs)=true:=by
   have:=hch [];rw[List.append_nil,hys]at this;rw[this];rfl
  obtain⟨hc0,hf0⟩:=he.facts;have q9:aw (W.setCell ⟨w.heap.size,0,none⟩ (.bool true)) w.heap.size 4 #[.bool true]:=by simpa using he.set_ 0 (.bool true)
  have q7:(W.setCell ⟨w.heap.size,0,none⟩ (.bool true)).heap[D]? = some (.deferred (some [])):=(Below.heap_setCell _ _ _ _ ai).trans hK;have q2:=grownBy_putObj' (W.setCell ⟨w.heap.size,0,none⟩ (.bool true)) D (.deferred none);have q1:aw ((W.setCell ⟨w.heap.size,0,none⟩ (.bool true)).putObj D (.deferred none)) w.heap.size 4 #[.bool true]:=q9.grown q2 (by intro e;injection e with e;omega);have q0:Below w.heap.size w ((W.setCell ⟨w.heap.size,0,none⟩ (.bool true)).putObj D (.deferred none)):=(hb.setCell ag _).grown q2 (hb.setCell (p:=⟨w.heap.size,0,none⟩) ag (.bool true)).size (fun k e=>by injection e with e;omega);obtain⟨hc2,hf2⟩:=q1.facts;have HP:=hd3 qc q0 q7;clear qc q0 q7 q1 q9 hb he hv hrl hch hys hK
  gi_wp2
  refine⟨ag,.inl ⟨_,_,rfl,run_takeDeferred HP.2.2,?_⟩⟩;refine⟨.bool true,by simp[results,Tryz.results81,go_sem,hc2],?_⟩;exact wK (v:=true) (by rw[←HV.out];exact HP.1.symm) HP.2.1
end
section
open Go.RowKit Go.Maps
set_option maxRecDepth 100000
theorem au.mono {lo lo':Nat} {w w':World} (h:au lo w w') (hl:lo≤lo'):au lo' w w':=fun g cs t h1 h2=>h g cs t ab h2
structure f8 (w:World) (r s er:Nat) (vi vs vg:Value) (A:Option Addr) (n c:Nat) (L:List EI) (hiA hiL:Nat) (va vk vd:Value) (att ks ds:List UInt8) (W:World):Prop where
 g2:G2 w.heap.size r s w W
 rr:Rr W r er
 sb:aw W s 54 #[vi,vs,va,vk,vd,vg]
 ow:aU W w.heap.size hiL (.slice A n c) L
 oa:az W w.heap.size hiA va att
 ok:az W hiL W.heap.size vk ks
 od:az W hiL W.heap.size vd ds
 ap:∀g,vk.ownBlock=some g→vd.ownBlock≠some g
 le:hiA≤hiL
 top:hiL≤W.heap.size
 lo:w.heap.size≤hiA
section
variable {w W W' : World} {r s er er' n c hiA hiL : Nat} {vi vs vg va vk vd va' : Value} {A : Option Addr} {L : List EI} {att ks ds : List UInt8}
theorem f8.keep (h:f8 w r s er vi vs vg A n c L hiA hiL va vk vd att ks ds W) (hg:G2 w.heap.size r s W W') (hr:Rr W' r er') (hs:aw W' s 54 #[vi,vs,va,vk,vd,vg]) :
 f8 w r s er' vi vs vg A n c L hiA hiL va vk vd att ks ds W':=by
 have hl:=h.lo;have qc:=h.le;exact⟨h.g2.trans hg,hr,hs,h.ow.keepRows hg.rows,h.oa.keepRows hg.rows,(h.ok.keepRows (hg.rows.mono ab)).mono nl_ hg.size,(h.od.keepRows (hg.rows.mono ab)).mono nl_ hg.size,h.ap,h.le,Nat.le_trans h.top hg.size,h.lo⟩
theorem f8.below (h:f8 w r s er vi vs vg A n c L hiA hiL va vk vd att ks ds W) (hb:Below W.heap.size W W') (hw:w.heap.size≤W.heap.size):f8 w r s er vi vs vg A n c L hiA hiL va vk vd att ks ds W':=
 h.keep (G2.below hb hw) (h.rr.below hb) (h.sb.below hb h.sb.lt)
theorem f8.grown (h:f8 w r s er vi vs vg A n c L hiA hiL va vk vd att ks ds W) (hg:W.grownBy W' (some r)) (hr:Rr W' r er') (hw:w.heap.size≤W.heap.size) (hrw:r<w.heap.size) (hne:s≠r):f8 w r s er' vi vs vg A n c L hiA hiL va vk vd att ks ds W':=
 h.keep (G2.grown hg hw hrw) hr (h.sb.grown hg (fun e=>hne (by injection e)))
end
theorem az.blk_ {W:World} {lo hi g:Nat} {v:Value} {xs:List UInt8} (h:az W lo hi v xs) (hg:v.ownBlock=some g):lo≤g∧g<hi:=⟨(h.1.lt g hg).1,h.2 g hg⟩
theorem f8.setK {w W:World} {r s er n c hiA hiL:Nat} {vi vs vg va vk vd v':Value} {A:Option Addr} {L:List EI} {att ks ds xs:List UInt8} {lo' hi':Nat} (h:f8 w r s er vi vs vg A n c L hiA hiL va vk vd att ks ds W) (ho:az W lo' hi' v' xs) (h1:hiL≤lo') (h2:hi'≤W.heap.size) (hd:∀g,vd.ownBlock=some g→g<lo') (hsw:s<w.heap.size) (hrs:s≠r) :
 f8 w r s er vi vs vg A n c L hiA hiL va v' vd att xs ds (W.setCell ⟨s,3,none⟩ v'):=by
 have hl:=h.lo;have qc:=h.le;have hk:au w.heap.size W (W.setCell ⟨s,3,none⟩ v'):=au.setCell hsw _;exact⟨h.g2.trans (G2.put _ _ _ hsw),h.rr.far (fun e=>hrs e.symm) _,h.sb.set_ 3 v',h.ow.keepRows hk,h.oa.keepRows hk,(ho.keepRows (hk.mono ab)).mono h1 (by simpa using h2),(h.od.keepRows (hk.mono ab)).mono nl_ ag,fun g e1 e2=>by have:=(ho.blk_ e1).1;have:=hd g e2;omega,h.le,by simpa using h.top,h.lo⟩
theorem f8.setD {w W:World} {r s er n c hiA hiL:Nat} {vi vs vg va vk vd v':Value} {A:Option Addr} {L:List EI} {att ks ds xs:List UInt8} {lo' hi':Nat} (h:f8 w r s er vi vs vg A n c L hiA hiL va vk vd att ks ds W) (ho:az W lo' hi' v' xs) (h1:hiL≤lo') (h2:hi'≤W.heap.size) (hd:∀g,vk.ownBlock=some g→g<lo') (hsw:s<w.heap.size) (hrs:s≠r) :
 f8 w r s er vi vs vg A n c L hiA hiL va vk v' att ks xs (W.setCell ⟨s,4,none⟩ v'):=by
 have hl:=h.lo;have qc:=h.le;have hk:au w.heap.size W (W.setCell ⟨s,4,none⟩ v'):=au.setCell hsw _;exact⟨h.g2.trans (G2.put _ _ _ hsw),h.rr.far (fun e=>hrs e.symm) _,h.sb.set_ 4 v',h.ow.keepRows hk,h.oa.keepRows hk,(h.ok.keepRows (hk.mono ab)).mono nl_ ag,(ho.keepRows (hk.mono ab)).mono h1 (by simpa using h2),fun g e1 e2=>by have:=(ho.blk_ e2).1;have:=hd g e1;omega,h.le,by simpa using h.top,h.lo⟩
def AG (r s er:Nat) (w:World) (vi vs vg:Value) (x:El) (e:Ending) (w':World):Prop:=
 ∃va vk vd att ks ds er',e=.returned (.tuple #[])∧G2 w.heap.size r s w w'∧Rr w' r er'∧aw w' s 54 #[vi,vs,va,vk,vd,vg]∧er'=Zc.next er (Zc.attributes x)∧
  (∀p∈[(va,att),(vk,ks),(vd,ds)],az w' w.heap.size w'.heap.size p.1 p.2)∧bQ [(va,att),(vk,ks),(vd,ds)]∧(er'=0→Zc.attributes x=.ok (att,ks,ds))
def Zc.attF (b:List UInt8) (p:List UInt8×List UInt8):Except Nat (List UInt8×List UInt8×List UInt8):=(Zc.form (decide (0<p.1.length)&&decide (0<p.2.length))).bind fun _=>.ok (Der.write 49 b,p)
theorem xo (w:World):(zeroValue 179).run Tryz.prog w=.ok (.agg #[]) w:=by kernel_rfl
set_option maxHeartbeats 8000000 in
theorem mL (r s er lo:Nat) (vi vs va0 vg:Value) (t:UInt8) (A1 A2:Option Addr) (n1 c1 n2 c2:Nat) (b raw:List UInt8) (w:World) (h:Rr w r er) (hs:aw w s 54 #[vi,vs,va0,.slice none 0 0,.slice none 0 0,vg]) (h6:6≤r) (h6':6≤s) (hG:dr w)
 (h1:az w lo w.heap.size (.slice A1 n1 c1) b) (hrl:r<lo) (hsl:s<lo) (hn:n1≤1099511627) :
 Calls Tryz.prog 113 #[.pointer (some ⟨r,0,none⟩),.pointer (some ⟨s,0,none⟩),.agg #[.int .u8 (t.toNat:Int),.slice A1 n1 c1,.slice A2 n2 c2]] w (AG r s er w vi vs vg (t,b,raw)):=by
 have q5:s≠r:=aw.ne_ hs h aj;have j3:=h.lt;have mz:=hs.lt;have kz:=h1.rdx.len;have hX:=aw.new w 84 #[.int .u8 (t.toNat:Int),.slice A1 n1 c1,.slice A2 n2 c2];have re:=h.alloc (.cells #[.int .u8 (t.toNat:Int),.slice A1 n1 c1,.slice A2 n2 c2] 84);have rv:=hs.alloc (.cells #[.int .u8 (t.toNat:Int),.slice A1 n1 c1,.slice A2 n2 c2] 84);have p7:Below w.heap.size w (w.alloc (.cells #[.int .u8 (t.toNat:Int),.slice A1 n1 c1,.slice A2 n2 c2] 84)):=br_.alloc nl_ _;have ta:=hG.below p7;have m8:=h1.below p7 nl_;have H:=hd6 hX re rv ta m8 kz;have H0:=hd1 p7;clear hX re rv ta m8 h h1 hs hG kz p7;have mb:w.heap.size<(w.alloc (.cells #[.int .u8 (t.toNat:Int),.slice A1 n1 c1,.slice A2 n2 c2] 84)).heap.size:=ag
 go_enter Tryz.func113,Tryz.ntmps113
 go_wp2_with fail
 refine(rZ A1 n1 c1 b _ (H.2.2.2.2.1.rdx.more (Nat.le_of_lt mb))).mono ?_;rintro e w1 ⟨rfl,hb1⟩;obtain⟨q,hq⟩:∃q,Der.chain [] (Der.seq b)=q:=⟨_,rfl⟩
 rw[hq];have ke:Below w.heap.size w w1:=H0.out.trans (hb1.mono H0.out.size);have rj:=H.2.1.below hb1;have rx:=H.2.2.1.below hb1 H.2.2.1.lt;have tv:=H.1.below hb1 ag;have tb:=H.2.2.2.1.below hb1;have R1:=H.2.2.2.2.1.below hb1 (Nat.le_of_lt mb);have pa:w.heap.size<w1.heap.size:=Nat.lt_of_lt_of_le mb hb1.size;have H1:=hd7 hq ke rj rx tv tb R1;clear hq hb1 ke rj rx tv tb R1 mb
 go_wp2_with fail
 refine(cB r er q _ H1.2.2.1).mono ?_;rintro e w2 ⟨rfl,hg2,hr2⟩;have r0:=H1.2.2.2.1.grown hg2 (fun e=>q5 (by injection e));have kd:=H1.2.2.2.2.1.grown hg2 (fun e=>by injection e with e;omega);have tc:=H1.2.2.2.2.2.1.grown hg2 h6;have R2:=H1.2.2.2.2.2.2.keepRows (au.grown hg2 hrl);have g2:G2 w.heap.size r s w w2:=(G2.below H1.2.1 nl_).trans (G2.grown hg2 (Nat.le_of_lt pa) j3);have y6:w.heap.size<w2.heap.size:=Nat.lt_of_lt_of_le pa hg2.size;obtain⟨er1,he1⟩:∃e,e=Zc.next er (Zc.form q):=⟨_,rfl⟩
 rw[←he1]at hr2;rw[←H1.1]at he1;have a1:=(Zc.At.start er (Zc.attributes (t,b,raw))).step .form he1 (Zc.form_zero he1);have kx:w2.cell? ⟨w.heap.size,0,none⟩=some (.int .u8 (t.toNat:Int))∧w2.cell? ⟨w.heap.size,1,none⟩=some (.slice A1 n1 c1)∧w2.cell? ⟨w.heap.size,2,none⟩=some (.slice A2 n2 c2):=⟨kd.cell 0,kd.cell 1,kd.cell 2⟩
 obtain⟨k0,k1,k2⟩:=kx;have H2:=hd7 hr2 r0 kd tc R2 g2 a1;clear hg2 hr2 r0 kd tc R2 g2 he1 a1
 go_wp2_with fail
 refine(xn 49 A1 n1 c1 b _ (H2.2.2.2.2.1.rdx.more (Nat.le_of_lt y6)) ab).mono ?_;rintro e w3 ⟨Aa,na,ca,rfl,ho3,hb3⟩;have m0:w2.heap.size≤w3.heap.size:=hb3.size;have rl:=H2.1.below hb3;have mv:=H2.2.1.below hb3 ab;have mc:=H2.2.2.1.below hb3 ab;have td:=H2.2.2.2.1.below hb3;have R3:=H2.2.2.2.2.1.below hb3 (Nat.le_of_lt y6);have g3:G2 w.heap.size r s w w3:=H2.2.2.2.2.2.1.trans (G2.below hb3 (Nat.le_of_lt y6));obtain⟨w4,hw4⟩:∃w4,w4=w3.setCell ⟨s,2,none⟩ (.slice Aa na ca):=⟨_,rfl⟩
 have rn:Rr w4 r er1:=by rw[hw4];exact rl.far (by dsimp only;exact fun e=>q5 e.symm) _
 have r1:aw w4 s 54 #[vi,vs,.slice Aa na ca,.slice none 0 0,.slice none 0 0,vg]:=by rw[hw4];exact mv.set_ 2 _
 have tw:aw w4 w.heap.size 84 #[.int .u8 (t.toNat:Int),.slice A1 n1 c1,.slice A2 n2 c2]:=by rw[hw4];exact mc.far ak _
 have ma:G2 w.heap.size r s w3 w4:=by rw[hw4];exact G2.put _ _ _ mz
 have te:dr w4:=td.g2 ma ab h6 h6';have R4:az w4 lo w.heap.size (.slice A1 n1 c1) b:=R3.g2 ma (fun g hg=>by have:=(R3.1.lt g hg).1;exact⟨ab,ab⟩);have t7:az w4 w2.heap.size w4.heap.size (.slice Aa na ca) (Der.write 49 b):=by rw[hw4];exact(ho3.setCell (.inl ak) _).mono nl_ ag
 have sv:w.heap.size<w4.heap.size:=by rw[hw4];simp;omega
 have sl:w2.heap.size≤w4.heap.size:=by rw[hw4];simpa using m0
 obtain⟨c3,f3⟩:=mv.facts;have k3:=mc.facts;have H4:=hd8 rn r1 tw te R4 (g3.trans ma) t7 H2.2.2.2.2.2.2;clear ho3 hb3 rl mv mc td R3 g3 rn r1 tw ma te R4 t7 k0 k1 k2 k3
 go_upto_region 3 with fail
 rw[←hw4];clear hw4 c3 f3;have st:=@run_makeMap Tryz.prog
 go_upto_region 4 with fail
 have j5:Below w4.heap.size w4 (w4.alloc (.map #[] 0)):=br_.alloc nl_ _;have ml:(w4.alloc (.map #[] 0)).ownsMap Tryz.prog 9 (unitElem (H:=Unit)) w4.heap.size 0 (setOf (.agg []) (([]:List (List UInt8)).map Lit.string)):=World.ownsMap_made _ _ _ _;obtain⟨w5,hw5⟩:∃w5,w5=w4.alloc (.map #[] 0):=⟨_,rfl⟩
 rw[←hw5]at j5 ml ⊢;have m3:w4.heap.size<w5.heap.size:=by rw[hw5];simp
 have ro:=H4.1.below j5;have r2:=H4.2.1.below j5 ab;have p6:=H4.2.2.1.below j5 ab;have tf:=H4.2.2.2.1.below j5;have R5:=H4.2.2.2.2.1.below j5 ab;have g5:G2 w.heap.size r s w w5:=H4.2.2.2.2.2.1.trans (G2.below j5 ab);have ra:=H4.2.2.2.2.2.2.1.below j5 nl_;obtain⟨k0,k1,k2⟩:w5.cell? ⟨w.heap.size,0,none⟩=some (.int .u8 (t.toNat:Int))∧w5.cell? ⟨w.heap.size,1,none⟩=some (.slice A1 n1 c1)∧w5.cell? ⟨w.heap.size,2,none⟩=some (.slice A2 n2 c2):=⟨p6.cell 0,p6.cell 1,p6.cell 2⟩
 have H5:=hd8 ml ro r2 tf R5 g5 ra H4.2.2.2.2.2.2.2;clear ml ro r2 p6 tf R5 g5 ra j5 hw5 st H4
 go_wp2_with fail
 refine(bL r er1 t A1 A2 n1 c1 n2 c2 160 0 n1 b raw _ H5.2.1 (H5.2.2.2.2.1.rdx.more ab) hn (.inl rfl) ab).mono ?_;rintro e w6 ⟨A,n,c,L,er2,rfl,hg6,hr6,he6,hE,kz,t1,hhi,hhm,hm,hok⟩;have e0:Zc.parts 160 0 (b.length:Int) (t,b,raw)=Zc.parts 160 ((0:Nat):Int) (n1:Int) (t,b,raw):=by rw[H.2.2.2.2.2];rfl
 have a2:=H5.2.2.2.2.2.2.2.step (er':=er2) (a:=L.map EI.dat) .parts (by show er2=Zc.next er1 (Zc.parts 160 0 (b.length:Int) (t,b,raw));rw[e0];exact he6) (fun h=>by show Zc.parts 160 0 (b.length:Int) (t,b,raw)=_;rw[e0];exact hok h);clear e0;have r3:=H5.2.2.1.grown hg6 (fun e=>q5 (by injection e));have tg:=H5.2.2.2.1.grown hg6 h6;have g6:G2 w.heap.size r s w w6:=H5.2.2.2.2.2.1.trans (G2.grown hg6 ab j3);have t2:=H5.1.kept hg6 (fun e=>by injection e with e;omega);have rb:=(H5.2.2.2.2.2.2.1.keepRows (au.grown hg6 ab)).mono (lo':=w.heap.size) ab nl_;have s0:w5.heap.size≤w6.heap.size:=hg6.size;have m9:=hE.mono (lo':=w.heap.size) ab nl_;have tl:f8 w r s er2 vi vs vg A n c L w4.heap.size w6.heap.size (.slice Aa na ca) (.slice none 0 0) (.slice none 0 0) (Der.write 49 b) [] [] w6:=
  ⟨g6,hr6,r3,m9,rb,az.nil_,az.nil_,(fun g hg=>by simp[Value.ownBlock]at hg),ab,Nat.le_refl _,ab⟩
 have HL:=hd3 kz hm (show n≤n1 by omega);have H6:=hd4 tl t2 tg a2;clear hg6 hr6 he6 hE kz t1 hhi hhm hm hok a2 r3 tg g6 t2 rb m9 tl k0 k1 k2 H5;obtain⟨bm,hbm⟩:∃x,w4.heap.size=x:=⟨_,rfl⟩
 obtain⟨hiL,hhiL⟩:∃x,w6.heap.size=x:=⟨_,rfl⟩
 rw[hhiL]at H6;rw[hbm]at H6 m3 ⊢
 go_wp2_with fail
 go_loopw [33] (fun i wr=>∃(k ek:Nat) (vk vd:Value) (ks ds:List UInt8) (ns:List (List UInt8)),k≤n∧i=.int .i64 (k:Int)∧wr.ownsMap Tryz.prog 9 (unitElem (H:=Unit)) bm k (setOf (.agg []) (ns.map Lit.string))∧
  f8 w r s ek vi vs vg A n c L bm hiL (.slice Aa na ca) vk vd (Der.write 49 b) ks ds wr∧dr wr∧Zc.At er (Zc.attributes (t,b,raw)) ek ((Zc.attrs ((L.map EI.dat).drop k) (ks,ds) ns).bind (Zc.attF b))) (fun i _=>n - (intOf i).toNat)
 case atStart=>exact⟨0,er2,_,_,[],[],[],Nat.zero_le _,rfl,H6.2.1,H6.1,H6.2.2.1,H6.2.2.2⟩
 case round=>
  obtain⟨k,ek,vk,vd,ks,ds,ns,hk,rfl,hown,hS,hGr,qg⟩:=hrel;have ga:n≤1099511627:=by have:=HL.2.2;omega
  have s5:=hS.le;have m5:=hS.top;have t1:=hS.lo;have sm:bm<wr.heap.size:=by
   obtain⟨es,clk,hb,_⟩:=hown;exact(Array.getElem?_eq_some_iff.1 hb).1
  by_cases hlt:k<n
  ·have mj:(k:Int)<(n:Int):=ab
   obtain⟨g,hA,hgh,hgl⟩:=hS.ow.spot_ ab;subst hA;obtain⟨ty,A3,n3,c3,by_,A4,n4,c4,ry,hd,p0,p1,p2,R3,R4,hLk⟩:=hS.ow.el rfl (Below.refl hiL wr) nl_ k (k*3) hlt rfl;have yd:(L.map EI.dat).drop k=(ty,by_,ry)::(L.map EI.dat).drop (k+1):=by
    have kl:k<(L.map EI.dat).length:=by rw[List.length_map];have:=HL.1;omega
    rw[←hd,List.getD_eq_getElem?_getD,List.getElem?_eq_getElem kl];exact List.drop_eq_getElem_cons kl
   have s9:n3≤n1:=by
    have:=HL.2.1 (ty,by_,ry) (by rw[←hd,List.getD_eq_getElem?_getD,List.getElem?_eq_getElem (by rw[List.length_map];have:=HL.1;omega)];exact List.getElem_mem _);have h2:=R3.len;dsimp only at this;omega
   rw[yd]at qg;have rs:=hS.rr.alloc (.cells #[.int .u8 (ty.toNat:Int),.slice A3 n3 c3,.slice A4 n4 c4] 84);have R7:Rd (wr.alloc (.cells #[.int .u8 (ty.toNat:Int),.slice A3 n3 c3,.slice A4 n4 c4] 84)) (wr.alloc (.cells #[.int .u8 (ty.toNat:Int),.slice A3 n3 c3,.slice A4 n4 c4] 84)).heap.size A3 n3 c3 by_:=(R3.more m5).up (br_.alloc nl_ _);have tr:=hS.below (W':=wr.alloc (.cells #[.int .u8 (ty.toNat:Int),.slice A3 n3 c3,.slice A4 n4 c4] 84)) (br_.alloc nl_ _) ab;have t3:=hown.alloc (.cells #[.int .u8 (ty.toNat:Int),.slice A3 n3 c3,.slice A4 n4 c4] 84);have ti:=hGr.below (w':=wr.alloc (.cells #[.int .u8 (ty.toNat:Int),.slice A3 n3 c3,.slice A4 n4 c4] 84)) (br_.alloc nl_ _);have H7:=hd7 rs R7 tr t3 ti qg hk;clear rs R7 tr t3 ti qg hk hown hS hGr yd hd R3 R4 hLk
   go_wp2_with fail
   refine(bL r ek ty A3 A4 n3 c3 n4 c4 48 2 2 by_ ry _ H7.1 H7.2.1 ab (.inr (.inr (.inl rfl))) ab).mono ?_;rintro e w8 ⟨B1,m1,d1,L1,e1,rfl,hg8,hr8,he8,hE8,hnl8,hlo8,hhi8,_,hm8,hok8⟩;obtain rfl:m1=2:=ab
   have s1:wr.heap.size<w8.heap.size:=Nat.lt_of_lt_of_le ag hg8.size
   replace hE8:=hE8.mono (lo':=wr.heap.size) ag nl_
   obtain⟨g1,rfl,hg1h,hg1l⟩:=hE8.spot_ ab;obtain⟨t5,A5,n5,c5,b5,A6,n6,c6,r5,hx0,q0,q1,q2,R5,R6,hL0⟩:=hE8.el rfl (Below.refl w8.heap.size w8) nl_ 0 0 ab rfl;obtain⟨t6,A7,n7,c7,b6,A8,n8,c8,r6,hx1,_,_,_,R7,_,hL1⟩:=hE8.el rfl (Below.refl w8.heap.size w8) nl_ 1 3 ab rfl;have s6:n5≤n1:=by have:=hm8 (t5,b5,r5) (by rw[←hx0,List.getD_eq_getElem?_getD,List.getElem?_eq_getElem (by rw[List.length_map];omega)];exact List.getElem_mem _);have h2:=R5.len;dsimp only at this;omega
   have s7:n7≤n1:=by have:=hm8 (t6,b6,r6) (by rw[←hx1,List.getD_eq_getElem?_getD,List.getElem?_eq_getElem (by rw[List.length_map];omega)];exact List.getElem_mem _);have h2:=R7.len;dsimp only at this;omega
   have ts:=H7.2.2.1.grown hg8 hr8 (by have:=H7.2.2.1.lo;have:=H7.2.2.1.le;have:=H7.2.2.1.top;omega) j3 q5;have ky:=H7.2.2.2.1.kept hg8 (fun e=>by injection e with e;omega);have tj:=H7.2.2.2.2.1.grown hg8 h6;have H8:=hd11 ts ky tj hE8 hL0 hL1 hx0 hx1 he8 hok8 R5;clear hg8 hr8 he8 hnl8 hlo8 hhi8 hm8 hok8 ts ky tj hE8 hL0 hL1 hx0 hx1 R6 R7 R5 p0 p1 p2
   go_wp2_with fail
   refine(kX r e1 t5 A5 n5 c5 (.slice A6 n6 c6) b5 r5 _ H8.1.rr H8.2.2.2.2.2.2.2.2.2.2 ab).mono ?_;rintro e w9 ⟨rfl,hg9,hr9⟩;obtain⟨e2,he9⟩:∃e,e=Zc.next e1 (Zc.oid (t5,b5,r5)):=⟨_,rfl⟩
   rw[←he9]at hr9;have m4:w8.heap.size≤w9.heap.size:=hg9.size;have qs:=H8.1.grown hg9 hr9 ab j3 q5;have t4:=H8.2.1.kept hg9 (fun e=>by injection e with e;omega);have tk:=H8.2.2.1.grown hg9 h6;have pv:=H8.2.2.2.1.keepRows (au.grown hg9 ab);obtain⟨p3,p4,p5⟩:=pv.cells3 H8.2.2.2.2.2.1 3 4 5 ⟨rfl,rfl,rfl⟩;have R9:=(pv.own1 H8.2.2.2.2.2.1).rdx.more m4;have H9:=hd6 qs t4 tk pv he9 R9;clear hg9 hr9 he9 qs t4 tk pv R9 q0 q1 q2
   go_wp2_with fail
   refine(bL r e2 t6 A7 A8 n7 c7 n8 c8 49 1 1 b6 r6 _ H9.1.rr H9.2.2.2.2.2 ab (.inr (.inl rfl)) ab).mono ?_;rintro e w10 ⟨B2,m2,d2,L2,e3,rfl,hg10,hr10,he10,hE10,hnl10,hlo10,hhi10,_,hm10,hok10⟩;obtain rfl:m2=1:=ab
   have r4:w9.heap.size≤w10.heap.size:=hg10.size;obtain⟨g2,rfl,hg2h,hg2l⟩:=hE10.spot_ ab;obtain⟨t9,A9,n9,c9,b9,Aw,nw,cw,r9,hx2,q0,q1,q2,R9,_,hL2⟩:=hE10.el rfl (Below.refl w10.heap.size w10) nl_ 0 0 ab rfl;have s8:n9≤n1:=by have:=hm10 (t9,b9,r9) (by rw[←hx2,List.getD_eq_getElem?_getD,List.getElem?_eq_getElem (by rw[List.length_map];omega)];exact List.getElem_mem _);have h2:=R9.len;dsimp only at this;omega
   have v5:=H9.1.grown hg10 hr10 ab j3 q5;have yh:=H9.2.1.kept hg10 (fun e=>by injection e with e;omega);have ve:=H9.2.2.1.grown hg10 h6;have va:=H9.2.2.2.1.keepRows (au.grown hg10 ab);have kf:Below w10.heap.size w10 (w10.alloc (.cells #[.int .u8 (t9.toNat:Int),.slice A9 n9 c9,.slice Aw nw cw] 84)):=br_.alloc nl_ _;have v6:=v5.below kf ab;have j7:=yh.alloc (.cells #[.int .u8 (t9.toNat:Int),.slice A9 n9 c9,.slice Aw nw cw] 84);have vn:=ve.below kf;have yv:=va.keepRows (au.below kf nl_);have z2:=aw.new w10 84 #[.int .u8 (t9.toNat:Int),.slice A9 n9 c9,.slice Aw nw cw];have v1:=(hE10.own1 hL2).below kf nl_;have Rn:Rd (w10.alloc (.cells #[.int .u8 (t9.toNat:Int),.slice A9 n9 c9,.slice Aw nw cw] 84)) w8.heap.size A5 n5 c5 b5:=(yv.own1 H8.2.2.2.2.1).rdx;have tx:=dp Rn 9 Tryz.underlying9;obtain⟨q,hq⟩:∃q,ns.contains b5=q:=⟨_,rfl⟩
   have kk:Maps.has (setOf (H:=Unit) (.agg []) (ns.map Lit.string)) (.string b5)=q:=by
    rw[has_setOf _ _ _ (fun x hx=>by
     obtain⟨a,_,rfl⟩:=List.mem_map.1 hx;simp[WideAt.IsKeyLit]),kQ]
    exact hq
   have y3:keyOf Tryz.prog 9 (.string ⟨b5.toArray⟩)=some (.string b5):=WideMaps.keyOf_string_mk Tryz.underlying9 (by
    have h2:=Rn.len;show b5.toArray.size≤maxLen;simp only[List.size_toArray,maxLen];omega)
   have j2:=hd10 v6 j7 vn yv z2 v1 hx2 he10 hok10 hq;clear hg10 hr10 he10 hE10 hnl10 hlo10 hhi10 hm10 hok10 v5 yh ve va v6 vn yv z2 v1 hx2 R9 hq hL2 p3 p4 p5 kf;have mm:=kp
   go_wp2_with (first
    | (at_lookup;refine wpList_lookup_own_unit _ rfl _ _ 186 rfl 9 179 (string_keyed Tryz.underlying9) Tryz.underlying186 (xo _) bm k _ rfl j7 _ _ rfl y3 ?_;rw[kk])
    | fail)
   have zs:=Below.alloc (Below.refl (w10.alloc (.cells #[.int .u8 (t9.toNat:Int),.slice A9 n9 c9,.slice Aw nw cw] 84)).heap.size (w10.alloc (.cells #[.int .u8 (t9.toNat:Int),.slice A9 n9 c9,.slice Aw nw cw] 84))) nl_ (.cells #[] 179);have y2:=j2.1.below zs ai;have kn:=j7.alloc (.cells #[] 179);have vo:=j2.2.2.1.below zs;have z6:=j2.2.2.2.1.keepRows (au.below zs nl_);have z3:=j2.2.2.2.2.1.below zs ag;have v2:=j2.2.2.2.2.2.1.below zs ag;refine(cB r e3 (!q) _ y2.rr).mono ?_;rintro e w13 ⟨rfl,hg13,hr13⟩;obtain⟨e4,he13⟩:∃e,e=Zc.next e3 (Zc.form (!q)):=⟨_,rfl⟩
   rw[←he13]at hr13;have r7:w10.heap.size+2≤w13.heap.size:=by have:=hg13.size;simpa using this
   have v7:=y2.grown hg13 hr13 ai j3 q5;have y4:=kn.kept hg13 (fun e=>by injection e with e;omega);have vp:=vo.grown hg13 h6;have yy:=z6.keepRows (au.grown hg13 ab);have z4:=z3.grown hg13 (fun e=>by injection e with e;omega);have v3:=v2.keepRows (au.grown hg13 ab);have z1:Rd w13 w8.heap.size A5 n5 c5 b5:=(yy.own1 H8.2.2.2.2.1).rdx;have tx:=dp z1 9 Tryz.underlying9;have j8:=hd7 v7 y4 vp yy z4 v3 he13;clear zs y2 kn vo z6 z3 v2 hg13 hr13 he13 v7 vp yy z4 v3 z1 j7 kk
   go_upto_region 13 with(first
    | (at_mapUpdate;refine wpList_mapUpdate_own _ rfl _ _ _ 186 rfl 9 179 (string_keyed Tryz.underlying9) Tryz.underlying186 (unitElem (H:=Unit)) bm k _ rfl y4 (by have:=HL.2.2;unfold maxLen;omega) _ _ _ rfl rfl y3 _ [] unitElem_mk ?_;intro w14 hm14 hg14)
    | fail)
   obtain⟨es,clk,hbmp,_⟩:=y4;have r8:w13.heap.size≤w14.heap.size:=hg14.size;have m7:G2 w.heap.size r s w13 w14:=G2.map hg14 hbmp ab;have v8:=j8.1.keep m7 (j8.1.rr.grown hg14 (fun e=>by injection e with e;omega)) (j8.1.sb.grown hg14 (fun e=>by injection e with e;omega));have vt:=j8.2.2.1.grown hg14 ab;have z7:=j8.2.2.2.1.keepRows (au.map hg14 hbmp);have z5:=j8.2.2.2.2.1.grown hg14 (fun e=>by injection e with e;omega);have v4:=j8.2.2.2.2.2.1.keepRows (au.map hg14 hbmp);rw[←setOf_snoc,←List.map_singleton,←List.map_append]at hm14;obtain⟨qk,hqk⟩:∃q,Zc.is (t5,b5,r5) Zc.kind=q:=⟨_,rfl⟩
   obtain⟨qd,hqd⟩:∃q,Zc.is (t5,b5,r5) Zc.digest=q:=⟨_,rfl⟩
   have qh:=hd8 v8 hm14 vt z7 z5 v4 hqk hqd;clear m7 v8 hm14 vt z7 z5 v4 hqk hqd hg14 hbmp tx y3 mm;have hk:∀V,Below w14.heap.size w14 V→aU V wr.heap.size w8.heap.size (.slice (some ⟨g1,0,none⟩) 2 d1) L1∧Rd V V.heap.size A5 n5 c5 b5∧dr V:=fun V hV=>by
    have hE:=qh.2.2.2.1.keepRows (au.below hV nl_);exact⟨hE,(hE.own1 H8.2.2.2.2.1).rdx.more (by have:=hV.size;omega),qh.2.2.1.below hV⟩
   refine bK (fun i v _=>v=(fun i=>([.slice (some ⟨g1,0,none⟩) 2 d1,.pointer (some ⟨g1,0,none⟩),.agg #[.int .u8 (t5.toNat:Int),.slice A5 n5 c5,.slice A6 n6 c6],.slice (some ⟨3,0,none⟩) 7 7,.bool qk,.bool qk]:List Value).getD i undef) i) (fun V=>Below w14.heap.size w14 V) (fun V V'=>Below V.heap.size V V') rfl (fun _=>Below.refl _ _) (fun _ _ _ _ _ h=>h) (fun _ _ h h'=>h.trans (h'.mono h.size)) (by show bp _ 116=true;decide +kernel) ac br_.drew ⟨?_,?_,?_,?_,?_,?_,trivial⟩ ?_
   ·refine aA.run rfl ?_;intro a' V hfr hV hdep;exact cP ag rfl (hfr 9 ac) rfl br_
   ·refine aA.run rfl ?_;intro a' V hfr hV hdep;have d:a'.eval (.tmp 68)=.slice (some ⟨g1,0,none⟩) 2 d1:=hdep 0 ac;refine bU ag ?_ rfl br_;simp only[execOp,d];simp[go_sem,Act.eval]
   ·refine aA.run rfl ?_;intro a' V hfr hV hdep;have d:a'.eval (.tmp 69)=.pointer (some ⟨g1,0,none⟩):=hdep 1 ac;exact dq ag rfl d ((hk V hV).1.load H8.2.2.2.2.1 rfl) rfl br_
   ·refine aA.run rfl ?_;intro a' V hfr hV hdep;refine bU ag ?_ rfl br_;simp only[execOp];simp[go_sem,Act.eval,Tryz.underlying100]
   ·refine aA.run rfl ?_;intro a' V hfr hV hdep;have d:a'.eval (.tmp 70)=.agg #[.int .u8 (t5.toNat:Int),.slice A5 n5 c5,.slice A6 n6 c6]:=hdep 2 ac;have d2:a'.eval (.tmp 71)=.slice (some ⟨3,0,none⟩) 7 7:=hdep 3 ac
    refine bV ag rfl Tryz.func48 rfl aj (args:=#[.agg #[.int .u8 (t5.toNat:Int),.slice A5 n5 c5,.slice A6 n6 c6],.slice (some ⟨3,0,none⟩) 7 7]) (by simp only[List.map_toArray,List.map_cons,List.map_nil,d,d2]) (gD t5 A5 _ n5 c5 7 7 (.slice A6 n6 c6) b5 r5 [1,2,840,113549,1,9,3] V (hk V hV).2.1 ((hk V hV).2.2.rdu (by simp[Zc.table]) rfl) ab) ?_;rintro e w'' ⟨rfl,hb⟩;exact⟨_,rfl,by rw[yx,qh.2.2.2.2.2.2.1];rfl,hb⟩
   ·refine aA.run rfl ?_;intro a' V hfr hV hdep;have d:a'.eval (.tmp 72)=.bool qk:=hdep 4 ac;exact gI ag rfl d rfl br_
   intro a' w15 hd hsz hfr hV hJ;have e:=dL (fun i=>([.slice (some ⟨g1,0,none⟩) 2 d1,.pointer (some ⟨g1,0,none⟩),.agg #[.int .u8 (t5.toNat:Int),.slice A5 n5 c5,.slice A6 n6 c6],.slice (some ⟨3,0,none⟩) 7 7,.bool qk,.bool qk]:List Value).getD i undef) (by show bp _ 116=true;decide +kernel) hd hsz hfr (fun i hi=>hJ i hi);have ys:=hd1 hV;clear hd hsz hfr hV hJ;have k6:List.range 6=[0,1,2,3,4,5]:=rfl;simp only[dT,List.map_cons,List.map_nil,List.size_toArray,List.length_cons,List.length_nil,Nat.reduceAdd,k6,List.zip_cons_cons,List.zip_nil_left,List.foldl_cons,List.foldl_nil,Act.put,List.setIfInBounds_toArray,List.set_cons_zero,List.set_cons_succ,List.getD_cons_zero,List.getD_cons_succ]at e;subst e;clear k6;apply_assumption;have zz:∀g,vd.ownBlock=some g→g<w9.heap.size:=fun g hg=>by have:=(H7.2.2.1.od.blk_ hg).2;simp only[World.size_alloc]at this;omega
   have z0:∀g,vk.ownBlock=some g→g<w9.heap.size:=fun g hg=>by have:=(H7.2.2.1.ok.blk_ hg).2;simp only[World.size_alloc]at this;omega
   have qc:∀(e5:Nat) (ks' ds':List UInt8),e5=Zc.next e4 (Zc.says (ks,ds) (t5,b5,r5) (t9,b9,r9))→(e5=0→Zc.says (ks,ds) (t5,b5,r5) (t9,b9,r9)=.ok (ks',ds'))→
    Hid (Zc.At er (Zc.attributes (t,b,raw)) e5 ((Zc.attrs ((L.map EI.dat).drop (k+1)) (ks',ds') (ns++[b5])).bind (Zc.attF b))):=fun e5 ks' ds' h5 k5=>by
    have:=Zc.round (er1:=e1) (er2:=e2) (er3:=e3) (er4:=e4) (er5:=e5) (ks':=ks') (ds':=ds') (l:=L1.map EI.dat) (v:=L2.map EI.dat) H7.2.2.2.2.2.1 H8.2.2.2.2.2.2.2.2.1 H8.2.2.2.2.2.2.2.2.2.1 (by rw[H8.2.2.2.2.2.2.1];exact H9.2.2.2.2.1)
     (by rw[H8.2.2.2.2.2.2.2.1];exact j2.2.2.2.2.2.2.2.1) (by rw[H8.2.2.2.2.2.2.2.1];exact j2.2.2.2.2.2.2.2.2.1) (by rw[H8.2.2.2.2.2.2.1,j2.2.2.2.2.2.2.2.2.2];exact j8.2.2.2.2.2.2)
     (by rw[H8.2.2.2.2.2.2.1,j2.2.2.2.2.2.2.1];exact h5) (by rw[H8.2.2.2.2.2.2.1,j2.2.2.2.2.2.2.1];exact k5)
    rw[H8.2.2.2.2.2.2.1]at this;exact hd1 this
   have v9:=qh.1.below ys.out ab;have ko:=qh.2.1.kept (aH ys.out (some r)) (fun e=>by injection e with e;omega);have vv:=qh.2.2.1.below ys.out;have q7:=qh.2.2.2.2.1.below ys.out ab;have y0:=qh.2.2.2.2.2.1.below ys.out ab;have pb:=ys.out.size;obtain⟨k0,k1,k2⟩:w15.cell? ⟨w10.heap.size,0,none⟩=some (.int .u8 (t9.toNat:Int))∧w15.cell? ⟨w10.heap.size,1,none⟩=some (.slice A9 n9 c9)∧w15.cell? ⟨w10.heap.size,2,none⟩=some (.slice Aw nw cw):=⟨q7.cell 0,q7.cell 1,q7.cell 2⟩
   have m6:Rd w15 w15.heap.size A9 n9 c9 b9:=y0.rdx.more ab;have q6:=hd6 v9 ko vv q7 y0 m6;clear v9 ko vv q7 y0 m6
   cases qk with
   | true=>
    go_wp2_with fail
    refine(kX r e4 t9 A9 n9 c9 (.slice Aw nw cw) b9 r9 _ q6.1.rr q6.2.2.2.2.2 ab).mono ?_;rintro e w17 ⟨rfl,hg17,hr17⟩;obtain⟨e5,he17⟩:∃e,e=Zc.next e4 (Zc.oid (t9,b9,r9)):=⟨_,rfl⟩
    rw[←he17]at hr17;have ps:w15.heap.size≤w17.heap.size:=hg17.size;have q3:=q6.1.grown hg17 hr17 ab j3 q5;have j1:=(q6.2.1.kept hg17 (fun e=>by injection e with e;omega)).setCell (a:=⟨s,3,none⟩) (show bm≠s by omega) (.slice A9 n9 c9);have q9:=(q6.2.2.1.grown hg17 h6).grown (bF _ ⟨s,3,none⟩ (.slice A9 n9 c9)) h6';have j0:=q6.2.2.2.2.1.keepRows (au.grown hg17 ab);have q4:=q3.setK j0 ab ab zz mz q5;obtain⟨s3,sf⟩:=q3.sb.facts;have qg:=qc e5 b9 ds (Zc.says_kind qh.2.2.2.2.2.2.1 he17).1 (Zc.says_kind qh.2.2.2.2.2.2.1 he17).2;have qv:=hd4 q4 j1 q9 qg.out;clear hg17 hr17 he17 q3 j1 q9 j0 q4 qg qc zz z0 k0 k1 k2
    go_wp2
    go_roundw
    case rel=>exact⟨k+1,e5,_,_,_,_,_,ab,by go_num,qv.2.1,qv.1,qv.2.2.1,qv.2.2.2⟩
    case measure=>simp[intOf];omega
   | false=>
    have j6:∀V,Below w15.heap.size w15 V→aU V wr.heap.size w8.heap.size (.slice (some ⟨g1,0,none⟩) 2 d1) L1∧Rd V V.heap.size A5 n5 c5 b5∧dr V:=fun V hV=>hk V (ys.out.trans (hV.mono pb))
    go_upto_region 15 with fail
    refine bK (fun i v _=>v=(fun i=>([.slice (some ⟨g1,0,none⟩) 2 d1,.pointer (some ⟨g1,0,none⟩),.agg #[.int .u8 (t5.toNat:Int),.slice A5 n5 c5,.slice A6 n6 c6],.slice (some ⟨4,0,none⟩) 7 7,.bool qd,.bool qd]:List Value).getD i undef) i) (fun V=>Below w15.heap.size w15 V) (fun V V'=>Below V.heap.size V V') rfl (fun _=>Below.refl _ _) (fun _ _ _ _ _ h=>h) (fun _ _ h h'=>h.trans (h'.mono h.size)) (by show bp _ 116=true;decide +kernel) ac br_.drew ⟨?_,?_,?_,?_,?_,?_,trivial⟩ ?_
    ·refine aA.run rfl ?_;intro a' V hfr hV hdep;exact cP ag rfl (hfr 9 ac) rfl br_
    ·refine aA.run rfl ?_;intro a' V hfr hV hdep;have d:a'.eval (.tmp 80)=.slice (some ⟨g1,0,none⟩) 2 d1:=hdep 0 ac;refine bU ag ?_ rfl br_;simp only[execOp,d];simp[go_sem,Act.eval]
    ·refine aA.run rfl ?_;intro a' V hfr hV hdep;have d:a'.eval (.tmp 81)=.pointer (some ⟨g1,0,none⟩):=hdep 1 ac;exact dq ag rfl d ((j6 V hV).1.load H8.2.2.2.2.1 rfl) rfl br_
    ·refine aA.run rfl ?_;intro a' V hfr hV hdep;refine bU ag ?_ rfl br_;simp only[execOp];simp[go_sem,Act.eval,Tryz.underlying100]
    ·refine aA.run rfl ?_;intro a' V hfr hV hdep;have d:a'.eval (.tmp 82)=.agg #[.int .u8 (t5.toNat:Int),.slice A5 n5 c5,.slice A6 n6 c6]:=hdep 2 ac;have d2:a'.eval (.tmp 83)=.slice (some ⟨4,0,none⟩) 7 7:=hdep 3 ac
     refine bV ag rfl Tryz.func48 rfl aj (args:=#[.agg #[.int .u8 (t5.toNat:Int),.slice A5 n5 c5,.slice A6 n6 c6],.slice (some ⟨4,0,none⟩) 7 7]) (by simp only[List.map_toArray,List.map_cons,List.map_nil,d,d2]) (gD t5 A5 _ n5 c5 7 7 (.slice A6 n6 c6) b5 r5 [1,2,840,113549,1,9,4] V (j6 V hV).2.1 ((j6 V hV).2.2.rdu (by simp[Zc.table]) rfl) ab) ?_;rintro e w'' ⟨rfl,hb⟩;exact⟨_,rfl,by rw[tM,qh.2.2.2.2.2.2.2];rfl,hb⟩
    ·refine aA.run rfl ?_;intro a' V hfr hV hdep;have d:a'.eval (.tmp 84)=.bool qd:=hdep 4 ac;exact gI ag rfl d rfl br_
    intro a' w16 hd hsz hfr hV hJ;have e:=dL (fun i=>([.slice (some ⟨g1,0,none⟩) 2 d1,.pointer (some ⟨g1,0,none⟩),.agg #[.int .u8 (t5.toNat:Int),.slice A5 n5 c5,.slice A6 n6 c6],.slice (some ⟨4,0,none⟩) 7 7,.bool qd,.bool qd]:List Value).getD i undef) (by show bp _ 116=true;decide +kernel) hd hsz hfr (fun i hi=>hJ i hi);have y7:=hd1 hV;clear hd hsz hfr hV hJ;have k6:List.range 6=[0,1,2,3,4,5]:=rfl;simp only[dT,List.map_cons,List.map_nil,List.size_toArray,List.length_cons,List.length_nil,Nat.reduceAdd,k6,List.zip_cons_cons,List.zip_nil_left,List.foldl_cons,List.foldl_nil,Act.put,List.setIfInBounds_toArray,List.set_cons_zero,List.set_cons_succ,List.getD_cons_zero,List.getD_cons_succ]at e;subst e;clear k6;apply_assumption;have q3:=q6.1.below y7.out ab;have j1:=q6.2.1.kept (aH y7.out (some r)) (fun e=>by injection e with e;omega);have q9:=q6.2.2.1.below y7.out;have j4:=q6.2.2.2.1.below y7.out ab;have j0:=q6.2.2.2.2.1.below y7.out ab;have sc:=y7.out.size;obtain⟨l0,l1,l2⟩:w16.cell? ⟨w10.heap.size,0,none⟩=some (.int .u8 (t9.toNat:Int))∧w16.cell? ⟨w10.heap.size,1,none⟩=some (.slice A9 n9 c9)∧w16.cell? ⟨w10.heap.size,2,none⟩=some (.slice Aw nw cw):=⟨j4.cell 0,j4.cell 1,j4.cell 2⟩
    have HW:=hd4 q3 j1 q9 j0;clear q3 j1 q9 j4 j0 k0 k1 k2 hk j6
    cases qd with
    | true=>
     go_wp2_with fail
     refine(eI r e4 t9 (.slice A9 n9 c9) (.slice Aw nw cw) 4 b9 r9 _ HW.1.rr).mono ?_;rintro e w17 ⟨rfl,hg17,hr17⟩;obtain⟨e5,he17⟩:∃e,e=Zc.next e4 (Zc.body 4 (t9,b9,r9)):=⟨_,rfl⟩
     rw[←he17]at hr17;have ps:w16.heap.size≤w17.heap.size:=hg17.size;have q4:=HW.1.grown hg17 hr17 ab j3 q5;have kt:=(HW.2.1.kept hg17 (fun e=>by injection e with e;omega)).setCell (a:=⟨s,4,none⟩) (show bm≠s by omega) (.slice A9 n9 c9);have vw:=(HW.2.2.1.grown hg17 h6).grown (bF _ ⟨s,4,none⟩ (.slice A9 n9 c9)) h6';have y1:=HW.2.2.2.keepRows (au.grown hg17 ab);have kb:=q4.setD y1 ab ab z0 mz q5;obtain⟨s3,sf⟩:=q4.sb.facts;have qv:=hd5 he17 y1.rdx.len kb kt vw;obtain⟨w18,hw18⟩:∃W,W=w17.setCell ⟨s,4,none⟩ (.slice A9 n9 c9):=⟨_,rfl⟩
     have se:w17.heap.size≤w18.heap.size:=by rw[hw18];simp
     clear hg17 hr17 he17 q4 kt vw y1 kb l0 l1 l2
     go_upto_region 17 with fail
     rw[←hw18]at qv ⊢;clear hw18 s3 sf;have s2:w18.cell? ⟨s,4,none⟩=some (.slice A9 n9 c9):=qv.2.2.1.sb.cell 4
     go_wp2_with fail
     refine(cB r e5 _ _ qv.2.2.1.rr).mono ?_;rintro e w19 ⟨rfl,hg19,hr19⟩;obtain⟨e6,he19⟩:∃e,e=Zc.next e5 (Zc.form ((n9:Int)==32)):=⟨_,rfl⟩
     rw[←he19]at hr19;have sh:w18.heap.size≤w19.heap.size:=hg19.size;have kc:=qv.2.2.1.grown hg19 hr19 ab j3 q5;have kv:=qv.2.2.2.1.kept hg19 (fun e=>by injection e with e;omega);have vy:=qv.2.2.2.2.grown hg19 h6;have k4:((n9:Int)==32)=decide (b9.length=32):=by rw[qv.2.1,Bool.eq_iff_iff];simp;omega
     rw[k4]at he19;have y5:=Zc.says_digest (ks:=ks) (ds:=ds) qh.2.2.2.2.2.2.1 qh.2.2.2.2.2.2.2 qv.1 he19;have qg:=qc e6 ks b9 y5.1 y5.2;have zn:=hd4 kc kv vy qg.out;clear hg19 hr19 he19 kc kv vy k4 y5 qg qc zz z0 s2
     go_wp2
     go_roundw
     case rel=>exact⟨k+1,e6,_,_,_,_,_,ab,by go_num,zn.2.1,zn.1,zn.2.2.1,zn.2.2.2⟩
     case measure=>simp[intOf];omega
    | false=>
     have y5:=Zc.says_none (er4:=e4) (ks:=ks) (ds:=ds) qh.2.2.2.2.2.2.1 qh.2.2.2.2.2.2.2 (v0:=(t9,b9,r9));have qg:=qc e4 ks ds y5.1 y5.2;have zn:=hd1 qg.out;clear y5 qg qc zz z0 l0 l1 l2
     go_wp2
     go_roundw
     case rel=>exact⟨k+1,e4,_,_,_,_,_,ab,by go_num,HW.2.1,HW.1,HW.2.2.1,zn.out⟩
     case measure=>simp[intOf];omega
  ·obtain rfl:k=n:=ab
   have mj:¬((k:Int)<(k:Int)):=ab
   rw[List.drop_of_length_le (by rw[List.length_map];have:=HL.1;omega)]at qg;obtain⟨Ak,nk,ck,z0,rk⟩:=hS.ok.rd;subst z0;obtain⟨Ad,nd,cd,zz,rd⟩:=hS.od.rd;subst zz;obtain⟨s3,s4⟩:wr.cell? ⟨s,3,none⟩=some (.slice Ak nk ck)∧wr.cell? ⟨s,4,none⟩=some (.slice Ad nd cd):=⟨hS.sb.cell 3,hS.sb.cell 4⟩
   have kl:=rk.len;have t0:=rd.len;have HE:=hd4 hS qg kl t0;clear hS qg hown hGr rk rd kl t0;have fin:∀(q:Bool) (e:Ending) (w':World),q=(decide (0<ks.length)&&decide (0<ds.length))→wr.grownBy w' (some r)→Rr w' r (Zc.next ek (Zc.form q))→Hid (AG r s er w vi vs vg (t,b,raw) (.returned (.tuple #[])) w'):=by
    intro q e w' hq hg hr;obtain⟨e9,he9⟩:∃e,e=Zc.next ek (Zc.form q):=⟨_,rfl⟩
    rw[←he9]at hr;rw[hq]at he9;have qg:Zc.At er (Zc.attributes (t,b,raw)) ek (Zc.attF b (ks,ds)):=HE.2.1;have hf:=(qg.step .form he9 (Zc.form_zero he9)).fin;have qs:=HE.1.grown hg hr ab j3 q5;refine hd1 ⟨_,_,_,Der.write 49 b,ks,ds,e9,rfl,qs.g2,hr,qs.sb,hf.1,?_,?_,hf.2⟩
    ·intro p hp
     have h1:=qs.top;simp only[List.mem_cons,List.not_mem_nil,or_false]at hp;rcases hp with rfl|rfl|rfl
     ·exact qs.oa.mono nl_ ab
     ·exact qs.ok.mono ab nl_
     ·exact qs.od.mono ab nl_
    ·refine .cons (fun x hx=>?_) (.cons (fun x hx=>?_) (.cons (fun x hx=>by simp at hx) .nil))
     ·simp only[List.mem_cons,List.not_mem_nil,or_false]at hx
      rcases hx with rfl|rfl
      ·intro g h1 h2;have:=(qs.oa.blk_ h1).2;have:=(qs.ok.blk_ h2).1;omega
      ·intro g h1 h2;have:=(qs.oa.blk_ h1).2;have:=(qs.od.blk_ h2).1;omega
     ·obtain rfl:=List.mem_singleton.1 hx
      exact qs.ap
   rcases Nat.eq_zero_or_pos nk with h0|h0
   ·have md:¬(0:Int)<(nk:Int):=ab
    have so:decide ((0:Int)<(nk:Int))=false:=decide_eq_false md;have HF:=hd1 (show false=(decide (0<ks.length)&&decide (0<ds.length)) by rw[HE.2.2.1,h0];rfl);clear h0
    go_wp2_with fail
    refine(cB r ek _ _ HE.1.rr).mono ?_;rintro e w19 ⟨rfl,hg19,hr19⟩;have hF:=fin _ (.returned (.tuple #[])) w19 HF.out hg19 hr19;clear hg19 hr19 fin s3 s4
    go_wp2
    go_end0
    exact hF.out
   ·have md:(0:Int)<(nk:Int):=ab
    have so:decide ((0:Int)<(nk:Int))=true:=decide_eq_true md;have HF:=hd1 (show decide (0<nd)=(decide (0<ks.length)&&decide (0<ds.length)) by rw[HE.2.2.1,HE.2.2.2,decide_eq_true h0,Bool.true_and]);clear h0
    go_wp2_with fail
    refine(cB r ek _ _ HE.1.rr).mono ?_;rintro e w19 ⟨rfl,hg19,hr19⟩;have hF:=fin _ (.returned (.tuple #[])) w19 HF.out hg19 hr19;clear hg19 hr19 fin s3 s4
    go_wp2
    go_end0
    exact hF.out
end
end Go.Proofs.YtmpkpphfoidbeaaGreatDoor
