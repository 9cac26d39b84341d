import Derived.Test.YtmpkpphfoidbeaaGreatDoorV22
import Derived.Test.YtmpkpphfoidbeaaGreatDoorV26
set_option linter.unusedVariables false
set_option linter.unusedSimpArgs false
set_option maxRecDepth 100000
namespace Go.Proofs.YtmpkpphfoidbeaaGreatDoor
open Go.RowKit
structure kw {β:Type} (size:Nat) (cells:β→List Value) (rows:β→List (Value×List UInt8)) (w:World) (A:Option Addr) (n c:Nat) (l:List β):Prop where
 len:l.length=n
 cap:n≤c
 capm:c≤9223372036854775807
 spot:0<n→∃b o,A=some ⟨b,o,none⟩∧b<w.heap.size
 rds:aF w w.heap.size size A n (l.flatMap cells)
 rows:∀p∈l.flatMap rows,aE w p.1 p.2
def bA {β:Type} (e:TypeId) (size:Nat) (cells:β→List Value) (rows:β→List (Value×List UInt8)) (w:World) (lo hi:Nat) (v:Value) (l:List β):Prop:=
 aI e size w lo hi v l.length (l.flatMap cells)∧∀p∈l.flatMap rows,aE w p.1 p.2
section
variable {β : Type} {e : TypeId} {size : Nat} {cells : β → List Value} {rows : β → List (Value × List UInt8)} {w w' : World} {lo hi lo' hi' : Nat} {v : Value} {l : List β} {A : Option Addr} {n c : Nat}
theorem rB (hc:∀x,(cells x).length=size):∀(l:List β) (k j:Nat) (x:β) (v:Value),l[k]? = some x→(cells x)[j]? = some v→(l.flatMap cells)[k*size+j]? = some v
 | [],k,j,x,v,h,_=>by simp at h
 | y::l,0,j,x,v,h,hv=>by
  simp only[List.getElem?_cons_zero,Option.some.injEq]at h;subst h;have hj:=(List.getElem?_eq_some_iff.1 hv).1;rw[List.flatMap_cons,Nat.zero_mul,Nat.zero_add,List.getElem?_append_left hj];exact hv
 | y::l,k+1,j,x,v,h,hv=>by
  have ih:=rB hc l k j x v (by simpa using h) hv;rw[List.flatMap_cons,List.getElem?_append_right (by rw[hc,Nat.succ_mul];omega),hc,show(k+1)*size+j - size=k*size+j by rw[Nat.succ_mul];omega];exact ih
theorem kw.up (h:kw size cells rows w A n c l) (hb:Below w.heap.size w w'):kw size cells rows w' A n c l:=
 ⟨h.len,h.cap,h.capm,fun h0=>by obtain⟨b,o,e,hlt⟩:=h.spot h0;exact⟨b,o,e,Nat.lt_of_lt_of_le hlt hb.size⟩,(h.rds.keep fun p hp=>hb.cell hp).more hb.size,fun p hp=>(h.rows p hp).below hb⟩
theorem kw.at_ (h:kw size cells rows w A n c l) (hc:∀x,(cells x).length=size) {k:Nat} (hk:k<n):∃b o x,A=some ⟨b,o,none⟩∧b<w.heap.size∧l[k]? = some x∧(∀j v,(cells x)[j]? = some v→w.cell? ⟨b,o+k*size+j,none⟩=some v)∧∀p∈rows x,aE w p.1 p.2:=by
 obtain⟨b,o,rfl,hb⟩:=h.spot ab;obtain⟨ad,e,_,hcell⟩:=h.rds.2 ab;injection e with e
 subst e;obtain⟨x,hx⟩:∃x,l[k]? = some x:=⟨_,List.getElem?_eq_getElem (by have:=h.len;omega)⟩
 refine⟨b,o,x,rfl,hb,hx,fun j v hv=>?_,fun p hp=>h.rows p (List.mem_flatMap.2 ⟨x,List.mem_of_getElem? hx,hp⟩)⟩;have:=hcell (k*size+j) v (rB hc l k j x v hx hv)
 rwa [Addr.add_lit,←Nat.add_assoc]at this
theorem bA.rd (h:bA e size cells rows w lo w.heap.size v l):∃A c,v=.slice A l.length c∧kw size cells rows w A l.length c l:=by
 obtain⟨A,c,rfl,h1,h2,h3,h4⟩:=aI.shape h.1;refine⟨A,c,rfl,rfl,h1,h2,fun hn=>?_,h4,h.2⟩;obtain⟨g,cap,e,hg,_⟩:=h.1.1.form hn;injection e with e1 e2 e3
 subst e1;obtain⟨ad,e,hlt,_⟩:=h4.2 hn;injection e with e
 subst e;exact⟨g,0,rfl,hlt⟩
theorem bA.nil_:bA e size cells rows w lo hi (.slice none 0 0) []:=⟨aI.nil_,fun p hp=>by simp at hp⟩
theorem bA.mono (h:bA e size cells rows w lo hi v l) (h1:lo'≤lo) (h2:hi≤hi'):bA e size cells rows w lo' hi' v l:=⟨aI.mono h.1 h1 h2,h.2⟩
theorem bA.up (h:bA e size cells rows w lo w.heap.size v l) (hb:Below w.heap.size w w'):bA e size cells rows w' lo w'.heap.size v l:=
 ⟨aI.mono (aI.below h.1 hb nl_) nl_ hb.size,fun p hp=>(h.2 p hp).below hb⟩
theorem bA.snoc {x:β} {v':Value} (h:bA e size cells rows w lo hi v l) (hx:∀p∈rows x,aE w p.1 p.2)
 (hown:aI e size w' lo w'.heap.size v' (l.length+1) (l.flatMap cells++cells x)) (hg:w.grownBy w' v.ownBlock) (he:5≠e):bA e size cells rows w' lo w'.heap.size v' (l++[x]):=by
 have qc:∀(u:Value) (xs:List UInt8),aE w u xs→aE w' u xs:=fun u xs hu=>by
  refine hu.keep hg.size fun q cs fr hq=>hg.block q (Array.getElem?_eq_some_iff.1 hq).1 fun e2=>?_
  rcases h.1.1.2 with⟨rfl,_⟩|⟨g2,cap2,cur2,rfl,hb2,hg2,_⟩
  ·simp[Value.ownBlock]at e2
  ·simp only[Value.ownBlock,Option.some.injEq]at e2
   subst e2;rw[hg2]at hq;injection hq with hq
   injection hq with _ ht
   exact he ht.symm
 refine⟨by simpa using hown,fun p hp=>?_⟩;rw[List.flatMap_append,List.mem_append]at hp;rcases hp with hp|hp
 ·exact qc _ _ (h.2 p hp)
 ·simp only[List.flatMap_cons,List.flatMap_nil,List.append_nil]at hp
  exact qc _ _ (hx p hp)
end
theorem lQ {w:World} {b p:Nat} {l:List Value} (T:TypeId) (d:TypeDesc) (hu:Tryz.prog.underlying T=some d) (hd:d.isRow=true) (hi:(Tryz.prog.info? T).map (·.size)=some l.length) (h:∀j v,l[j]? = some v→w.cell? ⟨b,p+j,none⟩=some v) :
 (loadVar T ⟨b,p,none⟩).run Tryz.prog w=.ok (.agg l.toArray) w:=
 run_loadVar_mid (P:=Tryz.prog) w b p T l d h hu hd hi
theorem fP (x:SI):(SI.cells x).length=6:=rfl
theorem go (x:KI):(KI.cells x).length=24:=by unfold KI.cells CV.cells;simp
theorem lR {w:World} {b p:Nat} (x:KI) (h:∀j v,(KI.cells x)[j]? = some v→w.cell? ⟨b,p+j,none⟩=some v):(loadVar 72 ⟨b,p,none⟩).run Tryz.prog w=.ok x.c.val w:=by
 have:=lQ (l:=KI.cells x) 72 _ Tryz.underlying72 rfl (by rw[jJ,go]) h
 simpa [KI.cells,CV.val]using this
theorem zF {w:World} {x y:KI} (hx:∀p∈KI.rows x,aE w p.1 p.2) (hy:∀p∈KI.rows y,aE w p.1 p.2) (ox:x.ok) (oy:y.ok) (h:x.d=y.d) :
 Calls Tryz.prog 35 #[x.c.val,y.c.val] w fun e w'=>e=.returned (.bool true)∧Below w.heap.size w w':=by
 unfold KI.ok at ox oy;obtain⟨d1,s,d2⟩:=y;obtain⟨cx,dx⟩:=x;simp only at h ox oy;subst h;have e1:=congrArg CV.from_ ox;have e2:=congrArg CV.from_ oy;have e3:=congrArg CV.to ox;have e4:=congrArg CV.to oy;have e5:=congrArg CV.e ox;have e6:=congrArg CV.e oy;have e7:=congrArg CV.fl ox;have e8:=congrArg CV.fl oy;refine yD cx d1 [s,d2.1.tbs,d2.1.iss,d2.1.sub,d2.1.ser,d2.1.n,d2.2] w rfl ?_ ?_ (e1.trans e2.symm) (e3.trans e4.symm) (e5.trans e6.symm) (e7.trans e8.symm)
 ·intro k xs hk
  match k,hk with
  | 0,hk=>simp at hk;subst hk;exact⟨_,rfl,(hx (cx.raw,s) (by simp[KI.rows])).rdv⟩
  | 1,hk=>simp at hk;subst hk;exact⟨_,rfl,(hx (cx.tbs,d2.1.tbs) (by simp[KI.rows])).rdv⟩
  | 2,hk=>simp at hk;subst hk;exact⟨_,rfl,(hx (cx.iss,d2.1.iss) (by simp[KI.rows])).rdv⟩
  | 3,hk=>simp at hk;subst hk;exact⟨_,rfl,(hx (cx.sub,d2.1.sub) (by simp[KI.rows])).rdv⟩
  | 4,hk=>simp at hk;subst hk;exact⟨_,rfl,(hx (cx.ser,d2.1.ser) (by simp[KI.rows])).rdv⟩
  | 5,hk=>simp at hk;subst hk;exact⟨_,rfl,(hx (cx.n,d2.1.n) (by simp[KI.rows])).rdv⟩
  | 6,hk=>simp at hk;subst hk;exact⟨_,rfl,(hx (cx.sig,d2.2) (by simp[KI.rows])).rdv⟩
  | k+7,hk=>simp at hk
 ·intro k xs hk
  match k,hk with
  | 0,hk=>simp at hk;subst hk;exact⟨_,rfl,(hy (d1.raw,s) (by simp[KI.rows])).rdv⟩
  | 1,hk=>simp at hk;subst hk;exact⟨_,rfl,(hy (d1.tbs,d2.1.tbs) (by simp[KI.rows])).rdv⟩
  | 2,hk=>simp at hk;subst hk;exact⟨_,rfl,(hy (d1.iss,d2.1.iss) (by simp[KI.rows])).rdv⟩
  | 3,hk=>simp at hk;subst hk;exact⟨_,rfl,(hy (d1.sub,d2.1.sub) (by simp[KI.rows])).rdv⟩
  | 4,hk=>simp at hk;subst hk;exact⟨_,rfl,(hy (d1.ser,d2.1.ser) (by simp[KI.rows])).rdv⟩
  | 5,hk=>simp at hk;subst hk;exact⟨_,rfl,(hy (d1.n,d2.1.n) (by simp[KI.rows])).rdv⟩
  | 6,hk=>simp at hk;subst hk;exact⟨_,rfl,(hy (d1.sig,d2.2) (by simp[KI.rows])).rdv⟩
  | k+7,hk=>simp at hk
def AQ (w:World) (A:Option Addr) (n c:Nat) (l:List KI):Prop:=kw 24 KI.cells KI.rows w A n c l
def AP (w:World) (A:Option Addr) (n c:Nat) (l:List SI):Prop:=kw 6 SI.cells SI.rows w A n c l
def BZ (va vb x y:Value) (i:Nat) (b o b' o':Nat) (k:Nat) (v:Value) (_:World):Prop:=
 match k with
 | 0=>v=va
 | 1=>v=.int .i64 (i:Int)
 | 2=>v=.pointer (some ⟨b,o+i*24,none⟩)
 | 3=>v=x
 | 4=>v=vb
 | 5=>v=.int .i64 (i:Int)
 | 6=>v=.pointer (some ⟨b',o'+i*24,none⟩)
 | 7=>v=y
 | 8=>v=.bool true
 | _=>v=.bool false
set_option maxHeartbeats 4000000 in
theorem qN (A A':Option Addr) (n c c':Nat) (l l':List KI) (w:World) (h:AQ w A n c l) (h':AQ w A' n c' l') (ho:∀y∈l,y.ok) (ho':∀y∈l',y.ok) (he:l.map KI.d=l'.map KI.d) (hn:n≤1000) :
 Calls Tryz.prog 54 #[.slice A n c,.slice A' n c'] w fun e w'=>e=.returned (.bool true)∧Below w.heap.size w w':=by
 have H:=hd5 h h' ho ho' he;clear h h' ho ho' he
 go_enter Tryz.func54,Tryz.ntmps54
 go_wp2_with fail
 go_loopw [5] (fun iv wr=>∃i:Nat,i≤n∧iv=.int .i64 (i:Int)∧Below w.heap.size w wr) (fun iv _=>n - (intOf iv).toNat)
 case atStart=>exact⟨0,Nat.zero_le _,rfl,Below.refl _ _⟩
 case round=>
  obtain⟨i,hi,rfl,hb⟩:=hrel
  by_cases hlt:i<n
  ·have qc:(i:Int)<(n:Int):=ab
   obtain⟨b,o,x,rfl,hbl,hx,hcx,hrx⟩:=(H.1.up hb).at_ go hlt;obtain⟨b',o',y,rfl,hbl',hy,hcy,hry⟩:=(H.2.1.up hb).at_ go hlt;have qg:x.d=y.d:=by
    have h1:(l.map KI.d)[i]? = some x.d:=by rw[List.getElem?_map,hx];rfl
    have h2:(l'.map KI.d)[i]? = some y.d:=by rw[List.getElem?_map,hy];rfl
    rw[H.2.2.2.2,h2]at h1;injection h1 with h1
    exact h1.symm
   have kx:∀V,Below wr.heap.size wr V→(loadVar 72 ⟨b,o+i*24,none⟩).run Tryz.prog V=.ok x.c.val V:=fun V hV=>lR x fun j v hv=>(hV.cell (p:=⟨b,o+i*24+j,none⟩) hbl).trans (hcx j v hv)
   have ky:∀V,Below wr.heap.size wr V→(loadVar 72 ⟨b',o'+i*24,none⟩).run Tryz.prog V=.ok y.c.val V:=fun V hV=>lR y fun j v hv=>(hV.cell (p:=⟨b',o'+i*24+j,none⟩) hbl').trans (hcy j v hv)
   have hS:∀V,Below wr.heap.size wr V→Calls Tryz.prog 35 #[x.c.val,y.c.val] V fun e w'=>e=.returned (.bool true)∧Below V.heap.size V w':=fun V hV=>zF (fun p hp=>(hrx p hp).below hV) (fun p hp=>(hry p hp).below hV) (H.2.2.1 x (List.mem_of_getElem? hx)) (H.2.2.2.1 y (List.mem_of_getElem? hy)) qg
   have HK:=hd4 kx ky hS hb;have qh:=hb.size;clear kx ky hS hb hcx hcy hrx hry hx hy qg hbl hbl'
   go_upto_region 6 with fail
   refine bK (BZ (.slice (some ⟨b,o,none⟩) n c) (.slice (some ⟨b',o',none⟩) n c') x.c.val y.c.val i b o b' o') (fun V=>Below wr.heap.size wr V) (KU wr.heap.size) rfl (KU.refl _) (fun _ _ _ _ _ h=>h) (fun _ _ h h'=>h.trans h'.1) (by show bp _ 27=true;decide +kernel) ac br_.drew ⟨?_,?_,?_,?_,?_,?_,?_,?_,?_,?_,trivial⟩ ?_
   ·refine aA.run rfl ?_;intro a' V hfr hG hdep;exact di rfl ag (hfr 0 ac)
   ·refine aA.run rfl ?_;intro a' V hfr hG hdep;exact di rfl ag (hfr 5 ac)
   ·refine aA.run rfl ?_;intro a' V hfr hG hdep
    have d1:a'.eval (.tmp 17)=.slice (some ⟨b,o,none⟩) n c:=hdep 0 ac;have d2:a'.eval (.tmp 18)=.int .i64 (i:Int):=hdep 1 ac;exact cH (v:=.pointer (some ⟨b,o+i*24,none⟩)) (by simp only[execOp,d1,d2];simp[go_sem,Act.eval,hlt,qc]) ag rfl
   ·refine aA.run rfl ?_;intro a' V hfr hG hdep
    have d:a'.eval (.tmp 19)=.pointer (some ⟨b,o+i*24,none⟩):=hdep 2 ac;exact dt rfl ag d (HK.1 V hG) rfl
   ·refine aA.run rfl ?_;intro a' V hfr hG hdep;exact di rfl ag (hfr 1 ac)
   ·refine aA.run rfl ?_;intro a' V hfr hG hdep;exact di rfl ag (hfr 5 ac)
   ·refine aA.run rfl ?_;intro a' V hfr hG hdep
    have d1:a'.eval (.tmp 21)=.slice (some ⟨b',o',none⟩) n c':=hdep 4 ac;have d2:a'.eval (.tmp 22)=.int .i64 (i:Int):=hdep 5 ac;exact cH (v:=.pointer (some ⟨b',o'+i*24,none⟩)) (by simp only[execOp,d1,d2];simp[go_sem,Act.eval,hlt,qc]) ag rfl
   ·refine aA.run rfl ?_;intro a' V hfr hG hdep
    have d:a'.eval (.tmp 23)=.pointer (some ⟨b',o'+i*24,none⟩):=hdep 6 ac;exact dt rfl ag d (HK.2.1 V hG) rfl
   ·refine aA.run rfl ?_;intro a' V hfr hG hdep
    have d1:a'.eval (.tmp 20)=x.c.val:=hdep 3 ac;have d2:a'.eval (.tmp 24)=y.c.val:=hdep 7 ac;refine bV ag rfl Tryz.func35 rfl aj (args:=#[x.c.val,y.c.val]) (by simp only[List.map_toArray,List.map_cons,List.map_nil,d1,d2]) (HK.2.2.1 V hG) ?_;rintro e w' ⟨rfl,hb'⟩;exact⟨_,rfl,rfl,KU.below hb' hG.size⟩
   ·refine aA.run rfl ?_;intro a' V hfr hG hdep
    have d1:a'.eval (.tmp 25)=.bool true:=hdep 8 ac;exact cH (v:=.bool false) (by simp only[execOp,d1];simp[go_sem,Act.eval]) ag rfl
   intro a' V hd hsz hfr hG hJ;obtain⟨vs,hvs,ha⟩:=eD (by show bp _ 27=true;decide +kernel) hd hsz hfr;have v9:vs 9=.bool false:=(hvs 9).symm.trans (hJ 9 aj);have qd:List.range 10=[0,1,2,3,4,5,6,7,8,9]:=rfl;simp only[dT,List.map_cons,List.map_nil,List.size_toArray,List.length_cons,List.length_nil,Nat.reduceAdd,qd,List.zip_cons_cons,List.zip_nil_left,List.foldl_cons,List.foldl_nil,Act.put,List.setIfInBounds_toArray,List.set_cons_zero,List.set_cons_succ,List.getD_cons_zero,List.getD_cons_succ,v9]at ha;subst ha;have HG:=hd1 (HK.2.2.2.trans (hG.mono qh));clear qd hd hsz hfr hG hJ hvs v9;apply_assumption
   go_wp2_with fail
   go_roundw
   case rel=>exact⟨i+1,ab,by go_num,HG.out⟩
   case measure=>first|(simp[intOf];done)|(simp[intOf];omega)
  ·obtain rfl:i=n:=ab
   have qc:¬((i:Int)<(i:Int)):=ab
   have HB:=hd1 hb;clear hb
   go_wp2_with fail
   go_ret
   exact⟨rfl,HB.out⟩
structure ku (w:World) (x:DI):Prop where
 rows:∀p∈x.rows,aE w p.1 p.2
 cs:∃A c,x.vcs=.slice A x.cs.length c∧AQ w A x.cs.length c x.cs
 ss:∃A c,x.vss=.slice A x.ss.length c∧AP w A x.ss.length c x.ss
 ok:∀y∈x.cs,y.ok
theorem ku.up {w w':World} {x:DI} (h:ku w x) (hb:Below w.heap.size w w'):ku w' x:=
 ⟨fun p hp=>(h.rows p hp).below hb,by obtain⟨A,c,e,hr⟩:=h.cs;exact⟨A,c,e,hr.up hb⟩,by obtain⟨A,c,e,hr⟩:=h.ss;exact⟨A,c,e,hr.up hb⟩,h.ok⟩
theorem gL.rd {w:World} {lo:Nat} {x:DI} (h:gL w lo w.heap.size x):ku w x:=by
 have hr:∀p∈x.rows,aE w p.1 p.2:=fun p hp=>aE.own (h.rows p hp)
 have h1:bA 72 24 KI.cells KI.rows w lo w.heap.size x.vcs x.cs:=⟨h.cs,fun p hp=>hr p (by unfold DI.rows;simp only[List.mem_append];exact .inr (.inr (.inl hp)))⟩
 have h2:bA 54 6 SI.cells SI.rows w lo w.heap.size x.vss x.ss:=⟨h.ss,fun p hp=>hr p (by unfold DI.rows;simp only[List.mem_append];exact .inr (.inr (.inr hp)))⟩
 exact⟨hr,h1.rd,h2.rd,h.ok⟩
theorem iQ {w:World} {x:SI} (h:∀p∈SI.rows x,aE w p.1 p.2):∃A0 n0 c0 A1 n1 c1 A2 n2 c2 A3 n3 c3 A4 n4 c4 A5 n5 c5,x.v=⟨.slice A0 n0 c0,.slice A1 n1 c1,.slice A2 n2 c2,.slice A3 n3 c3,.slice A4 n4 c4,.slice A5 n5 c5⟩:=by
 obtain⟨⟨v0,v1,v2,v3,v4,v5⟩,s⟩:=x;have g:∀v xs,(v,xs)∈SI.rows ⟨⟨v0,v1,v2,v3,v4,v5⟩,s⟩→∃A n c,v=.slice A n c:=fun v xs hm=>by
  obtain⟨A,n,c,e,_⟩:=h _ hm;exact⟨A,n,c,e⟩
 obtain⟨A0,n0,c0,rfl⟩:=g v0 s.iss (by simp[SI.rows,SV.rows]);obtain⟨A1,n1,c1,rfl⟩:=g v1 s.ser (by simp[SI.rows,SV.rows]);obtain⟨A2,n2,c2,rfl⟩:=g v2 s.att (by simp[SI.rows,SV.rows]);obtain⟨A3,n3,c3,rfl⟩:=g v3 s.kind (by simp[SI.rows,SV.rows]);obtain⟨A4,n4,c4,rfl⟩:=g v4 s.dig (by simp[SI.rows,SV.rows]);obtain⟨A5,n5,c5,rfl⟩:=g v5 s.sig (by simp[SI.rows,SV.rows]);exact⟨A0,n0,c0,A1,n1,c1,A2,n2,c2,A3,n3,c3,A4,n4,c4,A5,n5,c5,rfl⟩
theorem yY {w:World} {x:SI} (h:∀p∈SI.rows x,aE w p.1 p.2) {k:Nat} (hk:k<6):∃A n c xs,x.v.cells[k]? = some (.slice A n c)∧[x.s.iss,x.s.ser,x.s.att,x.s.kind,x.s.dig,x.s.sig][k]? = some xs∧Rd w w.heap.size A n c xs:=by
 obtain⟨⟨v0,v1,v2,v3,v4,v5⟩,s⟩:=x;have g:∀v xs,(v,xs)∈SI.rows ⟨⟨v0,v1,v2,v3,v4,v5⟩,s⟩→∃A n c,v=.slice A n c∧Rd w w.heap.size A n c xs:=fun v xs hm=>by
  obtain⟨A,n,c,e,hr,_⟩:=h _ hm;exact⟨A,n,c,e,hr⟩
 match k,hk with
 | 0,_=>obtain⟨A,n,c,rfl,hr⟩:=g v0 s.iss (by simp[SI.rows,SV.rows]);exact⟨A,n,c,_,rfl,rfl,hr⟩
 | 1,_=>obtain⟨A,n,c,rfl,hr⟩:=g v1 s.ser (by simp[SI.rows,SV.rows]);exact⟨A,n,c,_,rfl,rfl,hr⟩
 | 2,_=>obtain⟨A,n,c,rfl,hr⟩:=g v2 s.att (by simp[SI.rows,SV.rows]);exact⟨A,n,c,_,rfl,rfl,hr⟩
 | 3,_=>obtain⟨A,n,c,rfl,hr⟩:=g v3 s.kind (by simp[SI.rows,SV.rows]);exact⟨A,n,c,_,rfl,rfl,hr⟩
 | 4,_=>obtain⟨A,n,c,rfl,hr⟩:=g v4 s.dig (by simp[SI.rows,SV.rows]);exact⟨A,n,c,_,rfl,rfl,hr⟩
 | 5,_=>obtain⟨A,n,c,rfl,hr⟩:=g v5 s.sig (by simp[SI.rows,SV.rows]);exact⟨A,n,c,_,rfl,rfl,hr⟩
theorem bT {w:World} {A:Option Addr} {n c:Nat} {xs:List UInt8} (h:aE w (.slice A n c) xs):Rd w w.heap.size A n c xs:=by
 obtain⟨_,_,_,e1,e2,_⟩:=h;injection e1 with a1 a2 a3
 subst a1 a2 a3;exact e2
set_option maxHeartbeats 8000000 in
theorem wD (x y:DI) (w:World) (hx:ku w x) (hy:ku w y) (he:x.sd=y.sd) (hc:x.cs.length≤1000) (hs:x.ss.length≤1000) :
 Calls Tryz.prog 18 #[x.val,y.val] w fun e w'=>e=.returned (.bool true)∧Below w.heap.size w w':=by
 obtain⟨vk,k,vc,co,vcs,cs,vss,ss⟩:=x;obtain⟨vk',k',vc',co',vcs',cs',vss',ss'⟩:=y;simp only[DI.sd,Sd.mk.injEq]at he;obtain⟨rfl,rfl,hcs,hss⟩:=he;obtain⟨hr,⟨Ac,cc,e1,hK⟩,⟨As,cS,e2,hS⟩,hok⟩:=hx;obtain⟨hr',⟨Ac',cc',e3,hK'⟩,⟨As',cS',e4,hS'⟩,hok'⟩:=hy;dsimp only at e1 e2 e3 e4 hK hS hK' hS' hok hok' hc hs;subst e1 e2 e3 e4;have q7:cs'.length=cs.length:=by have:=congrArg List.length hcs;simpa using this.symm
 have q9:ss'.length=ss.length:=by have:=congrArg List.length hss;simpa using this.symm
 obtain⟨A0,n0,c0,rfl,_⟩:=id (hr (vk,k) (by simp[DI.rows]));obtain⟨A1,n1,c1,rfl,_⟩:=id (hr (vc,co) (by simp[DI.rows]));obtain⟨A2,n2,c2,rfl,_⟩:=id (hr' (vk',k) (by simp[DI.rows]));obtain⟨A3,n3,c3,rfl,_⟩:=id (hr' (vc',co) (by simp[DI.rows]));have r0:=hr (.slice A0 n0 c0,k) (by simp[DI.rows]);have r1:=hr (.slice A1 n1 c1,co) (by simp[DI.rows]);have r2:=hr' (.slice A2 n2 c2,k) (by simp[DI.rows]);have r3:=hr' (.slice A3 n3 c3,co) (by simp[DI.rows]);unfold DI.val;dsimp only;rw[q7]at hK' ⊢;rw[q9]at hS' ⊢;obtain⟨nc,hnc⟩:∃n,cs.length=n:=⟨_,rfl⟩
 obtain⟨ns,hns⟩:∃n,ss.length=n:=⟨_,rfl⟩
 rw[hnc]at hK hK' hc ⊢;rw[hns]at hS hS' hs ⊢;obtain⟨w1,hw1⟩:∃W,W=(w.alloc (.cells #[.slice A0 n0 c0,.slice A1 n1 c1,.slice Ac nc cc,.slice As ns cS] 28)).alloc (.cells #[.slice A2 n2 c2,.slice A3 n3 c3,.slice Ac' nc cc',.slice As' ns cS'] 28):=⟨_,rfl⟩
 have qc:Below w.heap.size w w1:=by rw[hw1];exact(aB w _).alloc ag _
 have hX:aw w1 w.heap.size 28 #[.slice A0 n0 c0,.slice A1 n1 c1,.slice Ac nc cc,.slice As ns cS]:=by rw[hw1];exact(aw.new w _ _).alloc _
 have hY:aw w1 (w.heap.size+1) 28 #[.slice A2 n2 c2,.slice A3 n3 c3,.slice Ac' nc cc',.slice As' ns cS']:=by
  have:=aw.new (w.alloc (.cells #[.slice A0 n0 c0,.slice A1 n1 c1,.slice Ac nc cc,.slice As ns cS] 28)) 28 #[.slice A2 n2 c2,.slice A3 n3 c3,.slice Ac' nc cc',.slice As' ns cS'];rw[hw1];simpa using this
 have y2:w1.heap.size=w.heap.size+2:=by rw[hw1];simp
 have H1:=hd12 hX hY qc (And.intro (bT (r0.below qc)) (And.intro (bT (r1.below qc)) (And.intro (bT (r2.below qc)) (bT (r3.below qc))))) (hK.up qc) (hK'.up qc) (hS.up qc) (hS'.up qc) hcs hss hok hok';obtain⟨x0,x1⟩:=hX.facts;obtain⟨y0,y1⟩:=hY.facts;clear hX hY qc r0 r1 r2 r3 hK hK' hS hS' hr hr' hcs hss hok hok' q7 q9
 go_enter Tryz.func18,Tryz.ntmps18
 go_upto_region 1 with fail
 rw[←hw1];clear hw1
 go_wp2_with (first
  | (go_at_call 23;fail)
  | fail)
 refine(fH _ _ _ _ _ _ k _ _ w1 H1.2.2.2.1.1 H1.2.2.2.1.2.2.1).mono ?_;rintro e w2 ⟨rfl,rfl⟩
 go_wp2_with fail
 refine(fH _ _ _ _ _ _ co _ _ w2 H1.2.2.2.1.2.1 H1.2.2.2.1.2.2.2).mono ?_;rintro e w3 ⟨rfl,rfl⟩
 go_wp2_with fail
 refine(qN Ac Ac' nc cc cc' cs cs' w3 H1.2.2.2.2.1 H1.2.2.2.2.2.1 H1.2.2.2.2.2.2.2.2.2.2.1 H1.2.2.2.2.2.2.2.2.2.2.2 H1.2.2.2.2.2.2.2.2.1 hc).mono ?_;rintro e w4 ⟨rfl,hb4⟩;have j5:=hb4.size;obtain⟨x0',x1'⟩:=(H1.1.below hb4 ab).facts;obtain⟨y0',y1'⟩:=(H1.2.1.below hb4 ab).facts;have H4:=hd5 hb4 (H1.2.2.2.2.2.2.1.up hb4) (H1.2.2.2.2.2.2.2.1.up hb4) (H1.1.below hb4 ab) (H1.2.1.below hb4 ab);clear hb4 x0 x1 y0 y1
 go_wp2_with fail
 go_loopw [5] (fun iv wr=>∃i:Nat,i≤ns∧iv=.int .i64 (i:Int)∧Below w4.heap.size w4 wr) (fun iv _=>ns - (intOf iv).toNat)
 case atStart=>exact⟨0,Nat.zero_le _,rfl,Below.refl _ _⟩
 case round=>
  obtain⟨i,hi,rfl,hb⟩:=hrel;have j3:=hb.size;obtain⟨x0,x1⟩:=(H4.2.2.2.1.below hb ab).facts;obtain⟨y0,y1⟩:=(H4.2.2.2.2.below hb ab).facts
  by_cases hlt:i<ns
  ·have q1:(i:Int)<(ns:Int):=ab
   obtain⟨b,o,x,rfl,hbl,hx,hcx,qd⟩:=(H4.2.1.up hb).at_ fP hlt;obtain⟨b',o',y,rfl,hbl',hy,hcy,qg⟩:=(H4.2.2.1.up hb).at_ fP hlt;have j1:x.s=y.s:=by
    have h1:(ss.map SI.s)[i]? = some x.s:=by rw[List.getElem?_map,hx];rfl
    have h2:(ss'.map SI.s)[i]? = some y.s:=by rw[List.getElem?_map,hy];rfl
    rw[H1.2.2.2.2.2.2.2.2.2.1,h2]at h1;injection h1 with h1
    exact h1.symm
   obtain⟨a0,m0,d0,a1,m1,d1,a2,m2,d2,a3,m3,d3,a4,m4,d4,a5,m5,d5,hvx⟩:=iQ qd;obtain⟨a0',m0',d0',a1',m1',d1',a2',m2',d2',a3',m3',d3',a4',m4',d4',a5',m5',d5',hvy⟩:=iQ qg;have cx:∀j v,(SI.cells x)[j]? = some v→wr.cell? ⟨b,o+i*6+j,none⟩=some v:=hcx;have cy:∀j v,(SI.cells y)[j]? = some v→wr.cell? ⟨b',o'+i*6+j,none⟩=some v:=hcy;unfold SI.cells SV.cells at cx cy;rw[hvx]at cx;rw[hvy]at cy;have j2:=cx 0 _ rfl;have j8:=cx 1 _ rfl;have yd:=cx 2 _ rfl;have yh:=cx 3 _ rfl;have yv:=cx 4 _ rfl;have yy:=cx 5 _ rfl;have qs:=cy 0 _ rfl;have q2:=cy 1 _ rfl;have q3:=cy 2 _ rfl;have q4:=cy 3 _ rfl;have q5:=cy 4 _ rfl;have q6:=cy 5 _ rfl;rw[Nat.add_zero]at j2 qs;have HX:=hd6 qd qg j1 hvx hvy hb;have j7:w.heap.size+2≤wr.heap.size:=ab
   have hY:=H4.2.2.2.2.below hb ab;clear hcx hcy cx cy qd qg j1 hvx hvy hx hy hb
   go_upto_region 7 with fail
   obtain⟨w5,hw5⟩:∃W,W=wr.alloc (.cells #[.slice a0 m0 d0,.slice a1 m1 d1,.slice a2 m2 d2,.slice a3 m3 d3,.slice a4 m4 d4,.slice a5 m5 d5] 54):=⟨_,rfl⟩
   rw[←hw5];have bx:aw w5 wr.heap.size 54 #[.slice a0 m0 d0,.slice a1 m1 d1,.slice a2 m2 d2,.slice a3 m3 d3,.slice a4 m4 d4,.slice a5 m5 d5]:=by rw[hw5];exact aw.new _ _ _
   have b5:Below wr.heap.size wr w5:=by rw[hw5];exact aB _ _
   have qk:w5.heap.size=wr.heap.size+1:=by rw[hw5];simp
   obtain⟨y0,y1⟩:=(hY.below b5 ab).facts;have qs:=(b5.cell (p:=⟨b',o'+i*6,none⟩) hbl').trans qs;have q2:=(b5.cell (p:=⟨b',o'+i*6+1,none⟩) hbl').trans q2;have q3:=(b5.cell (p:=⟨b',o'+i*6+2,none⟩) hbl').trans q3;have q4:=(b5.cell (p:=⟨b',o'+i*6+3,none⟩) hbl').trans q4;have q5:=(b5.cell (p:=⟨b',o'+i*6+4,none⟩) hbl').trans q5;have q6:=(b5.cell (p:=⟨b',o'+i*6+5,none⟩) hbl').trans q6;have H5:=hd3 bx b5 qk;clear hw5 b5 bx hY x0 x1 j2 j8 yd yh yv yy
   go_upto_region 8 with fail
   obtain⟨w6,hw6⟩:∃W,W=w5.alloc (.cells #[.slice a0' m0' d0',.slice a1' m1' d1',.slice a2' m2' d2',.slice a3' m3' d3',.slice a4' m4' d4',.slice a5' m5' d5'] 54):=⟨_,rfl⟩
   rw[←hw6];have q0:aw w6 w5.heap.size 54 #[.slice a0' m0' d0',.slice a1' m1' d1',.slice a2' m2' d2',.slice a3' m3' d3',.slice a4' m4' d4',.slice a5' m5' d5']:=by rw[hw6];exact aw.new _ _ _
   have b6:Below w5.heap.size w5 w6:=by rw[hw6];exact aB _ _
   have j0:w6.heap.size=w5.heap.size+1:=by rw[hw6];simp
   have qv:=H5.1.below b6 H5.1.lt;obtain⟨x0,x1⟩:=qv.facts;obtain⟨z0,z1⟩:=q0.facts;have H6:=hd3 qv q0 b6;clear hw6 b6 q0 qv y0 y1 qs q2 q3 q4 q5 q6
   go_upto_region 9 with fail
   obtain⟨w7,hw7⟩:∃W,W=w6.alloc (.cells #[.slice a0 m0 d0,.slice a1 m1 d1,.slice a2 m2 d2,.slice a3 m3 d3,.slice a4 m4 d4,.slice a5 m5 d5] 22):=⟨_,rfl⟩
   rw[←hw7];have rx:aw w7 w6.heap.size 22 #[.slice a0 m0 d0,.slice a1 m1 d1,.slice a2 m2 d2,.slice a3 m3 d3,.slice a4 m4 d4,.slice a5 m5 d5]:=by rw[hw7];exact aw.new _ _ _
   have b7:Below w6.heap.size w6 w7:=by rw[hw7];exact aB _ _
   have j6:w7.heap.size=w6.heap.size+1:=by rw[hw7];simp
   obtain⟨z0,z1⟩:=(H6.2.1.below b7 H6.2.1.lt).facts;rw[qk]at z0 z1;have H7:=hd2 rx b7;clear hw7 rx b7 x0 x1
   go_upto_region 10 with fail
   obtain⟨w8,hw8⟩:∃W,W=w7.alloc (.cells #[.slice a0' m0' d0',.slice a1' m1' d1',.slice a2' m2' d2',.slice a3' m3' d3',.slice a4' m4' d4',.slice a5' m5' d5'] 22):=⟨_,rfl⟩
   rw[←hw8];have ry:aw w8 w7.heap.size 22 #[.slice a0' m0' d0',.slice a1' m1' d1',.slice a2' m2' d2',.slice a3' m3' d3',.slice a4' m4' d4',.slice a5' m5' d5']:=by rw[hw8];exact aw.new _ _ _
   have b8:Below w7.heap.size w7 w8:=by rw[hw8];exact aB _ _
   have y3:w8.heap.size=w7.heap.size+1:=by rw[hw8];simp
   have qh:Below wr.heap.size wr w8:=H5.2.1.trans ((H6.2.2.mono ab).trans ((H7.2.mono ab).trans (b8.mono ab)));have H8:=hd5 (H7.1.below b8 H7.1.lt) ry qh (fun p hp=>(HX.1 p hp).below qh:∀p∈SI.rows x,aE w8 p.1 p.2) (fun p hp=>(HX.2.1 p hp).below qh:∀p∈SI.rows y,aE w8 p.1 p.2);clear hw8 ry b8 qh z0 z1;obtain⟨wo,hwo⟩:∃W,W=wr:=⟨_,rfl⟩
   subst hwo
   go_wp2_with fail
   go_loopw [10] (fun kv wr=>∃q:Nat,q≤6∧kv=.int .i64 (q:Int)∧Below w8.heap.size w8 wr) (fun kv _=>6 - (intOf kv).toNat)
   case atStart=>exact⟨0,ab,rfl,Below.refl _ _⟩
   case round=>
    obtain⟨q,hq,rfl,hb⟩:=hrel
    by_cases hq6:q<6
    ·have j4:(q:Int)<6:=ab
     have qd:∀p∈SI.rows x,aE wr p.1 p.2:=fun p hp=>(H8.2.2.2.1 p hp).below hb
     have qg:∀p∈SI.rows y,aE wr p.1 p.2:=fun p hp=>(H8.2.2.2.2 p hp).below hb
     obtain⟨P1,z1,f1,xs,e1,g1,r1⟩:=yY qd hq6;obtain⟨P2,z2,f2,ys,e2,g2,r2⟩:=yY qg hq6;rw[HX.2.2.1,g2]at g1;injection g1 with g1
     subst g1;rw[HX.2.2.2.1]at e1;rw[HX.2.2.2.2.1]at e2;have k0:wr.cell? ⟨w6.heap.size,q,none⟩=some (.slice P1 z1 f1):=(hb.cell (p:=⟨w6.heap.size,q,none⟩) (by show w6.heap.size<_;omega)).trans ((H8.1.cell q).trans e1);have k1:wr.cell? ⟨w7.heap.size,q,none⟩=some (.slice P2 z2 f2):=(hb.cell (p:=⟨w7.heap.size,q,none⟩) (by show w7.heap.size<_;omega)).trans ((H8.2.1.cell q).trans e2);rw[j0,qk]at k0;rw[j6,j0,qk]at k1;have HO:=hd3 hb r1 r2;clear hb qd qg e1 e2 g2 r1 r2
     go_upto_region 13 with fail
     go_quiet ((go_at_call 23;exact Calls.quiet_of_same (fH _ _ _ _ _ _ _ _ _ _ (HO.2.1.keep fun _ _=>rfl) (HO.2.2.keep fun _ _=>rfl))))
     go_wp2_with fail
     go_roundw
     case rel=>exact⟨q+1,ab,by go_num,ar HO.1 _⟩
     case measure=>first|(simp[intOf];done)|(simp[intOf];omega)
    ·obtain rfl:q=6:=ab
     have j4:¬(((6:Nat):Int)<6):=ab
     have HB:=hd1 hb;clear hb
     go_wp2_with fail
     go_roundw
     case rel=>exact⟨i+1,ab,by go_num,HX.2.2.2.2.2.trans ((H8.2.2.1.trans (HB.out.mono ab)).mono j3)⟩
     case measure=>first|(simp[intOf];done)|(simp[intOf];omega)
  ·obtain rfl:i=ns:=ab
   have q1:¬((i:Int)<(i:Int)):=ab
   have HB:=hd1 hb;clear hb
   go_wp2_with fail
   go_ret
   exact⟨rfl,H1.2.2.1.trans ((H4.1.trans (HB.out.mono j5)).mono ab)⟩
def Zc.whatB (k co:List UInt8):List (List UInt8):=[Der.write 6 k]++(if 0<co.length then[Der.write 160 co] else [])
def Zc.certsB (rs:List UInt8):List UInt8:=if 0<rs.length then Der.write 160 rs else rs
def Zc.outB (k co rs:List UInt8) (S:List (List UInt8)):List UInt8:=Ref.seq [Zc.oneB,Der.write 49 Zc.shaAlg,Ref.seq (Zc.whatB k co),Zc.certsB rs,Der.write 49 S.flatten]
def Zc.wrapB (wrap:Bool) (b:List UInt8):List UInt8:=if wrap then Ref.seq [Der.write 6 Zc.wrapped,Der.write 160 b] else b
def SI.one (x:SI):List UInt8:=Zc.one1 x.s.iss x.s.ser x.s.att x.s.sig
def AV (x:DI) (wrap:Bool) (w:World) (e:Ending) (w':World):Prop:=
 ∃S:List (List UInt8),S.Perm (x.ss.map SI.one)∧eo S∧aO (Zc.wrapB wrap (Zc.outB x.kind x.content (x.cs.flatMap fun y=>y.d.1) S)) w e w'
structure DI.small (x:DI):Prop where
 kind:x.kind.length≤1000
 content:x.content.length≤3000
 certs:x.cs.length≤20
 raw:∀y∈x.cs,y.d.1.length≤10000
 signers:x.ss.length≤20
 six:∀y∈x.ss,y.s.iss.length≤10000∧y.s.ser.length≤10000∧y.s.att.length≤10000∧y.s.sig.length≤10000
theorem yq {y:SI} (h:y.s.iss.length≤10000∧y.s.ser.length≤10000∧y.s.att.length≤10000∧y.s.sig.length≤10000):y.one.length≤60006:=by
 have h1:=nU (i:=y.s.iss) (se:=y.s.ser) (a:=y.s.att) (sg:=y.s.sig) h.1 h.2.1 h.2.2.1 h.2.2.2;have:=aC 48 ([Zc.oneB,Ref.seq [y.s.iss,Der.write 2 y.s.ser],Zc.shaAlg]++Zc.atB y.s.att++[Zc.rsaAlg,Der.write 4 y.s.sig]).flatten ab;unfold SI.one Zc.one1 Ref.seq;unfold Ref.seq at h1 this;omega
theorem jg {β:Type} {f:β→List UInt8} {N:Nat}:∀(l:List β),(∀y∈l,(f y).length≤N)→(l.flatMap f).length≤l.length*N
 | [],_=>by simp
 | y::l,h=>by
  have h1:=jg l fun z hz=>h z (List.mem_cons_of_mem _ hz)
  have h2:=h y List.mem_cons_self;rw[List.flatMap_cons,List.length_append,List.length_cons,Nat.succ_mul];omega
theorem AF {w:World} {v1:Value} {x1:List UInt8} (h:aE w v1 x1):XS (w.alloc (.cells #[v1] 22)) w.heap.size (.slice (some ⟨w.heap.size,0,none⟩) 1 1) [(v1,x1)]:=
 ⟨⟨⟨ag,.inr ⟨w.heap.size,_,_,rfl,Nat.le_refl _,heap_alloc_new w _,Nat.le_refl _,by simp only[maxLen];omega,ag,ag⟩⟩,fun k hk=>by simp[Value.ownBlock]at hk;simp;omega⟩,fun p hp=>by rw[List.mem_singleton.1 hp];exact h.alloc _⟩
theorem qQ (l:List (Value×List UInt8)) {N:Nat} (h:(aZ l).length≤N) (hN:N<4294967296):(Ref.seq (l.map (·.2))).length≤N+6:=by
 unfold aZ at h;have:=aC 48 (l.map (·.2)).flatten ab;unfold Ref.seq;omega
theorem Ca (v1 v2 v3 v4 v5:Value) (x1 x2 x3 x4 x5:List UInt8):(aZ [(v1,x1),(v2,x2),(v3,x3),(v4,x4),(v5,x5)]).length=x1.length+x2.length+x3.length+x4.length+x5.length:=by simp[aZ];omega
theorem Cb (w:World) (v1 v2 v3 v4 v5:Value) (x1 x2 x3 x4 x5:List UInt8) (h1:aJ w w.heap.size v1 x1) (h2:aJ w w.heap.size v2 x2) (h3:aJ w w.heap.size v3 x3) (h4:aJ w w.heap.size v4 x4) (h5:aJ w w.heap.size v5 x5) :
 dn (w.alloc (.cells #[v1,v2,v3,v4,v5] 22)) (w.alloc (.cells #[v1,v2,v3,v4,v5] 22)).heap.size (some ⟨w.heap.size,0,none⟩) 5 5 [(v1,x1),(v2,x2),(v3,x3),(v4,x4),(v5,x5)]:=
 dn.lit w _ [(v1,x1),(v2,x2),(v3,x3),(v4,x4),(v5,x5)] [v1,v2,v3,v4,v5] _ 5 rfl rfl rfl ab (fun v xs hm=>by
  simp only[List.mem_cons,List.not_mem_nil,or_false,Prod.mk.injEq]at hm;rcases hm with⟨rfl,rfl⟩|⟨rfl,rfl⟩|⟨rfl,rfl⟩|⟨rfl,rfl⟩|⟨rfl,rfl⟩<;>assumption)
set_option maxHeartbeats 8000000 in
theorem zW (x:DI) (wrap:Bool) (w:World) (hx:ku w x) (hs:x.small) :
 Calls Tryz.prog 60 #[x.val,.bool wrap] w (AV x wrap w):=by
 obtain⟨vk,kd,vc,co,vcs,cs,vss,ss⟩:=x;obtain⟨hr,⟨Ac,cc,e1,hK⟩,⟨As,cS,e2,hS⟩,hok⟩:=hx;obtain⟨s1,s2,s3,s4,s5,s6⟩:=hs;dsimp only at e1 e2 hK hS hok s1 s2 s3 s4 s5 s6;subst e1 e2;obtain⟨A0,n0,c0,rfl,_⟩:=id (hr (vk,kd) (by simp[DI.rows]));obtain⟨A1,n1,c1,rfl,_⟩:=id (hr (vc,co) (by simp[DI.rows]));have r0:=hr (.slice A0 n0 c0,kd) (by simp[DI.rows]);have r1:=hr (.slice A1 n1 c1,co) (by simp[DI.rows]);unfold DI.val;dsimp only;obtain⟨nc,hnc⟩:∃n,cs.length=n:=⟨_,rfl⟩
 obtain⟨ns,hns⟩:∃n,ss.length=n:=⟨_,rfl⟩
 rw[hnc]at hK s3 ⊢;rw[hns]at hS s5 ⊢;obtain⟨w1,hw1⟩:∃W,W=w.alloc (.cells #[.slice A0 n0 c0,.slice A1 n1 c1,.slice Ac nc cc,.slice As ns cS] 28):=⟨_,rfl⟩
 have j2:Below w.heap.size w w1:=by rw[hw1];exact aB w _
 have hX:aw w1 w.heap.size 28 #[.slice A0 n0 c0,.slice A1 n1 c1,.slice Ac nc cc,.slice As ns cS]:=by rw[hw1];exact aw.new w _ _
 have kt:w1.heap.size=w.heap.size+1:=by rw[hw1];simp
 have z0:=(bT r0).len;have z1:=(bT r1).len;rw[z0]at s1;rw[z1]at s2;have H1:=hd12 hX j2 (bT (r0.below j2)) (bT (r1.below j2)) (hK.up j2) (hS.up j2) s4 s6 z0 z1 hnc hns;obtain⟨x0,x1⟩:=hX.facts;clear hX j2 r0 r1 hK hS hr hok s4 s6 z0 z1 hnc hns
 go_enter Tryz.func60,Tryz.ntmps60
 go_upto_region 2 with fail
 rw[←hw1];clear hw1
 go_wp2_with fail
 refine(aL 6 6 rfl A0 n0 c0 kd w1 H1.2.2.1 ab).mono ?_;rintro e w2 ⟨A2,n2,c2,rfl,ho2,hb2⟩;have v0:=hb2.size;obtain⟨w3,hw3⟩:∃W,W=w2.alloc (.cells #[.slice A2 n2 c2] 22):=⟨_,rfl⟩
 have va:=AF (aE.own ho2);rw[←hw3]at va;have y3:Below w1.heap.size w1 w3:=by rw[hw3];exact hb2.trans ((aB w2 _).mono v0)
 have kv:=y3.size;have zz:=H1.1.below y3 ab;obtain⟨y0,y1⟩:=zz.facts;have j6:Below w2.heap.size w2 w3:=by rw[hw3];exact aB w2 _
 have H3:=hd5 va y3 zz j6 hb2;clear j6;clear ho2 hb2 va y3 zz x0 x1
 go_upto_region 3 with fail
 rw[←hw3];clear hw3
 go_upto_if 19 with fail
 go_cut [7] from 12 (fun s7 wx=>∃v l,s7=v∧XS wx w2.heap.size v l∧l.map (·.2)=Zc.whatB kd co∧Below w2.heap.size w2 wx)
 case first=>
  by_cases h0:0<n1
  ·have zs:(0:Int)<(n1:Int):=ab
   have HW:Zc.whatB kd co=[Der.write 6 kd]++[Der.write 160 co]:=by unfold Zc.whatB;rw[H1.2.2.2.2.2.2.2.2.2.1,if_pos h0]
   have HW:=hd1 HW
   go_wp2_with fail
   refine(aL 160 160 rfl A1 n1 c1 co w3 (H1.2.2.2.1.up H3.2.1) ab).mono ?_;rintro e w4 ⟨A4,n4,c4,rfl,ho4,hb4⟩;have ke:=hb4.size;have H4:=hd3 (H3.1.below hb4) (aE.own ho4) hb4;clear ho4 hb4;have yv:w2.heap.size≤w3.heap.size:=Nat.le_of_lt (H3.1.1.2 _ rfl)
   go_wp2_with (first
    | (at_builtin
       refine fF rfl (.tmp 20) (.tmp 24) rfl w2.heap.size _ [(.slice A2 n2 c2,Der.write 6 kd)] aq (H4.1.below (aB w4 _)) ai _ _ _ aq (fA _ _ _) ag (H4.2.1.alloc _) ag ?_;intro v5 w5 hx5 hb5)
    | fail)
   go_meet
   case rel=>exact⟨v5,_,rfl,hx5,by rw[HW.out];rfl,(H3.2.2.2.1.trans (((H4.2.2.alloc H4.2.2.size _)).mono yv)).trans hb5⟩
  ·have zs:¬((0:Int)<(n1:Int)):=ab
   have HW:Zc.whatB kd co=[Der.write 6 kd]:=by unfold Zc.whatB;rw[H1.2.2.2.2.2.2.2.2.2.1,if_neg h0];rfl
   have HW:=hd1 HW
   go_wp2_with fail
   go_meet
   case rel=>exact⟨_,_,rfl,H3.1,by rw[HW.out];rfl,H3.2.2.2.1⟩
 case rest=>
  obtain⟨vw,lw,rfl,hxw,j3,hbw⟩:=hcut;obtain⟨w4,hw4⟩:∃W,W=wc:=⟨_,rfl⟩
  subst hw4;have ke:=hbw.size;have yv:w2.heap.size≤w3.heap.size:=Nat.le_of_lt (H3.1.1.2 _ rfl);obtain⟨Aw,cw,rfl,rlw⟩:=hxw.rdl;have z3:lw.length≤2:=by
   have:=congrArg List.length j3;rw[List.length_map]at this;rw[this];unfold Zc.whatB
   split<;>simp
  have qd:Below w1.heap.size w1 w4:=H3.2.2.2.2.trans (hbw.mono v0);have H4:=hd6 hxw j3 qd (H1.1.below qd ab) (H1.2.2.2.2.1.up qd) (H1.2.2.2.2.2.1.up qd);obtain⟨x0,x1⟩:=H4.2.2.2.1.facts;have z6:=qd.size;clear hxw j3 hbw qd rlw y0 y1;obtain⟨nl_q,hnl⟩:∃n,lw.length=n:=⟨_,rfl⟩
  rw[hnl]at z3 ⊢;have HL:=hd1 hnl;clear hnl
  go_wp2_with fail
  go_loopw [5,8] (fun cv iv wr=>∃i:Nat,i≤nc∧iv=.int .i64 (i:Int)∧az wr w4.heap.size wr.heap.size cv ((cs.take i).flatMap fun y=>y.d.1)∧Below w4.heap.size w4 wr) (fun _ iv _=>nc - (intOf iv).toNat)
  case atStart=>exact⟨0,Nat.zero_le _,rfl,by simpa using az.nil_,Below.refl _ _⟩
  case round=>
   obtain⟨i,hi,rfl,ho,hb⟩:=hrel;have y4:=hb.size;obtain⟨Av,nv,cv,rfl,rv⟩:=ho.rd;obtain⟨x0,x1⟩:=(H4.2.2.2.1.below hb ab).facts
   by_cases hlt:i<nc
   ·have q9:(i:Int)<(nc:Int):=ab
    obtain⟨b,o,y,rfl,hbl,hy,hcy,hry⟩:=(H4.2.2.2.2.1.up hb).at_ go hlt;have ys:=hry (y.c.raw,y.d.1) (by simp[KI.rows]);obtain⟨Ay,ny,cy,ey,ry,_⟩:=id ys;have k0:=hcy 0 y.c.raw (by simp[KI.cells,CV.cells]);have vt:y.c.raw=.slice Ay ny cy:=ey;rw[vt,Nat.add_zero]at k0;have v2:=H1.2.2.2.2.2.2.1 y (List.mem_of_getElem? hy);have vy:((cs.take i).flatMap fun y=>y.d.1).length≤200000:=by
     have:=jg (f:=fun y:KI=>y.d.1) (N:=10000) (cs.take i) fun z hz=>H1.2.2.2.2.2.2.1 z (List.mem_of_mem_take hz)
     have h2:(cs.take i).length≤20:=by rw[List.length_take];omega
     have:=Nat.mul_le_mul_right 10000 h2;omega
    have yd:(cs.take (i+1)).flatMap (fun y=>y.d.1)=(cs.take i).flatMap (fun y=>y.d.1)++y.d.1:=by rw[df hy,List.flatMap_append,List.flatMap_cons,List.flatMap_nil,List.append_nil]
    have ko:y.d.1.length=ny:=ry.len;have HY:=hd6 ho hb ry yd vy v2;clear ho hb hcy hry ys ry yd vy v2 hy ey vt rv
    go_wp2_with (first
     | (at_builtin
        refine aP rfl (.tmp 33) (.tmp 39) rfl w4.heap.size wr.heap.size (.slice Av nv cv) ((cs.take i).flatMap fun y=>y.d.1) rfl HY.1 y4 wr.heap.size Ay ny cy y.d.1 rfl HY.2.2.1.rds (by have:=HY.2.2.2.2.1;have:=HY.2.2.2.2.2;omega) ?_;intro v5 w5 ho5 hg5 hat5 hb5)
     | fail)
    go_roundw
    case rel=>exact⟨i+1,ab,by go_num,by rw[HY.2.2.2.1];exact ho5,HY.2.1.trans hb5⟩
    case measure=>first|(simp[intOf];done)|(simp[intOf];omega)
   ·obtain rfl:i=nc:=ab
    have q9:¬((i:Int)<(i:Int)):=ab
    rw[List.take_of_length_le (by rw[H1.2.2.2.2.2.2.2.2.2.2.1];exact Nat.le_refl _)]at ho rv;have z2:(cs.flatMap fun y=>y.d.1).length=nv:=rv.len;obtain⟨rs,hrs⟩:∃rs,(cs.flatMap fun y=>y.d.1)=rs:=⟨_,rfl⟩
    have ks:nv≤200000:=by
     have:=jg (f:=fun y:KI=>y.d.1) (N:=10000) cs H1.2.2.2.2.2.2.1;have h2:=H1.2.2.2.2.2.2.2.2.2.2.1;have:=Nat.mul_le_mul_right 10000 (show cs.length≤20 by omega);omega
    rw[hrs]at ho rv z2;obtain⟨w5,hw5⟩:∃W,W=wr:=⟨_,rfl⟩
    subst hw5;have H5:=hd5 (aE.own ho) rv hb z2 hrs;clear ho rv hb z2 hrs
    go_upto_if 43 with fail
    go_cut [5] from 12 (fun s5 wx=>∃A n c,s5=.slice A n c∧aE wx (.slice A n c) (Zc.certsB rs)∧Below w5.heap.size w5 wx)
    case first=>
     by_cases h0:0<nv
     ·have zs:(0:Int)<(nv:Int):=ab
      have HW:Zc.certsB rs=Der.write 160 rs:=by unfold Zc.certsB;rw[H5.2.2.2.1,if_pos h0]
      have HW:=hd1 HW
      go_wp2_with fail
      refine(aL 160 160 rfl Av nv cv rs w5 H5.2.1 ab).mono ?_;rintro e w6 ⟨A6,n6,c6,rfl,ho6,hb6⟩
      go_wp2_with fail
      go_meet
      case rel=>exact⟨A6,n6,c6,rfl,by rw[HW.out];exact aE.own ho6,hb6⟩
     ·have zs:¬((0:Int)<(nv:Int)):=ab
      have HW:Zc.certsB rs=rs:=by unfold Zc.certsB;rw[H5.2.2.2.1,if_neg h0]
      have HW:=hd1 HW
      go_wp2_with fail
      go_meet
      case rel=>exact⟨Av,nv,cv,rfl,by rw[HW.out];exact H5.1,Below.refl _ _⟩
    case rest=>
     obtain⟨A6,n6,c6,rfl,h6,hb6⟩:=hcut;obtain⟨w6,hw6⟩:∃W,W=wc:=⟨_,rfl⟩
     subst hw6;have kx:=hb6.size;have z7:=H5.2.2.1.size;have qs:Below w4.heap.size w4 w6:=H5.2.2.1.trans (hb6.mono z7);have H6:=hd5 h6 qs (H4.2.2.2.1.below qs ab) (H4.2.2.2.2.2.up qs) (H4.1.below qs);clear h6 hb6 qs x0 x1;obtain⟨x0,x1⟩:=H6.2.2.1.facts
     go_wp2_with fail
     go_loopw [9,10] (fun sv iv wr=>∃(i:Nat) (v:Value) (l:List (Value×List UInt8)),i≤ns∧iv=.int .i64 (i:Int)∧sv=v∧XS wr w6.heap.size v l∧l.map (·.2)=(ss.take i).map SI.one∧Below w6.heap.size w6 wr) (fun _ iv _=>ns - (intOf iv).toNat)
     case atStart=>exact⟨0,_,[],Nat.zero_le _,rfl,rfl,XS.nil_,rfl,Below.refl _ _⟩
     case round=>
      obtain⟨i,v,ls,hi,rfl,rfl,hxs,hls,hb⟩:=hrel;have y4:=hb.size;obtain⟨x0,x1⟩:=(H6.2.2.1.below hb ab).facts;have qv:ls.length=i:=by
       have:=congrArg List.length hls;rw[List.length_map,List.length_map,List.length_take]at this;have h2:=H1.2.2.2.2.2.2.2.2.2.2.2;omega
      obtain⟨Av,cv,rfl,rlv⟩:=hxs.rdl;rw[qv]at rlv hxs ⊢
      by_cases hlt:i<ns
      ·have q9:(i:Int)<(ns:Int):=ab
       obtain⟨b,o,x,rfl,hbl,hx,hcx,hrx⟩:=(H6.2.2.2.1.up hb).at_ fP hlt;obtain⟨a0,m0,d0,a1,m1,d1,a2,m2,d2,a3,m3,d3,a4,m4,d4,a5,m5,d5,hvx⟩:=iQ hrx;have vv:SI.cells x=[.slice a0 m0 d0,.slice a1 m1 d1,.slice a2 m2 d2,.slice a3 m3 d3,.slice a4 m4 d4,.slice a5 m5 d5]:=by unfold SI.cells SV.cells;rw[hvx]
       have cx:=hcx;rw[vv]at cx;have kk:=cx 0 _ rfl;have k4:=cx 1 _ rfl;have k5:=cx 2 _ rfl;have k6:=cx 3 _ rfl;have pa:=cx 4 _ rfl;have pb:=cx 5 _ rfl;rw[Nat.add_zero]at kk;have g0:=hrx (x.v.iss,x.s.iss) (by simp[SI.rows,SV.rows]);have g1:=hrx (x.v.ser,x.s.ser) (by simp[SI.rows,SV.rows]);have g2:=hrx (x.v.att,x.s.att) (by simp[SI.rows,SV.rows]);have g5:=hrx (x.v.sig,x.s.sig) (by simp[SI.rows,SV.rows]);simp only[hvx]at g0 g1 g2 g5;have h6:=H1.2.2.2.2.2.2.2.1 x (List.mem_of_getElem? hx);have yh:=pZ a0 a1 a2 a5 m0 d0 m1 d1 m2 d2 m5 d5 (.slice a3 m3 d3) (.slice a4 m4 d4) x.s.iss x.s.ser x.s.att x.s.sig wr g0 (bT g1) (bT g2) (bT g5) h6.1 (by have:=(bT g1).len;omega) (by have:=(bT g2).len;omega) (by have:=(bT g5).len;omega);have yd:(ss.take (i+1)).map SI.one=(ss.take i).map SI.one++[x.one]:=by rw[df hx,List.map_append];rfl
       have HX:=hd6 yh yd hb hxs hls qv;clear yh yd hb hxs hls qv g0 g1 g2 g5 h6 hcx cx vv hvx hrx hx rlv
       go_wp2_with fail
       refine HX.1.mono ?_;rintro e w7 ⟨A7,n7,c7,rfl,ho7,hb7⟩;have ky:=hb7.size;have H7:=hd3 (aE.own ho7) (HX.2.2.2.1.below hb7) (HX.2.2.1.trans (hb7.mono y4));clear ho7 hb7
       go_wp2_with (first
        | (at_builtin
           refine fF rfl (.tmp 53) (.tmp 60) rfl w6.heap.size (.slice Av i cv) ls aq (H7.2.1.alloc _) ai w7.heap.size (.slice A7 n7 c7) x.one aq (fA _ _ _) ag (H7.1.alloc _) (by have:=HX.2.2.2.2.2;omega) ?_;intro v5 w8 hx8 hb8)
        | fail)
       go_roundw
       case rel=>exact⟨i+1,_,_,ab,by go_num,rfl,hx8,by rw[HX.2.1,List.map_append,HX.2.2.2.2.1];rfl,((H7.2.2.alloc H7.2.2.size _).trans hb8)⟩
       case measure=>first|(simp[intOf];done)|(simp[intOf];omega)
      ·obtain rfl:i=ns:=ab
       have q9:¬((i:Int)<(i:Int)):=ab
       rw[List.take_of_length_le (by rw[H1.2.2.2.2.2.2.2.2.2.2.2];exact Nat.le_refl _)]at hls;have j7:(aZ ls).length≤2000000:=by
        unfold aZ;rw[hls];have h1:=jg (f:=SI.one) (N:=60006) ss fun y hy=>yq (H1.2.2.2.2.2.2.2.1 y hy)
        have h2:=H1.2.2.2.2.2.2.2.2.2.2.2;have h3:=Nat.mul_le_mul_right 60006 (show ss.length≤20 by omega);rw[List.flatMap_def]at h1;omega
       have HQ:=hd5 rlv hls hb qv j7;obtain⟨w7,hw7⟩:∃W,W=wr:=⟨_,rfl⟩
       subst hw7;clear rlv hls hb qv j7 hxs
       go_wp2_with fail
       refine(nZ Av i cv ls w7 HQ.1 ab (by have:=HQ.2.2.2.2;omega)).mono ?_;rintro e w8 ⟨S,hS1,hS2,A8,n8,c8,rfl,ho8,hb8⟩;have v4:(aZ S).length≤2000000:=by
        have:(aZ S).length=(aZ ls).length:=by
         unfold aZ;exact(hS1.map (·.2)).flatten.length_eq
        have:=HQ.2.2.2.2;omega
       obtain⟨_,_,_,e8,r8⟩:=ho8.rd;injection e8 with q1 q2 q3
       subst q1 q2 q3;have kn:=r8.len;have kz:=hb8.size;have H8:=hd5 r8 hb8 hS1 hS2 v4;clear ho8 hb8 r8 hS1 hS2
       go_wp2_with fail
       refine(aL 49 49 rfl A8 n8 c8 (aZ S) w8 H8.1 ab).mono ?_;rintro e w9 ⟨A9,n9,c9,rfl,ho9,hb9⟩;have k3:=hb9.size;have y2:Below w6.heap.size w6 w9:=HQ.2.2.1.trans ((H8.2.1.mono y4).trans (hb9.mono ab));have H9:=hd4 (aE.own ho9) y2 (H6.1.below y2) (H6.2.2.2.2.below y2);clear ho9 hb9 y2;have kl:=ft;have qk:=aB w9 (.cells #[.int .u8 2,.int .u8 1,.int .u8 1] 5 (3,4));have j4:=hd5 (aE.blk (heap_alloc_new w9 _) (Rd.conv w9 Zc.oneB [.int .u8 2,.int .u8 1,.int .u8 1] 3 (3,4) rfl rfl ab)) (H9.1.below qk) (H9.2.2.1.below qk) (H9.2.2.2.below qk) qk;clear qk;have q7:=Rd.conv (w9.alloc (.cells #[.int .u8 2,.int .u8 1,.int .u8 1] 5 (3,4))) Zc.shaAlg [.int .u8 48,.int .u8 13,.int .u8 6,.int .u8 9,.int .u8 96,.int .u8 134,.int .u8 72,.int .u8 1,.int .u8 101,.int .u8 3,.int .u8 4,.int .u8 2,.int .u8 1,.int .u8 5,.int .u8 0] 15 (15,16) rfl rfl ab;have vp:(w9.alloc (.cells #[.int .u8 2,.int .u8 1,.int .u8 1] 5 (3,4))).heap.size=w9.heap.size+1:=ag
       have z5:(w9.alloc (.cells #[.int .u8 2,.int .u8 1,.int .u8 1] 5 (3,4))).heap.size≤((w9.alloc (.cells #[.int .u8 2,.int .u8 1,.int .u8 1] 5 (3,4))).alloc (.cells #[.int .u8 48,.int .u8 13,.int .u8 6,.int .u8 9,.int .u8 96,.int .u8 134,.int .u8 72,.int .u8 1,.int .u8 101,.int .u8 3,.int .u8 4,.int .u8 2,.int .u8 1,.int .u8 5,.int .u8 0] 5 (15,16))).heap.size:=ag
       rw[vp]at q7;have j8:=ft (w9.alloc (.cells #[.int .u8 2,.int .u8 1,.int .u8 1] 5 (3,4))) #[.int .u8 48,.int .u8 13,.int .u8 6,.int .u8 9,.int .u8 96,.int .u8 134,.int .u8 72,.int .u8 1,.int .u8 101,.int .u8 3,.int .u8 4,.int .u8 2,.int .u8 1,.int .u8 5,.int .u8 0] 15 15;rw[vp]at j8;have y7:=hd1 q7;clear q7
       go_wp2_with fail
       refine(aL 49 49 rfl _ 15 15 Zc.shaAlg _ y7.out ab).mono ?_;rintro e w11 ⟨A11,n11,c11,rfl,ho11,hb11⟩;have qc:=(aB (w9.alloc (.cells #[.int .u8 2,.int .u8 1,.int .u8 1] 5 (3,4))) (.cells #[.int .u8 48,.int .u8 13,.int .u8 6,.int .u8 9,.int .u8 96,.int .u8 134,.int .u8 72,.int .u8 1,.int .u8 101,.int .u8 3,.int .u8 4,.int .u8 2,.int .u8 1,.int .u8 5,.int .u8 0] 5 (15,16))).trans (hb11.mono z5);have v7:=qc.size;have v1:w9.heap.size+1≤w11.heap.size:=ab
       obtain⟨_,_,q1,q2⟩:=(j4.2.2.2.1.below qc).rdl;injection q1 with q3 _ q4
       subst q3 q4;rw[HL.out]at q2;have q6:(aZ lw).length≤5000:=by
        unfold aZ;rw[H4.2.1];unfold Zc.whatB;have g0:=aC 6 kd (by rw[H1.2.2.2.2.2.2.2.2.1];omega);have g1:=aC 160 co (by rw[H1.2.2.2.2.2.2.2.2.2.1];omega);rw[H1.2.2.2.2.2.2.2.2.1]at g0;rw[H1.2.2.2.2.2.2.2.2.2.1]at g1
        split<;>simp<;>omega
       have q0:=hd7 (aE.own ho11) (j4.1.below qc) (j4.2.1.below qc) (j4.2.2.1.below qc) q2 (j4.2.2.2.2.trans (qc.mono ab)) q6;clear ho11 hb11 qc q2 q6
       go_wp2_with fail
       refine(bu Aw nl_q cw lw w11 q0.2.2.2.2.1 ab (by have:=q0.2.2.2.2.2.2;omega)).mono ?_;rintro e w12 ⟨A12,n12,c12,rfl,ho12,hb12⟩;rw[H4.2.1]at ho12;have v8:=hb12.size;have j1:=hd6 (aE.own ho12) (q0.1.below hb12) (q0.2.1.below hb12) (q0.2.2.1.below hb12) (q0.2.2.2.1.below hb12) hb12;clear ho12 hb12;have yy:(aZ [((.slice (some ⟨w9.heap.size,0,none⟩) 3 3:Value),Zc.oneB),(.slice A11 n11 c11,Der.write 49 Zc.shaAlg),(.slice A12 n12 c12,Ref.seq (Zc.whatB kd co)),(.slice A6 n6 c6,Zc.certsB rs),(.slice A9 n9 c9,Der.write 49 (aZ S))]).length≤3000000:=by
        have g0:=aC 49 Zc.shaAlg aj;have g1:Zc.shaAlg.length=15:=rfl;have g2:Zc.oneB.length=3:=rfl;have g3:=aC 49 (aZ S) (by have:=H8.2.2.2.2;omega);have g4:=H8.2.2.2.2;have g5:(Zc.certsB rs).length≤200006:=by
         have:=H5.2.2.2.1;have g6:=aC 160 rs ab;unfold Zc.certsB
         split<;>omega
        have g7:(Ref.seq (Zc.whatB kd co)).length≤5006:=by
         have h1:=q0.2.2.2.2.2.2;unfold aZ at h1;rw[H4.2.1]at h1;have:=aC 48 (Zc.whatB kd co).flatten ab;unfold Ref.seq;omega
        rw[Ca];omega
       have vi:=hd1 yy;clear yy
       go_wp2_with fail
       refine(bu _ 5 5 [((.slice (some ⟨w9.heap.size,0,none⟩) 3 3:Value),Zc.oneB),(.slice A11 n11 c11,Der.write 49 Zc.shaAlg),(.slice A12 n12 c12,Ref.seq (Zc.whatB kd co)),(.slice A6 n6 c6,Zc.certsB rs),(.slice A9 n9 c9,Der.write 49 (aZ S))] _ (Cb w12 _ _ _ _ _ _ _ _ _ _ j1.2.2.1.rdv j1.2.1.rdv j1.1.rdv j1.2.2.2.2.1.rdv j1.2.2.2.1.rdv) ab (by have:=vi.out;omega)).mono ?_;rintro e w13 ⟨A13,n13,c13,rfl,ho13,hb13⟩;have j0:Ref.seq ([((.slice (some ⟨w9.heap.size,0,none⟩) 3 3:Value),Zc.oneB),(.slice A11 n11 c11,Der.write 49 Zc.shaAlg),(.slice A12 n12 c12,Ref.seq (Zc.whatB kd co)),(.slice A6 n6 c6,Zc.certsB rs),(.slice A9 n9 c9,Der.write 49 (aZ S))].map (·.2))=Zc.outB kd co rs (S.map (·.2)):=rfl;have z4:(Zc.outB kd co rs (S.map (·.2))).length≤3000006:=by
        rw[←j0];exact qQ _ vi.out ab
       rw[j0]at ho13;have v9:w12.heap.size≤w13.heap.size:=by have:=hb13.size;simp at this;omega
       have vn:Below w.heap.size w w13:=by
        have k1:Below w12.heap.size w12 w13:=(aB w12 _).trans (hb13.mono ag);have k2:Below w9.heap.size w9 w13:=q0.2.2.2.2.2.1.trans ((j1.2.2.2.2.2.mono ab).trans (k1.mono ab));exact H1.2.1.trans ((H4.2.2.1.mono ab).trans ((H6.2.1.mono ab).trans ((H9.2.1.mono ab).trans (k2.mono ab))))
       have kf:∃S0:List (List UInt8),S0=S.map (·.2)∧S0.Perm (ss.map SI.one)∧eo S0:=⟨_,rfl,by rw[←HQ.2.1];exact H8.2.2.1.map _,H8.2.2.2.1⟩
       obtain⟨S0,hS0,hp0,ho0⟩:=kf;rw[←hS0]at ho13 z4;have qg:=hd6 ho13 vn z4 hp0 ho0 H5.2.2.2.2;clear ho13 vn hb13 z4 hp0 ho0 j0 hS0
       cases wrap with
       | false=>
        go_wp2_with fail
        go_ret
        exact⟨S0,qg.2.2.2.1,qg.2.2.2.2.1,A13,n13,c13,rfl,by rw[qg.2.2.2.2.2];exact qg.1.mono ai nl_,qg.2.1⟩
       | true=>
        have j5:=Rd.conv w13 Zc.wrapped [.int .u8 42,.int .u8 134,.int .u8 72,.int .u8 134,.int .u8 247,.int .u8 13,.int .u8 1,.int .u8 7,.int .u8 2] 9 (9,10) rfl rfl ab;have zn:=hd1 j5;clear j5 j8
        go_wp2_with fail
        refine(aL 6 6 rfl _ 9 9 Zc.wrapped _ zn.out ab).mono ?_;rintro e w14 ⟨A14,n14,c14,rfl,ho14,qd⟩;have qh:=(aB w13 (.cells #[.int .u8 42,.int .u8 134,.int .u8 72,.int .u8 134,.int .u8 247,.int .u8 13,.int .u8 1,.int .u8 7,.int .u8 2] 5 (9,10))).trans (qd.mono ag);have z6:=qh.size;obtain⟨_,_,_,q1,q2⟩:=qg.1.rd;injection q1 with q3 q4 q5
        subst q3 q4 q5;have v6:=q2.len;have y5:=hd3 (aE.own ho14) qh (q2.up qh);clear ho14 qd qh q2
        go_wp2_with fail
        refine(aL 160 160 rfl A13 n13 c13 _ w14 y5.2.2 (by have:=qg.2.2.1;omega)).mono ?_;rintro e w15 ⟨A15,n15,c15,rfl,ho15,hb15⟩;have kb:=hb15.size;have y6:=hd3 (aE.own ho15) (y5.1.below hb15) hb15;clear ho15 hb15;have j3:(Der.write 160 (Zc.outB kd co rs S0)).length≤3000020∧(Der.write 6 Zc.wrapped).length≤20:=by
         have g0:=aC 160 (Zc.outB kd co rs S0) (by have:=qg.2.2.1;omega);have g1:=aC 6 Zc.wrapped aj;have g2:Zc.wrapped.length=9:=rfl;have:=qg.2.2.1;omega
        have v3:=hd1 j3;clear j3
        go_wp2_with fail
        refine(bu _ 2 2 [(.slice A14 n14 c14,Der.write 6 Zc.wrapped),(.slice A15 n15 c15,Der.write 160 (Zc.outB kd co rs S0))] _ (jm w15 _ _ _ _ y6.2.1.rdv y6.1.rdv) ab (by rw[iy];have:=v3.out;omega)).mono ?_;rintro e w16 ⟨A16,n16,c16,rfl,ho16,hb16⟩;have kc:w15.heap.size≤w16.heap.size:=by have:=hb16.size;simp at this;omega
        have k1:Below w15.heap.size w15 w16:=(aB w15 _).trans (hb16.mono ag);have vo:Below w.heap.size w w16:=qg.2.1.trans ((y5.2.1.mono qg.2.1.size).trans ((y6.2.2.mono (by have:=qg.2.1.size;omega)).trans (k1.mono (by have:=qg.2.1.size;omega))));have ve:=hd2 ho16 vo;clear ho16 hb16 k1 vo
        go_wp2_with fail
        go_ret
        exact⟨S0,qg.2.2.2.1,qg.2.2.2.2.1,A16,n16,c16,rfl,by rw[qg.2.2.2.2.2];exact ve.1.mono (by have:=qg.2.1.size;simp;omega) nl_,ve.2⟩
theorem kY {α β:Type} {f:El→Except Nat β} {g:α→β} {e:α→El}:∀(l:List α),(∀a∈l,f (e a)=.ok (g a))→Zc.each f (l.map e)=.ok (l.map g)
 | [],_=>rfl
 | a::l,h=>by
  rw[List.map_cons,Zc.each,h a ag,aG,kY l (fun b hb=>h b (by simp[hb])),aG]
  rfl
def br.el (k:br):El:=E.cert k.T (k.sig.take 600)
theorem zB (k:br) (hp:k.path<256) (hu:k.usage<256):El.wf k.el∧Der.thr 11 k.el.1 k.el.2.1=0∧k.el.2.2=k.raw∧Zc.cert k.el=.ok (Lad.d k):=by
 obtain⟨h1,h2,h3⟩:=kC k hp hu;have hl:=im k;have hr:=pq k;rw[hr]at hl;have hw:=mN (g:=k.sig.take 600) h2 ab;refine⟨hw.1,?_,hr.symm,?_⟩
 ·refine aQ (k:=10) hw.2 (fun y hy=>?_)
  simp only[List.mem_cons,List.not_mem_nil,or_false]at hy;rcases hy with rfl|rfl|rfl
  ·exact h3
  ·decide +kernel
  ·exact bq _ rfl
 ·unfold Zc.cert
  rw[show k.el.2.2=k.raw from hr.symm,tq k hp hu]
  rfl
def E.algs:El:=El.mk 49 (ax [E.sha])
theorem xw:E.algs.2.2=Der.write 49 Zc.shaAlg:=by unfold E.algs;rw[aR,aX,mZ]
theorem j9:El.wf E.algs:=El.mk_wf aj ac
def E.inn (C:List El):List El:=C.map fun c=>El.mk 160 (ax [c])
def E.what (k:List UInt8) (C:List El):El:=El.mk 48 (ax (El.mk 6 k::E.inn C))
def E.crt:List El→List El
 | []=>[]
 | y::K=>[El.mk 160 (ax (y::K))]
def E.all (k:List UInt8) (C K S:List El):List El:=[E.cOne,E.algs,E.what k C]++E.crt K++[El.mk 49 (ax S)]
theorem yL {k:List UInt8} {C:List El} (hC:C.length≤1) (hw:∀y∈C,El.wf y):(E.what k C).2.2=Ref.seq (Zc.whatB k (ax C)):=by
 match C,hC with
 | [],_=>
  unfold E.what E.inn Zc.whatB;rw[List.map_nil,aR,aX,aR,bP,if_neg ag];unfold Ref.seq;simp
 | [y],_=>
  have:=mB (hw y ag);unfold E.what E.inn Zc.whatB;rw[List.map_cons,List.map_nil,aR,bH,aR,aR,aX,if_pos this];unfold Ref.seq;simp
theorem zl {K:List El} (hw:∀y∈K,El.wf y):ax (E.crt K)=Zc.certsB (ax K):=by
 match K with
 | []=>rfl
 | y::K=>
  have:=mB (hw y ag);unfold E.crt Zc.certsB;rw[aX,aR,if_pos (by rw[aN,List.length_append];omega)]
theorem mJ {k:List UInt8} {C K S:List El} (hC:C.length≤1) (hw:∀y∈C,El.wf y) (hk:∀y∈K,El.wf y):Der.write 48 (ax (E.all k C K S))=Zc.outB k (ax C) (ax K) (S.map (·.2.2)):=by
 unfold E.all Zc.outB;rw[eN,eN,aN,bH,aX,aR,zl hk,pi,xw,yL hC hw];unfold Ref.seq ax;simp
theorem gN {k:List UInt8} {C K S:List El} (hC:C.length≤1) (hw:∀y∈C,El.wf y) (hk:∀y∈K,El.wf y):(E.bare (E.all k C K S)).2.2=Zc.outB k (ax C) (ax K) (S.map (·.2.2)):=by
 rw[←mJ hC hw hk];rfl
theorem yN {k:List UInt8} {C K S:List El} (hC:C.length≤1) (hw:∀y∈C,El.wf y) (hk:∀y∈K,El.wf y):(E.wrap (E.all k C K S)).2.2=Zc.wrapB true (Zc.outB k (ax C) (ax K) (S.map (·.2.2))):=by
 rw[←mJ hC hw hk];unfold E.wrap Zc.wrapB;rw[aR,bH,aR,aR,aX,aR,if_pos rfl];unfold Ref.seq;simp
theorem uw {k:List UInt8} {C:List El} (hkl:k.length≤1000) (hC:C.length≤1) (hCl:(ax C).length≤100000):Zc.parts 48 1 2 (E.what k C)=.ok (El.mk 6 k::E.inn C):=by
 have h6:=bG (t:=6) 1000 hkl ab;refine bD (u:=48) (x:=E.what k C) rfl rfl (fun y hy=>?_) ai (by unfold E.inn;simp;omega);rcases List.mem_cons.1 hy with rfl|hy
 ·exact El.mk_wf aj ab
 ·obtain⟨c,hc,rfl⟩:=List.mem_map.1 hy
  have:=fs hc;rw[aX];exact El.mk_wf aj ab
theorem uu {k:List UInt8} {C:List El} (hC:C.length≤1) (hCw:∀y∈C,El.wf y):Zc.inner (El.mk 6 k::E.inn C)=.ok (ax C):=by
 unfold Zc.inner E.inn
 match C,hC,hCw with
 | [],_,_=>rfl
 | [y],_,hw=>
  rw[if_pos (show(El.mk 6 k::List.map (fun c=>El.mk 160 (ax [c])) [y]).length=2 from rfl)];simp only[List.map_cons,List.map_nil,List.getD_cons_zero,List.getD_cons_succ];rw[bD (u:=160) (x:=El.mk 160 (ax [y])) (L:=[y]) rfl rfl hw ag ag,aG,aX]
  rfl
theorem xG {K:List El} (hK:∀y∈K,El.wf y):(match E.crt K with|[]=>(.ok []:Except Nat (List (List UInt8×Sg×List UInt8)))|y::_=>Zc.certs y)=(Zc.must (decide (K.length≤16)) 10).bind fun _=>Zc.each Zc.cert K:=by
 match K,hK with
 | [],_=>rfl
 | y::K,hK=>
  unfold E.crt Zc.certs;have hf:=iq hK;show(Zc.parts 160 0 ((ax (y::K)).length) (El.mk 160 (ax (y::K)))).bind _=_;rw[bD (u:=160) (x:=El.mk 160 (ax (y::K))) (L:=y::K) rfl rfl hK ab (Int.ofNat_le.2 hf),aG]
theorem ru {v a h S:El} {k:List UInt8} {C K:List El} (ha:Zc.parts 49 1 1 a=.ok [h]) (hk:(Der.oid k).isSome=true) (hkl:k.length≤1000) (hC:C.length≤1) (hCw:∀y∈C,El.wf y) (hCl:(ax C).length≤100000) (hK:∀y∈K,El.wf y) :
 Zc.data ([v,a,E.what k C]++E.crt K++[S])=(Zc.one v).bind fun _=>(Zc.hash h).bind fun _=>((Zc.must (decide (K.length≤16)) 10).bind fun _=>Zc.each Zc.cert K).bind fun cs=>(Zc.signers S).bind fun ss=>.ok ⟨k,ax C,cs,ss⟩:=by
 rw[zm (by cases K<;>simp[E.crt]) ha];refine congrArg _ (funext fun _=>congrArg _ (funext fun _=>?_));rw[uw hkl hC hCl,aG,List.getD_cons_zero,kg hk,aG,uu hC hCw,aG];exact congrArg (fun o:Except Nat (List (List UInt8×Sg×List UInt8))=>o.bind fun cs=>(Zc.signers S).bind fun ss=>Except.ok (Sd.mk k (ax C) cs ss)) (xG hK)
theorem i5:Zc.parts 49 1 1 E.algs=.ok [E.sha]:=bD (u:=49) (x:=E.algs) (L:=[E.sha]) rfl rfl (bZ hU) ag ag
theorem xx {k:List UInt8} {C K S:List El} {cs:List (List UInt8×Sg×List UInt8)} {ss:List Sr} (hk:(Der.oid k).isSome=true) (hkl:k.length≤1000) (hC:C.length≤1) (hCw:∀y∈C,El.wf y) (hCl:(ax C).length≤100000)
 (hK:∀y∈K,El.wf y) (hKn:K.length≤16) (hcs:Zc.each Zc.cert K=.ok cs) (hS:∀y∈S,El.wf y) (hS1:1≤S.length) (hS8:S.length≤8) (ho:eo (S.map (·.2.2))) (hss:Zc.each Zc.signer S=.ok ss) :
 Zc.data (E.all k C K S)=.ok ⟨k,ax C,cs,ss⟩:=by
 unfold E.all;rw[ru i5 hk hkl hC hCw hCl hK,kV,aG,fX,aG,mu (x:=El.mk 49 (ax S)) (L:=S) rfl rfl hS hS1 ho];unfold Zc.must;rw[decide_eq_true hKn,decide_eq_true hS8];show((Zc.each Zc.cert K).bind fun cs=>((Zc.each Zc.signer S).bind _))=_;rw[hcs,hss]
 rfl
theorem AY {k:List UInt8} {C K S:List El} (hl:(ax (E.all k C K S)).length≤65536):∀y∈E.all k C K S,El.wf y:=by
 have key:∀(t:UInt8) (b:List UInt8),El.mk t b∈E.all k C K S→t.toNat % 32≠31→El.wf (El.mk t b):=fun t b hm ht=>cR ht hm ab
 intro y hy;have qc:=hy;unfold E.all at hy;simp only[List.mem_append,List.mem_cons,List.not_mem_nil,or_false]at hy;rcases hy with(⟨rfl|rfl|rfl⟩|hy)|rfl
 ·exact iK
 ·exact j9
 ·exact key _ _ qc aj
 ·match K,hy with
  | y0::K,hy=>
   rw[E.crt,List.mem_singleton]at hy;subst hy;exact key _ _ qc aj
 ·exact key _ _ qc aj
theorem xz {k:List UInt8} {C K S:List El} (hkl:k.length≤1000) (hCw:∀y∈C,El.wf y) (hC:∀y∈C,Der.thr 9 y.1 y.2.1=0) (hCl:(ax C).length≤100000) (hK:∀y∈K,El.wf y) (hKd:∀y∈K,Der.thr 11 y.1 y.2.1=0) (hS:∀y∈S,El.wf y) (hSd:∀y∈S,Der.thr 11 y.1 y.2.1=0):∀y∈E.all k C K S,Der.thr 12 y.1 y.2.1=0:=by
 have h6:=bG (t:=6) 1000 hkl ab;have w6:El.wf (El.mk 6 k):=El.mk_wf aj ab;intro y hy;unfold E.all at hy;simp only[List.mem_append,List.mem_cons,List.not_mem_nil,or_false]at hy;rcases hy with(⟨rfl|rfl|rfl⟩|hy)|rfl
 ·exact bq _ rfl
 ·decide +kernel
 ·refine aQ (k:=11) (fun y hy=>?_) (fun y hy=>?_)
  ·rcases List.mem_cons.1 hy with rfl|hy
   ·exact w6
   ·obtain⟨c,hc,rfl⟩:=List.mem_map.1 hy
    have:=fs hc;rw[aX];exact El.mk_wf aj ab
  ·rcases List.mem_cons.1 hy with rfl|hy
   ·exact bq _ rfl
   ·obtain⟨c,hc,rfl⟩:=List.mem_map.1 hy
    exact ed 1 (aQ (k:=9) (bZ (hCw c hc)) (bZ (hC c hc)))
 ·match K,hy with
  | y0::K,hy=>
   rw[E.crt,List.mem_singleton]at hy;subst hy;exact aQ (k:=11) hK hKd
 ·exact aQ (k:=11) hS hSd
theorem uQ (b:Bool) {k:List UInt8} {C K S:List El} {o:Except Nat Sd} (hC1:C.length≤1) (hw:∀y∈C,El.wf y) (hk:∀y∈K,El.wf y) (hd:∀y∈E.all k C K S,Der.thr 12 y.1 y.2.1=0) (hl:(Zc.outB k (ax C) (ax K) (S.map (·.2.2))).length≤60000) (ho:Zc.data (E.all k C K S)=o) :
 Zc.parse (Zc.wrapB b (Zc.outB k (ax C) (ax K) (S.map (·.2.2))))=o∧(Zc.wrapB b (Zc.outB k (ax C) (ax K) (S.map (·.2.2)))).length≤60100∧∃X:El,El.wf X∧X.2.2=Zc.wrapB b (Zc.outB k (ax C) (ax K) (S.map (·.2.2))):=by
 have qd:=hl;rw[←mJ hC1 hw hk]at hl;have qg:=cD 48 (ax (E.all k C K S));have qc:=AY (k:=k) (C:=C) (K:=K) (S:=S) ab;have h4:4≤(E.all k C K S).length∧(E.all k C K S).length≤5:=by unfold E.all;cases K<;>simp[E.crt]
 cases b with
 | false=>
  show Zc.parse (Zc.outB _ _ _ _)=_∧(Zc.outB _ _ _ _).length≤_∧_;rw[←gN hC1 hw hk]at qd;refine⟨?_,by rw[←gN hC1 hw hk];omega,_,rp (L:=E.all k C K S) ab,gN hC1 hw hk⟩;rw[←gN hC1 hw hk,l8 qc (fun y hy=>ed 2 (hd y hy)) h4.1 h4.2 ab,ho]
 | true=>
  have e1:(El.mk 6 Zc.wrapped).2.2.length=11:=ac
  have e2:=bG (t:=160) (b:=ax [El.mk 48 (ax (E.all k C K S))]) 60000 (by rw[aX,aR];omega) ab;have e3:=bG (t:=48) (b:=ax [El.mk 6 Zc.wrapped,El.mk 160 (ax [El.mk 48 (ax (E.all k C K S))])]) 60020 (by rw[bH,List.length_append];omega) ab;have qh:(E.wrap (E.all k C K S)).2.2.length≤60026:=e3;rw[←yN hC1 hw hk];exact⟨by rw[tI qc hd h4.1 h4.2 ab,ho],ab,_,(mD (L:=E.all k C K S) ab).1,rfl⟩
end Go.Proofs.YtmpkpphfoidbeaaGreatDoor
