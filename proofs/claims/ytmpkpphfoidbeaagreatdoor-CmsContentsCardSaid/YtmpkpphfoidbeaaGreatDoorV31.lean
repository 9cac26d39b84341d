import Derived.FnData
import Derived.LaidMore
import Derived.Test.YtmpkpphfoidbeaaGreatDoorRows
import Derived.Test.YtmpkpphfoidbeaaGreatDoorV30
set_option linter.unusedVariables false
set_option linter.unusedSimpArgs false
set_option maxRecDepth 100000
namespace Go.Proofs.YtmpkpphfoidbeaaGreatDoor
open Go.RowKit
def E.sgv (v h I:El) (se:List UInt8) (M:List El) (sg:List UInt8):El:=El.mk 48 (ax ([v,El.mk 48 (ax [I,El.mk 2 se]),h]++M++[E.rsaC,El.mk 4 sg]))
def LS.elv (x:LS) (v h:El):El:=E.sgv v h (E.nm (x.iss.take 100)) x.serB x.mid x.sigB
theorem LS.elv_all (x:LS) (hx:x.Fits) {v h:El} (hv:El.wf v) (hh:El.wf h) (lv:v.2.2.length≤2000) (lh:h.2.2.length≤2000) (dv:Der.thr 3 v.1 v.2.1=0) (dh:Der.thr 3 h.1 h.2.1=0) :
 El.wf (x.elv v h)∧(x.elv v h).2.2.length≤8000∧Der.thr 4 (x.elv v h).1 (x.elv v h).2.1=0∧Zc.signer (x.elv v h)=(Zc.one v).bind fun _=>(Zc.hash h).bind fun _=>.ok x.sr:=by
 obtain⟨_,w1,w2,w3,w4,w5,hl,w6⟩:=x.bounds hx;have hk:=eQ x.kind hx.z;have hW:∀y∈[v,El.mk 48 (ax [E.nm (x.iss.take 100),El.mk 2 x.serB]),h]++x.mid++[E.rsaC,El.mk 4 x.sigB],El.wf y:=fun y hy=>by
  simp only[List.mem_append,List.mem_cons,List.not_mem_nil,or_false]at hy;rcases hy with(⟨rfl|rfl|rfl⟩|hy)|rfl|rfl
  ·exact hv
  ·exact w3
  ·exact hh
  ·exact w4 y hy
  ·exact mX
  ·exact w5
 have qc:(ax ([v,El.mk 48 (ax [E.nm (x.iss.take 100),El.mk 2 x.serB]),h]++x.mid++[E.rsaC,El.mk 4 x.sigB])).length≤7300:=by
  have g1:=cD 48 (ax ([E.cOne,El.mk 48 (ax [E.nm (x.iss.take 100),El.mk 2 x.serB]),E.sha]++x.mid++[E.rsaC,El.mk 4 x.sigB]));have g2:(ax ([E.cOne,El.mk 48 (ax [E.nm (x.iss.take 100),El.mk 2 x.serB]),E.sha]++x.mid++[E.rsaC,El.mk 4 x.sigB])).length≤3200:=Nat.le_trans g1 hl;have key:∀a b X Y:El,(ax ([a,X,b]++x.mid++[Y,El.mk 4 x.sigB])).length=a.2.2.length+(X.2.2.length+b.2.2.length)+(ax x.mid).length+(Y.2.2.length+(El.mk 4 x.sigB).2.2.length):=fun a b X Y=>by
   rw[eN,eN,aN,bH,bH];simp only[List.length_append]
  rw[key]at g2 ⊢;omega
 have qd:=bG (t:=48) 7300 qc ab;have hp:=bD (u:=48) (lo:=5) (hi:=6) (x:=x.elv v h) (L:=[v,El.mk 48 (ax [E.nm (x.iss.take 100),El.mk 2 x.serB]),h]++x.mid++[E.rsaC,El.mk 4 x.sigB]) rfl rfl hW ai (by have:=x.mid_len;simp;omega);refine⟨El.mk_wf aj ab,by unfold LS.elv E.sgv;omega,aQ (k:=3) hW fun y hy=>?_,?_⟩
 ·simp only[List.mem_append,List.mem_cons,List.not_mem_nil,or_false]at hy
  rcases hy with(⟨rfl|rfl|rfl⟩|hy)|rfl|rfl
  ·exact dv
  ·exact aQ (k:=2) (cM w1 w2) (cM (aQ (k:=1) (bZ w6) (bZ (bq _ rfl))) (bq _ rfl))
  ·exact dh
  ·unfold LS.mid at hy
   by_cases ha:x.attrs=true
   ·simp only[ha,if_true,List.mem_cons,List.not_mem_nil,or_false]at hy
    rw[hy];exact pI hk.2.2 (Nat.le_trans (Nat.le_of_eq x.digB_len) aj)
   ·simp[ha]at hy
  ·decide +kernel
  ·exact bq _ rfl
 ·rw[og hp x.mid_len (bD (u:=48) (x:=El.mk 48 (ax [E.nm (x.iss.take 100),El.mk 2 x.serB])) (L:=[E.nm (x.iss.take 100),El.mk 2 x.serB]) rfl rfl (cM w1 w2) ag ag) rfl rfl (by show(Der.int x.serB).isSome=true;unfold LS.serB;rw[eA];rfl) kK rfl]
  have hm:Zc.more ([v,El.mk 48 (ax [E.nm (x.iss.take 100),El.mk 2 x.serB]),h]++x.mid++[E.rsaC,El.mk 4 x.sigB])=.ok (x.att,if x.attrs then Zc.koid x.kind else [],if x.attrs then x.digB else []):=by
   unfold Zc.more LS.mid LS.att
   by_cases ha:x.attrs=true
   ·simp only[ha,if_true]
    rw[if_pos ag];simp only[List.cons_append,List.nil_append,List.getD_cons_zero,List.getD_cons_succ];exact iI hk.1 hk.2.1 hk.2.2 x.digB_len
   ·simp only[ha,if_false,Bool.false_eq_true]
    rw[if_neg ag]
  rw[hm];refine congrArg _ (funext fun _=>congrArg _ (funext fun _=>?_));show Except.ok _=Except.ok _;unfold LS.sr LS.issB;rw[←lZ]
  rfl
theorem qC {X:El} (hX:El.wf X):Zc.signers (El.mk 49 (ax [X]))=(Zc.signer X).bind fun s=>.ok [s]:=by
 rw[mu (x:=El.mk 49 (ax [X])) (L:=[X]) rfl rfl (bZ hX) ag (List.pairwise_singleton _ _)];show(Zc.each Zc.signer [X])=_;unfold Zc.each
 cases Zc.signer X<;>rfl
theorem l9 {v a h X:El} {k:List UInt8} {C:List El} (hv:El.wf v) (haw:El.wf a) (ha:Zc.parts 49 1 1 a=.ok [h]) (hk:(Der.oid k).isSome=true) (hkl:k.length≤1000) (hC:C.length≤1) (hCw:∀y∈C,El.wf y) (hCl:(ax C).length≤2100)
 (hX:El.wf X) (lv:v.2.2.length≤2000) (la:a.2.2.length≤2000) (lX:X.2.2.length≤8000) (dv:Der.thr 12 v.1 v.2.1=0) (da:Der.thr 12 a.1 a.2.1=0) (dC:∀y∈C,Der.thr 9 y.1 y.2.1=0) (dX:Der.thr 11 X.1 X.2.1=0) :
 Zc.parse (Ref.seq [v.2.2,a.2.2,(E.what k C).2.2,(El.mk 49 (ax [X])).2.2])=(Zc.one v).bind fun _=>(Zc.hash h).bind fun _=>(Zc.signer X).bind fun s=>.ok ⟨k,ax C,[],[s]⟩:=by
 have h6:=bG (t:=6) 1000 hkl ab;have qd:(ax (E.inn C)).length≤2106:=by
  unfold E.inn
  match C,hC,hCl with
  | [],_,_=>simp[bP]
  | [y],_,hl=>
   rw[List.map_cons,List.map_nil,aX];exact bG (t:=160) 2100 hl ab
 have h7:=bG (t:=48) (b:=ax (El.mk 6 k::E.inn C)) 3200 (by rw[aN,List.length_append];omega) ab;have h8:=bG (t:=49) (b:=ax [X]) 8000 (by rw[aX];exact lX) ab;have hW:El.wf (E.what k C):=El.mk_wf aj (by rw[aN,List.length_append];omega);have hS:El.wf (El.mk 49 (ax [X])):=El.mk_wf aj (by rw[aX];omega);have hi:∀y∈El.mk 6 k::E.inn C,El.wf y:=fun y hy=>by
  rcases List.mem_cons.1 hy with rfl|hy
  ·exact El.mk_wf aj ab
  ·obtain⟨c,hc,rfl⟩:=List.mem_map.1 hy
   have:=fs hc;rw[aX];exact El.mk_wf aj ab
 have hL:∀y∈[v,a,E.what k C,El.mk 49 (ax [X])],El.wf y:=fun y hy=>by
  simp only[List.mem_cons,List.not_mem_nil,or_false]at hy;rcases hy with rfl|rfl|rfl|rfl<;>assumption
 have hD:∀y∈[v,a,E.what k C,El.mk 49 (ax [X])],Der.thr 14 y.1 y.2.1=0:=fun y hy=>by
  simp only[List.mem_cons,List.not_mem_nil,or_false]at hy;rcases hy with rfl|rfl|rfl|rfl
  ·exact ed 2 dv
  ·exact ed 2 da
  ·refine ed 3 (aQ (k:=10) hi (fun y hy=>?_))
   rcases List.mem_cons.1 hy with rfl|hy
   ·exact bq _ rfl
   ·obtain⟨c,hc,rfl⟩:=List.mem_map.1 hy
    exact aQ (k:=9) (bZ (hCw c hc)) (bZ (dC c hc))
  ·exact ed 2 (aQ (k:=11) (bZ hX) (bZ dX))
 have qc:=bG (t:=48) (b:=ax [v,a,E.what k C,El.mk 49 (ax [X])]) 20000 (by rw[aN,aN,bH];simp only[List.length_append];unfold E.what;omega) ab;have e:Ref.seq [v.2.2,a.2.2,(E.what k C).2.2,(El.mk 49 (ax [X])).2.2]=(E.bare [v,a,E.what k C,El.mk 49 (ax [X])]).2.2:=rfl;rw[e,l8 hL hD ag ag (by unfold E.bare;omega)];have hd:=ru (K:=[]) (S:=El.mk 49 (ax [X])) (v:=v) ha hk hkl hC hCw ab (fun y hy=>by cases hy);rw[show[v,a,E.what k C,El.mk 49 (ax [X])]=[v,a,E.what k C]++E.crt []++[El.mk 49 (ax [X])] from rfl,hd];refine congrArg _ (funext fun _=>congrArg _ (funext fun _=>?_));show((Zc.signers (El.mk 49 (ax [X]))).bind _)=_;rw[qC hX]
 cases Zc.signer X<;>rfl
def Zc.bs4 (n:Nat):List UInt8:=[UInt8.ofNat (n / 16777216),UInt8.ofNat (n / 65536),UInt8.ofNat (n / 256),UInt8.ofNat n]
theorem Bg {n:Nat} (h:n<4294967296):Der.be (Zc.bs4 n)=n:=by
 simp only[Der.be,Zc.bs4,List.foldl_cons,List.foldl_nil,UInt8.toNat_ofNat'];omega
def E.num (n:Nat):El:=El.mk 2 (Der.putInt (Zc.bs4 n))
theorem rM (n:Nat):(Der.putInt (Zc.bs4 n)).length≤5:=by
 have:=bW (Zc.bs4 n);have e:(Zc.bs4 n).length=4:=rfl;omega
theorem fM (n:Nat):El.wf (E.num n)∧(E.num n).2.2.length≤11:=by
 have:=rM n;exact⟨El.mk_wf aj ab,bG (t:=2) 5 this ab⟩
theorem rN {n:Nat} (h:n<4294967296):Zc.one (E.num n)=Zc.form (decide (n=1)):=by
 unfold Zc.one;refine congrArg Zc.form ?_;rw[Bool.eq_iff_iff,beq_iff_eq,decide_eq_true_iff]
 constructor
 ·intro e
  have e2:E.num n=El.mk 2 [1]:=BC (fM n).1 (El.mk_wf aj aj) (e.trans aj);have e3:Der.putInt (Zc.bs4 n)=[1]:=congrArg (fun x:El=>x.2.1) e2;have h1:=eA (Zc.bs4 n);rw[e3]at h1;have h2:Der.trim (Zc.bs4 n)=[1]:=(Option.some.inj (h1.symm.trans (by decide:Der.int [1]=some [1])))
  have h3:=mM (Zc.bs4 n);rw[h2,Bg h]at h3;exact h3.symm
 ·rintro rfl
  decide
theorem nN {α:Type} (b:Bool) (o:Except Nat α):((Zc.form b).bind fun _=>o)=if b then o else .error 9:=by cases b<;>rfl
theorem nx {n:Nat} (h:n<4294967296) {k:List UInt8} {C:List El} (x:LS) (hx:x.Fits) (hk:(Der.oid k).isSome=true) (hkl:k.length≤1000) (hC:C.length≤1) (hCw:∀y∈C,El.wf y) (hCl:(ax C).length≤2100) (dC:∀y∈C,Der.thr 9 y.1 y.2.1=0) :
 Zc.parse (Ref.seq [(E.num n).2.2,E.algs.2.2,(E.what k C).2.2,(El.mk 49 (ax [x.el])).2.2])=if n=1 then .ok ⟨k,ax C,[],[x.sr]⟩ else .error 9:=by
 have ha:E.algs.2.2.length=17:=ac
 rw[l9 (fM n).1 j9 i5 hk hkl hC hCw hCl (x.bounds hx).1 (by have:=(fM n).2;omega) ab (by have:=(x.bounds hx).2.2.2.2.2.2.1;omega) (bq _ rfl) ac dC (ed 7 (x.deep hx)),rN h,nN,fX,aG,x.read hx,aG];simp only[decide_eq_true_eq]
theorem nu {n:Nat} (h:n<4294967296) {k:List UInt8} {C:List El} (x:LS) (hx:x.Fits) (hk:(Der.oid k).isSome=true) (hkl:k.length≤1000) (hC:C.length≤1) (hCw:∀y∈C,El.wf y) (hCl:(ax C).length≤2100) (dC:∀y∈C,Der.thr 9 y.1 y.2.1=0) :
 Zc.parse (Ref.seq [E.cOne.2.2,E.algs.2.2,(E.what k C).2.2,(El.mk 49 (ax [x.elv (E.num n) E.sha])).2.2])=if n=1 then .ok ⟨k,ax C,[],[x.sr]⟩ else .error 9:=by
 have ha:E.algs.2.2.length=17:=ac
 have hs:E.sha.2.2.length=15:=ac
 have ho:E.cOne.2.2.length=3:=ac
 obtain⟨a1,a2,a3,a4⟩:=x.elv_all hx (fM n).1 hU (by have:=(fM n).2;omega) ab (bq _ rfl) ac;rw[l9 iK j9 i5 hk hkl hC hCw hCl a1 ab ab a2 (bq _ rfl) ac dC (ed 7 a3),kV,aG,fX,aG,a4,rN h,nN,fX,aG];simp only[decide_eq_true_eq]
 split<;>rfl
def xt (W:World) (e:Ending) (W':World):Prop:=e=.returned (.bool true)∧Below W.heap.size W W'
theorem XS.put {w:World} {lo g n c:Nat} {l:List (Value×List UInt8)} {v:Value} {xs:List UInt8} (h:XS w lo (.slice (some ⟨g,0,none⟩) n c) l) (i:Nat) (hv:aE w v xs) :
 XS (w.setCell ⟨g,i,none⟩ v) lo (.slice (some ⟨g,0,none⟩) n c) (l.set i (v,xs)):=by
 obtain⟨⟨h1,h2⟩,h3⟩:=h;obtain⟨h4,⟨e,_⟩|⟨g',cap,cur,e,hb,hg,hn,hm,hs,ht⟩⟩:=h1
 ·cases e
 injection e with e1 e2 e3
 injection e1 with e1
 injection e1 with e1
 subst e1 e3;have hB:aw w g 22 cur:=hg;have qg:=hB.lt;have qc:∀(g':Nat) (cs:Array Value) (fr:Nat×Nat),w.heap[g']? = some (Obj.cells cs 5 fr)→(w.setCell ⟨g,i,none⟩ v).heap[g']? = w.heap[g']?:=fun g' cs fr hg'=>
  Below.heap_setCell _ _ _ _ (fun e=>by
   have e:g'=g:=e;subst e;rw[hg]at hg';injection hg' with hg'
   injection hg' with _ ht2 _
   exact absurd ht2 aj)
 refine⟨⟨⟨ag,.inr ⟨g,c,cur.setIfInBounds i v,?_,hb,hB.set_ i v,?_,hm,by simpa using hs,?_⟩⟩,?_⟩,?_⟩
 ·simp only[List.length_set]
  rw[←e2]
 ·simp only[List.length_set]
  exact hn
 ·rw[Array.toList_setIfInBounds,List.length_set,Nat.mul_one,List.take_set]
  rw[Nat.mul_one]at ht;rw[ht,List.map_set]
 ·intro k hk
  have:=h2 k hk
  simpa using this
 ·intro p hp
  have qd:w.heap.size≤(w.setCell ⟨g,i,none⟩ v).heap.size:=ag
  rcases List.mem_or_eq_of_mem_set hp with hp|rfl
  ·exact(h3 p hp).keep qd qc
  ·exact hv.keep qd qc
theorem XS.spot14 {w:World} {lo n c:Nat} {A:Option Addr} {l:List (Value×List UInt8)} (h:XS w lo (.slice A n c) l) (hn:0<n):∃g,A=some ⟨g,0,none⟩∧lo≤g∧g<w.heap.size∧l.length=n∧
 ∀i,i<n→(∃v,w.cell? ⟨g,i,none⟩=some v)∧w.frozen? ⟨g,i,none⟩=false:=by
 obtain⟨⟨h1,h2⟩,h3⟩:=h;obtain⟨h4,⟨e,e0⟩|⟨g',cap,cur,e,hb,hg,hn',hm,hs,ht⟩⟩:=h1
 ·injection e with e1 e2 e3;omega
 injection e with e1 e2 e3
 subst e1 e2 e3;have hB:aw w g' 22 cur:=hg;refine⟨g',rfl,hb,hB.lt,rfl,fun i hi=>⟨⟨cur[i]' ab,?_⟩,hB.frozen i⟩⟩;rw[hB.cell i];exact Array.getElem?_eq_getElem _
theorem jB.told {b:List UInt8} {w w':World} {e:Ending} (h:jB b w e w'):Below w.heap.size w w'∧∃A0 n0 c0 A1 n1 c1 A2 n2 c2 A3 n3 c3,∃k:Nat,e=.returned (.tuple #[.agg #[.slice A0 n0 c0,.slice A1 n1 c1,.slice A2 n2 c2,.slice A3 n3 c3],.int .i64 (k:Int)])∧
 (∀j,Zc.parse b=.error j→k=j)∧(∀s,Zc.parse b=.ok s→k=0∧∃x:DI,s=x.sd∧gL w' w.heap.size w'.heap.size x∧x.val=.agg #[.slice A0 n0 c0,.slice A1 n1 c1,.slice A2 n2 c2,.slice A3 n3 c3]∧n2=x.cs.length∧n3=x.ss.length):=by
 obtain⟨hb,⟨k,hk,_,rfl⟩|⟨x,hx,rfl,ho⟩⟩:=h
 ·refine⟨hb,none,0,0,none,0,0,none,0,0,none,0,0,k,rfl,fun j hj=>Except.error.inj (hk.symm.trans hj),fun s hs=>?_⟩
  rw[hk]at hs
  cases hs
 ·have hY:=ho.rd
  obtain⟨B0,m0,d0,e0,_⟩:=id (hY.rows (x.vk,x.kind) (by simp[DI.rows]));obtain⟨B1,m1,d1,e1,_⟩:=id (hY.rows (x.vc,x.content) (by simp[DI.rows]));obtain⟨B2,d2,e2,_⟩:=id hY.cs;obtain⟨B3,d3,e3,_⟩:=id hY.ss;have hv:x.val=.agg #[.slice B0 m0 d0,.slice B1 m1 d1,.slice B2 x.cs.length d2,.slice B3 x.ss.length d3]:=by unfold DI.val;dsimp only at e0 e1;rw[e0,e1,e2,e3]
  refine⟨hb,B0,m0,d0,B1,m1,d1,B2,_,d2,B3,_,d3,0,by rw[hv];rfl,fun j hj=>?_,fun s hs=>⟨rfl,x,(Except.ok.inj (hx.symm.trans hs)).symm,ho,hv,rfl,rfl⟩⟩;rw[hx]at hj
  cases hj
def cN:OI:=⟨⟨[97],[],[],[],[],false⟩,.slice none 0 0,.slice none 0 0,.slice none 0 0,.slice none 0 0⟩
def gi:MK:=⟨[],[],0,[cN],false,false⟩
theorem et:cN.x.Fits:=⟨fun z hz=>(by cases hz)⟩
theorem oi:gi.Fits:=⟨fun z hz=>(by cases hz),fun y hy=>(by
 rw[List.mem_singleton.1 (show y∈[cN] from hy)];exact et)⟩
theorem AD {w:World} {q:Nat} (hq:aw w q 51 #[.string ⟨#[97]⟩,.slice none 0 0,.slice none 0 0,.slice none 0 0,.slice none 0 0,.bool false]) :
 su w gi (.slice none 0 0) (.slice none 0 0) (.slice (some ⟨q,0,none⟩) 1 1):=by
 refine⟨⟨none,0,0,rfl,iO w,ab⟩,⟨none,0,0,rfl,Rd.none_⟩,(by show 0<256;omega),⟨_,1,1,rfl,⟨⟨rfl,Nat.le_refl _,ab,fun _=>⟨q,0,rfl,hq.lt⟩,jT (l:=cN.cells) hq,fun p hp=>by simp at hp⟩,fun y hy=>?_,fun y hy=>?_⟩⟩⟩
 ·rw[List.mem_singleton.1 (show y∈[cN] from hy)]
  exact⟨⟨none,0,0,rfl,iO w,ab⟩,⟨none,0,0,rfl,Rd.none_⟩,⟨none,0,0,rfl,Rd.none_⟩,⟨none,0,0,rfl,Rd.none_⟩⟩
 ·rw[List.mem_singleton.1 (show y∈[cN] from hy)]
  show 1≤_;omega
theorem Bh {v:Nat} (hv:v<4294967296):(Zc.bs4 v).map bv=[.int .u8 ((v:Int) / 16777216),.int .u8 ((v:Int) / 65536 % 256),.int .u8 ((v:Int) / 256 % 256),.int .u8 ((v:Int) % 256)]:=by
 unfold Zc.bs4;simp only[List.map_cons,List.map_nil,bv,UInt8.toNat_ofNat']
 congr 1<;>first|(congr 1;omega)|skip
 all_goals (congr 1<;>first|(congr 1;omega)|skip)
 all_goals (congr 1<;>first|(congr 1;omega)|skip)
 all_goals (congr 1<;>first|(congr 1;omega)|skip)
def lk:List El:=[E.cOne,El.mk 48 (ax [E.nm (cN.x.iss.take 100),El.mk 2 cN.x.serB]),E.sha,E.rsaC,El.mk 4 cN.x.sigB]
theorem AE:∀y∈lk,El.wf y:=by
 have hb:=cN.x.bounds et;intro y hy;simp only[lk,List.mem_cons,List.not_mem_nil,or_false]at hy;rcases hy with rfl|rfl|rfl|rfl|rfl
 ·exact iK
 ·exact hb.2.2.2.1
 ·exact hU
 ·exact mX
 ·exact hb.2.2.2.2.2.1
theorem jr:(Der.oid (Zc.koid [])).isSome=true∧(Zc.koid []).length≤1000:=⟨(eQ [] (fun z hz=>by cases hz)).1,(eQ [] (fun z hz=>by cases hz)).2.2⟩
theorem sk:(gi.els.map (·.2.2)).flatten.length≤200:=ac
theorem jh:∀(l:List (List UInt8)) (i:Nat) (xs:List UInt8),((l.set i xs).flatten).length≤l.flatten.length+xs.length
 | [],i,xs=>by simp
 | y::l,0,xs=>by simp;omega
 | y::l,i+1,xs=>by
  have:=jh l i xs;simp only[List.set_cons_succ,List.flatten_cons,List.length_append];omega
set_option maxHeartbeats 8000000 in
theorem kW (w:World) (hG:dr w) (z:Int) (wz:(Lit.int .u32 z).wf=true) (outer:Bool) :
 Calls Tryz.prog 12 #[.int .u32 z,.bool outer] w (xt w):=by
 obtain⟨v,rfl,hv⟩:∃v:Nat,z=(v:Int)∧v<4294967296:=by
  have h1:IntKind.u32.min=0:=rfl;have h2:IntKind.u32.max=4294967295:=rfl;simp only[Lit.wf,Bool.and_eq_true,decide_eq_true_eq]at wz;exact⟨z.toNat,ab,ab⟩
 have j0:=Rd.lit w 5 (Zc.bs4 v) _ _ 4 rfl (Bh hv).symm rfl ab;obtain⟨w1,hw1⟩:∃V,V=w.alloc (.cells #[.int .u8 ((v:Int) / 16777216),.int .u8 ((v:Int) / 65536 % 256),.int .u8 ((v:Int) / 256 % 256),.int .u8 ((v:Int) % 256)] 5):=⟨_,rfl⟩
 have j8:Below w.heap.size w w1:=by rw[hw1];exact aB _ _
 have va:w1.heap.size=w.heap.size+1:=by rw[hw1];simp
 rw[←hw1]at j0;have H0:=hd3 hG j0 j8;clear hG j0 j8
 go_enter Tryz.func12,Tryz.ntmps12
 refine wp_seq_k fun K0 hK0=>?_
 have j5:=hd1 hK0;clear hK0
 go_wp2_with fail
 refine j5.out _ _ ?_;clear j5 K0;refine wp_seq_k fun K1 hK1=>?_
 have j6:=hd1 hK1;clear hK1
 go_wp2_with fail
 rw[←hw1];clear hw1;refine(fh _ 4 4 (Zc.bs4 v) _ H0.2.1 ab).mono ?_;rintro e w2 ⟨A2,n2,c2,rfl,ho2,hb2⟩;have ve:=hb2.size;have y3:=aM ho2;have z5:n2≤5:=by have:=rM v;omega
 have H2:=hd2 ho2.rdx (H0.2.2.trans (hb2.mono ab));clear ho2 hb2 y3
 go_wp2_with fail
 refine(cZ 2 A2 n2 c2 _ w2 H2.1 ab).mono ?_;rintro e w3 ⟨A3,n3,c3,rfl,ho3,hb3⟩;have vi:=hb3.size;have q0:=H2.2.trans (hb3.mono ab);obtain⟨w4,hw4⟩:∃V,V=w3.alloc (.cells #[.string ⟨#[97]⟩,.slice none 0 0,.slice none 0 0,.slice none 0 0,.slice none 0 0,.bool false] 51):=⟨_,rfl⟩
 have qs:Below w3.heap.size w3 w4:=by rw[hw4];exact aB _ _
 have vn:w4.heap.size=w3.heap.size+1:=by rw[hw4];simp
 have q6:=aw.new w3 51 #[.string ⟨#[97]⟩,.slice none 0 0,.slice none 0 0,.slice none 0 0,.slice none 0 0,.bool false];rw[←hw4]at q6;have H3:=hd3 ((aE.own ho3).below qs) (q0.trans (qs.mono ab)) (sD gi _ _ _ w4 (AD q6) oi nl_);clear ho3 hb3 q0 qs q6
 go_wp2_with fail
 refine j6.out _ _ ?_;clear j6 K1;refine wp_seq_k fun K2 hK2=>?_
 have j7:=hd1 hK2;clear hK2
 go_wp2_with fail
 rw[←hw4];clear hw4;refine H3.2.2.mono ?_;rintro e w5 ⟨vp,l,rfl,hx,hl,hb5⟩;have vo:=hb5.size;obtain⟨Ap,cp,rfl,_⟩:=id hx.rdl;have y6:l.length=4:=by have:=congrArg List.length hl;rw[List.length_map,List.length_map,(MK.els_one oi nl_).2.1]at this;exact this
 rw[y6]at hx ⊢;obtain⟨gp,rfl,hgp,hgl,_,hcell⟩:=hx.spot14 ab;have H5:=hd4 hx hl (H3.1.below hb5) (H3.2.1.trans (hb5.mono ab));clear hx hl hb5;obtain⟨⟨u0,k0⟩,f0⟩:=hcell 0 ab;obtain⟨⟨u3,k3⟩,f3⟩:=hcell 3 ab;clear hcell
 go_wp2_with fail
 refine j7.out _ _ ?_;clear j7 K2;refine wp_seq_k fun K3 hK3=>?_
 have y1:=hd1 hK3;clear hK3;have HT:∀(l':List (Value×List UInt8)) (R:List (List UInt8)) (lo:Nat) (w6:World) (u1 u2 u3 u4 u5 u7 u8 u9 u10 u11 u12 u13 u14 u15 u16 u17 u18 u19 u20 u21 u22 u23 u24 u25 u26 u27 u28 u29 u30 u31 u32 u33 u34 u35 u36 u37 u38 u39 u40 u41 u42 u43 u44 u45 u46 u47 u48 u49 u50 u51 u52 u53 u54 u55 u56 u57 u58 u59 u60 u61:Value),XS w6 lo (.slice (some ⟨gp,0,none⟩) 4 cp) l'→l'.map (·.2)=R→R.flatten.length≤100000→Below w.heap.size w w6→(∃s,Zc.parse (Ref.seq R)=if v=1 then .ok s else .error 9)→
  K3 {tmps:=((.int .u32 (v:Int))::u1::u2::u3::u4::u5::(.slice (some ⟨gp,0,none⟩) 4 cp)::u7::u8::u9::u10::u11::u12::u13::u14::u15::u16::u17::u18::u19::u20::u21::u22::u23::u24::u25::u26::u27::u28::u29::u30::u31::u32::u33::u34::u35::u36::u37::u38::u39::u40::u41::u42::u43::u44::u45::u46::u47::u48::u49::u50::u51::u52::u53::u54::u55::u56::u57::u58::u59::u60::u61::[]).toArray,defers:=[]} w6:=by
  intro l' R lo w6 u1 u2 u3 u4 u5 u7 u8 u9 u10 u11 u12 u13 u14 u15 u16 u17 u18 u19 u20 u21 u22 u23 u24 u25 u26 u27 u28 u29 u30 u31 u32 u33 u34 u35 u36 u37 u38 u39 u40 u41 u42 u43 u44 u45 u46 u47 u48 u49 u50 u51 u52 u53 u54 u55 u56 u57 u58 u59 u60 u61 hx hl hR hb hp;obtain⟨A',c',e',hrl⟩:=hx.rdl;injection e' with e1 e2 e3
  subst e1 e3;rw[←e2]at hrl;obtain⟨sd,hp⟩:=hp;have ys:=hb.size;have H6:=hd5 hrl hl hR hb hp;clear hx hl hR hb hp hrl e2;refine y1.out _ _ ?_
  go_wp2_with fail
  refine(bu (some ⟨gp,0,none⟩) 4 cp l' w6 H6.1 ab (by show((l'.map (·.2)).flatten).length≤_;rw[H6.2.1];have:=H6.2.2.1;omega)).mono ?_;rintro e w7 ⟨A7,n7,c7,rfl,ho7,hb7⟩;rw[H6.2.1]at ho7;have z0:=hb7.size;have qk:=H6.2.2.2.1.trans (hb7.mono ys);have H7:=hd3 ho7.rdx (H0.1.below qk) qk;clear ho7 hb7 qk
  go_wp2_with fail
  refine(gh A7 n7 c7 _ w7 H7.2.1 H7.1).mono ?_;intro e w8 hP;obtain⟨hb8,A0,n0,c0,A1,n1,c1,B2,m2,d2,B3,m3,d3,k,rfl,q1,q2⟩:=hP.told;rw[H6.2.2.2.2]at q1 q2;have yv:=hb8.size;have j1:w.heap.size≤w7.heap.size:=ab
  obtain⟨w9,hw9⟩:∃V,V=w8.alloc (.cells #[.slice A0 n0 c0,.slice A1 n1 c1,.slice B2 m2 d2,.slice B3 m3 d3] 28):=⟨_,rfl⟩
  have q3:Below w8.heap.size w8 w9:=by rw[hw9];exact aB _ _
  have qg:=H7.2.2.trans ((hb8.trans (q3.mono yv)).mono j1);have HR:=hd2 (H0.1.below qg) qg;have z1:=qg.size;clear hP hb8 q3 qg
  by_cases hv1:v=1
  ·rw[if_pos hv1]at q1 q2
   obtain rfl:k=0:=(q2 sd rfl).1;have z2:((v:Int)==1)=true:=by simp[hv1]
   clear q1 q2
   go_upto_region 9 with fail
   rw[←hw9];clear hw9
   go_wp2_with fail
   refine(kM w9 HR.1).mono ?_;rintro e wz ⟨rfl,hbz⟩;have HZ:=hd1 hbz;clear hbz
   go_wp2_with fail
   go_ret
   exact⟨rfl,HR.2.trans (HZ.out.mono ab)⟩
  ·rw[if_neg hv1]at q1 q2
   obtain rfl:k=9:=q1 9 rfl;have z2:((v:Int)==1)=false:=ai
   clear q1 q2
   go_upto_region 9 with fail
   rw[←hw9];clear hw9
   go_wp2_with fail
   refine(kM w9 HR.1).mono ?_;rintro e wz ⟨rfl,hbz⟩;have HZ:=hd1 hbz;clear hbz
   go_wp2_with fail
   go_ret
   exact⟨rfl,HR.2.trans (HZ.out.mono ab)⟩
 have hK:=gi.C_all;have qd:∀(i:Nat) (v:Value) (xs:List UInt8),(l.set i (v,xs)).map (·.2)=(gi.els.map (·.2.2)).set i xs:=fun i v xs=>by rw[List.map_set,H5.2.1]
 have hK:=gi.C_all;have qd:∀(i:Nat) (v:Value) (xs:List UInt8),(l.set i (v,xs)).map (·.2)=(gi.els.map (·.2.2)).set i xs:=fun i v xs=>by rw[List.map_set,H5.2.1]
 have hK:=gi.C_all;have qd:∀(i:Nat) (v:Value) (xs:List UInt8),(l.set i (v,xs)).map (·.2)=(gi.els.map (·.2.2)).set i xs:=fun i v xs=>by rw[List.map_set,H5.2.1]
 have hK:=gi.C_all;have qd:∀(i:Nat) (v:Value) (xs:List UInt8),(l.set i (v,xs)).map (·.2)=(gi.els.map (·.2.2)).set i xs:=fun i v xs=>by rw[List.map_set,H5.2.1]
 cases outer
 ·obtain⟨w6,hw6⟩:∃V,V=w5:=⟨_,rfl⟩
  rw[←hw6]at H5 k3 f3 hgl ⊢;have ys:w5.heap.size=w6.heap.size:=by rw[hw6]
  clear hw6 k0 f0;have yy:Calls Tryz.prog 28 #[.agg #[.string ⟨#[97]⟩,.slice none 0 0,.slice none 0 0,.slice none 0 0,.slice none 0 0,.bool false]] w6 (gJ cN.x w6):=iD cN.x _ _ _ _ w6 ⟨⟨none,0,0,rfl,iO w6,ab⟩,⟨none,0,0,rfl,Rd.none_⟩,⟨none,0,0,rfl,Rd.none_⟩,⟨none,0,0,rfl,Rd.none_⟩⟩ aj;have HS:=hd1 yy;clear yy
  go_wp2_with fail
  refine HS.out.mono ?_;rintro e w7 ⟨hb7,v0,v1,v2,v3,v4,v5,rfl,⟨B0,m0,d0,rfl,r0⟩,⟨B1,m1,d1,rfl,r1⟩,⟨B5,m5,d5,rfl,r5⟩,hat⟩;obtain⟨rfl,rfl,rfl⟩:=hat;have z0:=hb7.size;have l1:=r1.1.len;have l5:=r5.1.len;have c1:cN.x.serB.length=1:=ac
  have c2:cN.x.sigB.length=0:=ac
  have H7:=hd4 (And.intro r0 (And.intro r1 r5)) (H5.1.below (hb7.mono ab :Below w6.heap.size w6 w7)) (H5.2.2.1.below hb7) (H5.2.2.2.trans (hb7.mono ab));clear r0 r1 r5 hb7
  go_wp2_with fail
  refine(pZ B0 B1 none B5 m0 d0 m1 d1 0 0 m5 d5 _ _ cN.x.issB cN.x.serB [] cN.x.sigB w7 ⟨_,_,_,rfl,H7.1.1⟩ H7.1.2.1.1 Rd.none_ H7.1.2.2.1 ac ab ab ab).mono ?_;rintro e w8 ⟨A8,n8,c8,rfl,ho8,hb8⟩;have e8:Zc.one1 cN.x.issB cN.x.serB [] cN.x.sigB=cN.x.el.2.2:=cN.x.one et;rw[e8]at ho8;have yv:=hb8.size;have y4:=aM ho8;have z6:n8≤3200:=by have:=(cN.x.bounds et).2.2.2.2.2.2.1;omega
  have H8:=hd2 ho8.rdx hb8;clear ho8 hb8 y4
  go_wp2_with fail
  refine(kE A8 n8 c8 cN.x.el lk w8 H8.1 (cN.x.bounds et).1 rfl AE ab aj).mono ?_;rintro e w9 ⟨vy,ly,rfl,hy,hyl,hb9⟩;have z1:=hb9.size;obtain⟨Ay,cy,rfl,_⟩:=id hy.rdl;have z4:ly.length=5:=by have:=congrArg List.length hyl;rw[List.length_map,List.length_map]at this;exact this
  rw[z4]at hy ⊢;obtain⟨gy,rfl,hgy,hgl9,_,hcell⟩:=hy.spot14 ab;obtain⟨⟨y0,ky⟩,fy⟩:=hcell 0 ab;have qv:=H8.2.trans (hb9.mono ab);have H9:=hd4 hy hyl qv (H7.2.2.1.below qv);clear hy hyl hb9 hcell qv
  go_upto_region 7 with fail
  have q7:Below w7.heap.size w7 (w9.setCell ⟨gy,0,none⟩ (.slice A3 n3 c3)):=H9.2.2.1.setCell (by show w7.heap.size≤gy;omega) _;have q4:XS (w9.setCell ⟨gy,0,none⟩ (.slice A3 n3 c3)) w8.heap.size (.slice (some ⟨gy,0,none⟩) 5 cy) (ly.set 0 (.slice A3 n3 c3,(E.num v).2.2)):=H9.1.put 0 H9.2.2.2;have j3:(ly.set 0 (.slice A3 n3 c3,(E.num v).2.2)).map (·.2)=(lk.set 0 (E.num v)).map (·.2.2):=by rw[List.map_set,H9.2.1,List.map_set]
  obtain⟨lz,hlz⟩:∃V,V=ly.set 0 (.slice A3 n3 c3,(E.num v).2.2):=⟨_,rfl⟩
  rw[←hlz]at q4 j3;clear hlz;obtain⟨w10,hw10⟩:∃V,V=w9.setCell ⟨gy,0,none⟩ (.slice A3 n3 c3):=⟨_,rfl⟩
  rw[←hw10]at q7 q4 ⊢;have zn:w10.heap.size=w9.heap.size:=by rw[hw10];simp
  clear hw10 ky fy;obtain⟨Az,cz,ez,hrz⟩:=q4.rdl;injection ez with e1 e2 e3
  subst e1 e3;rw[←e2]at hrz;have y5:Ref.seq ((lk.set 0 (E.num v)).map (·.2.2))=(cN.x.elv (E.num v) E.sha).2.2:=rfl;have yh:=cN.x.elv_all et (fM v).1 hU (by have:=(fM v).2;omega) ac (bq _ rfl) ac;have yd:((lk.set 0 (E.num v)).map (·.2.2)).flatten.length≤1000:=by
   rw[List.map_set];have h1:(lk.map (·.2.2)).flatten.length≤100:=ac
   exact Nat.le_trans (jh _ _ _) (by have:=(fM v).2;omega)
  have qh:=hd5 hrz j3 q7 yh.2.1 yd;clear q7 q4 hrz j3 e2 yh yd
  go_wp2_with fail
  refine(bu (some ⟨gy,0,none⟩) 5 cy lz w10 qh.1 ab (by show((lz.map (·.2)).flatten).length≤_;rw[qh.2.1];have:=qh.2.2.2.2;omega)).mono ?_;rintro e w11 ⟨A11,n11,c11,rfl,ho11,hb11⟩;rw[qh.2.1,y5]at ho11;have zs:=hb11.size;have q9:=aM ho11;have y7:n11≤8000:=by have:=qh.2.2.2.1;omega
  have j4:=hd2 ho11.rdx (qh.2.2.1.trans (hb11.mono ab));clear ho11 hb11 q9
  go_wp2_with fail
  refine(cZ 49 A11 n11 c11 _ w11 j4.1 ab).mono ?_;rintro e w12 ⟨A12,n12,c12,rfl,ho12,hb12⟩;have zz:=hb12.size;have y2:=aM ho12;have qc:=j4.2.trans (hb12.mono ab);have j2:=H7.2.1.below qc;have q5:=hd3 (aE.own ho12) j2 (H7.2.2.2.trans (qc.mono ab));obtain⟨gp',ep',hgp1,hgp2,_,hcell⟩:=j2.spot14 ab;injection ep' with ep'
  injection ep' with ep'
  subst ep';obtain⟨⟨z3,kz⟩,fz⟩:=hcell 3 ab;clear ho12 hb12 qc j2 hcell k3 f3
  go_wp2_with fail
  have hq:(El.mk 49 (ax [cN.x.elv (E.num v) E.sha])).2.2=Der.write 49 (cN.x.elv (E.num v) E.sha).2.2:=by rw[aR,aX]
  have z7:=bG (t:=49) (b:=ax [cN.x.elv (E.num v) E.sha]) 8000 (by rw[aX];exact qh.2.2.2.1) ab;exact HT (l.set 3 (.slice A12 n12 c12,(El.mk 49 (ax [cN.x.elv (E.num v) E.sha])).2.2)) _ w4.heap.size _ _ _ _ _ _ _ _ _ _ _ _ _ _ _ _ _ _ _ _ _ _ _ _ _ _ _ _ _ _ _ _ _ _ _ _ _ _ _ _ _ _ _ _ _ _ _ _ _ _ _ _ _ _ _ _ _ _ _ _ _ (q5.2.1.put 3 (by rw[hq];exact q5.1)) (qd _ _ _) (Nat.le_trans (jh _ _ _) (by have:=sk;omega)) (q5.2.2.setCell (by show w.heap.size≤gp;have:=hgp;have:=H3.2.1.size;omega) _) ⟨_,nu hv cN.x et jr.1 jr.2 hK.1 hK.2.1 (by have:=hK.2.2.2.2;omega) hK.2.2.1⟩
 ·go_wp2_with fail
  exact HT (l.set 0 (.slice A3 n3 c3,(E.num v).2.2)) _ w4.heap.size _ _ _ _ _ _ _ _ _ _ _ _ _ _ _ _ _ _ _ _ _ _ _ _ _ _ _ _ _ _ _ _ _ _ _ _ _ _ _ _ _ _ _ _ _ _ _ _ _ _ _ _ _ _ _ _ _ _ _ _ _ (H5.1.put 0 H5.2.2.1) (qd _ _ _) (Nat.le_trans (jh _ _ _) (by have:=sk;have:=(fM v).2;omega)) (H5.2.2.2.setCell ai _) ⟨_,nx hv cN.x et jr.1 jr.2 hK.1 hK.2.1 (by have:=hK.2.2.2.2;omega) hK.2.2.1⟩
section
open Go.RowKit Go.ChangeShapes Go.WideShapes
theorem vu:Tryz.prog.cellsOf 65=1:=by kernel_rfl
theorem iR {W:World} {n:String} {g len fuel:Nat} {T:TypeId} {zs:List Nat} {cs:Array Value} {p:List MemPlace} (hg:Tryz.prog.globalNamed n=some g) (hv:W.var? Tryz.prog n=some cs) (hu:Tryz.prog.underlying T=some (.array len 65))
 (hd:DataW.trod (fun _=>()) Tryz.prog W 0 (fun _=>true) false fuel T cs.toList=some (.agg (zs.map fun(z:Nat)=>DataW.lit (.int .u64 (z:Int))),p)):∀i z,zs[i]? = some z→W.cell? ⟨g,i,none⟩=some (uv z):=by
 obtain⟨xs,m,rfl,hx,hlen,hn,hel⟩:=DataW.trod_array hu hd;simp only[Prod.mk.injEq,DataW.agg.injEq]at hx;intro i z hi;have h1:(xs.map (·.1))[i]? = some (.lit (.int .u64 (z:Int))):=by rw[←hx.1,List.getElem?_map,hi];rfl
 rw[List.getElem?_map,Option.map_eq_some_iff]at h1;obtain⟨x,hxi,hx1⟩:=h1;have qc:i<len:=by rw[←hn];exact(List.getElem?_eq_some_iff.1 hxi).1
 have h2:=hel i qc;rw[hxi,vu,Nat.mul_one]at h2;obtain⟨k,e1,e2,_⟩:=DataW.trod_int Tryz.underlying65 h2;rw[e2]at hx1;have hk:k=(z:Int):=by simpa using hx1
 subst hk;rw[World.var?_cell hg hv,←Array.getElem?_toList];have h3:((cs.toList.drop i).take 1)[0]? = some (.int .u64 (z:Int)):=by rw[e1];rfl
 rw[List.getElem?_take,List.getElem?_drop]at h3
 simpa [uv]using h3
theorem Bm {W:World} {laid:List (String×DataW Unit)} (he:laid=Rows.cmsDigestRow.laid) (h:laidMet Tryz.prog laid W):dr W:=by
 subst he;obtain⟨ps,⟨g0,t0,c0,f0,p0,q0,hg0,ht0,hv0,hd0,⟨g1,t1,c1,f1,p1,q1,hg1,ht1,hv1,hq_1,⟨g2,t2,c2,f2,p2,q2,hg2,ht2,hv2,hq_2,⟨g3,t3,c3,f3,p3,q3,hg3,ht3,hv3,hq_3,⟨g4,t4,c4,f4,p4,q4,hg4,ht4,hv4,hq_4,⟨g5,t5,c5,f5,p5,q5,hg5,ht5,hv5,hq_5,_,_⟩,_⟩,_⟩,_⟩,_⟩,_⟩,_,_⟩:=h
 obtain rfl:=Option.some.inj ((show Tryz.prog.globalNamed "lintel/cms.hashes" = some 2 by kernel_rfl).symm.trans hg0)
 obtain rfl:=Option.some.inj ((show Tryz.prog.globalNamed "lintel/cms.ciphers" = some 5 by kernel_rfl).symm.trans hg1)
 obtain rfl:=Option.some.inj ((show Tryz.prog.globalNamed "lintel/cms.wrapped" = some 0 by kernel_rfl).symm.trans hg2)
 obtain rfl:=Option.some.inj ((show Tryz.prog.globalNamed "lintel/cms.kinds" = some 3 by kernel_rfl).symm.trans hg3)
 obtain rfl:=Option.some.inj ((show Tryz.prog.globalNamed "lintel/cms.digests" = some 4 by kernel_rfl).symm.trans hg4)
 obtain rfl:=Option.some.inj ((show Tryz.prog.globalNamed "lintel/cms.peImages" = some 1 by kernel_rfl).symm.trans hg5)
 obtain rfl:=Option.some.inj ((show(Tryz.prog.globals[2]?).map (·.type)=some 136 by kernel_rfl).symm.trans ht0);obtain rfl:=Option.some.inj ((show(Tryz.prog.globals[5]?).map (·.type)=some 100 by kernel_rfl).symm.trans ht1);obtain rfl:=Option.some.inj ((show(Tryz.prog.globals[0]?).map (·.type)=some 100 by kernel_rfl).symm.trans ht2);obtain rfl:=Option.some.inj ((show(Tryz.prog.globals[3]?).map (·.type)=some 100 by kernel_rfl).symm.trans ht3);obtain rfl:=Option.some.inj ((show(Tryz.prog.globals[4]?).map (·.type)=some 100 by kernel_rfl).symm.trans ht4);obtain rfl:=Option.some.inj ((show(Tryz.prog.globals[1]?).map (·.type)=some 106 by kernel_rfl).symm.trans ht5);have k0:=iR (zs:=[2,16,840,1,101,3,4,2,1]) hg0 hv0 Tryz.underlying136 hd0;have k1:=iR (zs:=[1,2,840,113549,1,1,1]) hg1 hv1 Tryz.underlying100 hq_1;have k2:=iR (zs:=[1,2,840,113549,1,7,2]) hg2 hv2 Tryz.underlying100 hq_2;have k3:=iR (zs:=[1,2,840,113549,1,9,3]) hg3 hv3 Tryz.underlying100 hq_3;have k4:=iR (zs:=[1,2,840,113549,1,9,4]) hg4 hv4 Tryz.underlying100 hq_4;have k5:=iR (zs:=[1,3,6,1,4,1,311,2,1,15]) hg5 hv5 Tryz.underlying106 hq_5;refine⟨?_,fun p hp=>?_⟩
 ·have big:∀g v,W.cell? ⟨g,0,none⟩=some v→g<W.heap.size:=fun g v h=>by
   unfold World.cell? at h
   split at h
   ·rename_i hb;exact(Array.getElem?_eq_some_iff.1 hb).1
   ·cases h
  have b0:=big _ _ (k0 0 _ rfl);have b1:=big _ _ (k1 0 _ rfl);have b2:=big _ _ (k2 0 _ rfl);have b3:=big _ _ (k3 0 _ rfl);have b4:=big _ _ (k4 0 _ rfl);have b5:=big _ _ (k5 0 _ rfl);omega
 ·unfold Zc.table at hp
  simp only[List.mem_cons,List.not_mem_nil,or_false]at hp;rcases hp with rfl|rfl|rfl|rfl|rfl|rfl
  ·exact k0
  ·exact k1
  ·exact k2
  ·exact k3
  ·exact k4
  ·exact k5
end
section
open Go.ChangeShapes Go.WideShapes Go.ChangeAt Go.RowKit
end
end Go.Proofs.YtmpkpphfoidbeaaGreatDoor
