import Derived.Test.YtmpkpphfoidbeaaGreatDoorV15
set_option linter.unusedVariables false
set_option linter.unusedSimpArgs false
namespace Go.Proofs.YtmpkpphfoidbeaaGreatDoor
open Go.RowKit
section
section
namespace Der
end Der
end
section
set_option maxRecDepth 100000
def El.mk (t:UInt8) (b:List UInt8):El:=(t,b,Der.write t b)
theorem El.mk_wf {t:UInt8} {b:List UInt8} (ht:t.toNat % 32≠31) (hb:b.length<4294967296):El.wf (El.mk t b):=⟨rfl,ht,hb⟩
def ax (L:List El):List UInt8:=(L.map (·.2.2)).flatten
theorem bP:ax []=[]:=rfl
theorem aN (x:El) (L:List El):ax (x::L)=x.2.2++ax L:=rfl
theorem fC {x:El} (h:El.wf x) (more:List UInt8):Der.elem (x.2.2++more)=some (x.1,x.2.1,x.2.2,more):=by
 rw[h.1,Der.elem_write _ _ _ h.2.2,if_neg h.2.1]
theorem mB {x:El} (h:El.wf x):0<x.2.2.length:=by
 rw[h.1];simp[Der.write]
theorem rX:∀(L:List El) (k:Nat),(∀y∈L,El.wf y)→(ax L).length≤k→Der.seqF k (ax L)=L.map some
 | [],k,_,_=>by cases k<;>simp[Der.seqF,bP]
 | x::L,k,h,hk=>by
  have hx:=h x ag;have hp:=mB hx;rw[aN]at hk ⊢;rw[List.length_append]at hk;obtain⟨k,rfl⟩:∃m,k=m+1:=⟨k - 1,ab⟩
  rw[Der.seqF,if_neg (by intro e;have:=congrArg List.length e;simp at this;rw[this.1]at hp;simp at hp),fC hx];simp only[List.map_cons];rw[rX L k (fun y hy=>h y (by simp[hy])) ab]
theorem jX {L:List El} (h:∀y∈L,El.wf y):Der.seq (ax L)=L.map some:=rX L _ h nl_
theorem AX {L:List El} (h:∀y∈L,El.wf y):Der.all (ax L)=some L:=i6 (jX h)
theorem fx {u:Int} {x:El} (h:(x.1.toNat:Int)=u):Cert.body u x=some x.2.1:=by
 unfold Cert.body;rw[bI (by simpa using h)]
 rfl
theorem dN {u lo hi:Int} {x:El} {L:List El} (ht:(x.1.toNat:Int)=u) (hb:x.2.1=ax L) (hw:∀y∈L,El.wf y) (h1:lo≤(L.length:Int)) (h2:(L.length:Int)≤hi):Cert.parts u lo hi x=some L:=by
 unfold Cert.parts;rw[fx ht,hb];simp only[Option.bind_some];rw[AX hw];simp only[Option.bind_some];rw[bI (by simp[h1,h2])]
 rfl
theorem iM {x:El} (h:El.wf x):Cert.only x.2.2=some x:=by
 unfold Cert.only;have:=fC h [];rw[List.append_nil]at this;rw[this];simp
theorem qn (k:Nat) (t:UInt8) (b:List UInt8) (h:t.toNat / 32 % 2=0):Der.thr k t b=0:=by
 cases k<;>simp[Der.thr,Der.leaf,h]
theorem aQ {k:Nat} {t:UInt8} {L:List El} (hw:∀y∈L,El.wf y) (h:∀y∈L,Der.thr k y.1 y.2.1=0):Der.thr (k+1) t (ax L)=0:=by
 rw[Der.thr,jX hw]
 split
 ·rfl
 ·rw[if_neg (by simp[List.any_map,Function.comp_def])]
  have key:∀(L:List El),(∀y∈L,Der.thr k y.1 y.2.1=0)→Der.firstBad (Der.thr k) (L.map some)=0:=by
   intro L
   induction L with
   | nil=>intro _;rfl
   | cons x L ih=>
    intro h;obtain⟨t,b,r⟩:=x;have h0:Der.thr k t b=0:=h (t,b,r) ag;rw[List.map_cons,Der.firstBad,if_pos h0];exact ih fun y hy=>h y (by simp[hy])
  exact key L h
theorem kA {f g:UInt8→List UInt8→Nat} (h:∀t b,f t b=0→g t b=0):∀(l:List (Option (UInt8×List UInt8×List UInt8))),Der.firstBad f l=0→Der.firstBad g l=0
 | [],_=>rfl
 | none::_,h'=>by simp[Der.firstBad]at h'
 | some (t,b,r)::l,h'=>by
  by_cases e:f t b=0
  ·rw[Der.firstBad,if_pos e]at h'
   rw[Der.firstBad,if_pos (h t b e)];exact kA h l h'
  ·rw[Der.firstBad,if_neg e]at h'
   exact absurd h' e
theorem wN:∀(k:Nat) (t:UInt8) (b:List UInt8),Der.thr k t b=0→Der.thr (k+1) t b=0
 | 0,t,b,h=>by
  unfold Der.thr at h ⊢
  by_cases e:Der.leaf t b=true
  ·rw[if_pos e]
  ·rw[if_neg e]at h;cases h
 | k+1,t,b,h=>by
  unfold Der.thr at h ⊢
  by_cases e:Der.leaf t b=true
  ·rw[if_pos e]
  ·rw[if_neg e]at h ⊢
   split
   ·rename_i h9;rw[if_pos h9]at h;cases h
   ·rename_i h9;rw[if_neg h9]at h;exact kA (wN k) _ h
theorem ed {k:Nat} (j:Nat) {t:UInt8} {b:List UInt8} (h:Der.thr k t b=0):Der.thr (k+j) t b=0:=by
 induction j with
 | zero=>exact h
 | succ j ih=>exact wN _ _ _ ih
theorem jd {x:El} (h:El.wf x):Der.check x.2.2=Der.thr 15 x.1 x.2.1:=by
 unfold Der.check;have:=fC h [];rw[List.append_nil]at this;rw[this];simp
theorem qu (g:List UInt8):Cert.whole (El.mk 3 (0::g))=some g:=by
 unfold Cert.whole;rw[fx aq];have:Der.bits (0::g)=some (g,0):=by
  simp only[Der.bits];rw[if_neg ag,if_pos ai]
  rfl
 simp only[Option.bind_some,El.mk];rw[this];simp only[Option.bind_some];rw[show Cert.must ((0:Nat)==0)=some () from rfl]
 rfl
theorem jQ {b m:List UInt8} (h:Der.int b=some m):Cert.number (El.mk 2 b)=some m:=by
 unfold Cert.number;rw[fx aq];exact h
theorem zf (xs:List UInt8):Der.be (0::xs)=Der.be xs:=by simp[Der.be]
theorem mM:∀xs:List UInt8,Der.be (Der.trim xs)=Der.be xs
 | []=>rfl
 | x::xs=>by
  by_cases h:x=0
  ·subst h
   rw[gx,zf,mM xs]
  ·rw[eq xs h]
theorem ql {lim:Int} (xs:List UInt8) (h:(Der.be xs:Int)<lim):Cert.small lim (El.mk 2 (Der.putInt xs))=some (Der.be xs):=by
 unfold Cert.small;rw[jQ (eA xs)];simp only[Option.bind_some,mM];rw[bI (by simpa using h)]
 rfl
theorem rA (e:Nat) (h:e<8589934592):Der.be (Ref.five e)=e:=by
 simp only[Der.be,Ref.five,List.foldl_cons,List.foldl_nil,UInt8.toNat_ofNat'];omega
theorem wi {x:El} (h:x.1=24):Cert.moment x=Stamp.told 4 id x.2.1:=by
 unfold Cert.moment;rw[h,if_neg aj,if_pos aj]
theorem lM {t:Tm} (h:Stamp.right t=true):Cert.moment (El.mk 24 ((Ref.nums t).flatMap Ref.two++[90]))=some t:=by
 have hf:=tZ h;have hr:=h;unfold Stamp.right at hr;simp only[Bool.and_eq_true,decide_eq_true_eq]at hr;obtain⟨⟨⟨⟨⟨⟨h1,h2⟩,h3⟩,h4⟩,h5⟩,h6⟩,h7⟩:=hr;obtain⟨y,mo,d,hh,mi,s⟩:=t;obtain⟨_,b1,b2,b3,b4,b5⟩:=hf;have hd:=yA h;dsimp only at h1 h2 h3 h4 h5 h6 h7 b1 b2 b3 b4 b5 hd;rw[wi rfl];show Stamp.told 4 id ((Ref.nums ⟨y,mo,d,hh,mi,s⟩).flatMap Ref.two++[90])=_;have qc:Stamp.tm 4 id ((Ref.nums ⟨y,mo,d,hh,mi,s⟩).flatMap Ref.two++[90])=⟨y,mo,d,hh,mi,s⟩:=by
  simp only[Stamp.tm,Ref.nums,Ref.two,List.flatMap_cons,List.flatMap_nil,List.append_nil,List.cons_append,List.nil_append,Stamp.at2,Stamp.dig,List.drop_zero,List.drop_succ_cons,List.take_succ_cons,List.take_zero,List.foldl_cons,List.foldl_nil,UInt8.toNat_ofNat',id];simp only[Tm.mk.injEq];omega
 unfold Stamp.told;rw[if_pos]
 ·rw[qc]
 ·refine⟨rfl,rfl,?_,by rw[qc];exact h⟩
  have qd:∀a:Nat,((Ref.two a).any bR)=false:=by
   intro a;simp only[Ref.two,List.any_cons,List.any_nil,Bool.or_false,bR,UInt8.toNat_ofNat',Bool.or_eq_false_iff,decide_eq_false_iff_not];omega
  have hl:((Ref.nums ⟨y,mo,d,hh,mi,s⟩).flatMap Ref.two).length=4+10:=rfl;rw[List.take_left' hl];simp only[Ref.nums,List.flatMap_cons,List.flatMap_nil,List.any_append,qd,List.any_nil,Bool.or_false]
end
section
set_option maxRecDepth 100000
theorem cD (t:UInt8) (b:List UInt8):b.length≤(Der.write t b).length:=by simp[Der.write];omega
theorem fs {y:El}:∀{L:List El},y∈L→y.2.2.length≤(ax L).length
 | x::L,h=>by
  rw[aN,List.length_append];rcases List.mem_cons.1 h with rfl|h
  ·omega
  ·have:=fs h
   omega
theorem cR {t:UInt8} {b:List UInt8} (ht:t.toNat % 32≠31) {L:List El} (hm:El.mk t b∈L) (hL:(ax L).length<4294967296):El.wf (El.mk t b):=
 El.mk_wf ht (by
  have h1:=fs hm;have h2:=cD t b;simp only[El.mk]at h1;omega)
theorem Bv {f:Fl} {x v0 E0 E1 E2 E3 E4 E5 E6 t0 t1:El} {M:List El} {m:List UInt8} {a b:Tm} {k:List UInt8×Nat}
 (h0:Cert.parts 160 1 1 E0=some [v0]) (hv:v0.2.2=[2,1,2]) (h1:Cert.number E1=some m) (hm:0<m.length) (hs:E1.2.1.length≤20) (h2:Cert.method 11 E2=some ()) (h3:(E3.1.toNat:Int)=48)
 (h4:Cert.parts 48 2 2 E4=some [t0,t1]) (h5:(E5.1.toNat:Int)=48) (ha:Cert.moment t0=some a) (hb:Cert.moment t1=some b) (hle:Stamp.less b a=false) (hk:Cert.key E6=some k)
 (hp:Cert.parts 48 7 8 x=some (E0::E1::E2::E3::E4::E5::E6::M)) :
 Cert.signed f x=Cert.told8 ⟨x.2.2,E3.2.2,E5.2.2,E1.2.1,a,b,k.1,k.2,f⟩ (E0::E1::E2::E3::E4::E5::E6::M):=by
 have m1:Cert.must (v0.2.2==[2,1,2])=some ():=bI (by rw[hv];rfl);have m2:Cert.must (decide (0<m.length)&&decide (E1.2.1.length≤20))=some ():=bI (by simp[hm,hs]);have m3:Cert.must (!Stamp.less b a)=some ():=bI (by rw[hle];rfl);unfold Cert.signed;rw[hp];simp only[Option.bind_some,Sg.a,Sg.b,Sg.c,Sg.d,Sg.e_,Sg.f,Sg.g,Sg.h,Sg.i,Sg.j,List.getD_cons_zero,List.getD_cons_succ];simp only[h0,Option.bind_some,List.getD_cons_zero,List.getD_cons_succ,m1,h1,m2,h2,fx h3,fx h5,h4,ha,hb,m3,hk]
def E.version:El:=El.mk 160 [2,1,2]
theorem oQ:Cert.parts 160 1 1 E.version=some [El.mk 2 [2]]:=ac
theorem qU:E.version.2.2=Ref.version:=ac
def E.alg:El:=El.mk 48 [6,9,42,134,72,134,247,13,1,1,11,5,0]
theorem lF:Cert.method 11 E.alg=some ():=ac
theorem rm:E.alg.2.2=Ref.signAlg:=ac
def E.keyAlg:El:=El.mk 48 [6,9,42,134,72,134,247,13,1,1,1,5,0]
theorem oE:Cert.method 1 E.keyAlg=some ():=ac
theorem tu:E.keyAlg.2.2=Ref.keyAlg:=ac
def E.moment (t:Tm):El:=El.mk 24 ((Ref.nums t).flatMap Ref.two++[90])
def E.validity (a b:Tm):El:=El.mk 48 (ax [E.moment a,E.moment b])
theorem nR (t:Tm):El.wf (E.moment t):=El.mk_wf aj (by simp[Ref.nums,Ref.two])
theorem np (a b:Tm):Cert.parts 48 2 2 (E.validity a b)=some [E.moment a,E.moment b]:=
 dN aq rfl (fun y hy=>by
  simp only[List.mem_cons,List.not_mem_nil,or_false]at hy;rcases hy with rfl|rfl<;>exact nR _) ag ag
def E.rsa (nn:List UInt8) (e:Nat):El:=El.mk 48 (ax [El.mk 2 (Der.putInt nn),El.mk 2 (Der.putInt (Ref.five e))])
def E.key (nn:List UInt8) (e:Nat):El:=El.mk 48 (ax [E.keyAlg,El.mk 3 (0::(E.rsa nn e).2.2)])
theorem zE (nn:List UInt8) (e:Nat):(E.key nn e).2.2=Ref.key nn e:=by
 simp only[E.key,El.mk,Ref.key,Ref.seq,ax,List.map_cons,List.map_nil,←tu]
 rfl
theorem Bo (nn:List UInt8) (e:Nat) (he:e<8589934592) (hl:(E.key nn e).2.2.length<4294967296):Cert.key (E.key nn e)=some (Der.trim nn,e)∧El.wf (E.key nn e):=by
 have g1:=cD 48 (ax [E.keyAlg,El.mk 3 (0::(E.rsa nn e).2.2)]);have qd:(ax [E.keyAlg,El.mk 3 (0::(E.rsa nn e).2.2)]).length<4294967296:=by
  simp only[E.key,El.mk]at hl g1 ⊢;omega
 have w1:El.wf E.keyAlg:=El.mk_wf aj aj;have w2:El.wf (El.mk 3 (0::(E.rsa nn e).2.2)):=cR aj (L:=[E.keyAlg,El.mk 3 (0::(E.rsa nn e).2.2)]) ag qd;have hr:(E.rsa nn e).2.2.length<4294967296:=by
  have:=w2.2.2;simp only[El.mk,List.length_cons]at this;omega
 have qc:(ax [El.mk 2 (Der.putInt nn),El.mk 2 (Der.putInt (Ref.five e))]).length<4294967296:=by
  have g2:=cD 48 (ax [El.mk 2 (Der.putInt nn),El.mk 2 (Der.putInt (Ref.five e))]);simp only[E.rsa,El.mk]at hr g2 ⊢;omega
 have w3:El.wf (E.rsa nn e):=El.mk_wf aj qc;have w4:∀y∈[El.mk 2 (Der.putInt nn),El.mk 2 (Der.putInt (Ref.five e))],El.wf y:=fun y hy=>by
  have qg:=hy;simp only[List.mem_cons,List.not_mem_nil,or_false]at qg;rcases qg with rfl|rfl
  ·exact cR aj hy qc
  ·exact cR aj hy qc
 refine⟨?_,El.mk_wf aj qd⟩;unfold Cert.key;rw[dN (L:=[E.keyAlg,El.mk 3 (0::(E.rsa nn e).2.2)]) aq rfl (fun y hy=>by
  simp only[List.mem_cons,List.not_mem_nil,or_false]at hy;rcases hy with rfl|rfl
  ·exact w1
  ·exact w2) ag ag]
 simp only[Option.bind_some,List.getD_cons_zero,List.getD_cons_succ];rw[oE];simp only[Option.bind_some];rw[qu];simp only[Option.bind_some];rw[iM w3];simp only[Option.bind_some];rw[dN (x:=E.rsa nn e) (L:=[El.mk 2 (Der.putInt nn),El.mk 2 (Der.putInt (Ref.five e))]) aq rfl w4 ag ag];simp only[Option.bind_some,List.getD_cons_zero,List.getD_cons_succ];rw[jQ (eA nn)];simp only[Option.bind_some];rw[ql _ (by rw[rA e he];omega),rA e he]
 rfl
def E.ext (nm body:List UInt8):El:=El.mk 48 (ax [El.mk 6 nm,El.mk 4 body])
theorem zq (nm body:List UInt8):(E.ext nm body).2.2=Ref.ext nm body:=rfl
theorem pj {f:Fl} {nm body:List UInt8} {o:List Nat} (ho:Der.oid nm=some o) (hl:(E.ext nm body).2.2.length<4294967296) :
 Cert.extension f (E.ext nm body)=((Cert.told f o [El.mk 6 nm,El.mk 4 body] 1).bind fun g=>some (g,nm))∧El.wf (E.ext nm body)∧∀y∈[El.mk 6 nm,El.mk 4 body],El.wf y:=by
 have g2:=cD 48 (ax [El.mk 6 nm,El.mk 4 body]);have qc:(ax [El.mk 6 nm,El.mk 4 body]).length<4294967296:=by
  simp only[E.ext,El.mk]at hl g2 ⊢;omega
 have w4:∀y∈[El.mk 6 nm,El.mk 4 body],El.wf y:=fun y hy=>by
  have qd:=hy;simp only[List.mem_cons,List.not_mem_nil,or_false]at qd;rcases qd with rfl|rfl
  ·exact cR aj hy qc
  ·exact cR aj hy qc
 refine⟨?_,El.mk_wf aj qc,w4⟩;unfold Cert.extension;rw[dN (L:=[El.mk 6 nm,El.mk 4 body]) aq rfl w4 ag ag];simp only[Option.bind_some,List.getD_cons_zero];have ha:Cert.arcs (El.mk 6 nm)=some o:=by
  unfold Cert.arcs;rw[fx aq];exact ho
 rw[ha];simp only[Option.bind_some,List.length_cons,List.length_nil];rw[show(0+1+1 - 1:Nat)=1 from rfl];have qg:Cert.lastOk [El.mk 6 nm,El.mk 4 body] 1=true:=by
  unfold Cert.lastOk;simp[El.mk]
 rw[qg,bI rfl]
 rfl
def E.yes:El:=El.mk 1 [255]
theorem sq:Cert.yes E.yes=true:=ac
def E.path (p:Int):List El:=if 0≤p then[El.mk 2 (Der.putInt [UInt8.ofNat p.toNat])] else []
def E.basic (p:Int):El:=El.mk 48 (ax (E.yes::E.path p))
theorem uU (p:Int):(E.basic p).2.2=Ref.seq ([1,1,255]::Ref.path p):=by
 unfold E.basic Ref.seq E.path Ref.path
 split<;>rfl
theorem mg (x:UInt8):(Der.putInt [x]).length≤2:=by
 have:=bW [x]
 simpa using this
theorem pf (p:Int):El.wf (E.basic p)∧∀y∈E.yes::E.path p,El.wf y:=by
 have hp:∀y∈E.path p,El.wf y∧y.2.2.length≤10:=fun y hy=>by
  unfold E.path at hy
  split at hy
  ·simp only[List.mem_cons,List.not_mem_nil,or_false]at hy
   subst hy;have h1:=mg (UInt8.ofNat p.toNat);refine⟨El.mk_wf aj ab,?_⟩;simp only[El.mk,Der.write_len];have:=Der.lenB_len (Der.putInt [UInt8.ofNat p.toNat]).length ab;omega
  ·simp at hy
 have hl:(ax (E.yes::E.path p)).length≤20:=by
  rw[aN,List.length_append];have h1:E.yes.2.2.length=3:=ac
  have h2:(ax (E.path p)).length≤10:=by
   by_cases h:0≤p
   ·have:=hp (El.mk 2 (Der.putInt [UInt8.ofNat p.toNat])) (by unfold E.path;rw[if_pos h];simp)
    unfold E.path;rw[if_pos h,aN,bP,List.append_nil];exact this.2
   ·unfold E.path
    rw[if_neg h];simp[bP]
  omega
 refine⟨El.mk_wf aj ab,fun y hy=>?_⟩;rcases List.mem_cons.1 hy with rfl|hy
 ·exact El.mk_wf aj aj
 ·exact(hp y hy).1
theorem mO (f:Fl) (p:Int) (hp:p<256):Cert.constraints f (E.basic p)=some {f with ca:=true,path:=if 0≤p then p else f.path}:=by
 have hw:=(pf p).2;unfold Cert.constraints
 by_cases h:0≤p
 ·have hE:E.path p=[El.mk 2 (Der.putInt [UInt8.ofNat p.toNat])]:=by unfold E.path;rw[if_pos h]
  rw[hE]at hw;rw[dN (L:=[E.yes,El.mk 2 (Der.putInt [UInt8.ofNat p.toNat])]) aq (by unfold E.basic;rw[hE];rfl) hw ag ag];simp only[Option.bind_some,List.length_cons,List.length_nil,List.getD_cons_zero,List.getD_cons_succ];rw[if_neg ab,sq,bI rfl];simp only[Option.bind_some];rw[if_neg ab];have hb:Der.be [UInt8.ofNat p.toNat]=p.toNat:=by
   simp only[Der.be,List.foldl_cons,List.foldl_nil,UInt8.toNat_ofNat'];omega
  rw[ql _ (by rw[hb];omega),hb];simp only[Option.bind_some,if_pos h];rw[show((p.toNat:Nat):Int)=p by omega]
 ·have hE:E.path p=[]:=by unfold E.path;rw[if_neg h]
  rw[hE]at hw;rw[dN (L:=[E.yes]) aq (by unfold E.basic;rw[hE];rfl) hw ag ag];simp only[Option.bind_some,List.length_cons,List.length_nil,List.getD_cons_zero];rw[if_neg ab,sq,bI rfl];simp only[Option.bind_some,if_neg h]
  rfl
def Cert.used (b:List UInt8):Option Nat:=(Der.bits b).bind fun p=>
 (Cert.must (decide (1≤8*(p.1.length:Int) - (p.2:Int))&&decide (8*(p.1.length:Int) - (p.2:Int)≤9))).bind fun _=>
  (Cert.must (Cert.bit p.1 (8*p.1.length - p.2 - 1)==1)).bind fun _=>some (Cert.bitsum p.1 (8*p.1.length - p.2))
theorem ut (f:Fl) (b:List UInt8):Cert.usage f (El.mk 3 b)=(Cert.used b).bind fun u=>some {f with usage:=(u:Int)}:=by
 unfold Cert.usage Cert.used;rw[fx aq];simp only[Option.bind_some,Option.bind_assoc,El.mk]
def E.laid (u:Nat):List UInt8:=Ref.lay u (Ref.ub0 (Ref.top u 9)) (Ref.top u 9)
theorem vP:∀p<256,0<p→Cert.used (E.laid (2*p+p % 2))=some (2*p+p % 2):=ac
theorem ya:∀p<256,(E.laid (2*p+p % 2)).length≤10:=ac
def E.host:El:=El.mk 48 (ax [El.mk 6 Ref.forHost])
theorem oC (f:Fl):Cert.purposes f E.host=some {f with code:=false}:=by
 have h1:Der.all (ax [El.mk 6 Ref.forHost])=some [El.mk 6 Ref.forHost]:=ac
 have h2:Cert.mean false [El.mk 6 Ref.forHost]=some false:=ac
 unfold Cert.purposes;rw[fx aq];simp only[Option.bind_some,E.host,El.mk]at h1 h2 ⊢;rw[h1];simp only[Option.bind_some,List.length_cons,List.length_nil];rw[bI aj];simp only[Option.bind_some];rw[h2]
 rfl
end
section
set_option maxRecDepth 100000
def E.exts (f:Fl):List El:=
 (if f.ca then[E.ext [85,29,19] (E.basic f.path).2.2] else [])++(if 0≤f.usage then[E.ext [85,29,15] (El.mk 3 (E.laid f.usage.toNat)).2.2] else [])++(if f.code then[] else [E.ext [85,29,37] E.host.2.2])
theorem xS (f:Fl):(E.exts f).map (·.2.2)=Ref.exts f:=by
 unfold E.exts Ref.exts;rw[List.map_append,List.map_append]
 congr 1
 ·congr 1
  ·split
   ·simp only[List.map_cons,List.map_nil,zq,uU]
   ·rfl
  ·split
   ·rfl
   ·rfl
 ·split
  ·rfl
  ·rfl
structure Fl.std (f:Fl):Prop where
 p1 : -1≤f.path
 p2:f.path<256
 cp:f.ca=false→f.path = -1
 u:f.usage = -1∨∃p:Nat,p<256∧0<p∧f.usage=((2*p+p % 2:Nat):Int)
theorem uo (g:Fl) (nm:List UInt8) (p:Int):Cert.told g [2,5,29,19] [El.mk 6 nm,El.mk 4 (E.basic p).2.2] 1=Cert.constraints g (E.basic p):=by
 unfold Cert.told;rw[if_pos rfl];show(Cert.only (E.basic p).2.2).bind _=_;rw[iM (pf p).1]
 rfl
theorem ur (g:Fl) (nm b:List UInt8) (hb:b.length<4294967296):Cert.told g [2,5,29,15] [El.mk 6 nm,El.mk 4 (El.mk 3 b).2.2] 1=Cert.usage g (El.mk 3 b):=by
 unfold Cert.told;rw[if_neg aj,if_pos rfl];show(Cert.only (El.mk 3 b).2.2).bind _=_;rw[iM (El.mk_wf aj hb)]
 rfl
theorem oO (g:Fl) (nm:List UInt8) (y:El) (hy:El.wf y):Cert.told g [2,5,29,37] [El.mk 6 nm,El.mk 4 y.2.2] 1=Cert.purposes g y:=by
 unfold Cert.told;rw[if_neg aj,if_neg aj,if_pos rfl];show(Cert.only y.2.2).bind _=_;rw[iM hy]
 rfl
theorem wj:Der.oid [85,29,19]=some [2,5,29,19]:=ac
theorem wk:Der.oid [85,29,15]=some [2,5,29,15]:=ac
theorem pO:Der.oid [85,29,37]=some [2,5,29,37]:=ac
theorem zw:El.wf E.host:=El.mk_wf aj ac
theorem dH (t:UInt8) (b:List UInt8) (k:Nat) (h:b.length≤k) (hk:k<4294967296):(Der.write t b).length≤k+6:=by
 rw[Der.write_len];have:=Der.lenB_len b.length ab;omega
theorem nH (p:Int):(E.basic p).2.2.length≤40:=by
 have hp:(ax (E.path p)).length≤10:=by
  unfold E.path
  split
  ·rw[aN,bP,List.append_nil]
   have:=dH 2 (Der.putInt [UInt8.ofNat p.toNat]) 2 (mg _) ab;simp only[El.mk];omega
  ·simp[bP]
 have h1:E.yes.2.2.length=3:=ac
 have:=dH 48 (ax (E.yes::E.path p)) 13 (by rw[aN,List.length_append];omega) ab;simp only[E.basic,El.mk]at this ⊢;omega
theorem fD (nm body:List UInt8) (h1:nm.length≤1000) (h2:body.length≤100000):(E.ext nm body).2.2.length<4294967296:=by
 have a1:=dH 6 nm 1000 h1 ab;have a2:=dH 4 body 100000 h2 ab;have a3:=dH 48 (ax [El.mk 6 nm,El.mk 4 body]) 101012 (by simp only[aN,bP,List.append_nil,List.length_append,El.mk];omega) ab;simp only[E.ext,El.mk]at a3 ⊢;omega
theorem rG (p:Nat) (hp:p<256):(E.laid (2*p+p % 2)).length<4294967296∧(El.mk 3 (E.laid (2*p+p % 2))).2.2.length≤100:=by
 have h1:=ya p hp;have:=dH 3 (E.laid (2*p+p % 2)) 10 h1 ab;refine⟨ab,?_⟩;simp only[El.mk];omega
theorem nV (g:Fl) (p:Int) (hp:p<256):Cert.extension g (E.ext [85,29,19] (E.basic p).2.2)=some ({g with ca:=true,path:=if 0≤p then p else g.path},[85,29,19])∧El.wf (E.ext [85,29,19] (E.basic p).2.2):=by
 have h:=pj (f:=g) (body:=(E.basic p).2.2) wj (fD _ _ ag (by have:=nH p;omega));refine⟨?_,h.2.1⟩;rw[h.1,uo,mO g p hp]
 rfl
theorem nW (g:Fl) (p:Nat) (hp:p<256) (h0:0<p):Cert.extension g (E.ext [85,29,15] (El.mk 3 (E.laid (2*p+p % 2))).2.2)=some ({g with usage:=((2*p+p % 2:Nat):Int)},[85,29,15])∧El.wf (E.ext [85,29,15] (El.mk 3 (E.laid (2*p+p % 2))).2.2):=by
 have hw:=rG p hp;have h:=pj (f:=g) (body:=(El.mk 3 (E.laid (2*p+p % 2))).2.2) wk (fD _ _ ag ab);refine⟨?_,h.2.1⟩;rw[h.1,ur g _ _ hw.1,ut,vP p hp h0]
 rfl
theorem pQ (g:Fl):Cert.extension g (E.ext [85,29,37] E.host.2.2)=some ({g with code:=false},[85,29,37])∧El.wf (E.ext [85,29,37] E.host.2.2):=by
 have h:=pj (f:=g) (body:=E.host.2.2) pO (fD _ _ ag ac);refine⟨?_,h.2.1⟩;rw[h.1,oO g _ _ zw,oC]
 rfl
theorem rz (f:Fl) (hf:f.std):∀y∈E.exts f,El.wf y:=by
 intro y hy;unfold E.exts at hy;simp only[List.mem_append]at hy;rcases hy with(hy|hy)|hy
 ·split at hy
  ·simp only[List.mem_cons,List.not_mem_nil,or_false]at hy
   subst hy;exact(nV f f.path hf.p2).2
  ·simp at hy
 ·split at hy
  ·rename_i h0
   simp only[List.mem_cons,List.not_mem_nil,or_false]at hy;subst hy;rcases hf.u with hu|⟨p,hp,hp0,hu⟩
   ·omega
   ·rw[hu,Int.toNat_natCast]
    exact(nW f p hp hp0).2
  ·simp at hy
 ·split at hy
  ·simp at hy
  ·simp only[List.mem_cons,List.not_mem_nil,or_false]at hy
   subst hy;exact(pQ f).2
def Fl.bare:Fl:=⟨false,-1,-1,true⟩
theorem zr (f:Fl) (hf:f.std):∃ns,Cert.exts Fl.bare (E.exts f)=some (f,ns)∧dl ns=true:=by
 obtain⟨ca,path,usage,code⟩:=f;have c1:=fun g:Fl=>(nV g path hf.p2).1
 have c3:=fun g:Fl=>(pQ g).1
 have qd:=hf.cp;have qg:=hf.p1;simp only at qd qg;have qc:(if 0≤path then path else Fl.bare.path)=path:=by
  split
  ·rfl
  ·show(-1:Int)=path
   omega
 rcases hf.u with hu|⟨p,hp,hp0,hu⟩
 ·simp only at hu
  subst hu
  cases ca
  ·have:=qd rfl
   subst this
   cases code
   ·refine⟨[[85,29,37]],?_,aj⟩
    show Cert.exts Fl.bare [E.ext [85,29,37] E.host.2.2]=_;rw[cT (c3 _)]
    rfl
   ·exact⟨[],rfl,rfl⟩
  ·cases code
   ·refine⟨[[85,29,19],[85,29,37]],?_,aj⟩
    show Cert.exts Fl.bare [E.ext [85,29,19] (E.basic path).2.2,E.ext [85,29,37] E.host.2.2]=_;rw[cT (c1 _),cT (c3 _)];simp only[qc]
    rfl
   ·refine⟨[[85,29,19]],?_,aj⟩
    show Cert.exts Fl.bare [E.ext [85,29,19] (E.basic path).2.2]=_;rw[cT (c1 _)];simp only[qc]
    rfl
 ·simp only at hu
  subst hu;have c2:=fun g:Fl=>(nW g p hp hp0).1
  have h0:(0:Int)≤((2*p+p % 2:Nat):Int):=ab
  cases ca
  ·have:=qd rfl
   subst this
   cases code
   ·refine⟨[[85,29,15],[85,29,37]],?_,aj⟩
    have e:E.exts ⟨false,-1,((2*p+p % 2:Nat):Int),false⟩=[E.ext [85,29,15] (El.mk 3 (E.laid (2*p+p % 2))).2.2,E.ext [85,29,37] E.host.2.2]:=by
     simp only[E.exts,if_pos h0,Int.toNat_natCast]
     rfl
    rw[e,cT (c2 _),cT (c3 _)]
    rfl
   ·refine⟨[[85,29,15]],?_,aj⟩
    have e:E.exts ⟨false,-1,((2*p+p % 2:Nat):Int),true⟩=[E.ext [85,29,15] (El.mk 3 (E.laid (2*p+p % 2))).2.2]:=by
     simp only[E.exts,if_pos h0,Int.toNat_natCast]
     rfl
    rw[e,cT (c2 _)]
    rfl
  ·cases code
   ·refine⟨[[85,29,19],[85,29,15],[85,29,37]],?_,aj⟩
    have e:E.exts ⟨true,path,((2*p+p % 2:Nat):Int),false⟩=[E.ext [85,29,19] (E.basic path).2.2,E.ext [85,29,15] (El.mk 3 (E.laid (2*p+p % 2))).2.2,E.ext [85,29,37] E.host.2.2]:=by
     simp only[E.exts,if_pos h0,Int.toNat_natCast]
     rfl
    rw[e,cT (c1 _),cT (c2 _),cT (c3 _)];simp only[qc]
    rfl
   ·refine⟨[[85,29,19],[85,29,15]],?_,aj⟩
    have e:E.exts ⟨true,path,((2*p+p % 2:Nat):Int),true⟩=[E.ext [85,29,19] (E.basic path).2.2,E.ext [85,29,15] (El.mk 3 (E.laid (2*p+p % 2))).2.2]:=by
     simp only[E.exts,if_pos h0,Int.toNat_natCast]
     rfl
    rw[e,cT (c1 _),cT (c2 _)];simp only[qc]
    rfl
def E.extra (l:List El):List El:=if l=[] then[] else [El.mk 163 (El.mk 48 (ax l)).2.2]
theorem vE (f:Fl):ax (E.extra (E.exts f))=Ref.extra f:=by
 unfold E.extra Ref.extra;rw[←xS]
 by_cases h:E.exts f=[]
 ·rw[if_pos h,if_pos (by rw[h];rfl)]
  rfl
 ·rw[if_neg h,if_neg (by simpa using h),aN,bP,List.append_nil]
  rfl
def E.seven (ser:List UInt8) (iss sub:El) (a b:Tm) (nn:List UInt8) (e:Nat):List El:=[E.version,El.mk 2 ser,E.alg,iss,E.validity a b,sub,E.key nn e]
def E.tbs (ser:List UInt8) (iss sub:El) (a b:Tm) (nn:List UInt8) (e:Nat) (xs:List El):El:=El.mk 48 (ax (E.seven ser iss sub a b nn e++E.extra xs))
theorem um {s:Sg} {l:List El} (h:l.length=7):Cert.told8 s l=some s:=by
 unfold Cert.told8;rw[if_pos h]
theorem un {s:Sg} {E0 E1 E2 E3 E4 E5 E6:El} {xs:List El} {p:Fl×List (List UInt8)} (hw:∀y∈xs,El.wf y) (h1:xs≠[]) (h2:xs.length≤8192) (hl:(ax xs).length<4294967280) (hx:Cert.exts s.fl xs=some p) (hd:dl p.2=true) :
 Cert.told8 s [E0,E1,E2,E3,E4,E5,E6,El.mk 163 (El.mk 48 (ax xs)).2.2]=some {s with fl:=p.1}:=by
 have qc:El.wf (El.mk 48 (ax xs)):=El.mk_wf aj ab;have h3:0<xs.length:=List.length_pos_iff.2 h1;unfold Cert.told8;rw[if_neg ag];simp only[List.getD_cons_zero,List.getD_cons_succ];rw[dN (L:=[El.mk 48 (ax xs)]) aq (by rw[aN,bP,List.append_nil];rfl) (fun y hy=>by simp only[List.mem_cons,List.not_mem_nil,or_false]at hy;subst hy;exact qc) ag ag];simp only[Option.bind_some,List.getD_cons_zero];rw[dN (x:=El.mk 48 (ax xs)) (L:=xs) aq rfl hw ab ab];simp only[Option.bind_some];rw[hx];simp only[Option.bind_some];rw[hd,bI rfl]
 rfl
theorem Bw {f:Fl} {ser m:List UInt8} {iss sub:El} {a b:Tm} {nn:List UInt8} {e:Nat} {xs:List El} {p:Fl×List (List UInt8)}
 (hm:Der.int ser=some m) (h0:0<m.length) (hs:ser.length≤20) (hi:El.wf iss) (hi2:iss.1=48) (hu:El.wf sub) (hu2:sub.1=48) (ha:Stamp.right a=true) (hb:Stamp.right b=true) (hle:Stamp.less b a=false) (he:e<8589934592)
 (hw:∀y∈xs,El.wf y) (h2:xs.length≤8192) (hx:Cert.exts f xs=some p) (hd:dl p.2=true) (hl:(E.tbs ser iss sub a b nn e xs).2.2.length<4294967280) :
 Cert.signed f (E.tbs ser iss sub a b nn e xs)=some ⟨(E.tbs ser iss sub a b nn e xs).2.2,iss.2.2,sub.2.2,ser,a,b,Der.trim nn,e,p.1⟩∧El.wf (E.tbs ser iss sub a b nn e xs)∧∀y∈E.seven ser iss sub a b nn e++E.extra xs,El.wf y:=by
 have qh:(ax (E.seven ser iss sub a b nn e++E.extra xs)).length<4294967280:=by
  have:=cD 48 (ax (E.seven ser iss sub a b nn e++E.extra xs));simp only[E.tbs,El.mk]at hl this ⊢;omega
 have hk:(E.key nn e).2.2.length<4294967296:=by
  have:=fs (y:=E.key nn e) (L:=E.seven ser iss sub a b nn e++E.extra xs) (by simp[E.seven]);omega
 have qd:=Bo nn e he hk;have qg:∀y∈E.extra xs,El.wf y:=fun y hy=>by
  have hm:y∈E.seven ser iss sub a b nn e++E.extra xs:=List.mem_append_right _ hy;unfold E.extra at hy hm
  split at hy
  ·simp at hy
  ·rename_i hne
   rw[if_neg hne]at hm;simp only[List.mem_cons,List.not_mem_nil,or_false]at hy;subst hy;refine cR aj hm ?_;have:E.extra xs=[El.mk 163 (El.mk 48 (ax xs)).2.2]:=by unfold E.extra;rw[if_neg hne]
   rw[this]at qh;omega
 have qc:∀y∈E.seven ser iss sub a b nn e++E.extra xs,El.wf y:=fun y hy=>by
  rcases List.mem_append.1 hy with hy|hy
  ·simp only[E.seven,List.mem_cons,List.not_mem_nil,or_false]at hy
   rcases hy with rfl|rfl|rfl|rfl|rfl|rfl|rfl
   ·exact El.mk_wf aj aj
   ·exact El.mk_wf aj ab
   ·exact El.mk_wf aj aj
   ·exact hi
   ·exact El.mk_wf aj (by simp[ax,E.moment,El.mk,Der.write,Ref.nums,Ref.two,Der.lenB])
   ·exact hu
   ·exact qd.2
  ·exact qg y hy
 refine⟨?_,El.mk_wf aj ab,qc⟩;have qk:(E.extra xs).length≤1:=by
  unfold E.extra
  split<;>simp
 have hp:Cert.parts 48 7 8 (E.tbs ser iss sub a b nn e xs)=some (E.version::El.mk 2 ser::E.alg::iss::E.validity a b::sub::E.key nn e::E.extra xs):=
  dN aq rfl qc ai ai
 rw[Bv oQ ac (jQ hm) h0 hs lF (by rw[hi2];rfl) (np a b) (by rw[hu2];rfl) (lM ha) (lM hb) hle qd.1 hp]
 by_cases hne:xs=[]
 ·subst hne
  rw[Cert.exts]at hx;injection hx with hx
  subst hx;rw[um (by simp[E.extra])]
  rfl
 ·have:E.extra xs=[El.mk 163 (El.mk 48 (ax xs)).2.2]:=by unfold E.extra;rw[if_neg hne]
  have qs:(ax xs).length<4294967280:=by
   have h3:=fs (y:=El.mk 163 (El.mk 48 (ax xs)).2.2) (L:=E.seven ser iss sub a b nn e++E.extra xs) (by rw[this];simp);have h4:=cD 163 (El.mk 48 (ax xs)).2.2;have h5:=cD 48 (ax xs);simp only[El.mk]at h3 h4 h5;omega
  rw[this,un hw hne h2 qs hx hd]
  rfl
end
section
set_option maxRecDepth 100000
theorem kG (A B:List El):ax (A++B)=ax A++ax B:=by simp[ax]
theorem bq (k:Nat) {t:UInt8} {b:List UInt8} (h:t.toNat / 32 % 2=0):Der.thr k (El.mk t b).1 (El.mk t b).2.1=0:=qn k t b h
theorem aR (t:UInt8) (b:List UInt8):(El.mk t b).2.2=Der.write t b:=rfl
theorem tG (t:Tm):(E.moment t).2.2=Ref.general t:=by
 unfold E.moment Ref.general;rw[aR]
theorem qt (a b:Tm):(E.validity a b).2.2=Ref.seq [Ref.general a,Ref.general b]:=by
 unfold E.validity Ref.seq;rw[aR];simp only[aN,bP,tG,List.flatten_cons,List.flatten_nil]
theorem zZ (ser:List UInt8) (iss sub:El) (a b:Tm) (nn:List UInt8) (e:Nat) (f:Fl):(E.tbs ser iss sub a b nn e (E.exts f)).2.2=Ref.tbs iss.2.2 sub.2.2 ser nn a b e f:=by
 unfold E.tbs Ref.tbs Ref.seq;refine congrArg (Der.write 48) ?_;rw[kG,vE];simp only[E.seven,aN,bP,List.append_nil,List.flatten_cons,List.flatten_nil,qU,rm,zE,aR,qt,List.append_assoc,Ref.seq]
def E.name (s:List UInt8):El:=El.mk 48 (ax [El.mk 49 (ax [El.mk 48 (ax [El.mk 6 [85,4,3],El.mk 12 s])])])
theorem gR (s:List UInt8):(E.name s).2.2=Ref.name s:=by
 unfold E.name Ref.name Ref.seq;simp only[aR,aN,bP,List.flatten_cons,List.flatten_nil,List.append_nil]
theorem rK (s:List UInt8) (h:(E.name s).2.2.length<4294967296):El.wf (E.name s)∧Der.thr 9 (E.name s).1 (E.name s).2.1=0:=by
 have g1:=cD 48 (ax [El.mk 49 (ax [El.mk 48 (ax [El.mk 6 [85,4,3],El.mk 12 s])])]);have h1:(ax [El.mk 49 (ax [El.mk 48 (ax [El.mk 6 [85,4,3],El.mk 12 s])])]).length<4294967296:=by simp only[E.name,El.mk]at h g1 ⊢;omega
 have w1:El.wf (El.mk 49 (ax [El.mk 48 (ax [El.mk 6 [85,4,3],El.mk 12 s])])):=cR aj (List.mem_singleton.2 rfl) h1;have h2:=w1.2.2;simp only[El.mk]at h2;have w2:El.wf (El.mk 48 (ax [El.mk 6 [85,4,3],El.mk 12 s])):=cR aj (List.mem_singleton.2 rfl) h2;have h3:=w2.2.2;simp only[El.mk]at h3;have w3:∀y∈[El.mk 6 [85,4,3],El.mk 12 s],El.wf y:=fun y hy=>by
  have qc:=hy;simp only[List.mem_cons,List.not_mem_nil,or_false]at qc;rcases qc with rfl|rfl
  ·exact cR aj hy h3
  ·exact cR aj hy h3
 refine⟨El.mk_wf aj h1,?_⟩;refine aQ (k:=8) (fun y hy=>?_) (fun y hy=>?_)
 ·rw[List.mem_singleton.1 hy];exact w1
 rw[List.mem_singleton.1 hy];refine aQ (k:=7) (fun y hy=>?_) (fun y hy=>?_)
 ·rw[List.mem_singleton.1 hy];exact w2
 rw[List.mem_singleton.1 hy];refine aQ (k:=6) w3 (fun y hy=>?_);simp only[List.mem_cons,List.not_mem_nil,or_false]at hy;rcases hy with rfl|rfl
 ·exact bq _ rfl
 ·exact bq _ rfl
theorem oP (a b:Tm):Der.thr 9 (E.validity a b).1 (E.validity a b).2.1=0:=
 aQ (k:=8) (fun y hy=>by
  simp only[List.mem_cons,List.not_mem_nil,or_false]at hy;rcases hy with rfl|rfl<;>exact nR _) (fun y hy=>by
  simp only[List.mem_cons,List.not_mem_nil,or_false]at hy;rcases hy with rfl|rfl<;>exact qn _ 24 _ aj)
theorem xY {nn:List UInt8} {e:Nat} (hw:El.wf (E.key nn e)):Der.thr 9 (E.key nn e).1 (E.key nn e).2.1=0:=by
 have h1:=hw.2.2;simp only[E.key,El.mk]at h1;refine aQ (k:=8) (fun y hy=>?_) (fun y hy=>?_)
 ·have qc:=hy
  simp only[List.mem_cons,List.not_mem_nil,or_false]at qc;rcases qc with rfl|rfl
  ·exact El.mk_wf aj aj
  ·exact cR aj hy h1
 ·simp only[List.mem_cons,List.not_mem_nil,or_false]at hy
  rcases hy with rfl|rfl
  ·decide +kernel
  ·exact bq _ rfl
theorem sX {xs:List El} (hw:∀y∈xs,El.wf y) (hx:∀y∈xs,Der.thr 7 y.1 y.2.1=0) (he:∀y∈E.extra xs,El.wf y):∀y∈E.extra xs,Der.thr 9 y.1 y.2.1=0:=by
 intro y hy;have qc:=he y hy;unfold E.extra at hy
 split at hy
 ·simp at hy
 ·rw[List.mem_singleton.1 hy]at qc ⊢
  have h1:=qc.2.2;have h2:=cD 48 (ax xs);simp only[El.mk]at h1;have e:(El.mk 163 (El.mk 48 (ax xs)).2.2).2.1=ax [El.mk 48 (ax xs)]:=by
   rw[aN,bP,List.append_nil]
   rfl
  rw[e];refine aQ (k:=8) (fun z hz=>?_) (fun z hz=>?_)
  ·rw[List.mem_singleton.1 hz]
   exact El.mk_wf aj ab
  ·rw[List.mem_singleton.1 hz]
   exact aQ (k:=7) hw hx
theorem yG {ser:List UInt8} {iss sub:El} {a b:Tm} {nn:List UInt8} {e:Nat} {xs:List El} (hall:∀y∈E.seven ser iss sub a b nn e++E.extra xs,El.wf y)
 (h1:Der.thr 9 iss.1 iss.2.1=0) (h2:Der.thr 9 sub.1 sub.2.1=0) (hw:∀y∈xs,El.wf y) (hx:∀y∈xs,Der.thr 7 y.1 y.2.1=0):Der.thr 10 (E.tbs ser iss sub a b nn e xs).1 (E.tbs ser iss sub a b nn e xs).2.1=0:=by
 refine aQ (k:=9) hall (fun y hy=>?_);rcases List.mem_append.1 hy with hy|hy
 ·have qc:=hall y (List.mem_append_left _ hy)
  simp only[E.seven,List.mem_cons,List.not_mem_nil,or_false]at hy;rcases hy with rfl|rfl|rfl|rfl|rfl|rfl|rfl
  ·decide +kernel
  ·exact bq _ rfl
  ·decide +kernel
  ·exact h1
  ·exact oP a b
  ·exact h2
  ·exact xY qc
 ·exact sX hw hx (fun z hz=>hall z (List.mem_append_right _ hz)) y hy
def E.cert (T:El) (g:List UInt8):El:=El.mk 48 (ax [T,E.alg,El.mk 3 (0::g)])
theorem xE (T:El) (g:List UInt8):(E.cert T g).2.2=Ref.wr T.2.2 g:=by
 unfold E.cert Ref.wr Ref.seq;refine congrArg (Der.write 48) ?_;simp only[aN,bP,List.flatten_cons,List.flatten_nil,rm,aR]
theorem mN {T:El} {g:List UInt8} (hT:El.wf T) (hl:(E.cert T g).2.2.length≤8192):El.wf (E.cert T g)∧∀y∈[T,E.alg,El.mk 3 (0::g)],El.wf y:=by
 have g1:=cD 48 (ax [T,E.alg,El.mk 3 (0::g)]);have h1:(ax [T,E.alg,El.mk 3 (0::g)]).length<4294967296:=by simp only[E.cert,El.mk]at hl g1 ⊢;omega
 refine⟨El.mk_wf aj h1,fun y hy=>?_⟩;have qc:=hy;simp only[List.mem_cons,List.not_mem_nil,or_false]at qc;rcases qc with rfl|rfl|rfl
 ·exact hT
 ·exact El.mk_wf aj aj
 ·exact cR aj hy h1
theorem sR {T:El} {g:List UInt8} (hT:El.wf T) (hd:Der.thr 10 T.1 T.2.1=0) (hl:(E.cert T g).2.2.length≤8192):Der.check (E.cert T g).2.2=0:=by
 have hw:=mN hT hl;rw[jd hw.1];refine aQ (k:=14) hw.2 (fun y hy=>?_);simp only[List.mem_cons,List.not_mem_nil,or_false]at hy;rcases hy with rfl|rfl|rfl
 ·exact ed 4 hd
 ·decide +kernel
 ·exact bq _ rfl
theorem sS {T:El} {g:List UInt8} (hT:El.wf T) (hd:Der.thr 10 T.1 T.2.1=0) (hl:(E.cert T g).2.2.length≤8192) :
 Cert.parse (E.cert T g).2.2=match Cert.signed Fl.bare T with
  | none=>.no 9
  | some s=>.yes s g:=by
 have hw:=mN hT hl;unfold Cert.parse;rw[if_neg ab,sR hT hd hl,if_neg aj];have hr:Cert.read (E.cert T g).2.2=(Cert.signed Fl.bare T).bind fun s=>some (s,g):=by
  unfold Cert.read;rw[iM hw.1];simp only[Option.bind_some];rw[dN (L:=[T,E.alg,El.mk 3 (0::g)]) aq rfl hw.2 ag ag];simp only[Option.bind_some,List.getD_cons_zero,List.getD_cons_succ];rw[lF,qu]
  rfl
 rw[hr]
 cases Cert.signed Fl.bare T<;>rfl
theorem xc (xs:List UInt8):Der.trim (Der.trim xs)=Der.trim xs:=by
 induction xs with
 | nil=>rfl
 | cons x xs ih=>
  by_cases h:x=0
  ·subst h
   rw[gx,ih]
  ·rw[eq xs h,eq xs h]
theorem mR (k:br):k.nn=Der.trim (k.n.take 600):=by
 unfold br.nn;rw[eA]
 rfl
theorem iC (k:br):k.serial=1::k.ser.take 18:=by
 unfold br.serial Der.putInt;rw[show([1]++k.ser.take 18:List UInt8)=1::k.ser.take 18 from rfl,eq _ aj,if_neg ag]
theorem zC (k:br) (hp:k.path<256) (hu:k.usage<256):k.fl.std:=by
 refine⟨?_,?_,?_,?_⟩
 ·unfold br.fl
  dsimp only
  split
  ·rename_i h
   simp only[Bool.and_eq_true,decide_eq_true_eq]at h;omega
  ·omega
 ·have:=zt k hp
  omega
 ·intro h
  unfold br.fl at h ⊢;dsimp only at h ⊢;rw[h]
  rfl
 ·unfold br.fl
  dsimp only
  split
  ·rename_i h
   exact .inr ⟨k.usage,hu,h,by push_cast;rfl⟩
  ·exact .inl rfl
theorem pz:∀l:List Nat,fb l l=false
 | []=>rfl
 | x::l=>by
  rw[fb,if_pos rfl];exact pz l
theorem tt (k:br):Stamp.right k.start=true∧Stamp.right k.stop=true∧Stamp.less k.stop k.start=false:=by
 have h1:Stamp.right k.start=true:=by
  unfold br.start
  split
  ·assumption
  ·decide
 refine⟨h1,?_,?_⟩
 ·unfold br.stop
  split
  ·exact h1
  ·rename_i h
   simp only[Bool.or_eq_true,Bool.not_eq_true',not_or]at h
   simpa using h.1
 ·unfold br.stop
  split
  ·exact pz _
  ·rename_i h
   simp only[Bool.or_eq_true,Bool.not_eq_true',not_or]at h
   simpa using h.2
def br.T (k:br):El:=E.tbs k.serial (E.name (k.iss.take 200)) (E.name (k.sub.take 200)) k.start k.stop k.nn (k.e % 8589934592) (E.exts k.fl)
theorem pp (k:br):k.T.2.2=k.tbs:=by
 unfold br.T br.tbs;rw[zZ,gR,gR]
def br.sg (k:br):Sg:=⟨k.tbs,Ref.name (k.iss.take 200),Ref.name (k.sub.take 200),k.serial,k.start,k.stop,k.nn,k.e % 8589934592,k.fl⟩
theorem vO (k:br):k.nn.length≤600:=by
 rw[mR];have:=trim_len (k.n.take 600);rw[List.length_take]at this;omega
theorem nO (k:br):k.tbs.length≤4000:=by
 refine sj _ _ _ _ _ _ _ _ (gQ _ (by rw[List.length_take];omega)) (gQ _ (by rw[List.length_take];omega)) ?_ (vO k);rw[iC,List.length_cons,List.length_take];omega
theorem BT (t g:List UInt8) (h1:t.length≤4000) (h2:g.length≤600):(Ref.wr t g).length≤4700:=by
 unfold Ref.wr Ref.seq;have a1:=dH 3 (0::g) 601 ai ab;have a2:Ref.signAlg.length=15:=rfl;have a3:=dH 48 [t,Ref.signAlg,Der.write 3 (0::g)].flatten 4622 (by simp only[List.flatten_cons,List.flatten_nil,List.append_nil,List.length_append];omega) ab;omega
theorem im (k:br):k.raw.length≤4700:=BT _ _ (nO k) (by rw[List.length_take];omega)
theorem vN (f:Fl) (hf:f.std):∀y∈E.exts f,Der.thr 7 y.1 y.2.1=0:=by
 have key:∀nm body,(E.ext nm body).2.2.length<4294967296→Der.thr 7 (E.ext nm body).1 (E.ext nm body).2.1=0:=fun nm body hl=>by
  have g2:=cD 48 (ax [El.mk 6 nm,El.mk 4 body]);have qc:(ax [El.mk 6 nm,El.mk 4 body]).length<4294967296:=by
   simp only[E.ext,El.mk]at hl g2 ⊢;omega
  refine aQ (k:=6) (fun y hy=>?_) (fun y hy=>?_)
  ·have qd:=hy
   simp only[List.mem_cons,List.not_mem_nil,or_false]at qd;rcases qd with rfl|rfl
   ·exact cR aj hy qc
   ·exact cR aj hy qc
  ·simp only[List.mem_cons,List.not_mem_nil,or_false]at hy
   rcases hy with rfl|rfl
   ·exact bq _ rfl
   ·exact bq _ rfl
 intro y hy;unfold E.exts at hy;simp only[List.mem_append]at hy;rcases hy with(hy|hy)|hy
 ·split at hy
  ·rw[List.mem_singleton.1 hy]
   exact key _ _ (fD _ _ ag (by have:=nH f.path;omega))
  ·simp at hy
 ·split at hy
  ·rw[List.mem_singleton.1 hy]
   rcases hf.u with hu|⟨p,hp,hp0,hu⟩
   ·omega
   ·rw[hu,Int.toNat_natCast]
    exact key _ _ (fD _ _ ag (by have:=(rG p hp).2;omega))
  ·simp at hy
 ·split at hy
  ·simp at hy
  ·rw[List.mem_singleton.1 hy]
   exact key _ _ (fD _ _ ag ac)
theorem xR (f:Fl):(E.exts f).length≤3:=by
 unfold E.exts;simp only[List.length_append];have h1:(if f.ca=true then[E.ext [85,29,19] (E.basic f.path).2.2] else []).length≤1:=by split<;>simp
 have h2:(if 0≤f.usage then[E.ext [85,29,15] (El.mk 3 (E.laid f.usage.toNat)).2.2] else []).length≤1:=by split<;>simp
 have h3:(if f.code=true then[] else [E.ext [85,29,37] E.host.2.2]).length≤1:=by split<;>simp
 omega
theorem kC (k:br) (hp:k.path<256) (hu:k.usage<256):Cert.signed Fl.bare k.T=some k.sg∧El.wf k.T∧Der.thr 10 k.T.1 k.T.2.1=0:=by
 have hf:=zC k hp hu;obtain⟨ns,hx,hd⟩:=zr k.fl hf;have ht:=tt k;have qh:∀s:List UInt8,(E.name (s.take 200)).2.2.length<4294967296:=fun s=>by
  rw[gR];have:=gQ (s.take 200) (by rw[List.length_take];omega);omega
 have qd:=rK _ (qh k.iss);have qg:=rK _ (qh k.sub);have qc:Der.int k.serial=some (1::k.ser.take 18):=by
  unfold br.serial;rw[eA,show([1]++k.ser.take 18:List UInt8)=1::k.ser.take 18 from rfl,eq _ aj]
 have hm:=Bw (f:=Fl.bare) (ser:=k.serial) (iss:=E.name (k.iss.take 200)) (sub:=E.name (k.sub.take 200)) (a:=k.start) (b:=k.stop) (nn:=k.nn) (e:=k.e % 8589934592) (xs:=E.exts k.fl) (p:=(k.fl,ns))
  qc ag (by rw[iC,List.length_cons,List.length_take];omega) qd.1 rfl qg.1 rfl ht.1 ht.2.1 ht.2.2 (Nat.mod_lt _ aj) (rz k.fl hf) (by have:=xR k.fl;omega) hx hd
  (by have h1:=nO k;rw[←pp]at h1;unfold br.T at h1;omega)
 refine⟨?_,hm.2.1,yG hm.2.2 qd.2 qg.2 (rz k.fl hf) (vN k.fl hf)⟩;refine hm.1.trans ?_;unfold br.sg;rw[←pp,gR,gR]
 congr 2
 rw[mR,xc]
theorem pq (k:br):k.raw=(E.cert k.T (k.sig.take 600)).2.2:=by
 rw[xE,pp]
 rfl
theorem tq (k:br) (hp:k.path<256) (hu:k.usage<256):Cert.parse k.raw=.yes k.sg (k.sig.take 600):=by
 obtain⟨h1,h2,h3⟩:=kC k hp hu;have hl:=im k;rw[pq]at hl ⊢;rw[sS h2 h3 ab,h1]
end
end
end Go.Proofs.YtmpkpphfoidbeaaGreatDoor
