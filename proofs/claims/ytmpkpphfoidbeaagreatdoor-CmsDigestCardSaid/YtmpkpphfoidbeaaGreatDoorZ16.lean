import Derived.Test.YtmpkpphfoidbeaaGreatDoorZ15
set_option linter.unusedVariables false
set_option linter.unusedSimpArgs false
namespace Go.Proofs.YtmpkpphfoidbeaaGreatDoor
open Go.RowKit
section
section
namespace Der
theorem lenOf_more {xs:List UInt8} {f n:Nat} (h:lenOf xs=some (f,n)) (ys:List UInt8):lenOf (xs++ys)=some (f,n):=by
 match xs,h with
 | [],h=>cases h
 | [_],h=>cases h
 | t::l::r,h=>
  simp only[List.cons_append,lenOf]at h ⊢
  by_cases h1:l.toNat<128
  ·rw[if_pos h1]at h ⊢
   exact h
  ·rw[if_neg h1]at h ⊢
   by_cases h2:l.toNat=128∨132<l.toNat∨r.length<l.toNat - 128∨r.headD 0=0
   ·rw[if_pos h2]at h;cases h
   ·rw[if_neg h2]at h
    have hl:¬r.length<l.toNat - 128:=fun e=>h2 (.inr (.inr (.inl e)))
    have ht:(r++ys).take (l.toNat - 128)=r.take (l.toNat - 128):=by rw[List.take_append_of_le_length (by omega)]
    have hh:(r++ys).headD 0=r.headD 0:=by
     cases r with
     | nil=>exfalso;simp at hl;apply h2;left;omega
     | cons a r=>rfl
    rw[ht,hh,List.length_append,if_neg (by
     rintro(e|e|e|e)
     ·exact h2 (.inl e)
     ·exact h2 (.inr (.inl e))
     ·omega
     ·exact h2 (.inr (.inr (.inr e))))]
    exact h
theorem hdr_more {xs:List UInt8} {f n:Nat} (h:hdr xs=some (f,n)) (ys:List UInt8):hdr (xs++ys)=some (f,n):=by
 unfold hdr at h ⊢;have hx:xs≠[]:=by
  rintro rfl;simp[lenOf]at h
 have ht:tagBad (xs++ys)=tagBad xs:=by
  cases xs with
  | nil=>exact absurd rfl hx
  | cons a r=>rfl
 rw[ht]
 split at h
 ·cases h
 ·rename_i hb
  rw[if_neg hb];exact lenOf_more h ys
theorem elem_more {xs:List UInt8} {t:UInt8} {body raw rest:List UInt8} (h:elem xs=some (t,body,raw,rest)) (ys:List UInt8):elem (xs++ys)=some (t,body,raw,rest++ys):=by
 unfold elem at h ⊢
 split at h
 ·rename_i f n hd
  rw[hdr_more hd ys]
  split at h
  ·rename_i hn
   have hb:=lenOf_bd (lM hd);simp only[Option.some.injEq,Prod.mk.injEq]at h;obtain⟨rfl,rfl,rfl,rfl⟩:=h;have ht:(xs++ys).take (f+n)=xs.take (f+n):=by rw[List.take_append_of_le_length (by omega)]
   have hq:(xs++ys).drop (f+n)=xs.drop (f+n)++ys:=by rw[List.drop_append_of_le_length (by omega)]
   have hh:(xs++ys).headD 0=xs.headD 0:=by
    cases xs with
    | nil=>simp at hb;omega
    | cons a r=>rfl
   simp only[ht,hq,hh];rw[List.length_append,if_pos (by omega)]
  ·cases h
 ·cases h
theorem elem_cut (t:UInt8) (b:List UInt8) (hb:b.length<4294967296) (k:Nat) (hk:k<(write t b).length):elem ((write t b).take k)=none:=by
 cases he:elem ((write t b).take k) with
 | none=>rfl
 | some x=>
  exfalso
  obtain⟨t',b',r',rest'⟩:=x;have h1:=elem_more he ((write t b).drop k);rw[List.take_append_drop,elem_write' t b hb]at h1;have h2:=em he
  split at h1
  ·cases h1
  ·simp only[Option.some.injEq,Prod.mk.injEq]at h1
   have h3:=h2.2.1;rw[←h1.2.2.1,List.length_take]at h3;omega
end Der
end
section
set_option maxRecDepth 100000
def El.mk (t:UInt8) (b:List UInt8):El:=(t,b,Der.write t b)
theorem El.mk_wf {t:UInt8} {b:List UInt8} (ht:t.toNat % 32≠31) (hb:b.length<4294967296):El.wf (El.mk t b):=⟨rfl,ht,hb⟩
def ag (L:List El):List UInt8:=(L.map (·.2.2)).flatten
theorem bI:ag []=[]:=rfl
theorem aL (x:El) (L:List El):ag (x::L)=x.2.2++ag L:=rfl
theorem fW {x:El} (h:El.wf x) (more:List UInt8):Der.elem (x.2.2++more)=some (x.1,x.2.1,x.2.2,more):=by
 rw[h.1,Der.elem_write _ _ _ h.2.2,if_neg h.2.1]
theorem lp {x:El} (h:El.wf x):0<x.2.2.length:=by
 rw[h.1];simp[Der.write]
theorem qM:∀(L:List El) (k:Nat),(∀y∈L,El.wf y)→(ag L).length≤k→Der.seqF k (ag L)=L.map some
 | [],k,_,_=>by cases k<;>simp[Der.seqF,bI]
 | x::L,k,h,hk=>by
  have hx:=h x (by simp);have hp:=lp hx;rw[aL]at hk ⊢;rw[List.length_append]at hk;obtain⟨k,rfl⟩:∃m,k=m+1:=⟨k - 1,by omega⟩
  rw[Der.seqF,if_neg (by intro e;have:=congrArg List.length e;simp at this;rw[this.1]at hp;simp at hp),fW hx];simp only[List.map_cons];rw[qM L k (fun y hy=>h y (by simp[hy])) (by omega)]
theorem pk {L:List El} (h:∀y∈L,El.wf y):Der.seq (ag L)=L.map some:=qM L _ h nl_
theorem zF {L:List El} (h:∀y∈L,El.wf y):Der.all (ag L)=some L:=iu (pk h)
theorem eS {u:Int} {x:El} (h:(x.1.toNat:Int)=u):Cert.body u x=some x.2.1:=by
 unfold Cert.body;rw[aY (by simpa using h)]
 rfl
theorem dw {u lo hi:Int} {x:El} {L:List El} (ht:(x.1.toNat:Int)=u) (hb:x.2.1=ag L) (hw:∀y∈L,El.wf y) (h1:lo≤(L.length:Int)) (h2:(L.length:Int)≤hi):Cert.parts u lo hi x=some L:=by
 unfold Cert.parts;rw[eS ht,hb];simp only[Option.bind_some];rw[zF hw];simp only[Option.bind_some];rw[aY (by simp[h1,h2])]
 rfl
theorem ic {x:El} (h:El.wf x):Cert.only x.2.2=some x:=by
 unfold Cert.only;have:=fW h [];rw[List.append_nil]at this;rw[this];simp
theorem pp (k:Nat) (t:UInt8) (b:List UInt8) (h:t.toNat / 32 % 2=0):Der.thr k t b=0:=by
 cases k<;>simp[Der.thr,Der.leaf,h]
theorem aI {k:Nat} {t:UInt8} {L:List El} (hw:∀y∈L,El.wf y) (h:∀y∈L,Der.thr k y.1 y.2.1=0):Der.thr (k+1) t (ag L)=0:=by
 rw[Der.thr,pk hw]
 split
 ·rfl
 ·rw[if_neg (by simp[List.any_map,Function.comp_def])]
  have key:∀(L:List El),(∀y∈L,Der.thr k y.1 y.2.1=0)→Der.firstBad (Der.thr k) (L.map some)=0:=by
   intro L
   induction L with
   | nil=>intro _;rfl
   | cons x L ih=>
    intro h;obtain⟨t,b,r⟩:=x;have h0:Der.thr k t b=0:=h (t,b,r) (by simp);rw[List.map_cons,Der.firstBad,if_pos h0];exact ih fun y hy=>h y (by simp[hy])
  exact key L h
theorem jG {f g:UInt8→List UInt8→Nat} (h:∀t b,f t b=0→g t b=0):∀(l:List (Option (UInt8×List UInt8×List UInt8))),Der.firstBad f l=0→Der.firstBad g l=0
 | [],_=>rfl
 | none::_,h'=>by simp[Der.firstBad]at h'
 | some (t,b,r)::l,h'=>by
  by_cases e:f t b=0
  ·rw[Der.firstBad,if_pos e]at h'
   rw[Der.firstBad,if_pos (h t b e)];exact jG h l h'
  ·rw[Der.firstBad,if_neg e]at h'
   exact absurd h' e
theorem vz:∀(k:Nat) (t:UInt8) (b:List UInt8),Der.thr k t b=0→Der.thr (k+1) t b=0
 | 0,t,b,h=>by
  unfold Der.thr at h ⊢
  by_cases e:Der.leaf t b=true
  ·rw[if_pos e]
  ·rw[if_neg e]at h;cases h
 | k+1,t,b,h=>by
  unfold Der.thr at h ⊢
  by_cases e:Der.leaf t b=true
  ·rw[if_pos e]
  ·rw[if_neg e]at h ⊢
   split
   ·rename_i h9;rw[if_pos h9]at h;cases h
   ·rename_i h9;rw[if_neg h9]at h;exact jG (vz k) _ h
theorem iV {k:Nat} (j:Nat) {t:UInt8} {b:List UInt8} (h:Der.thr k t b=0):Der.thr (k+j) t b=0:=by
 induction j with
 | zero=>exact h
 | succ j ih=>exact vz _ _ _ ih
theorem iD {x:El} (h:El.wf x):Der.check x.2.2=Der.thr 15 x.1 x.2.1:=by
 unfold Der.check;have:=fW h [];rw[List.append_nil]at this;rw[this];simp
theorem rG {x:El} (h:El.wf x) {more:List UInt8} (hm:more≠[]):Der.check (x.2.2++more)=9:=by
 unfold Der.check;rw[fW h];simp[hm]
theorem ul {x:El} (h:El.wf x) {k:Nat} (hk:k<x.2.2.length):Der.check (x.2.2.take k)=9:=by
 unfold Der.check;rw[h.1]at hk ⊢;rw[Der.elem_cut _ _ h.2.2 _ hk]
theorem py (g:List UInt8):Cert.whole (El.mk 3 (0::g))=some g:=by
 unfold Cert.whole;rw[eS (by rfl)];have:Der.bits (0::g)=some (g,0):=by
  simp only[Der.bits];rw[if_neg (by simp),if_pos (by simp;omega)]
  rfl
 simp only[Option.bind_some,El.mk];rw[this];simp only[Option.bind_some];rw[show Cert.must ((0:Nat)==0)=some () from rfl]
 rfl
theorem jp {b m:List UInt8} (h:Der.int b=some m):Cert.number (El.mk 2 b)=some m:=by
 unfold Cert.number;rw[eS (by rfl)];exact h
theorem ym (xs:List UInt8):Der.be (0::xs)=Der.be xs:=by simp[Der.be]
theorem ql:∀xs:List UInt8,Der.be (Der.trim xs)=Der.be xs
 | []=>rfl
 | x::xs=>by
  by_cases h:x=0
  ·subst h
   rw[fR,ym,ql xs]
  ·rw[dT xs h]
theorem pn {lim:Int} (xs:List UInt8) (h:(Der.be xs:Int)<lim):Cert.small lim (El.mk 2 (Der.putInt xs))=some (Der.be xs):=by
 unfold Cert.small;rw[jp (fa xs)];simp only[Option.bind_some,ql];rw[aY (by simpa using h)]
 rfl
theorem qp (e:Nat) (h:e<8589934592):Der.be (Ref.five e)=e:=by
 simp only[Der.be,Ref.five,List.foldl_cons,List.foldl_nil,UInt8.toNat_ofNat'];omega
theorem uN {x:El} (h:x.1=24):Cert.moment x=Stamp.told 4 id x.2.1:=by
 unfold Cert.moment;rw[h,if_neg (by decide),if_pos (by decide)]
theorem kO {t:Tm} (h:Stamp.right t=true):Cert.moment (El.mk 24 ((Ref.nums t).flatMap Ref.two++[90]))=some t:=by
 have hf:=sJ h;have hr:=h;unfold Stamp.right at hr;simp only[Bool.and_eq_true,decide_eq_true_eq]at hr;obtain⟨⟨⟨⟨⟨⟨h1,h2⟩,h3⟩,h4⟩,h5⟩,h6⟩,h7⟩:=hr;obtain⟨y,mo,d,hh,mi,s⟩:=t;obtain⟨_,b1,b2,b3,b4,b5⟩:=hf;have hd:=xB h;dsimp only at h1 h2 h3 h4 h5 h6 h7 b1 b2 b3 b4 b5 hd;rw[uN rfl];show Stamp.told 4 id ((Ref.nums ⟨y,mo,d,hh,mi,s⟩).flatMap Ref.two++[90])=_;have qc:Stamp.tm 4 id ((Ref.nums ⟨y,mo,d,hh,mi,s⟩).flatMap Ref.two++[90])=⟨y,mo,d,hh,mi,s⟩:=by
  simp only[Stamp.tm,Ref.nums,Ref.two,List.flatMap_cons,List.flatMap_nil,List.append_nil,List.cons_append,List.nil_append,Stamp.at2,Stamp.dig,List.drop_zero,List.drop_succ_cons,List.take_succ_cons,List.take_zero,List.foldl_cons,List.foldl_nil,UInt8.toNat_ofNat',id];simp only[Tm.mk.injEq];omega
 unfold Stamp.told;rw[if_pos]
 ·rw[qc]
 ·refine⟨rfl,rfl,?_,by rw[qc];exact h⟩
  have qd:∀a:Nat,((Ref.two a).any bC)=false:=by
   intro a;simp only[Ref.two,List.any_cons,List.any_nil,Bool.or_false,bC,UInt8.toNat_ofNat',Bool.or_eq_false_iff,decide_eq_false_iff_not];omega
  have hl:((Ref.nums ⟨y,mo,d,hh,mi,s⟩).flatMap Ref.two).length=4+10:=rfl;rw[List.take_left' hl];simp only[Ref.nums,List.flatMap_cons,List.flatMap_nil,List.any_append,qd,List.any_nil,Bool.or_false]
end
section
set_option maxRecDepth 100000
theorem bV (t:UInt8) (b:List UInt8):b.length≤(Der.write t b).length:=by simp[Der.write];omega
theorem fu {y:El}:∀{L:List El},y∈L→y.2.2.length≤(ag L).length
 | x::L,h=>by
  rw[aL,List.length_append];rcases List.mem_cons.1 h with rfl|h
  ·omega
  ·have:=fu h
   omega
theorem cu {t:UInt8} {b:List UInt8} (ht:t.toNat % 32≠31) {L:List El} (hm:El.mk t b∈L) (hL:(ag L).length<4294967296):El.wf (El.mk t b):=
 El.mk_wf ht (by
  have h1:=fu hm;have h2:=bV t b;simp only[El.mk]at h1;omega)
theorem zW {f:Fl} {x v0 E0 E1 E2 E3 E4 E5 E6 t0 t1:El} {M:List El} {m:List UInt8} {a b:Tm} {k:List UInt8×Nat}
 (h0:Cert.parts 160 1 1 E0=some [v0]) (hv:v0.2.2=[2,1,2]) (h1:Cert.number E1=some m) (hm:0<m.length) (hs:E1.2.1.length≤20) (h2:Cert.method 11 E2=some ()) (h3:(E3.1.toNat:Int)=48)
 (h4:Cert.parts 48 2 2 E4=some [t0,t1]) (h5:(E5.1.toNat:Int)=48) (ha:Cert.moment t0=some a) (hb:Cert.moment t1=some b) (hle:Stamp.less b a=false) (hk:Cert.key E6=some k)
 (hp:Cert.parts 48 7 8 x=some (E0::E1::E2::E3::E4::E5::E6::M)) :
 Cert.signed f x=Cert.told8 ⟨x.2.2,E3.2.2,E5.2.2,E1.2.1,a,b,k.1,k.2,f⟩ (E0::E1::E2::E3::E4::E5::E6::M):=by
 have m1:Cert.must (v0.2.2==[2,1,2])=some ():=aY (by rw[hv];rfl);have m2:Cert.must (decide (0<m.length)&&decide (E1.2.1.length≤20))=some ():=aY (by simp[hm,hs]);have m3:Cert.must (!Stamp.less b a)=some ():=aY (by rw[hle];rfl);unfold Cert.signed;rw[hp];simp only[Option.bind_some,Sg.a,Sg.b,Sg.c,Sg.d,Sg.e_,Sg.f,Sg.g,Sg.h,Sg.i,Sg.j,List.getD_cons_zero,List.getD_cons_succ];simp only[h0,Option.bind_some,List.getD_cons_zero,List.getD_cons_succ,m1,h1,m2,h2,eS h3,eS h5,h4,ha,hb,m3,hk]
def E.version:El:=El.mk 160 [2,1,2]
theorem nF:Cert.parts 160 1 1 E.version=some [El.mk 2 [2]]:=by decide +kernel
theorem pX:E.version.2.2=Ref.version:=by decide +kernel
def E.alg:El:=El.mk 48 [6,9,42,134,72,134,247,13,1,1,11,5,0]
theorem kH:Cert.method 11 E.alg=some ():=by decide +kernel
theorem qi:E.alg.2.2=Ref.signAlg:=by decide +kernel
def E.keyAlg:El:=El.mk 48 [6,9,42,134,72,134,247,13,1,1,1,5,0]
theorem mZ:Cert.method 1 E.keyAlg=some ():=by decide +kernel
theorem rR:E.keyAlg.2.2=Ref.keyAlg:=by decide +kernel
def E.moment (t:Tm):El:=El.mk 24 ((Ref.nums t).flatMap Ref.two++[90])
def E.validity (a b:Tm):El:=El.mk 48 (ag [E.moment a,E.moment b])
theorem mA (t:Tm):El.wf (E.moment t):=El.mk_wf (by decide) (by simp[Ref.nums,Ref.two])
theorem lX (a b:Tm):Cert.parts 48 2 2 (E.validity a b)=some [E.moment a,E.moment b]:=
 dw (by rfl) rfl (fun y hy=>by
  simp only[List.mem_cons,List.not_mem_nil,or_false]at hy;rcases hy with rfl|rfl<;>exact mA _) (by simp) (by simp)
def E.rsa (nn:List UInt8) (e:Nat):El:=El.mk 48 (ag [El.mk 2 (Der.putInt nn),El.mk 2 (Der.putInt (Ref.five e))])
def E.key (nn:List UInt8) (e:Nat):El:=El.mk 48 (ag [E.keyAlg,El.mk 3 (0::(E.rsa nn e).2.2)])
theorem yM (nn:List UInt8) (e:Nat):(E.key nn e).2.2=Ref.key nn e:=by
 simp only[E.key,El.mk,Ref.key,Ref.seq,ag,List.map_cons,List.map_nil,←rR]
 rfl
theorem zN (nn:List UInt8) (e:Nat) (he:e<8589934592) (hl:(E.key nn e).2.2.length<4294967296):Cert.key (E.key nn e)=some (Der.trim nn,e)∧El.wf (E.key nn e):=by
 have g1:=bV 48 (ag [E.keyAlg,El.mk 3 (0::(E.rsa nn e).2.2)]);have qd:(ag [E.keyAlg,El.mk 3 (0::(E.rsa nn e).2.2)]).length<4294967296:=by
  simp only[E.key,El.mk]at hl g1 ⊢;omega
 have w1:El.wf E.keyAlg:=El.mk_wf (by decide) (by decide);have w2:El.wf (El.mk 3 (0::(E.rsa nn e).2.2)):=cu (by decide) (L:=[E.keyAlg,El.mk 3 (0::(E.rsa nn e).2.2)]) (by simp) qd;have hr:(E.rsa nn e).2.2.length<4294967296:=by
  have:=w2.2.2;simp only[El.mk,List.length_cons]at this;omega
 have qc:(ag [El.mk 2 (Der.putInt nn),El.mk 2 (Der.putInt (Ref.five e))]).length<4294967296:=by
  have g2:=bV 48 (ag [El.mk 2 (Der.putInt nn),El.mk 2 (Der.putInt (Ref.five e))]);simp only[E.rsa,El.mk]at hr g2 ⊢;omega
 have w3:El.wf (E.rsa nn e):=El.mk_wf (by decide) qc;have w4:∀y∈[El.mk 2 (Der.putInt nn),El.mk 2 (Der.putInt (Ref.five e))],El.wf y:=fun y hy=>by
  have qg:=hy;simp only[List.mem_cons,List.not_mem_nil,or_false]at qg;rcases qg with rfl|rfl
  ·exact cu (by decide) hy qc
  ·exact cu (by decide) hy qc
 refine⟨?_,El.mk_wf (by decide) qd⟩;unfold Cert.key;rw[dw (L:=[E.keyAlg,El.mk 3 (0::(E.rsa nn e).2.2)]) (by rfl) rfl (fun y hy=>by
  simp only[List.mem_cons,List.not_mem_nil,or_false]at hy;rcases hy with rfl|rfl
  ·exact w1
  ·exact w2) (by simp) (by simp)]
 simp only[Option.bind_some,List.getD_cons_zero,List.getD_cons_succ];rw[mZ];simp only[Option.bind_some];rw[py];simp only[Option.bind_some];rw[ic w3];simp only[Option.bind_some];rw[dw (x:=E.rsa nn e) (L:=[El.mk 2 (Der.putInt nn),El.mk 2 (Der.putInt (Ref.five e))]) (by rfl) rfl w4 (by simp) (by simp)];simp only[Option.bind_some,List.getD_cons_zero,List.getD_cons_succ];rw[jp (fa nn)];simp only[Option.bind_some];rw[pn _ (by rw[qp e he];omega),qp e he]
 rfl
def E.ext (nm body:List UInt8):El:=El.mk 48 (ag [El.mk 6 nm,El.mk 4 body])
theorem yA (nm body:List UInt8):(E.ext nm body).2.2=Ref.ext nm body:=rfl
theorem og {f:Fl} {nm body:List UInt8} {o:List Nat} (ho:Der.oid nm=some o) (hl:(E.ext nm body).2.2.length<4294967296) :
 Cert.extension f (E.ext nm body)=((Cert.told f o [El.mk 6 nm,El.mk 4 body] 1).bind fun g=>some (g,nm))∧El.wf (E.ext nm body)∧∀y∈[El.mk 6 nm,El.mk 4 body],El.wf y:=by
 have g2:=bV 48 (ag [El.mk 6 nm,El.mk 4 body]);have qc:(ag [El.mk 6 nm,El.mk 4 body]).length<4294967296:=by
  simp only[E.ext,El.mk]at hl g2 ⊢;omega
 have w4:∀y∈[El.mk 6 nm,El.mk 4 body],El.wf y:=fun y hy=>by
  have qd:=hy;simp only[List.mem_cons,List.not_mem_nil,or_false]at qd;rcases qd with rfl|rfl
  ·exact cu (by decide) hy qc
  ·exact cu (by decide) hy qc
 refine⟨?_,El.mk_wf (by decide) qc,w4⟩;unfold Cert.extension;rw[dw (L:=[El.mk 6 nm,El.mk 4 body]) (by rfl) rfl w4 (by simp) (by simp)];simp only[Option.bind_some,List.getD_cons_zero];have ha:Cert.arcs (El.mk 6 nm)=some o:=by
  unfold Cert.arcs;rw[eS (by rfl)];exact ho
 rw[ha];simp only[Option.bind_some,List.length_cons,List.length_nil];rw[show(0+1+1 - 1:Nat)=1 from rfl];have qg:Cert.lastOk [El.mk 6 nm,El.mk 4 body] 1=true:=by
  unfold Cert.lastOk;simp[El.mk]
 rw[qg,aY rfl]
 rfl
def E.yes:El:=El.mk 1 [255]
theorem qR:Cert.yes E.yes=true:=by decide +kernel
def E.path (p:Int):List El:=if 0≤p then[El.mk 2 (Der.putInt [UInt8.ofNat p.toNat])] else []
def E.basic (p:Int):El:=El.mk 48 (ag (E.yes::E.path p))
theorem tX (p:Int):(E.basic p).2.2=Ref.seq ([1,1,255]::Ref.path p):=by
 unfold E.basic Ref.seq E.path Ref.path
 split<;>rfl
theorem k7 (x:UInt8):(Der.putInt [x]).length≤2:=by
 have:=bN [x]
 simpa using this
theorem nX (p:Int):El.wf (E.basic p)∧∀y∈E.yes::E.path p,El.wf y:=by
 have hp:∀y∈E.path p,El.wf y∧y.2.2.length≤10:=fun y hy=>by
  unfold E.path at hy
  split at hy
  ·simp only[List.mem_cons,List.not_mem_nil,or_false]at hy
   subst hy;have h1:=k7 (UInt8.ofNat p.toNat);refine⟨El.mk_wf (by decide) (by omega),?_⟩;simp only[El.mk,Der.write_len];have:=Der.lenB_len (Der.putInt [UInt8.ofNat p.toNat]).length (by omega);omega
  ·simp at hy
 have hl:(ag (E.yes::E.path p)).length≤20:=by
  rw[aL,List.length_append];have h1:E.yes.2.2.length=3:=by decide +kernel
  have h2:(ag (E.path p)).length≤10:=by
   by_cases h:0≤p
   ·have:=hp (El.mk 2 (Der.putInt [UInt8.ofNat p.toNat])) (by unfold E.path;rw[if_pos h];simp)
    unfold E.path;rw[if_pos h,aL,bI,List.append_nil];exact this.2
   ·unfold E.path
    rw[if_neg h];simp[bI]
  omega
 refine⟨El.mk_wf (by decide) (by omega),fun y hy=>?_⟩;rcases List.mem_cons.1 hy with rfl|hy
 ·exact El.mk_wf (by decide) (by decide)
 ·exact(hp y hy).1
theorem lJ (f:Fl) (p:Int) (hp:p<256):Cert.constraints f (E.basic p)=some {f with ca:=true,path:=if 0≤p then p else f.path}:=by
 have hw:=(nX p).2;unfold Cert.constraints
 by_cases h:0≤p
 ·have hE:E.path p=[El.mk 2 (Der.putInt [UInt8.ofNat p.toNat])]:=by unfold E.path;rw[if_pos h]
  rw[hE]at hw;rw[dw (L:=[E.yes,El.mk 2 (Der.putInt [UInt8.ofNat p.toNat])]) (by rfl) (by unfold E.basic;rw[hE];rfl) hw (by simp) (by simp)];simp only[Option.bind_some,List.length_cons,List.length_nil,List.getD_cons_zero,List.getD_cons_succ];rw[if_neg (by omega),qR,aY rfl];simp only[Option.bind_some];rw[if_neg (by omega)];have hb:Der.be [UInt8.ofNat p.toNat]=p.toNat:=by
   simp only[Der.be,List.foldl_cons,List.foldl_nil,UInt8.toNat_ofNat'];omega
  rw[pn _ (by rw[hb];omega),hb];simp only[Option.bind_some,if_pos h];rw[show((p.toNat:Nat):Int)=p by omega]
 ·have hE:E.path p=[]:=by unfold E.path;rw[if_neg h]
  rw[hE]at hw;rw[dw (L:=[E.yes]) (by rfl) (by unfold E.basic;rw[hE];rfl) hw (by simp) (by simp)];simp only[Option.bind_some,List.length_cons,List.length_nil,List.getD_cons_zero];rw[if_neg (by omega),qR,aY rfl];simp only[Option.bind_some,if_neg h]
  rfl
def Cert.used (b:List UInt8):Option Nat:=(Der.bits b).bind fun p=>
 (Cert.must (decide (1≤8*(p.1.length:Int) - (p.2:Int))&&decide (8*(p.1.length:Int) - (p.2:Int)≤9))).bind fun _=>
  (Cert.must (Cert.bit p.1 (8*p.1.length - p.2 - 1)==1)).bind fun _=>some (Cert.bitsum p.1 (8*p.1.length - p.2))
theorem tq (f:Fl) (b:List UInt8):Cert.usage f (El.mk 3 b)=(Cert.used b).bind fun u=>some {f with usage:=(u:Int)}:=by
 unfold Cert.usage Cert.used;rw[eS (by rfl)];simp only[Option.bind_some,Option.bind_assoc,El.mk]
def E.laid (u:Nat):List UInt8:=Ref.lay u (Ref.ub0 (Ref.top u 9)) (Ref.top u 9)
theorem uB:∀p<256,0<p→Cert.used (E.laid (2*p+p % 2))=some (2*p+p % 2):=by decide +kernel
theorem wV:∀p<256,(E.laid (2*p+p % 2)).length≤10:=by decide +kernel
def E.host:El:=El.mk 48 (ag [El.mk 6 Ref.forHost])
theorem mX (f:Fl):Cert.purposes f E.host=some {f with code:=false}:=by
 have h1:Der.all (ag [El.mk 6 Ref.forHost])=some [El.mk 6 Ref.forHost]:=by decide +kernel
 have h2:Cert.mean false [El.mk 6 Ref.forHost]=some false:=by decide +kernel
 unfold Cert.purposes;rw[eS (by rfl)];simp only[Option.bind_some,E.host,El.mk]at h1 h2 ⊢;rw[h1];simp only[Option.bind_some,List.length_cons,List.length_nil];rw[aY (by decide)];simp only[Option.bind_some];rw[h2]
 rfl
end
section
set_option maxRecDepth 100000
def E.exts (f:Fl):List El:=
 (if f.ca then[E.ext [85,29,19] (E.basic f.path).2.2] else [])++(if 0≤f.usage then[E.ext [85,29,15] (El.mk 3 (E.laid f.usage.toNat)).2.2] else [])++(if f.code then[] else [E.ext [85,29,37] E.host.2.2])
theorem wM (f:Fl):(E.exts f).map (·.2.2)=Ref.exts f:=by
 unfold E.exts Ref.exts;rw[List.map_append,List.map_append]
 congr 1
 ·congr 1
  ·split
   ·simp only[List.map_cons,List.map_nil,yA,tX]
   ·rfl
  ·split
   ·rfl
   ·rfl
 ·split
  ·rfl
  ·rfl
structure Fl.std (f:Fl):Prop where
 p1 : -1≤f.path
 p2:f.path<256
 cp:f.ca=false→f.path = -1
 u:f.usage = -1∨∃p:Nat,p<256∧0<p∧f.usage=((2*p+p % 2:Nat):Int)
theorem sZ (g:Fl) (nm:List UInt8) (p:Int):Cert.told g [2,5,29,19] [El.mk 6 nm,El.mk 4 (E.basic p).2.2] 1=Cert.constraints g (E.basic p):=by
 unfold Cert.told;rw[if_pos rfl];show(Cert.only (E.basic p).2.2).bind _=_;rw[ic (nX p).1]
 rfl
theorem tn (g:Fl) (nm b:List UInt8) (hb:b.length<4294967296):Cert.told g [2,5,29,15] [El.mk 6 nm,El.mk 4 (El.mk 3 b).2.2] 1=Cert.usage g (El.mk 3 b):=by
 unfold Cert.told;rw[if_neg (by decide),if_pos rfl];show(Cert.only (El.mk 3 b).2.2).bind _=_;rw[ic (El.mk_wf (by decide) hb)]
 rfl
theorem nD (g:Fl) (nm:List UInt8) (y:El) (hy:El.wf y):Cert.told g [2,5,29,37] [El.mk 6 nm,El.mk 4 y.2.2] 1=Cert.purposes g y:=by
 unfold Cert.told;rw[if_neg (by decide),if_neg (by decide),if_pos rfl];show(Cert.only y.2.2).bind _=_;rw[ic hy]
 rfl
theorem uO:Der.oid [85,29,19]=some [2,5,29,19]:=by decide +kernel
theorem uP:Der.oid [85,29,15]=some [2,5,29,15]:=by decide +kernel
theorem oT:Der.oid [85,29,37]=some [2,5,29,37]:=by decide +kernel
theorem yF:El.wf E.host:=El.mk_wf (by decide) (by decide +kernel)
theorem dn (t:UInt8) (b:List UInt8) (k:Nat) (h:b.length≤k) (hk:k<4294967296):(Der.write t b).length≤k+6:=by
 rw[Der.write_len];have:=Der.lenB_len b.length (by omega);omega
theorem mh (p:Int):(E.basic p).2.2.length≤40:=by
 have hp:(ag (E.path p)).length≤10:=by
  unfold E.path
  split
  ·rw[aL,bI,List.append_nil]
   have:=dn 2 (Der.putInt [UInt8.ofNat p.toNat]) 2 (k7 _) (by omega);simp only[El.mk];omega
  ·simp[bI]
 have h1:E.yes.2.2.length=3:=by decide +kernel
 have:=dn 48 (ag (E.yes::E.path p)) 13 (by rw[aL,List.length_append];omega) (by omega);simp only[E.basic,El.mk]at this ⊢;omega
theorem eT (nm body:List UInt8) (h1:nm.length≤1000) (h2:body.length≤100000):(E.ext nm body).2.2.length<4294967296:=by
 have a1:=dn 6 nm 1000 h1 (by omega);have a2:=dn 4 body 100000 h2 (by omega);have a3:=dn 48 (ag [El.mk 6 nm,El.mk 4 body]) 101012 (by simp only[aL,bI,List.append_nil,List.length_append,El.mk];omega) (by omega);simp only[E.ext,El.mk]at a3 ⊢;omega
theorem qw (p:Nat) (hp:p<256):(E.laid (2*p+p % 2)).length<4294967296∧(El.mk 3 (E.laid (2*p+p % 2))).2.2.length≤100:=by
 have h1:=wV p hp;have:=dn 3 (E.laid (2*p+p % 2)) 10 h1 (by omega);refine⟨by omega,?_⟩;simp only[El.mk];omega
theorem mE (g:Fl) (p:Int) (hp:p<256):Cert.extension g (E.ext [85,29,19] (E.basic p).2.2)=some ({g with ca:=true,path:=if 0≤p then p else g.path},[85,29,19])∧El.wf (E.ext [85,29,19] (E.basic p).2.2):=by
 have h:=og (f:=g) (body:=(E.basic p).2.2) uO (eT _ _ (by simp) (by have:=mh p;omega));refine⟨?_,h.2.1⟩;rw[h.1,sZ,lJ g p hp]
 rfl
theorem mF (g:Fl) (p:Nat) (hp:p<256) (h0:0<p):Cert.extension g (E.ext [85,29,15] (El.mk 3 (E.laid (2*p+p % 2))).2.2)=some ({g with usage:=((2*p+p % 2:Nat):Int)},[85,29,15])∧El.wf (E.ext [85,29,15] (El.mk 3 (E.laid (2*p+p % 2))).2.2):=by
 have hw:=qw p hp;have h:=og (f:=g) (body:=(El.mk 3 (E.laid (2*p+p % 2))).2.2) uP (eT _ _ (by simp) (by omega));refine⟨?_,h.2.1⟩;rw[h.1,tn g _ _ hw.1,tq,uB p hp h0]
 rfl
theorem oW (g:Fl):Cert.extension g (E.ext [85,29,37] E.host.2.2)=some ({g with code:=false},[85,29,37])∧El.wf (E.ext [85,29,37] E.host.2.2):=by
 have h:=og (f:=g) (body:=E.host.2.2) oT (eT _ _ (by simp) (by decide +kernel));refine⟨?_,h.2.1⟩;rw[h.1,nD g _ _ yF,mX]
 rfl
theorem qo (f:Fl) (hf:f.std):∀y∈E.exts f,El.wf y:=by
 intro y hy;unfold E.exts at hy;simp only[List.mem_append]at hy;rcases hy with(hy|hy)|hy
 ·split at hy
  ·simp only[List.mem_cons,List.not_mem_nil,or_false]at hy
   subst hy;exact(mE f f.path hf.p2).2
  ·simp at hy
 ·split at hy
  ·rename_i h0
   simp only[List.mem_cons,List.not_mem_nil,or_false]at hy;subst hy;rcases hf.u with hu|⟨p,hp,hp0,hu⟩
   ·omega
   ·rw[hu,Int.toNat_natCast]
    exact(mF f p hp hp0).2
  ·simp at hy
 ·split at hy
  ·simp at hy
  ·simp only[List.mem_cons,List.not_mem_nil,or_false]at hy
   subst hy;exact(oW f).2
def Fl.bare:Fl:=⟨false,-1,-1,true⟩
theorem yB (f:Fl) (hf:f.std):∃ns,Cert.exts Fl.bare (E.exts f)=some (f,ns)∧cJ ns=true:=by
 obtain⟨ca,path,usage,code⟩:=f;have c1:=fun g:Fl=>(mE g path hf.p2).1
 have c3:=fun g:Fl=>(oW g).1
 have qd:=hf.cp;have qg:=hf.p1;simp only at qd qg;have qc:(if 0≤path then path else Fl.bare.path)=path:=by
  split
  ·rfl
  ·show(-1:Int)=path
   omega
 rcases hf.u with hu|⟨p,hp,hp0,hu⟩
 ·simp only at hu
  subst hu
  cases ca
  ·have:=qd rfl
   subst this
   cases code
   ·refine⟨[[85,29,37]],?_,by decide⟩
    show Cert.exts Fl.bare [E.ext [85,29,37] E.host.2.2]=_;rw[cA (c3 _)]
    rfl
   ·exact⟨[],rfl,rfl⟩
  ·cases code
   ·refine⟨[[85,29,19],[85,29,37]],?_,by decide⟩
    show Cert.exts Fl.bare [E.ext [85,29,19] (E.basic path).2.2,E.ext [85,29,37] E.host.2.2]=_;rw[cA (c1 _),cA (c3 _)];simp only[qc]
    rfl
   ·refine⟨[[85,29,19]],?_,by decide⟩
    show Cert.exts Fl.bare [E.ext [85,29,19] (E.basic path).2.2]=_;rw[cA (c1 _)];simp only[qc]
    rfl
 ·simp only at hu
  subst hu;have c2:=fun g:Fl=>(mF g p hp hp0).1
  have h0:(0:Int)≤((2*p+p % 2:Nat):Int):=by omega
  cases ca
  ·have:=qd rfl
   subst this
   cases code
   ·refine⟨[[85,29,15],[85,29,37]],?_,by decide⟩
    have e:E.exts ⟨false,-1,((2*p+p % 2:Nat):Int),false⟩=[E.ext [85,29,15] (El.mk 3 (E.laid (2*p+p % 2))).2.2,E.ext [85,29,37] E.host.2.2]:=by
     simp only[E.exts,if_pos h0,Int.toNat_natCast]
     rfl
    rw[e,cA (c2 _),cA (c3 _)]
    rfl
   ·refine⟨[[85,29,15]],?_,by decide⟩
    have e:E.exts ⟨false,-1,((2*p+p % 2:Nat):Int),true⟩=[E.ext [85,29,15] (El.mk 3 (E.laid (2*p+p % 2))).2.2]:=by
     simp only[E.exts,if_pos h0,Int.toNat_natCast]
     rfl
    rw[e,cA (c2 _)]
    rfl
  ·cases code
   ·refine⟨[[85,29,19],[85,29,15],[85,29,37]],?_,by decide⟩
    have e:E.exts ⟨true,path,((2*p+p % 2:Nat):Int),false⟩=[E.ext [85,29,19] (E.basic path).2.2,E.ext [85,29,15] (El.mk 3 (E.laid (2*p+p % 2))).2.2,E.ext [85,29,37] E.host.2.2]:=by
     simp only[E.exts,if_pos h0,Int.toNat_natCast]
     rfl
    rw[e,cA (c1 _),cA (c2 _),cA (c3 _)];simp only[qc]
    rfl
   ·refine⟨[[85,29,19],[85,29,15]],?_,by decide⟩
    have e:E.exts ⟨true,path,((2*p+p % 2:Nat):Int),true⟩=[E.ext [85,29,19] (E.basic path).2.2,E.ext [85,29,15] (El.mk 3 (E.laid (2*p+p % 2))).2.2]:=by
     simp only[E.exts,if_pos h0,Int.toNat_natCast]
     rfl
    rw[e,cA (c1 _),cA (c2 _)];simp only[qc]
    rfl
def E.extra (l:List El):List El:=if l=[] then[] else [El.mk 163 (El.mk 48 (ag l)).2.2]
theorem ur (f:Fl):ag (E.extra (E.exts f))=Ref.extra f:=by
 unfold E.extra Ref.extra;rw[←wM]
 by_cases h:E.exts f=[]
 ·rw[if_pos h,if_pos (by rw[h];rfl)]
  rfl
 ·rw[if_neg h,if_neg (by simpa using h),aL,bI,List.append_nil]
  rfl
def E.seven (ser:List UInt8) (iss sub:El) (a b:Tm) (nn:List UInt8) (e:Nat):List El:=[E.version,El.mk 2 ser,E.alg,iss,E.validity a b,sub,E.key nn e]
def E.tbs (ser:List UInt8) (iss sub:El) (a b:Tm) (nn:List UInt8) (e:Nat) (xs:List El):El:=El.mk 48 (ag (E.seven ser iss sub a b nn e++E.extra xs))
theorem sX {s:Sg} {l:List El} (h:l.length=7):Cert.told8 s l=some s:=by
 unfold Cert.told8;rw[if_pos h]
theorem sY {s:Sg} {E0 E1 E2 E3 E4 E5 E6:El} {xs:List El} {p:Fl×List (List UInt8)} (hw:∀y∈xs,El.wf y) (h1:xs≠[]) (h2:xs.length≤8192) (hl:(ag xs).length<4294967280) (hx:Cert.exts s.fl xs=some p) (hd:cJ p.2=true) :
 Cert.told8 s [E0,E1,E2,E3,E4,E5,E6,El.mk 163 (El.mk 48 (ag xs)).2.2]=some {s with fl:=p.1}:=by
 have qc:El.wf (El.mk 48 (ag xs)):=El.mk_wf (by decide) (by omega);have h3:0<xs.length:=List.length_pos_iff.2 h1;unfold Cert.told8;rw[if_neg (by simp)];simp only[List.getD_cons_zero,List.getD_cons_succ];rw[dw (L:=[El.mk 48 (ag xs)]) (by rfl) (by rw[aL,bI,List.append_nil];rfl) (fun y hy=>by simp only[List.mem_cons,List.not_mem_nil,or_false]at hy;subst hy;exact qc) (by simp) (by simp)];simp only[Option.bind_some,List.getD_cons_zero];rw[dw (x:=El.mk 48 (ag xs)) (L:=xs) (by rfl) rfl hw (by omega) (by omega)];simp only[Option.bind_some];rw[hx];simp only[Option.bind_some];rw[hd,aY rfl]
 rfl
theorem zX {f:Fl} {ser m:List UInt8} {iss sub:El} {a b:Tm} {nn:List UInt8} {e:Nat} {xs:List El} {p:Fl×List (List UInt8)}
 (hm:Der.int ser=some m) (h0:0<m.length) (hs:ser.length≤20) (hi:El.wf iss) (hi2:iss.1=48) (hu:El.wf sub) (hu2:sub.1=48) (ha:Stamp.right a=true) (hb:Stamp.right b=true) (hle:Stamp.less b a=false) (he:e<8589934592)
 (hw:∀y∈xs,El.wf y) (h2:xs.length≤8192) (hx:Cert.exts f xs=some p) (hd:cJ p.2=true) (hl:(E.tbs ser iss sub a b nn e xs).2.2.length<4294967280) :
 Cert.signed f (E.tbs ser iss sub a b nn e xs)=some ⟨(E.tbs ser iss sub a b nn e xs).2.2,iss.2.2,sub.2.2,ser,a,b,Der.trim nn,e,p.1⟩∧El.wf (E.tbs ser iss sub a b nn e xs)∧∀y∈E.seven ser iss sub a b nn e++E.extra xs,El.wf y:=by
 have qh:(ag (E.seven ser iss sub a b nn e++E.extra xs)).length<4294967280:=by
  have:=bV 48 (ag (E.seven ser iss sub a b nn e++E.extra xs));simp only[E.tbs,El.mk]at hl this ⊢;omega
 have hk:(E.key nn e).2.2.length<4294967296:=by
  have:=fu (y:=E.key nn e) (L:=E.seven ser iss sub a b nn e++E.extra xs) (by simp[E.seven]);omega
 have qd:=zN nn e he hk;have qg:∀y∈E.extra xs,El.wf y:=fun y hy=>by
  have hm:y∈E.seven ser iss sub a b nn e++E.extra xs:=List.mem_append_right _ hy;unfold E.extra at hy hm
  split at hy
  ·simp at hy
  ·rename_i hne
   rw[if_neg hne]at hm;simp only[List.mem_cons,List.not_mem_nil,or_false]at hy;subst hy;refine cu (by decide) hm ?_;have:E.extra xs=[El.mk 163 (El.mk 48 (ag xs)).2.2]:=by unfold E.extra;rw[if_neg hne]
   rw[this]at qh;omega
 have qc:∀y∈E.seven ser iss sub a b nn e++E.extra xs,El.wf y:=fun y hy=>by
  rcases List.mem_append.1 hy with hy|hy
  ·simp only[E.seven,List.mem_cons,List.not_mem_nil,or_false]at hy
   rcases hy with rfl|rfl|rfl|rfl|rfl|rfl|rfl
   ·exact El.mk_wf (by decide) (by decide)
   ·exact El.mk_wf (by decide) (by omega)
   ·exact El.mk_wf (by decide) (by decide)
   ·exact hi
   ·exact El.mk_wf (by decide) (by simp[ag,E.moment,El.mk,Der.write,Ref.nums,Ref.two,Der.lenB])
   ·exact hu
   ·exact qd.2
  ·exact qg y hy
 refine⟨?_,El.mk_wf (by decide) (by omega),qc⟩;have qk:(E.extra xs).length≤1:=by
  unfold E.extra
  split<;>simp
 have hp:Cert.parts 48 7 8 (E.tbs ser iss sub a b nn e xs)=some (E.version::El.mk 2 ser::E.alg::iss::E.validity a b::sub::E.key nn e::E.extra xs):=
  dw (by rfl) rfl qc (by simp;omega) (by simp;omega)
 rw[zW nF (by decide +kernel) (jp hm) h0 hs kH (by rw[hi2];rfl) (lX a b) (by rw[hu2];rfl) (kO ha) (kO hb) hle qd.1 hp]
 by_cases hne:xs=[]
 ·subst hne
  rw[Cert.exts]at hx;injection hx with hx
  subst hx;rw[sX (by simp[E.extra])]
  rfl
 ·have:E.extra xs=[El.mk 163 (El.mk 48 (ag xs)).2.2]:=by unfold E.extra;rw[if_neg hne]
  have qs:(ag xs).length<4294967280:=by
   have h3:=fu (y:=El.mk 163 (El.mk 48 (ag xs)).2.2) (L:=E.seven ser iss sub a b nn e++E.extra xs) (by rw[this];simp);have h4:=bV 163 (El.mk 48 (ag xs)).2.2;have h5:=bV 48 (ag xs);simp only[El.mk]at h3 h4 h5;omega
  rw[this,sY hw hne h2 qs hx hd]
  rfl
end
section
set_option maxRecDepth 100000
theorem jK (A B:List El):ag (A++B)=ag A++ag B:=by simp[ag]
theorem bA (k:Nat) {t:UInt8} {b:List UInt8} (h:t.toNat / 32 % 2=0):Der.thr k (El.mk t b).1 (El.mk t b).2.1=0:=pp k t b h
theorem aB (t:UInt8) (b:List UInt8):(El.mk t b).2.2=Der.write t b:=rfl
theorem sj (t:Tm):(E.moment t).2.2=Ref.general t:=by
 unfold E.moment Ref.general;rw[aB]
theorem px (a b:Tm):(E.validity a b).2.2=Ref.seq [Ref.general a,Ref.general b]:=by
 unfold E.validity Ref.seq;rw[aB];simp only[aL,bI,sj,List.flatten_cons,List.flatten_nil]
theorem zi (ser:List UInt8) (iss sub:El) (a b:Tm) (nn:List UInt8) (e:Nat) (f:Fl):(E.tbs ser iss sub a b nn e (E.exts f)).2.2=Ref.tbs iss.2.2 sub.2.2 ser nn a b e f:=by
 unfold E.tbs Ref.tbs Ref.seq;refine congrArg (Der.write 48) ?_;rw[jK,ur];simp only[E.seven,aL,bI,List.append_nil,List.flatten_cons,List.flatten_nil,pX,qi,yM,aB,px,List.append_assoc,Ref.seq]
def E.name (s:List UInt8):El:=El.mk 48 (ag [El.mk 49 (ag [El.mk 48 (ag [El.mk 6 [85,4,3],El.mk 12 s])])])
theorem gk (s:List UInt8):(E.name s).2.2=Ref.name s:=by
 unfold E.name Ref.name Ref.seq;simp only[aB,aL,bI,List.flatten_cons,List.flatten_nil,List.append_nil]
theorem qA (s:List UInt8) (h:(E.name s).2.2.length<4294967296):El.wf (E.name s)∧Der.thr 9 (E.name s).1 (E.name s).2.1=0:=by
 have g1:=bV 48 (ag [El.mk 49 (ag [El.mk 48 (ag [El.mk 6 [85,4,3],El.mk 12 s])])]);have h1:(ag [El.mk 49 (ag [El.mk 48 (ag [El.mk 6 [85,4,3],El.mk 12 s])])]).length<4294967296:=by simp only[E.name,El.mk]at h g1 ⊢;omega
 have w1:El.wf (El.mk 49 (ag [El.mk 48 (ag [El.mk 6 [85,4,3],El.mk 12 s])])):=cu (by decide) (List.mem_singleton.2 rfl) h1;have h2:=w1.2.2;simp only[El.mk]at h2;have w2:El.wf (El.mk 48 (ag [El.mk 6 [85,4,3],El.mk 12 s])):=cu (by decide) (List.mem_singleton.2 rfl) h2;have h3:=w2.2.2;simp only[El.mk]at h3;have w3:∀y∈[El.mk 6 [85,4,3],El.mk 12 s],El.wf y:=fun y hy=>by
  have qc:=hy;simp only[List.mem_cons,List.not_mem_nil,or_false]at qc;rcases qc with rfl|rfl
  ·exact cu (by decide) hy h3
  ·exact cu (by decide) hy h3
 refine⟨El.mk_wf (by decide) h1,?_⟩;refine aI (k:=8) (fun y hy=>?_) (fun y hy=>?_)
 ·rw[List.mem_singleton.1 hy];exact w1
 rw[List.mem_singleton.1 hy];refine aI (k:=7) (fun y hy=>?_) (fun y hy=>?_)
 ·rw[List.mem_singleton.1 hy];exact w2
 rw[List.mem_singleton.1 hy];refine aI (k:=6) w3 (fun y hy=>?_);simp only[List.mem_cons,List.not_mem_nil,or_false]at hy;rcases hy with rfl|rfl
 ·exact bA _ rfl
 ·exact bA _ rfl
theorem nE (a b:Tm):Der.thr 9 (E.validity a b).1 (E.validity a b).2.1=0:=
 aI (k:=8) (fun y hy=>by
  simp only[List.mem_cons,List.not_mem_nil,or_false]at hy;rcases hy with rfl|rfl<;>exact mA _) (fun y hy=>by
  simp only[List.mem_cons,List.not_mem_nil,or_false]at hy;rcases hy with rfl|rfl<;>exact pp _ 24 _ (by decide))
theorem wT {nn:List UInt8} {e:Nat} (hw:El.wf (E.key nn e)):Der.thr 9 (E.key nn e).1 (E.key nn e).2.1=0:=by
 have h1:=hw.2.2;simp only[E.key,El.mk]at h1;refine aI (k:=8) (fun y hy=>?_) (fun y hy=>?_)
 ·have qc:=hy
  simp only[List.mem_cons,List.not_mem_nil,or_false]at qc;rcases qc with rfl|rfl
  ·exact El.mk_wf (by decide) (by decide)
  ·exact cu (by decide) hy h1
 ·simp only[List.mem_cons,List.not_mem_nil,or_false]at hy
  rcases hy with rfl|rfl
  ·decide +kernel
  ·exact bA _ rfl
theorem rJ {xs:List El} (hw:∀y∈xs,El.wf y) (hx:∀y∈xs,Der.thr 7 y.1 y.2.1=0) (he:∀y∈E.extra xs,El.wf y):∀y∈E.extra xs,Der.thr 9 y.1 y.2.1=0:=by
 intro y hy;have qc:=he y hy;unfold E.extra at hy
 split at hy
 ·simp at hy
 ·rw[List.mem_singleton.1 hy]at qc ⊢
  have h1:=qc.2.2;have h2:=bV 48 (ag xs);simp only[El.mk]at h1;have e:(El.mk 163 (El.mk 48 (ag xs)).2.2).2.1=ag [El.mk 48 (ag xs)]:=by
   rw[aL,bI,List.append_nil]
   rfl
  rw[e];refine aI (k:=8) (fun z hz=>?_) (fun z hz=>?_)
  ·rw[List.mem_singleton.1 hz]
   exact El.mk_wf (by decide) (by omega)
  ·rw[List.mem_singleton.1 hz]
   exact aI (k:=7) hw hx
theorem xI {ser:List UInt8} {iss sub:El} {a b:Tm} {nn:List UInt8} {e:Nat} {xs:List El} (hall:∀y∈E.seven ser iss sub a b nn e++E.extra xs,El.wf y)
 (h1:Der.thr 9 iss.1 iss.2.1=0) (h2:Der.thr 9 sub.1 sub.2.1=0) (hw:∀y∈xs,El.wf y) (hx:∀y∈xs,Der.thr 7 y.1 y.2.1=0):Der.thr 10 (E.tbs ser iss sub a b nn e xs).1 (E.tbs ser iss sub a b nn e xs).2.1=0:=by
 refine aI (k:=9) hall (fun y hy=>?_);rcases List.mem_append.1 hy with hy|hy
 ·have qc:=hall y (List.mem_append_left _ hy)
  simp only[E.seven,List.mem_cons,List.not_mem_nil,or_false]at hy;rcases hy with rfl|rfl|rfl|rfl|rfl|rfl|rfl
  ·decide +kernel
  ·exact bA _ rfl
  ·decide +kernel
  ·exact h1
  ·exact nE a b
  ·exact h2
  ·exact wT qc
 ·exact rJ hw hx (fun z hz=>hall z (List.mem_append_right _ hz)) y hy
def E.cert (T:El) (g:List UInt8):El:=El.mk 48 (ag [T,E.alg,El.mk 3 (0::g)])
theorem ww (T:El) (g:List UInt8):(E.cert T g).2.2=Ref.wr T.2.2 g:=by
 unfold E.cert Ref.wr Ref.seq;refine congrArg (Der.write 48) ?_;simp only[aL,bI,List.flatten_cons,List.flatten_nil,qi,aB]
theorem lH {T:El} {g:List UInt8} (hT:El.wf T) (hl:(E.cert T g).2.2.length≤8192):El.wf (E.cert T g)∧∀y∈[T,E.alg,El.mk 3 (0::g)],El.wf y:=by
 have g1:=bV 48 (ag [T,E.alg,El.mk 3 (0::g)]);have h1:(ag [T,E.alg,El.mk 3 (0::g)]).length<4294967296:=by simp only[E.cert,El.mk]at hl g1 ⊢;omega
 refine⟨El.mk_wf (by decide) h1,fun y hy=>?_⟩;have qc:=hy;simp only[List.mem_cons,List.not_mem_nil,or_false]at qc;rcases qc with rfl|rfl|rfl
 ·exact hT
 ·exact El.mk_wf (by decide) (by decide)
 ·exact cu (by decide) hy h1
theorem rD {T:El} {g:List UInt8} (hT:El.wf T) (hd:Der.thr 10 T.1 T.2.1=0) (hl:(E.cert T g).2.2.length≤8192):Der.check (E.cert T g).2.2=0:=by
 have hw:=lH hT hl;rw[iD hw.1];refine aI (k:=14) hw.2 (fun y hy=>?_);simp only[List.mem_cons,List.not_mem_nil,or_false]at hy;rcases hy with rfl|rfl|rfl
 ·exact iV 4 hd
 ·decide +kernel
 ·exact bA _ rfl
theorem rE {T:El} {g:List UInt8} (hT:El.wf T) (hd:Der.thr 10 T.1 T.2.1=0) (hl:(E.cert T g).2.2.length≤8192) :
 Cert.parse (E.cert T g).2.2=match Cert.signed Fl.bare T with
  | none=>.no 9
  | some s=>.yes s g:=by
 have hw:=lH hT hl;unfold Cert.parse;rw[if_neg (by omega),rD hT hd hl,if_neg (by decide)];have hr:Cert.read (E.cert T g).2.2=(Cert.signed Fl.bare T).bind fun s=>some (s,g):=by
  unfold Cert.read;rw[ic hw.1];simp only[Option.bind_some];rw[dw (L:=[T,E.alg,El.mk 3 (0::g)]) (by rfl) rfl hw.2 (by simp) (by simp)];simp only[Option.bind_some,List.getD_cons_zero,List.getD_cons_succ];rw[kH,py]
  rfl
 rw[hr]
 cases Cert.signed Fl.bare T<;>rfl
theorem vO (xs:List UInt8):Der.trim (Der.trim xs)=Der.trim xs:=by
 induction xs with
 | nil=>rfl
 | cons x xs ih=>
  by_cases h:x=0
  ·subst h
   rw[fR,ih]
  ·rw[dT xs h,dT xs h]
theorem lN (k:aM):k.nn=Der.trim (k.n.take 600):=by
 unfold aM.nn;rw[fa]
 rfl
theorem gV (k:aM):k.serial=1::k.ser.take 18:=by
 unfold aM.serial Der.putInt;rw[show([1]++k.ser.take 18:List UInt8)=1::k.ser.take 18 from rfl,dT _ (by decide),if_neg (by simp)]
theorem yK (k:aM) (hp:k.path<256) (hu:k.usage<256):k.fl.std:=by
 refine⟨?_,?_,?_,?_⟩
 ·unfold aM.fl
  dsimp only
  split
  ·rename_i h
   simp only[Bool.and_eq_true,decide_eq_true_eq]at h;omega
  ·omega
 ·have:=yC k hp
  omega
 ·intro h
  unfold aM.fl at h ⊢;dsimp only at h ⊢;rw[h]
  rfl
 ·unfold aM.fl
  dsimp only
  split
  ·rename_i h
   exact .inr ⟨k.usage,hu,h,by push_cast;rfl⟩
  ·exact .inl rfl
theorem oC:∀l:List Nat,eG l l=false
 | []=>rfl
 | x::l=>by
  rw[eG,if_pos rfl];exact oC l
theorem rQ (k:aM):Stamp.right k.start=true∧Stamp.right k.stop=true∧Stamp.less k.stop k.start=false:=by
 have h1:Stamp.right k.start=true:=by
  unfold aM.start
  split
  ·assumption
  ·decide
 refine⟨h1,?_,?_⟩
 ·unfold aM.stop
  split
  ·exact h1
  ·rename_i h
   simp only[Bool.or_eq_true,Bool.not_eq_true',not_or]at h
   simpa using h.1
 ·unfold aM.stop
  split
  ·exact oC _
  ·rename_i h
   simp only[Bool.or_eq_true,Bool.not_eq_true',not_or]at h
   simpa using h.2
def aM.T (k:aM):El:=E.tbs k.serial (E.name (k.iss.take 200)) (E.name (k.sub.take 200)) k.start k.stop k.nn (k.e % 8589934592) (E.exts k.fl)
theorem om (k:aM):k.T.2.2=k.tbs:=by
 unfold aM.T aM.tbs;rw[zi,gk,gk]
def aM.sg (k:aM):Sg:=⟨k.tbs,Ref.name (k.iss.take 200),Ref.name (k.sub.take 200),k.serial,k.start,k.stop,k.nn,k.e % 8589934592,k.fl⟩
theorem uA (k:aM):k.nn.length≤600:=by
 rw[lN];have:=trim_len (k.n.take 600);rw[List.length_take]at this;omega
theorem mw (k:aM):k.tbs.length≤4000:=by
 refine qP _ _ _ _ _ _ _ _ (gj _ (by rw[List.length_take];omega)) (gj _ (by rw[List.length_take];omega)) ?_ (uA k);rw[gV,List.length_cons,List.length_take];omega
theorem AQ (t g:List UInt8) (h1:t.length≤4000) (h2:g.length≤600):(Ref.wr t g).length≤4700:=by
 unfold Ref.wr Ref.seq;have a1:=dn 3 (0::g) 601 (by simp;omega) (by omega);have a2:Ref.signAlg.length=15:=rfl;have a3:=dn 48 [t,Ref.signAlg,Der.write 3 (0::g)].flatten 4622 (by simp only[List.flatten_cons,List.flatten_nil,List.append_nil,List.length_append];omega) (by omega);omega
theorem gI (k:aM):k.raw.length≤4700:=AQ _ _ (mw k) (by rw[List.length_take];omega)
theorem uz (f:Fl) (hf:f.std):∀y∈E.exts f,Der.thr 7 y.1 y.2.1=0:=by
 have key:∀nm body,(E.ext nm body).2.2.length<4294967296→Der.thr 7 (E.ext nm body).1 (E.ext nm body).2.1=0:=fun nm body hl=>by
  have g2:=bV 48 (ag [El.mk 6 nm,El.mk 4 body]);have qc:(ag [El.mk 6 nm,El.mk 4 body]).length<4294967296:=by
   simp only[E.ext,El.mk]at hl g2 ⊢;omega
  refine aI (k:=6) (fun y hy=>?_) (fun y hy=>?_)
  ·have qd:=hy
   simp only[List.mem_cons,List.not_mem_nil,or_false]at qd;rcases qd with rfl|rfl
   ·exact cu (by decide) hy qc
   ·exact cu (by decide) hy qc
  ·simp only[List.mem_cons,List.not_mem_nil,or_false]at hy
   rcases hy with rfl|rfl
   ·exact bA _ rfl
   ·exact bA _ rfl
 intro y hy;unfold E.exts at hy;simp only[List.mem_append]at hy;rcases hy with(hy|hy)|hy
 ·split at hy
  ·rw[List.mem_singleton.1 hy]
   exact key _ _ (eT _ _ (by simp) (by have:=mh f.path;omega))
  ·simp at hy
 ·split at hy
  ·rw[List.mem_singleton.1 hy]
   rcases hf.u with hu|⟨p,hp,hp0,hu⟩
   ·omega
   ·rw[hu,Int.toNat_natCast]
    exact key _ _ (eT _ _ (by simp) (by have:=(qw p hp).2;omega))
  ·simp at hy
 ·split at hy
  ·simp at hy
  ·rw[List.mem_singleton.1 hy]
   exact key _ _ (eT _ _ (by simp) (by decide +kernel))
theorem wL (f:Fl):(E.exts f).length≤3:=by
 unfold E.exts;simp only[List.length_append];have h1:(if f.ca=true then[E.ext [85,29,19] (E.basic f.path).2.2] else []).length≤1:=by split<;>simp
 have h2:(if 0≤f.usage then[E.ext [85,29,15] (El.mk 3 (E.laid f.usage.toNat)).2.2] else []).length≤1:=by split<;>simp
 have h3:(if f.code=true then[] else [E.ext [85,29,37] E.host.2.2]).length≤1:=by split<;>simp
 omega
theorem jH (k:aM) (hp:k.path<256) (hu:k.usage<256):Cert.signed Fl.bare k.T=some k.sg∧El.wf k.T∧Der.thr 10 k.T.1 k.T.2.1=0:=by
 have hf:=yK k hp hu;obtain⟨ns,hx,hd⟩:=yB k.fl hf;have ht:=rQ k;have qh:∀s:List UInt8,(E.name (s.take 200)).2.2.length<4294967296:=fun s=>by
  rw[gk];have:=gj (s.take 200) (by rw[List.length_take];omega);omega
 have qd:=qA _ (qh k.iss);have qg:=qA _ (qh k.sub);have qc:Der.int k.serial=some (1::k.ser.take 18):=by
  unfold aM.serial;rw[fa,show([1]++k.ser.take 18:List UInt8)=1::k.ser.take 18 from rfl,dT _ (by decide)]
 have hm:=zX (f:=Fl.bare) (ser:=k.serial) (iss:=E.name (k.iss.take 200)) (sub:=E.name (k.sub.take 200)) (a:=k.start) (b:=k.stop) (nn:=k.nn) (e:=k.e % 8589934592) (xs:=E.exts k.fl) (p:=(k.fl,ns))
  qc (by simp) (by rw[gV,List.length_cons,List.length_take];omega) qd.1 rfl qg.1 rfl ht.1 ht.2.1 ht.2.2 (Nat.mod_lt _ (by decide)) (qo k.fl hf) (by have:=wL k.fl;omega) hx hd
  (by have h1:=mw k;rw[←om]at h1;unfold aM.T at h1;omega)
 refine⟨?_,hm.2.1,xI hm.2.2 qd.2 qg.2 (qo k.fl hf) (uz k.fl hf)⟩;refine hm.1.trans ?_;unfold aM.sg;rw[←om,gk,gk]
 congr 2
 rw[lN,vO]
theorem oo (k:aM):k.raw=(E.cert k.T (k.sig.take 600)).2.2:=by
 rw[ww,om]
 rfl
theorem rP (k:aM) (hp:k.path<256) (hu:k.usage<256):Cert.parse k.raw=.yes k.sg (k.sig.take 600):=by
 obtain⟨h1,h2,h3⟩:=jH k hp hu;have hl:=gI k;rw[oo]at hl ⊢;rw[rE h2 h3 (by omega),h1]
end
end
end Go.Proofs.YtmpkpphfoidbeaaGreatDoor
