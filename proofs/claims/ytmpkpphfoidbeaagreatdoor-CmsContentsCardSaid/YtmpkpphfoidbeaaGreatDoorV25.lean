import Derived.Test.YtmpkpphfoidbeaaGreatDoorV21
import Derived.Test.YtmpkpphfoidbeaaGreatDoorV24
set_option linter.unusedVariables false
set_option linter.unusedSimpArgs false
set_option maxRecDepth 100000
namespace Go.Proofs.YtmpkpphfoidbeaaGreatDoor
open Go.RowKit
theorem mQ {w w':World} {r:Option Nat} (h:w.grownBy w' r):w.grownBy w'.drew r:=⟨h.os,h.tape,h.output,h.size,h.block⟩
def sw (l:List Int) (w:World) (e:Ending) (w':World):Prop:=
 ∃A c,e=.returned (.tuple #[.slice A l.length c,.int .i64 0])∧aW w' w.heap.size w'.heap.size (.slice A l.length c) l∧Below w.heap.size w w'
theorem zX (x sh:Nat) (hx:x<4294967296) (h:x*2 ^ sh<4294967296):(x:Int) % 4294967296*2 ^ sh % 4294967296=((x*2 ^ sh:Nat):Int):=by
 have e:(x:Int) % 4294967296=(x:Int):=ab
 rw[e,show((x:Int)*2 ^ sh)=((x*2 ^ sh:Nat):Int) by rw[Int.natCast_mul,Int.natCast_pow];rfl];omega
set_option maxHeartbeats 4000000 in
theorem zJ (A:Option Addr) (n c:Nat) (xs:List UInt8) (w:World) (h:Rd w w.heap.size A n c xs) (hn:n≤512) (hn0:0<n) :
 Calls Tryz.prog 95 #[.slice A n c] w (sw (nl (Lb.of xs)) w):=by
 have hl:=h.len;obtain⟨b,o,rfl,hb,hcell⟩:=h.at_ hn0;obtain⟨m,hm⟩:∃m,(n+3) / 4=m:=⟨_,rfl⟩
 have ys:Int.tdiv ((n:Int)+3) 4=(m:Int):=by rw[←hm];rfl
 have yd:m≤200:=ab
 have j4:0<m:=ab
 have yh:n≤4*m:=ab
 have H:=hd3 hcell hl hm;clear hcell h hl hm
 go_enter Tryz.func95,Tryz.ntmps95
 go_wp2_with (first
  | (at_make;refine dP rfl _ _ rfl m rfl rfl ab ?_;intro w1 qd hg1 qg;have HM:=hd3 qd qg (qd.1.lt _ rfl).2;clear qd hg1 qg)
  | fail)
 have qg:=HM.2.1;have qd:=HM.1;have q6:=HM.2.2;have hz:nl (List.replicate m 0)=nl (Lb.ofN xs 0):=by rw[Lb.ofN,H.2.1,H.2.2]
 rw[hz]at qd;obtain⟨g,hg⟩:∃g,w.heap.size=g:=⟨_,rfl⟩
 have H1:=hd2 qd qg;rw[hg]at q6 ⊢;clear qd qg hz
 go_loopw [5] (fun iv wr=>∃i:Nat,i≤n∧iv=.int .i64 (i:Int)∧aW wr w.heap.size w1.heap.size (.slice (some ⟨g,0,none⟩) m m) (nl (Lb.ofN xs i))∧w1.grownBy wr (some g)) (fun iv _=>n - (intOf iv).toNat)
 case atStart=>exact⟨0,Nat.zero_le _,rfl,by rw[←hg];exact H1.1,fJ _ _⟩
 case round=>
  obtain⟨i,hi,rfl,ho,hgr⟩:=hrel;obtain⟨hL1,hL2⟩:=Lb.ofN_lim xs i;rw[H.2.1,H.2.2]at hL2;have qk:(nl (Lb.ofN xs i)).length=m:=by rw[bz,hL2]
  by_cases hlt:i<n
  ·have j0:(i:Int)<(n:Int):=ab
   have qh:Below w.heap.size w wr:=H1.2.grown hgr H1.2.size (fun k e=>by injection e with e;omega);obtain⟨k,hk⟩:∃k,n - 1 - i=k:=⟨_,rfl⟩
   obtain⟨x,hx⟩:∃x,xs[k]? = some x:=⟨_,List.getElem?_eq_getElem (by rw[H.2.1];omega)⟩
   have q1:=(qh.cell (p:=⟨b,o+k,none⟩) hb).trans (H.1 k x hx);obtain⟨q,hq⟩:∃q,i / 4=q:=⟨_,rfl⟩
   have yv:Int.tdiv (i:Int) 4=(q:Int):=by rw[←hq];rfl
   obtain⟨r,hr⟩:∃r,i % 4=r:=⟨_,rfl⟩
   have y0:Int.tmod (i:Int) 4=(r:Int):=by rw[←hr];rfl
   have yy:q<m:=ab
   have j5:(q:Int)<(m:Int):=ab
   have q2:=ho.cellAt (fL (L:=Lb.ofN xs i) (k:=q) ab);have q3:=ho.frozenAt qk q;have qs:=Rs.lim_get hL1 q;obtain⟨ov,hovE⟩:∃x,(Lb.ofN xs i).getD q 0=x:=⟨_,rfl⟩
   rw[hovE]at q2 qs;obtain⟨bx,hbx⟩:∃y,x.toNat=y:=⟨_,rfl⟩
   obtain⟨sh,hsh⟩:∃s,8*r=s:=⟨_,rfl⟩
   have j6:8*(r:Int)=(sh:Int):=ab
   have q4:sh≤24:=ab
   have qc:=Lb.byte_shift x i;rw[hr,hsh,hbx]at qc;obtain⟨y,hy⟩:∃y,bx*2 ^ sh=y:=⟨_,rfl⟩
   have m1:=zX bx sh (by have:=x.toNat_lt;omega) qc;rw[hy]at m1 qc;obtain⟨z,hz⟩:∃z,ov||| y=z:=⟨_,rfl⟩
   have m2:=mx ov y qs qc;rw[hz]at m2;rw[←m1,←hbx]at m2;have q5:bx<256:=by have:=x.toNat_lt;omega
   have m3:IntKind.u32.wrap (bx:Int)=(bx:Int):=by rw[IntKind.wrap_u32'];omega
   have qv:Lb.ofN xs (i+1)=(Lb.ofN xs i).set q z:=by
    rw[Lb.ofN,H.2.1,hk,hq,hr,hsh,hovE,List.getD_eq_getElem?_getD,hx];simp only[Option.getD_some];rw[hbx,hy,hz]
   have q1:wr.cell? ⟨b,o+k,none⟩=some (.int .u8 (bx:Int)):=by rw[q1];simp[bv,hbx]
   have j1:IntKind.i64.wrap ((n:Int) - 1)=((n - 1:Nat):Int):=by rw[IntKind.wrap_i64];omega
   have j2:IntKind.i64.wrap (((n - 1:Nat):Int) - (i:Int))=(k:Int):=by rw[IntKind.wrap_i64];omega
   have j3:(n:Int) - 1 - (i:Int)=(k:Int):=ab
   have j7:k<n:=ab
   have q9:(k:Int)<(n:Int):=ab
   have HS:=hd4 (ho.stored qk q (z:Int)) hgr qv m2;clear m1 m2;clear ho hgr hL1 hL2 qk qv hovE hbx hsh hy hz hq hr hx hk qh qs qc;obtain⟨wq,hwq⟩:∃V,V=wr:=⟨_,rfl⟩
   subst hwq
   go_upto_region 8 with fail
   go_region
   go_wp2_with fail
   rw[HS.2.2.2];refine⟨⟨i+1,ab,ag,?_,mQ (bM HS.2.1 _ _)⟩,by simp only[intOf];omega⟩;have h1:=HS.1;rw[gS,←HS.2.2.1]at h1;exact h1.keep fun _ _ _=>rfl
  ·obtain rfl:i=n:=ab
   have j8:¬((i:Int)<(i:Int)):=ab
   have qh:Below w.heap.size w wr:=H1.2.grown hgr H1.2.size (fun k e=>by injection e with e;omega);have q7:=hgr.size;obtain⟨_,c2,e2,hrd⟩:=ho.rd;rw[qk]at e2 hrd;injection e2 with e2 _ e3
   subst e2 e3;have q0:Lb.of xs=Lb.trim (Lb.ofN xs i):=by unfold Lb.of;rw[H.2.1]
   have HF:=hd3 (hrd.more q7) qh q0;clear ho qh hgr hrd q0
   go_wp2_with fail
   refine(jP _ m _ (Lb.ofN xs i) wr HF.1 ab j4).mono ?_;rintro e w2 ⟨A2,c2,rfl,ho2,hb2⟩;have H2:=hd2 ho2 hb2;clear ho2 hb2
   go_wp2_with fail
   go_ret2
   have qc:=HF.2.1.size;refine⟨A2,c2,by rw[HF.2.2];rfl,?_,HF.2.1.trans (H2.2.mono qc)⟩;rw[HF.2.2];exact H2.1.mono qc nl_
set_option maxHeartbeats 4000000 in
theorem yj (A A':Option Addr) (n c n' c':Nat) (a b:List Nat) (w:World) (ha:bX w w.heap.size A n c (nl a)) (hb:bX w w.heap.size A' n' c' (nl b)) (hla:Rs.Lim a) (hlb:Rs.Lim b) (hn:n≤200) (hn':n'≤200) (hn0:0<n) :
 Calls Tryz.prog 123 #[.slice A n c,.slice A' n' c'] w (iX (nl (Lb.mul a b)) w):=by
 have q7:a.length=n:=by have:=ha.len;rwa [bz]at this
 have q9:b.length=n':=by have:=hb.len;rwa [bz]at this
 have j0:IntKind.i64.wrap ((n:Int)+(n':Int))=((n+n':Nat):Int):=by rw[IntKind.wrap_i64];omega
 have H:=hd6 ha hb hla hlb q7 q9;clear ha hb hla hlb q7 q9
 go_enter Tryz.func123,Tryz.ntmps123
 obtain⟨s,hs⟩:∃s,n+n'=s:=⟨_,rfl⟩
 rw[hs]at j0
 go_wp2_with (first
  | (at_make;refine dP rfl _ _ rfl s rfl rfl ab ?_;intro w1 ho1 hg1 hb1)
  | fail)
 have yv:=hb1.size;have qg:nl (List.replicate s 0)=nl (Rs.tOut a b 0):=by rw[Rs.tOut,H.2.2.2.2.1,H.2.2.2.2.2,hs]
 rw[qg]at ho1;have H1:=hd2 ho1 hb1;have j5:w.heap.size<w1.heap.size:=(H1.1.1.lt _ rfl).2;clear ho1 hg1 hb1 qg;obtain⟨g,hg⟩:∃g,w.heap.size=g:=⟨_,rfl⟩
 rw[hg]at j5 yv ⊢
 go_loopw [6] (fun iv wr=>∃i:Nat,i≤n∧iv=.int .i64 (i:Int)∧aW wr w.heap.size w1.heap.size (.slice (some ⟨g,0,none⟩) s s) (nl (Rs.tOut a b i))∧w1.grownBy wr (some g)) (fun iv _=>n - (intOf iv).toNat)
 case atStart=>exact⟨0,Nat.zero_le _,rfl,by rw[←hg];exact H1.1,fJ _ _⟩
 case round=>
  obtain⟨i,hi,rfl,ho,hgr⟩:=hrel
  by_cases hlt:i<n
  ·have j8:(i:Int)<(n:Int):=ab
   obtain⟨wo,rfl⟩:∃V,V=wr:=⟨_,rfl⟩
   have HO:=hd2 ho hgr;clear ho hgr
   go_wp2_with fail
   go_loopw [7,8] (fun cv kv wr=>∃kk:Nat,kk≤n'∧kv=.int .i64 (kk:Int)∧cv=.int .u64 (((Rs.tIn (a.getD i 0) i b (Rs.tOut a b i) kk).2:Nat):Int)∧aW wr w.heap.size w1.heap.size (.slice (some ⟨g,0,none⟩) s s) (nl (Rs.tIn (a.getD i 0) i b (Rs.tOut a b i) kk).1)∧w1.grownBy wr (some g)) (fun _ kv _=>n' - (intOf kv).toNat)
   case atStart=>exact⟨0,Nat.zero_le _,rfl,rfl,HO.1,HO.2⟩
   case round=>
    obtain⟨kk,hk,rfl,rfl,ho,hgr⟩:=hrel;obtain⟨hL1,hL2,hL3⟩:=Rs.tIn_lim (i:=i) (Rs.lim_get H.2.2.1 i) H.2.2.2.1 (Rs.tOut_lim H.2.2.1 H.2.2.2.1 i).1 kk;rw[(Rs.tOut_lim H.2.2.1 H.2.2.2.1 i).2,H.2.2.2.2.1,H.2.2.2.2.2,hs]at hL3;have qd:(nl (Rs.tIn (a.getD i 0) i b (Rs.tOut a b i) kk).1).length=s:=by rw[bz,hL3]
    by_cases hkl:kk<n'
    ·have j7:(kk:Int)<(n':Int):=ab
     have qk:Below w.heap.size w wr:=H1.2.grown hgr H1.2.size (fun k e=>by injection e with e;omega);obtain⟨b1,o1,rfl,hb1,q1⟩:=H.1.getN (k:=i) ab;obtain⟨b2,o2,rfl,hb2,q2⟩:=H.2.1.getN (k:=kk) ab;have q1:=(qk.cell (p:=⟨b1,o1+i,none⟩) hb1).trans q1;have q2:=(qk.cell (p:=⟨b2,o2+kk,none⟩) hb2).trans q2;have q3:=ho.cellAt (fL (L:=(Rs.tIn (a.getD i 0) i b (Rs.tOut a b i) kk).1) (k:=i+kk) ab);have q4:=ho.frozenAt qd (i+kk);have qh:=Rs.step_lt (Rs.lim_get H.2.2.1 i) (Rs.lim_get H.2.2.2.1 kk) (Rs.lim_get hL1 (i+kk)) hL2;have j3:=Rs.lim_get H.2.2.1 i;have j4:=Rs.lim_get H.2.2.2.1 kk;have j2:=Rs.lim_get hL1 (i+kk);have qc:(Rs.tIn (a.getD i 0) i b (Rs.tOut a b i) (kk+1))=((Rs.tIn (a.getD i 0) i b (Rs.tOut a b i) kk).1.set (i+kk) ((a.getD i 0*b.getD kk 0+(Rs.tIn (a.getD i 0) i b (Rs.tOut a b i) kk).1.getD (i+kk) 0+(Rs.tIn (a.getD i 0) i b (Rs.tOut a b i) kk).2) % 4294967296),(a.getD i 0*b.getD kk 0+(Rs.tIn (a.getD i 0) i b (Rs.tOut a b i) kk).1.getD (i+kk) 0+(Rs.tIn (a.getD i 0) i b (Rs.tOut a b i) kk).2) / 4294967296):=rfl;obtain⟨L,hL⟩:∃L,(Rs.tIn (a.getD i 0) i b (Rs.tOut a b i) kk).1=L:=⟨_,rfl⟩
     obtain⟨cy,hcy⟩:∃L,(Rs.tIn (a.getD i 0) i b (Rs.tOut a b i) kk).2=L:=⟨_,rfl⟩
     rw[hL]at ho qd q3 qh j2 qc;rw[hcy]at qh hL2 qc ⊢;obtain⟨av,hav⟩:∃x,a.getD i 0=x:=⟨_,rfl⟩
     obtain⟨bv,hbv⟩:∃x,b.getD kk 0=x:=⟨_,rfl⟩
     obtain⟨ov,hovE⟩:∃x,L.getD (i+kk) 0=x:=⟨_,rfl⟩
     rw[hav]at q1 qh j3;rw[hbv]at q2 qh j4 qc;rw[hovE]at q3 qh j2 qc;obtain⟨pv,hpv⟩:∃x,av*bv=x:=⟨_,rfl⟩
     have q0:(av:Int)*(bv:Int)=(pv:Int):=by rw[←hpv];push_cast;rfl
     obtain⟨qv,hqv⟩:∃x,pv+ov=x:=⟨_,rfl⟩
     obtain⟨xv,hxv⟩:∃x,qv+cy=x:=⟨_,rfl⟩
     obtain⟨lo,hlo⟩:∃x,xv % 4294967296=x:=⟨_,rfl⟩
     obtain⟨hi',hhi⟩:∃x,xv / 4294967296=x:=⟨_,rfl⟩
     obtain⟨p,hp⟩:∃x,i+kk=x:=⟨_,rfl⟩
     rw[hpv]at qh;have qs:(Rs.tIn (a.getD i 0) i b (Rs.tOut a b i) (kk+1))=(L.set p lo,hi'):=by
      rw[qc,hav,hpv,hqv,hxv,hlo,hhi,hp]
     have m1:IntKind.u64.wrap ((av:Int)*(bv:Int))=(pv:Int):=by rw[q0,IntKind.wrap_u64];omega
     have m2:IntKind.u64.wrap ((pv:Int)+(ov:Int))=(qv:Int):=by rw[IntKind.wrap_u64];omega
     have m3:IntKind.u64.wrap ((qv:Int)+(cy:Int))=(xv:Int):=by rw[IntKind.wrap_u64];omega
     have y0:bits .and .u64 (xv:Int) 4294967295=(lo:Int):=by rw[yX xv ab,hlo]
     have m4:IntKind.u32.wrap (lo:Int)=(lo:Int):=by rw[IntKind.wrap_u32'];omega
     have m5:(xv:Int) / 4294967296=(hi':Int):=ab
     have m6:IntKind.i64.wrap ((i:Int)+(kk:Int))=(p:Int):=by rw[IntKind.wrap_i64];omega
     have m7:IntKind.u64.wrap (av:Int)=(av:Int):=by rw[IntKind.wrap_u64];omega
     have m8:IntKind.u64.wrap (bv:Int)=(bv:Int):=by rw[IntKind.wrap_u64];omega
     have m9:IntKind.u64.wrap (ov:Int)=(ov:Int):=by rw[IntKind.wrap_u64];omega
     have ys:p<s:=ab
     have yh:(p:Int)<(s:Int):=ab
     rw[hp]at q3 q4;have HS:=hd3 (ho.stored qd p (lo:Int)) hgr qs;clear ho hgr hL3 qd hL1 qc qs qh hL hcy hav hbv hovE hpv hqv hxv hlo hhi hp q0 qk
     go_upto_region 9 with fail
     go_quiet (fail)
     go_wp2_with fail
     refine⟨⟨kk+1,ab,ag,by rw[HS.2.2],?_,?_⟩,?_⟩
     ·rw[HS.2.2]
      have h1:=HS.1;rw[gS]at h1;exact h1.keep fun k _ _=>rfl
     ·exact bM (gf HS.2.1 nq) _ _
     ·simp[intOf];omega
    ·have j7:¬((kk:Int)<(n':Int)):=ab
     obtain rfl:kk=n':=ab
     have q3:=ho.cellAt (fL (L:=(Rs.tIn (a.getD i 0) i b (Rs.tOut a b i) kk).1) (k:=i+kk) ab);have q4:=ho.frozenAt qd (i+kk);have qc:Rs.tOut a b (i+1)=(Rs.tIn (a.getD i 0) i b (Rs.tOut a b i) kk).1.set (i+kk) ((Rs.tIn (a.getD i 0) i b (Rs.tOut a b i) kk).2 % 4294967296):=by rw[Rs.tOut,H.2.2.2.2.2]
     obtain⟨L,hL⟩:∃L,(Rs.tIn (a.getD i 0) i b (Rs.tOut a b i) kk).1=L:=⟨_,rfl⟩
     obtain⟨cy,hcy⟩:∃L,(Rs.tIn (a.getD i 0) i b (Rs.tOut a b i) kk).2=L:=⟨_,rfl⟩
     rw[hL]at ho qd q3 qc;rw[hcy,Nat.mod_eq_of_lt (by rw[←hcy];exact hL2)]at qc;rw[hcy]at hL2 ⊢;obtain⟨ov,hovE⟩:∃x,L.getD (i+kk) 0=x:=⟨_,rfl⟩
     rw[hovE]at q3;obtain⟨p,hp⟩:∃x,i+kk=x:=⟨_,rfl⟩
     rw[hp]at q3 q4 qc;have m4:IntKind.u32.wrap (cy:Int)=(cy:Int):=by simp only[IntKind.wrap,IntKind.bits,IntKind.signed];simp;omega
     have m6:IntKind.i64.wrap ((i:Int)+(kk:Int))=(p:Int):=by rw[IntKind.wrap_i64];omega
     have ys:p<s:=ab
     have yh:(p:Int)<(s:Int):=ab
     have HS:=hd3 (ho.stored qd p (cy:Int)) hgr qc;clear ho hgr hL3 qd hL1 qc hL hcy hovE hp
     go_wp2_with fail
     refine⟨⟨i+1,ab,ag,?_,?_⟩,?_⟩
     ·rw[HS.2.2]
      have h1:=HS.1;rw[gS]at h1;exact h1
     ·exact bM HS.2.1 _ _
     ·simp[intOf];omega
  ·obtain rfl:i=n:=ab
   have yy:¬((i:Int)<(i:Int)):=ab
   have qk:Below w.heap.size w wr:=H1.2.grown hgr H1.2.size (fun k e=>by injection e with e;omega);have j6:=hgr.size;have HF:=hd2 ho qk;have q6:=(Rs.tOut_lim H.2.2.1 H.2.2.2.1 i).2;rw[H.2.2.2.2.1,H.2.2.2.2.2,hs]at q6;have HT:=hd1 q6;clear ho qk hgr q6;obtain⟨_,c2,e2,hrd⟩:=HF.1.rd;rw[bz,HT.out]at e2 hrd;injection e2 with e2 _ e3
   subst e2 e3;have q5:=hrd.more j6;have HR:=hd1 q5;clear hrd q5
   go_wp2_with fail
   refine(jP _ s _ (Rs.tOut a b i) wr HR.out ab ab).mono ?_;rintro e w2 ⟨A2,c2,rfl,ho2,hb2⟩;have H2:=hd2 ho2 hb2;clear ho2 hb2
   go_wp2_with fail
   go_ret
   have j1:=HF.2.size;have yd:Lb.mul a b=Lb.trim (Rs.tOut a b i):=by unfold Lb.mul Rs.times;rw[H.2.2.2.2.1]
   rw[yd];exact jo (H2.1.mono j1 nl_) (HF.2.trans (H2.2.mono j1))
set_option maxHeartbeats 4000000 in
theorem yo (A A':Option Addr) (n c c':Nat) (a b:List Nat) (w:World) (ha:bX w w.heap.size A n c (nl a)) (hb:bX w w.heap.size A' n c' (nl b)) (hla:Rs.Lim a) (hlb:Rs.Lim b) (hn:n≤200) (hn0:0<n) :
 Calls Tryz.prog 125 #[.slice A n c,.slice A' n c'] w (iX (nl (Lb.sub a b)) w):=by
 have qd:a.length=n:=by have:=ha.len;rwa [bz]at this
 have H:=hd5 ha hb hla hlb qd;clear ha hb hla hlb qd
 go_enter Tryz.func125,Tryz.ntmps125
 go_wp2_with fail
 go_loopw [5,6,7] (fun ov bv iv wr=>∃(i c:Nat) (A:Option Addr),i≤n∧iv=.int .i64 (i:Int)∧bv=.int .u64 (((Lb.subN a b i).2:Nat):Int)∧ov=.slice A i c∧aW wr w.heap.size wr.heap.size (.slice A i c) (nl (Lb.subN a b i).1)∧Below w.heap.size w wr) (fun _ _ iv _=>n - (intOf iv).toNat)
 case atStart=>exact⟨0,0,none,Nat.zero_le _,rfl,rfl,rfl,aW.nil_,Below.refl _ _⟩
 case round=>
  obtain⟨i,co,Ao,hi,rfl,rfl,rfl,ho,hbe⟩:=hrel;obtain⟨hL1,hL2,hL3⟩:=Lb.subN_lim a b i
  by_cases hlt:i<n
  ·have qh:(i:Int)<(n:Int):=ab
   have qs:=Rs.lim_get H.2.2.1 i;have qv:=Rs.lim_get H.2.2.2.1 i;have c1:=vQ A n c i a wr (H.1.up hbe) hlt H.2.2.1;have c2:=vQ A' n c' i b wr (H.2.1.up hbe) hlt H.2.2.2.1;have qc:Lb.subN a b (i+1)=((Lb.subN a b i).1++[(a.getD i 0+4294967296 - b.getD i 0 - (Lb.subN a b i).2) % 4294967296],1 - (a.getD i 0+4294967296 - b.getD i 0 - (Lb.subN a b i).2) / 4294967296):=rfl;obtain⟨x,hx⟩:∃x,a.getD i 0=x:=⟨_,rfl⟩
   obtain⟨y,hy⟩:∃x,b.getD i 0=x:=⟨_,rfl⟩
   obtain⟨bw,hbw⟩:∃x,(Lb.subN a b i).2=x:=⟨_,rfl⟩
   rw[hx]at c1 qs qc;rw[hy]at c2 qv qc;rw[hbw]at qc hL2 ⊢;obtain⟨t,ht⟩:∃t,x+4294967296 - y - bw=t:=⟨_,rfl⟩
   obtain⟨lo,hlo⟩:∃t',t % 4294967296=t':=⟨_,rfl⟩
   obtain⟨hq,hhq⟩:∃t',t / 4294967296=t':=⟨_,rfl⟩
   rw[ht,hlo,hhq]at qc;have m1:(x:Int)+4294967296 - (y:Int) - (bw:Int)=(t:Int):=ab
   have q1:hq≤1:=ab
   have q3:bits .and .u64 (t:Int) 4294967295=(lo:Int):=by rw[yX t ab,hlo]
   have m4:IntKind.u32.wrap (lo:Int)=(lo:Int):=by rw[IntKind.wrap_u32'];omega
   have m5:(t:Int) / 4294967296=(hq:Int):=ab
   have m6:(1:Int) - (hq:Int)=((1 - hq:Nat):Int):=ab
   have q2:=hbe.size;have HS:=hd6 ho hbe qc c1 c2 hL3;clear ho hbe qc hx hy hbw c1 c2 hL1 hL3
   go_wp2_with fail
   refine HS.2.2.2.1.mono ?_;rintro e w1 ⟨rfl,rfl⟩
   go_wp2_with fail
   refine HS.2.2.2.2.1.mono ?_;rintro e w1 ⟨rfl,rfl⟩
   go_wp2_with (first
    | (at_builtin
       refine eP rfl (.tmp 25) (.tmp 29) rfl w.heap.size w1.heap.size (.slice Ao i co) (nl (Lb.subN a b i).1) rfl (aI.alloc HS.1 nl_ _) ?_ (w1.alloc (.cells #[.int .u32 (lo:Int)] 88)).heap.size (some ⟨w1.heap.size,0,none⟩) 1 1 [(lo:Int)] rfl ?_ ?_ ?_
       ·simp;omega
       ·exact aV w1 88 [.int .u32 (lo:Int)] _ rfl
       ·rw[bz,HS.2.2.2.2.2];omega
       intro v7 w7 ho7 hg7 hb7;have H7:=hd2 ho7 hb7;clear ho7 hg7 hb7)
    | fail)
   obtain⟨A7,c7,e7,r7⟩:=H7.1.rd;rw[List.length_append,bz,HS.2.2.2.2.2,List.length_singleton]at e7;subst e7;have he:nl (Lb.subN a b i).1++[(lo:Int)]=nl (Lb.subN a b (i+1)).1:=by rw[HS.2.2.1];simp[nl]
   refine⟨⟨i+1,c7,A7,ab,ag,by rw[HS.2.2.1],rfl,?_,(HS.2.1.alloc HS.2.1.size _).trans H7.2⟩,?_⟩
   ·rw[←he];exact H7.1
   ·simp[intOf];omega
  ·obtain rfl:i=n:=ab
   have q0:¬((i:Int)<(i:Int)):=ab
   obtain⟨_,c2,e2,hrd⟩:=ho.rd;rw[bz,hL3]at e2 hrd;injection e2 with e2 _ e3
   subst e2 e3;have HF:=hd3 hrd hbe ho;clear ho hbe hrd
   go_wp2_with fail
   refine(jP _ i _ (Lb.subN a b i).1 wr HF.1 ab hn0).mono ?_;rintro e w2 ⟨A2,c2,rfl,ho2,hb2⟩;have H2:=hd2 ho2 hb2;clear ho2 hb2
   go_wp2_with fail
   go_ret
   have qg:=HF.2.1.size;have qk:Lb.sub a b=Lb.trim (Lb.subN a b i).1:=by unfold Lb.sub;rw[H.2.2.2.2]
   rw[qk];exact jo (H2.1.mono qg nl_) (HF.2.1.trans (H2.2.mono qg))
theorem pr (A A':Option Addr) (n c n' c':Nat) (a b:List Nat) (w:World) (ha:bX w w.heap.size A n c (nl a)) (hb:bX w w.heap.size A' n' c' (nl b)) (hla:Rs.Lim a) (hlb:Rs.Lim b) (hn:n≤100) (hn':n'≤100) (hn0:0<n) (hn0':0<n')
 (hra:Lb.right a=true) (hrb:Lb.right b=true) (hlen:(Lb.mul a b).length≤256) :
 Calls Tryz.prog 96 #[.slice A n c,.slice A' n' c'] w (sw (nl (Lb.mul a b)) w):=by
 have H:=hd4 (eR A n c a w ha ab hn0 hra) (eR A' n' c' b w hb ab hn0' hrb) (yj A A' n c n' c' a b w ha hb hla hlb ab ab hn0) hlen;clear ha hb hla hlb hra hrb hlen
 go_enter Tryz.func96,Tryz.ntmps96
 go_wp2_with fail
 refine H.1.mono ?_;rintro e w1 ⟨rfl,rfl⟩
 go_wp2_with fail
 refine H.2.1.mono ?_;rintro e w1 ⟨rfl,rfl⟩
 go_wp2_with fail
 refine H.2.2.1.mono ?_;rintro e w2 ⟨A2,c2,rfl,ho2,hb2⟩;have H2:=hd2 ho2 hb2;clear ho2 hb2;have hl:=H.2.2.2;obtain⟨m,hm⟩:∃m,(nl (Lb.mul a b)).length=m:=⟨_,rfl⟩
 have qc:=hm;rw[bz]at qc;rw[qc]at hl;rw[hm]
 go_wp2_with fail
 refine(vX A2 m c2 w2 hl).mono ?_;rintro e w3 ⟨rfl,rfl⟩
 go_wp2_with fail
 go_ret2
 have h1:=H2.1;rw[hm]at h1;exact⟨A2,c2,by rw[hm];rfl,by rw[hm];exact h1,H2.2⟩
theorem xZ (A A':Option Addr) (n c c':Nat) (a b:List Nat) (w:World) (ha:bX w w.heap.size A (n+1) c (nl a)) (hb:bX w w.heap.size A' (n+1) c' (nl b)) (hla:Rs.Lim a) (hlb:Rs.Lim b) (hn:n≤100)
 (hra:Lb.right a=true) (hrb:Lb.right b=true) (hlt:b.getD n 0<a.getD n 0) :
 Calls Tryz.prog 97 #[.slice A (n+1:Nat) c,.slice A' (n+1:Nat) c'] w (sw (nl (Lb.sub a b)) w):=by
 have H:=hd7 (eR A (n+1) c a w ha ab ab hra) (eR A' (n+1) c' b w hb ab ab hrb) (tA A A' n c c' a b w ha hb ab hlt) ha hb hla hlb;clear ha hb hla hlb hra hrb hlt
 go_enter Tryz.func97,Tryz.ntmps97
 go_wp2_with fail
 refine H.1.mono ?_;rintro e w1 ⟨rfl,rfl⟩
 go_wp2_with fail
 refine H.2.1.mono ?_;rintro e w1 ⟨rfl,rfl⟩
 go_wp2_with fail
 refine H.2.2.1.mono ?_;rintro e w2 ⟨rfl,k,j,rfl⟩
 go_wp2_with fail
 refine(yo A A' (n+1) c c' a b (w1.drewN (k+j)) (H.2.2.2.1.keep fun _ _=>rfl) (H.2.2.2.2.1.keep fun _ _=>rfl) H.2.2.2.2.2.1 H.2.2.2.2.2.2 ab ab).mono ?_;rintro e w2 ⟨A2,c2,rfl,ho2,hb2⟩;have H2:=hd2 ho2 hb2;clear ho2 hb2
 go_wp2_with fail
 go_ret2
 exact⟨A2,c2,rfl,H2.1,(ar br_ (k+j)).trans H2.2⟩
theorem zi {w:World} {g:Nat} {t:TypeId} {L:List UInt8} (h:aw w g t (L.map bv).toArray) (p:Nat) (x:UInt8):aw (w.setCell ⟨g,p,none⟩ (bv x)) g t ((L.set p x).map bv).toArray:=by
 have:=h.set_ p (bv x)
 rwa [List.setIfInBounds_toArray,←List.map_set]at this
set_option maxHeartbeats 4000000 in
theorem pE (A:Option Addr) (m c:Nat) (l:List Nat) (w:World) (h:bX w w.heap.size A m c (nl l)) (hm:m≤64) (hm0:0<m) (hr:Lb.right l=true) (hl:Rs.Lim l) :
 Calls Tryz.prog 98 #[.slice A m c,.int .i64 256] w fun e w'=>∃g,e=.returned (.tuple #[.slice (some ⟨g,0,none⟩) 256 256,.int .i64 0])∧w.heap.size≤g∧aw w' g 5 ((Lb.octets l 256).map bv).toArray∧Below w.heap.size w w':=by
 have qc:=h.len;rw[bz]at qc;obtain⟨b,o,rfl,hb⟩:=h.spot hm0;have H:=hd5 h qc hl (eR _ m c l w h ab hm0 hr) (vT _ m c l w h ab hm0 hr hl);clear h qc hl hr;have j6:∀W:World,(Instr.makeSlice 22 (.int .i64 256) (.int .i64 256)).run Tryz.prog W=.ok (.slice (some ⟨W.heap.size,0,none⟩) 256 256) (W.alloc (.cells (fS 256) 5)):=fun W=>oc 256 ab W
 obtain⟨m4,hm4⟩:∃s,4*m=s:=⟨_,rfl⟩
 have q9:4*(m:Int)=(m4:Int):=ab
 go_enter Tryz.func98,Tryz.ntmps98
 go_wp2_with fail
 refine H.2.2.2.1.mono ?_;rintro e w1 ⟨rfl,rfl⟩
 go_wp2_with fail
 refine H.2.2.2.2.mono ?_;rintro e w2 ⟨⟨k,hk,rfl⟩,rfl⟩;have q6:¬(2048<(k:Int)):=ab
 go_wp2_with fail
 obtain⟨w3,hw3⟩:∃W,W=w2.alloc (.cells (fS 256) 5):=⟨_,rfl⟩
 rw[←hw3];have qg:aw w3 w2.heap.size 5 ((Lb.octN l 256 0).map bv).toArray:=by rw[hw3];exact aw.new _ _ _
 have qh:Below w2.heap.size w2 w3:=by rw[hw3];exact aB _ _
 obtain⟨g,hg⟩:∃g,w2.heap.size=g:=⟨_,rfl⟩
 have H3:=hd3 qg qh hg;rw[hg];clear qg qh hw3 q6 hk
 go_loopw [7] (fun iv wr=>∃i:Nat,i≤m4∧iv=.int .i64 (i:Int)∧aw wr g 5 ((Lb.octN l 256 i).map bv).toArray∧w3.grownBy wr (some g)) (fun iv _=>300 - (intOf iv).toNat)
 case atStart=>exact⟨0,Nat.zero_le _,rfl,by rw[←H3.2.2];exact H3.1,fJ _ _⟩
 case round=>
  obtain⟨i,hi,rfl,hB,hgr⟩:=hrel;have fin:i=m4→aw wr g 5 ((Lb.octets l 256).map bv).toArray∧Below g w2 wr:=fun e=>by
   rw[←hg]at hgr hB ⊢;refine⟨?_,H3.2.1.grown hgr H3.2.1.size (fun k e=>by injection e with e;omega)⟩;unfold Lb.octets;rw[H.2.1,hm4,show min 256 m4=i by omega];exact hB
  have HF:=hd1 fin;clear fin
  by_cases hlt:i<m4
  ·have q7:(i:Int)<(m4:Int):=ab
   have q4:(i:Int)<256:=ab
   have qk:Below w2.heap.size w2 wr:=H3.2.1.grown hgr H3.2.1.size (fun k e=>by injection e with e;have:=H3.2.2;omega);obtain⟨q,hq⟩:∃q,i / 4=q:=⟨_,rfl⟩
   have j8:Int.tdiv (i:Int) 4=(q:Int):=by rw[←hq];rfl
   obtain⟨r,hr⟩:∃r,i % 4=r:=⟨_,rfl⟩
   have yd:Int.tmod (i:Int) 4=(r:Int):=by rw[←hr];rfl
   obtain⟨sh,hsh⟩:∃s,8*r=s:=⟨_,rfl⟩
   have j3:8*(r:Int)=(sh:Int):=ab
   have q2:sh≤24:=ab
   have j1:q<m:=ab
   have j2:(q:Int)<(m:Int):=ab
   obtain⟨b1,o1,e1,hb1,q1⟩:=H.1.getN (k:=q) j1;injection e1 with e1
   injection e1 with e1 e2
   subst e1 e2;have q1:=(qk.cell (p:=⟨b,o+q,none⟩) hb1).trans q1;obtain⟨x,hx⟩:∃x,l.getD q 0=x:=⟨_,rfl⟩
   rw[hx]at q1;obtain⟨p,hp⟩:∃p,255 - i=p:=⟨_,rfl⟩
   have j7:(255:Int) - (i:Int)=(p:Int):=ab
   have q0:p<256:=ab
   have qd:(p:Int)<256:=ab
   have j0:=Lb.octN_len l 256 i;have co:=hB.cell p;obtain⟨u0,hu0⟩:∃u,((Lb.octN l 256 i).map bv).toArray[p]? = some u:=⟨_,Array.getElem?_eq_getElem ai⟩
   rw[hu0]at co;have j4:=hB.frozen p;have qv:Lb.octN l 256 (i+1)=(Lb.octN l 256 i).set p (UInt8.ofNat (x / 2 ^ sh)):=by rw[Lb.octN,hq,hr,hsh,hx,show 256 - 1 - i=p by omega]
   have qs:bv (UInt8.ofNat (x / 2 ^ sh))=.int .u8 ((x:Int) / 2 ^ sh % 256):=by
    unfold bv;rw[UInt8.toNat_ofNat']
    congr 1
   have HS:=hd4 hB hgr qv qs;clear hB hgr qv qs hq hr hsh hx hp j0 hu0 qk
   go_wp2_with fail
   have q3:=zi HS.1 p (UInt8.ofNat (x / 2 ^ sh));rw[HS.2.2.2,←HS.2.2.1]at q3;exact⟨⟨i+1,ab,ag,q3,bM HS.2.1 _ _⟩,by simp only[intOf];omega⟩
  ·obtain rfl:i=m4:=ab
   have j5:¬((i:Int)<(i:Int)):=ab
   have hH:=HF.out rfl;have HH:=hd1 hH;clear hH hB hgr
   by_cases h6:i<256
   ·have q5:(i:Int)<256:=ab
    go_wp2_with fail
    go_ret2
    exact⟨g,rfl,Nat.le_refl _,HH.1,HH.2⟩
   ·have q5:¬((i:Int)<256):=ab
    go_wp2_with fail
    go_ret2
    exact⟨g,rfl,Nat.le_refl _,HH.1,HH.2⟩
def Lb.ahead:List UInt8:=[48,49,48,13,6,9,96,134,72,1,101,3,4,2,1,5,0,4,32]
theorem tz (w:World):Calls Tryz.prog 119 #[] w (aO Lb.ahead w):=by
 go_enter Tryz.func119,Tryz.ntmps119
 go_wp2_with fail
 go_ret
 exact cE ((az.lit w Lb.ahead [.int .u8 48,.int .u8 49,.int .u8 48,.int .u8 13,.int .u8 6,.int .u8 9,.int .u8 96,.int .u8 134,.int .u8 72,.int .u8 1,.int .u8 101,.int .u8 3,.int .u8 4,.int .u8 2,.int .u8 1,.int .u8 5,.int .u8 0,.int .u8 4,.int .u8 32] 19 rfl rfl ab).mono nl_ ag) (aB w _)
theorem wu {w:World} {g:Nat} {t:TypeId} {xs:List UInt8} (h:aw w g t (xs.map bv).toArray) {n:Nat} (hl:xs.length=n):aF w w.heap.size 1 (some ⟨g,0,none⟩) n (xs.map bv):=by
 subst hl;refine⟨ag,fun h0=>⟨_,rfl,h.lt,fun j v hv=>?_⟩⟩;rw[Addr.add_lit,Nat.zero_add,h.cell]
 simpa using hv
set_option maxHeartbeats 4000000 in
theorem ye (d:List UInt8) (hd:d.length=32) (w:World) :
 Calls Tryz.prog 94 #[.agg (d.map bv).toArray,.int .i64 256] w fun e w'=>∃A c,e=.returned (.tuple #[.slice A 256 c,.int .i64 0])∧az w' w.heap.size w'.heap.size (.slice A 256 c) (Lb.enc d)∧Below w.heap.size w w':=by
 have H:=hd1 hd;clear hd;have hB:=aw.new w 47 (d.map bv).toArray;have hb:=aB w (.cells (d.map bv).toArray 47);have HB:=hd2 hB hb;clear hB hb
 go_enter Tryz.func94,Tryz.ntmps94
 go_wp2_with fail
 obtain⟨w1,hw1⟩:∃W,W=w.alloc (.cells (d.map bv).toArray 47):=⟨_,rfl⟩
 rw[←hw1];have q4:w1.heap.size=w.heap.size+1:=by rw[hw1];simp
 have qk:=az.lit w1 [0,1] [.int .u8 0,.int .u8 1] 2 rfl rfl ab;have qh:=aB w1 (.cells #[.int .u8 0,.int .u8 1] 5);have qg:=HB.out;rw[←hw1]at qg;have H1:=hd3 qg (qk.mono nl_ (show w1.heap.size+1≤(w1.alloc (.cells #[.int .u8 0,.int .u8 1] 5)).heap.size by simp)) qh;clear qg qk qh hw1
 go_loopw [6] (fun ov wr=>∃(k m c:Nat) (A:Option Addr),m=2+k∧k≤202∧ov=.slice A m c∧az wr w1.heap.size wr.heap.size (.slice A m c) ([0,1]++List.replicate k 255)∧Below w1.heap.size w1 wr) (fun ov _=>300 - oW ov)
 case atStart=>exact⟨0,2,2,_,rfl,ab,rfl,by rw[←q4];simpa using H1.2.1,H1.2.2⟩
 case round=>
  obtain⟨k,m,c,A,hm,hk,rfl,ho,hb⟩:=hrel;have q9:=hb.size;have qc:([0,1]++List.replicate k (255:UInt8)).length=m:=ai
  by_cases hlt:k<202
  ·have qv:(m:Int)<204:=ab
   have qd : [0,1]++List.replicate (k+1) (255:UInt8)=([0,1]++List.replicate k 255)++[255]:=by rw[List.replicate_succ',List.append_assoc]
   have HZ:=hd5 ho hb hm qd qc;clear ho hb hm qd qc
   go_wp2_with (first
    | (at_builtin
       refine aP rfl (.tmp 19) (.tmp 20) rfl w1.heap.size wr.heap.size (.slice A m c) ([0,1]++List.replicate k 255) rfl (HZ.1.alloc nl_ _) ?_ (wr.alloc (.cells #[.int .u8 255] 5)).heap.size (some ⟨wr.heap.size,0,none⟩) 1 1 [255] rfl ?_ ?_ ?_
       ·simp;omega
       ·exact aV wr 5 [.int .u8 255] _ rfl
       ·rw[HZ.2.2.2.2];omega
       intro v7 w7 ho7 hg7 hat7 hb7;have HA:=hd2 ho7 hb7;clear ho7 hg7 hat7 hb7)
    | fail)
   obtain⟨A7,n7,c7,e7,hr7⟩:=HA.1.rd;subst e7;have qs:=hr7.len;rw[List.length_append,HZ.2.2.2.2]at qs;have q3:n7=m+1:=by simpa using qs.symm
   refine⟨⟨k+1,n7,c7,A7,by have:=HZ.2.2.1;omega,ab,rfl,?_,HZ.2.1.trans ((br_.alloc HZ.2.1.size _).trans HA.2)⟩,?_⟩
   ·rw[HZ.2.2.2.1]
    exact HA.1
   ·simp only[oW]
    omega
  ·obtain rfl:k=202:=ab
   obtain rfl:m=204:=ab
   obtain⟨P,hP⟩:∃P,[0,1]++List.replicate 202 (255:UInt8)=P:=⟨_,rfl⟩
   rw[hP]at ho qc;have q6:¬(((204:Nat):Int)<204):=ab
   have HZ:=hd4 ho hb qc hP;clear ho hb qc hP;obtain⟨w2,rfl⟩:∃V,V=wr:=⟨_,rfl⟩
   go_wp2_with (first
    | (at_builtin
       refine aP rfl (.tmp 22) (.tmp 23) rfl w1.heap.size w2.heap.size (.slice A 204 c) P rfl (HZ.1.alloc nl_ _) ?_ (w2.alloc (.cells #[.int .u8 0] 5)).heap.size (some ⟨w2.heap.size,0,none⟩) 1 1 [0] rfl ?_ ?_ ?_
       ·simp;omega
       ·exact aV w2 5 [.int .u8 0] _ rfl
       ·rw[HZ.2.2.1];omega
       intro v3 w3 ho3 hg3 hat3 hb3;have H3:=hd2 ho3 (HZ.2.1.trans ((br_.alloc HZ.2.1.size _).trans hb3));clear ho3 hg3 hat3 hb3)
    | fail)
   obtain⟨A3,n3,c3,rfl,hr3⟩:=H3.1.rd;have q0:n3=205:=by have:=hr3.len;rw[List.length_append,HZ.2.2.1]at this;simpa using this.symm
   subst q0;clear hr3;refine(tz w3).mono ?_;rintro e w4 ⟨A4,n4,c4,rfl,ho4,hb4⟩;obtain⟨_,_,_,e4,hr4⟩:=ho4.rd;injection e4 with a1 a2 a3
   subst a1 a2 a3;have q1:n4=19:=hr4.len.symm;subst q1;have q5:=H3.2.size;have q7:=hb4.size;have H4:=hd3 (H3.1.below hb4 nl_) hr4.rds (H3.2.trans (hb4.mono q5));clear ho4 hb4 hr4
   go_wp2_with (first
    | (at_builtin
       refine aP rfl (.tmp 25) (.tmp 26) rfl w1.heap.size w3.heap.size (.slice A3 205 c3) (P++[0]) rfl H4.1 ab _ A4 19 c4 Lb.ahead rfl H4.2.1 (by rw[List.length_append,HZ.2.2.1];simp) ?_;intro v5 w5 ho5 hg5 hat5 hb5;have H5:=hd2 ho5 (H4.2.2.trans hb5);clear ho5 hg5 hat5 hb5)
    | (at_builtin
       refine aP rfl (.tmp 28) (.tmp 29) rfl w1.heap.size _ _ ((P++[0])++Lb.ahead) rfl H5.1 H5.2.size _ (some ⟨w.heap.size,0,none⟩) 32 32 d rfl (wu (H1.1.1.below H5.2 ab) H.out) (by simp only[List.length_append,HZ.2.2.1];simp[Lb.ahead]) ?_;intro v6 w6 ho6 hg6 hat6 hb6;have H6:=hd2 ho6 (H5.2.trans hb6);clear ho6 hg6 hat6 hb6)
    | fail)
   go_ret2
   have hE:P++[0]++Lb.ahead++d=Lb.enc d:=by rw[←HZ.2.2.2];unfold Lb.enc Lb.ahead;simp
   have ho:=H6.1;rw[hE]at ho;obtain⟨A6,n6,c6,rfl,hr6⟩:=ho.rd;have q2:n6=256:=by have:=hr6.len;rw[Lb.enc_len d H.out]at this;exact this.symm
   subst q2;exact⟨A6,c6,rfl,ho.mono ab nl_,H1.1.2.trans (H6.2.mono ab)⟩
def dR {β:Type} (e:TypeId) (size:Nat) (cells:β→List Value) (rows:β→List (Value×List UInt8)) (w:World) (lo hi:Nat) (v:Value) (l:List β):Prop:=
 aI e size w lo hi v l.length (l.flatMap cells)∧(∀p∈l.flatMap rows,az w lo hi p.1 p.2)∧bQ (l.flatMap rows)
section
variable {β : Type} {e : TypeId} {size : Nat} {cells : β → List Value} {rows : β → List (Value × List UInt8)} {w w' : World} {lo hi lo' hi' : Nat} {v : Value} {l : List β}
theorem dR.keepRows (h:dR e size cells rows w lo hi v l) (hk:au lo w w'):dR e size cells rows w' lo hi v l:=⟨h.1.keepRows hk,fun p hp=>(h.2.1 p hp).keepRows hk,h.2.2⟩
theorem dR.mono (h:dR e size cells rows w lo hi v l) (h1:lo'≤lo) (h2:hi≤hi'):dR e size cells rows w lo' hi' v l:=⟨h.1.mono h1 h2,fun p hp=>(h.2.1 p hp).mono h1 h2,h.2.2⟩
theorem dR.nil_:dR e size cells rows w lo hi (.slice none 0 0) []:=⟨aI.nil_,fun p hp=>by simp at hp,List.Pairwise.nil⟩
theorem dR.snoc {x:β} {mid:Nat} {v':Value} (h:dR e size cells rows w lo mid v l) (hx:∀p∈rows x,az w mid w.heap.size p.1 p.2) (hxa:bQ (rows x)) (hm:mid≤w.heap.size)
 (hown:aI e size w' lo w'.heap.size v' (l.length+1) (l.flatMap cells++cells x)) (hg:w.grownBy w' v.ownBlock) (hlo:lo≤mid) (he:5≠e):dR e size cells rows w' lo w'.heap.size v' (l++[x]):=by
 have qc:∀(p:Value×List UInt8) (a b:Nat),az w a b p.1 p.2→az w' a b p.1 p.2:=by
  intro p a b hp;refine⟨⟨hp.1.1,?_⟩,hp.2⟩;rcases hp.1.2 with e|⟨g,cap,cur,e',hb',hg',r⟩
  ·exact .inl e
  ·refine .inr ⟨g,cap,cur,e',hb',(hg.block g ((Array.getElem?_eq_some_iff.1 hg').1) fun e2=>?_).trans hg',r⟩
   rcases h.1.1.2 with⟨rfl,_⟩|⟨g2,cap2,cur2,rfl,hb2,hg2,_⟩
   ·simp[Value.ownBlock]at e2
   ·simp only[Value.ownBlock,Option.some.injEq]at e2
    subst e2;rw[hg2]at hg';injection hg' with hg'
    injection hg' with _ ht
    exact he ht.symm
 have qd:=hg.size;refine⟨by simpa using hown,?_,?_⟩
 ·intro p hp
  rw[List.flatMap_append,List.mem_append]at hp;rcases hp with hp|hp
  ·exact(qc p _ _ (h.2.1 p hp)).mono nl_ ab
  ·simp only[List.flatMap_cons,List.flatMap_nil,List.append_nil]at hp
   exact(qc p _ _ (hx p hp)).mono hlo ab
 ·unfold bQ
  rw[List.flatMap_append,List.pairwise_append];refine⟨h.2.2,?_,fun a ha b hb g e1 e2=>?_⟩
  ·simp only[List.flatMap_cons,List.flatMap_nil,List.append_nil]
   exact hxa
  simp only[List.flatMap_cons,List.flatMap_nil,List.append_nil]at hb;have a1:=(h.2.1 a ha).2 g e1;have a2:=((hx b hb).1.lt g e2).1;omega
theorem dR.shape (h:dR e size cells rows w lo hi v l):∃A c,v=.slice A l.length c:=by
 obtain⟨A,c,e,_⟩:=h.1.shape;exact⟨A,c,e⟩
end
theorem eO (w:World) (t:TypeId) (cs:List Value):aF (w.alloc (.cells cs.toArray t)) (w.heap.size+1) cs.length (some ⟨w.heap.size,0,none⟩) 1 cs:=by
 refine⟨ag,fun _=>⟨_,rfl,ag,fun j x hx=>?_⟩⟩;rw[Addr.add_lit];have:=(aw.new w t cs.toArray).cell (0+j);rw[this,Nat.zero_add]
 simpa using hx
structure SI where
 v:SV
 s:Sr
def SI.cells (x:SI):List Value:=x.v.cells.toList
def SI.rows (x:SI):List (Value×List UInt8):=x.v.rows x.s
def o7 (w:World) (lo hi:Nat) (v:Value) (l:List SI):Prop:=dR 54 6 SI.cells SI.rows w lo hi v l
structure KI where
 c:CV
 d:List UInt8×Sg×List UInt8
def KI.cells (x:KI):List Value:=x.c.cells.toList
def KI.rows (x:KI):List (Value×List UInt8):=[(x.c.raw,x.d.1),(x.c.tbs,x.d.2.1.tbs),(x.c.iss,x.d.2.1.iss),(x.c.sub,x.d.2.1.sub),(x.c.ser,x.d.2.1.ser),(x.c.n,x.d.2.1.n),(x.c.sig,x.d.2.2)]
def kO (w:World) (lo hi:Nat) (v:Value) (l:List KI):Prop:=dR 72 24 KI.cells KI.rows w lo hi v l
def KI.ok (x:KI):Prop:=x.c=x.d.2.1.cv x.c.raw x.c.tbs x.c.iss x.c.sub x.c.ser x.c.n x.c.sig
theorem jI:(Tryz.prog.info? 72).map (fun i=>(i.zero,i.size,i.bytes))=some (some CV.zero.val,24,224):=by kernel_rfl
theorem fY:(Tryz.prog.info? 54).map (fun i=>(i.zero,i.size,i.bytes))=some (some (.agg #[.slice none 0 0,.slice none 0 0,.slice none 0 0,.slice none 0 0,.slice none 0 0,.slice none 0 0]),6,144):=by kernel_rfl
section
variable {β : Type} {er0 er er' : Nat} {f : El → Except Nat β}
theorem Zc.each_start (f:El→Except Nat β) (l:List El):Zc.each f l=(Zc.each f l).bind fun t=>.ok ([]++t):=by cases Zc.each f l<;>rfl
theorem Zc.each_step {y:El} {r:List El} {acc:List β} {whole:Except Nat (List β)} (h:Zc.At er0 whole er ((Zc.each f (y::r)).bind fun t=>.ok (acc++t))) (hn:Zc.No (f y)) (he:er'=Zc.next er (f y)) {a:β} (ha:er'=0→f y=.ok a) :
 Zc.At er0 whole er' ((Zc.each f r).bind fun t=>.ok ((acc++[a])++t)):=by
 rw[Zc.each]at h;have e:((f y).bind fun a=>(Zc.each f r).bind fun t=>.ok (a::t)).bind (fun t=>.ok (acc++t))=(f y).bind fun a=>(Zc.each f r).bind fun t=>.ok ((acc++[a])++t):=by
  cases f y with
  | error k=>rfl
  | ok a=>
   show((Zc.each f r).bind fun t=>.ok (a::t)).bind (fun t=>Except.ok (acc++t))=(Zc.each f r).bind fun t=>.ok ((acc++[a])++t)
   cases Zc.each f r with
   | error k=>rfl
   | ok t=>show Except.ok (acc++a::t)=Except.ok (acc++[a]++t);simp
 rw[e]at h;exact h.step hn he ha
end
def KI.zero:KI:=⟨CV.zero,([],⟨[],[],[],[],⟨0,0,0,0,0,0⟩,⟨0,0,0,0,0,0⟩,[],0,⟨false,0,0,false⟩⟩,[])⟩
theorem KI.zero_ok:KI.zero.ok:=rfl
theorem KI.zero_rows {w:World} {lo hi:Nat}:(∀p∈KI.zero.rows,az w lo hi p.1 p.2)∧bQ KI.zero.rows:=by
 have hz:∀p∈KI.zero.rows,p=(.slice none 0 0,[]):=by
  intro p hp;simp only[KI.rows,KI.zero,CV.zero,List.mem_cons,List.not_mem_nil,or_false,or_self]at hp;exact hp
 refine⟨fun p hp=>by rw[hz p hp];exact az.nil_,List.pairwise_iff_forall_sublist.2 fun {a b} hs g hg=>?_⟩;have:=hz a (hs.subset ag);subst this;simp[Value.ownBlock]at hg
def KQ (r er:Nat) (w:World) (y:El) (e:Ending) (w':World):Prop:=
 ∃(x:KI) (er':Nat),e=.returned x.c.val∧w.grownBy w' (some r)∧Rr w' r er'∧er'=Zc.next er (Zc.cert y)∧(∀p∈x.rows,az w' w.heap.size w'.heap.size p.1 p.2)∧bQ x.rows∧x.ok∧(er'=0→Zc.cert y=.ok x.d)
theorem wl {b:List UInt8} {w w':World} {e:Ending} (h:uI b w e w'):∃(x:KI) (n:Nat),e=.returned (.tuple #[x.c.val,.int .i64 (n:Int)])∧Below w.heap.size w w'∧(∀p∈x.rows,az w' w.heap.size w'.heap.size p.1 p.2)∧bQ x.rows∧x.ok∧(∀v∈x.c.cells.toList,v.oneCell'=true)∧
 ((n=0∧∃s g,Cert.parse b=.yes s g∧x.d=(b,s,g))∨(n≠0∧Cert.parse b=.no n)):=by
 obtain⟨hb,⟨n,hp,hn,rfl⟩|⟨s,g,vr,vt,vi,vs,ve,vn,vg,hp,rfl,hrows,hap⟩⟩:=h
 ·exact⟨KI.zero,n,rfl,hb,KI.zero_rows.1,(KI.zero_rows (w:=w) (lo:=0) (hi:=0)).2,KI.zero_ok,CV.zero_cells,.inr ⟨hn,hp⟩⟩
 ·refine⟨⟨s.cv vr vt vi vs ve vn vg,(b,s,g)⟩,0,rfl,hb,hrows,hap,rfl,?_,.inl ⟨rfl,s,g,hp,rfl⟩⟩
  have h1:∀p∈[(vr,b),(vt,s.tbs),(vi,s.iss),(vs,s.sub),(ve,s.ser),(vn,s.n),(vg,g)],p.1.oneCell'=true:=fun p hp=>gV (hrows p hp)
  exact CV.one (h1 (vr,b) ag) (h1 (vt,s.tbs) ag) (h1 (vi,s.iss) ag) (h1 (vs,s.sub) ag) (h1 (ve,s.ser) ag) (h1 (vn,s.n) ag) (h1 (vg,g) ag)
theorem xD {w3 w4:World} {o:Obj} {g p:Nat} {v:Value} (hg:(w3.alloc o).grownBy w4 (some g)) (hp:w3.cell? ⟨p,0,none⟩=some v) (hl:p<w3.heap.size) (hne:p≠g):w4.cell? ⟨p,0,none⟩=some v:=
 (World.cell?_of_block (a:=⟨p,0,none⟩) (hg.block p ai (fun e=>hne (by injection e)))).trans ((World.cell?_alloc_lt w3 _ ⟨p,0,none⟩ hl).trans hp)
set_option maxHeartbeats 4000000 in
theorem sT (p r er:Nat) (t:UInt8) (vb:Value) (A2:Option Addr) (n2 c2:Nat) (b raw:List UInt8) (w:World) (hp:w.cell? ⟨p,0,none⟩=some (.pointer (some ⟨r,0,none⟩))) (hpw:p<w.heap.size) (hpr:p≠r) (h:Rr w r er) (h2:Rd w w.heap.size A2 n2 c2 raw) :
 Calls Tryz.prog 109 #[.agg #[.int .u8 (t.toNat:Int),vb,.slice A2 n2 c2],.pointer (some ⟨p,0,none⟩)] w (KQ r er w (t,b,raw)):=by
 have j8:=h.lt;have hX:=(aw.new w 84 #[.int .u8 (t.toNat:Int),vb,.slice A2 n2 c2]).alloc (.cells CV.zero.cells 72);have hC:Bc ((w.alloc (.cells #[.int .u8 (t.toNat:Int),vb,.slice A2 n2 c2] 84)).alloc (.cells CV.zero.cells 72)) (w.heap.size+1) CV.zero:=aw.new' _ _ ag;have qd:Below w.heap.size w ((w.alloc (.cells #[.int .u8 (t.toNat:Int),vb,.slice A2 n2 c2] 84)).alloc (.cells CV.zero.cells 72)):=by(repeat (first|exact Below.refl _ _|assumption|(refine Below.setCell ?_ al _)|(refine Below.alloc ?_ al _)|(refine ar ?_ _)|(refine Below.drew ?_)))
 have q3:=(qd.cell (p:=⟨p,0,none⟩) hpw).trans hp;have q4:=h.below qd;have R2:=h2.up qd;have j2:=h.cell;have H:=hd6 hX hC qd q3 q4 R2;clear hX qd h h2 q3 R2 q4
 go_enter Tryz.func109,Tryz.ntmps109
 by_cases h0:er=0
 ·subst h0
  have qh:((0:Int) != 0)=false:=rfl
  go_wp2_with fail
  refine(mT A2 n2 c2 raw _ H.2.2.2.2.2).mono ?_;intro e w3 hpost;obtain⟨⟨D,d⟩,n,rfl,hb3,hrows,hap,hok,hone,hn⟩:=wl hpost;dsimp only at hone;have q7:=hb3.size;simp only[World.size_alloc]at q7;have q2:w.grownBy w3 (some r):=aH (H.2.2.1.trans (hb3.mono H.2.2.1.size)) _;have q0:=H.2.1.below hb3 ag;have q5:=H.2.2.2.2.1.below hb3;have j3:=(H.2.2.1.trans (hb3.mono H.2.2.1.size)).cell (p:=⟨p,0,none⟩) hpw |>.trans hp
  have j0:Bc (w3.alloc (.cells CV.zero.cells 72)) w3.heap.size CV.zero:=aw.new _ _ _;have hq:((n:Int)==0)=decide (n=0):=by rw[Bool.eq_iff_iff];simp
  have H3:=hd8 q2 q0 q5 hrows hap hok hn hq;clear hpost hb3 q2 q5 hrows hap hok hn q0 hC hp j2 hq
  go_wp2_with (first
   | ((with_reducible refine de ?_);refine cA rfl _ _ rfl w3.heap.size CV.zero D rfl rfl j0 hone ?_;intro w4 hB4 hg4;have j4:=xD hg4 j3 ab ab)
   | fail)
  have j5:w.heap.size+2≤w3.heap.size:=q7;have qg:w.grownBy w4 (some r):=by
   refine⟨hg4.os.trans H3.1.os,hg4.tape.trans H3.1.tape,hg4.output.trans H3.1.output,?_,fun k hk qh=>?_⟩
   ·have h1:=hg4.size;rw[World.size_alloc]at h1;have h2:=H3.1.size;omega
   ·rw[←H3.1.block k hk qh,hg4.block k ai (fun e=>by injection e with e;omega)]
    exact Below.heap_alloc _ _ _ ab
  have yd:w3.heap.size+1≤w4.heap.size:=by have:=hg4.size;simpa using this
  have q6:Rr w4 r 0:=(H3.2.2.1.alloc _).grown hg4 (fun e=>by injection e with e;omega);have q1:Bc w4 (w.heap.size+1) CV.zero:=aw.grown (aw.alloc H3.2.1 _) hg4 (fun e=>by injection e with e;omega);have qk:∀p∈KI.rows ⟨D,d⟩,az w4 (w.heap.size+2) w4.heap.size p.1 p.2:=fun q hq=>by
   have h1:=H3.2.2.2.1 q hq;exact((h1.alloc nl_ _).keep (fun k a b=>hg4.block k ai (fun e=>by injection e with e;omega))).mono ag ab
  refine(ik r 0 n _ _ q6).mono ?_;rintro e w5 ⟨rfl,hg5,hr5⟩;rw[H3.2.2.2.2.2.2.2]at hr5;obtain⟨e5,he5⟩:∃e,e=Zc.next 0 (Zc.must (decide (n=0)) n):=⟨_,rfl⟩
  rw[←he5]at hr5;have qc:e5=Zc.next 0 (Zc.cert (t,b,raw))∧(e5=0→Zc.cert (t,b,raw)=.ok d):=by
   unfold Zc.cert;dsimp only;rcases H3.2.2.2.2.2.2.1 with⟨h0,s,g,hp,hd⟩|⟨h0,hp⟩
   ·subst h0
    rw[hp];exact⟨he5,fun _=>by rw[hd]⟩
   ·rw[hp,he5]
    have h1:Zc.next 0 (Zc.must (decide (n=0)) n)=n:=by simp[Zc.next,Zc.must,h0]
    rw[h1];exact⟨rfl,fun h=>absurd h h0⟩
  have q9:Bc w5 w3.heap.size D:=aw.grown hB4 hg5 (fun e=>by injection e with e;omega);have j1:Bc w5 (w.heap.size+1) CV.zero:=aw.grown q1 hg5 (fun e=>by injection e with e;omega);have j6:w4.heap.size≤w5.heap.size:=hg5.size;have qs:∀p∈KI.rows ⟨D,d⟩,az w5 (w.heap.size+2) w5.heap.size p.1 p.2:=fun q hq=>((qk q hq).keepRows (au.grown hg5 ab)).mono nl_ j6
  have H5:=hd4 (qg.trans hg5) hr5 qs qc;clear hg4 qg q6 q1 qk hg5 hr5 qs qc he5 hB4 j4
  go_wp2_with (first
   | ((with_reducible refine jE ?_);refine eC rfl _ rfl w3.heap.size D rfl q9 ?_)
   | ((with_reducible refine de ?_);refine cA rfl _ _ rfl (w.heap.size+1) CV.zero D rfl rfl j1 hone ?_;intro w6 hB6 hg6)
   | fail)
  refine bodyPost_ret (cJ Tryz.results109 _ _ _ ⟨w.heap.size+1,0,none⟩ _ rfl (io hB6)) rfl ?_;have j7:w5.heap.size≤w6.heap.size:=hg6.size;have qv:w.grownBy w6 (some r):=by
   have h1:=H5.1;refine⟨hg6.os.trans h1.os,hg6.tape.trans h1.tape,hg6.output.trans h1.output,ab,fun k hk qh=>?_⟩;rw[←h1.block k hk qh,hg6.block k ab (fun e=>by injection e with e;omega)]
  exact⟨⟨D,d⟩,e5,rfl,qv,aw.grown H5.2.1 hg6 (fun e=>by injection e with e;omega),H5.2.2.2.1,fun q hq=>((H5.2.2.1 q hq).keepRows (au.grown hg6 ab)).mono ab j7,H3.2.2.2.2.1,H3.2.2.2.2.2.1,H5.2.2.2.2⟩
 ·have qh:((er:Int) != 0)=true:=ai
  go_wp2_with (first
   | ((with_reducible refine de ?_);refine cA rfl _ _ rfl (w.heap.size+1) CV.zero CV.zero rfl rfl hC CV.zero_cells ?_;intro w1 hB1 hg1)
   | fail)
  refine bodyPost_ret (cJ Tryz.results109 _ _ _ ⟨w.heap.size+1,0,none⟩ _ rfl (io hB1)) rfl ?_;exact⟨KI.zero,er,rfl,(aH ((H.2.2.1).grown hg1 ai (fun j hj=>by cases hj;omega)) _),H.2.2.2.2.1.grown hg1 (fun e=>by injection e with e;omega),(Zc.next_ne h0).symm,KI.zero_rows.1,(KI.zero_rows (w:=w) (lo:=0) (hi:=0)).2,KI.zero_ok,fun h=>absurd h h0⟩
def AI (r er:Nat) (w:World) (l:List El) (e:Ending) (w':World):Prop:=
 ∃(v:Value) (ll:List KI) (er':Nat),e=.returned v∧w.grownBy w' (some r)∧Rr w' r er'∧er'=Zc.next er (Zc.each Zc.cert l)∧kO w' w.heap.size w'.heap.size v ll∧ll.length=l.length∧(∀x∈ll,x.ok)∧(er'=0→Zc.each Zc.cert l=.ok (ll.map KI.d))
set_option maxHeartbeats 4000000 in
theorem vB (p r er loL hiL n c m:Nat) (A:Option Addr) (L:List EI) (w:World) (h:Rr w r er) (hp:w.cell? ⟨p,0,none⟩=some (.pointer (some ⟨r,0,none⟩))) (hpw:p<w.heap.size) (hpr:p≠r) (hE:aU w loL hiL (.slice A n c) L) (hrl:r<loL) (hhi:hiL≤w.heap.size) (hm:∀y∈L.map EI.dat,y.2.1.length≤m∧y.2.2.length≤m) (hm2:m≤1099511627) (hn:n≤1099511627) :
 Calls Tryz.prog 108 #[.slice A n c,.func (.func 109) #[] #[.pointer (some ⟨p,0,none⟩)]] w (AI r er w (L.map EI.dat)):=by
 have j5:=h.lt;have j0:=eK hE;have H:=hd5 h hp hE hm j0;clear h hp hE hm j0
 go_enter Tryz.func108,Tryz.ntmps108
 go_wp2
 go_loopw [4,9] (fun v i wr=>∃(k ek:Nat) (ll:List KI),k≤n∧i=.int .i64 (k:Int)∧ll.length=k∧w.grownBy wr (some r)∧Rr wr r ek∧kO wr w.heap.size wr.heap.size v ll∧(∀x∈ll,x.ok)∧Zc.At er (Zc.each Zc.cert (L.map EI.dat)) ek ((Zc.each Zc.cert ((L.map EI.dat).drop k)).bind fun t=>.ok (ll.map KI.d++t))) (fun _ i _=>n - (intOf i).toNat)
 case atStart=>exact⟨0,er,[],Nat.zero_le _,rfl,rfl,World.grownBy.refl _ _,H.1,dR.nil_,(fun x hx=>by simp at hx),by
  have:=Zc.At.start er (Zc.each Zc.cert (L.map EI.dat));rw[Zc.each_start]at this;rw[Zc.each_start];exact this⟩
 case round=>
  obtain⟨k,ek,ll,hk,rfl,qh,hg,hr,hO,hkok,hat⟩:=hrel;have j8:n≤1099511627:=hn;have q5:=hg.size
  by_cases hlt:k<n
  ·have q4:(k:Int)<(n:Int):=ab
   have q3:=H.2.2.1.keepRows (au.grown hg hrl);obtain⟨g,hA,hgh,hgl⟩:=q3.spot_ ab;subst hA;obtain⟨ty,A3,n3,c3,by_,A4,n4,c4,ry,hd,p0,p1,p2,R3,R4,hLk⟩:=q3.el rfl (Below.refl hiL wr) nl_ k (k*3) hlt rfl;have qd:(L.map EI.dat).drop k=(ty,by_,ry)::(L.map EI.dat).drop (k+1):=by
    have qh:k<(L.map EI.dat).length:=by rw[List.length_map];have:=H.2.2.2.2;omega
    rw[←hd,List.getD_eq_getElem?_getD,List.getElem?_eq_getElem qh];exact List.drop_eq_getElem_cons qh
   have j7:n3≤1099511627:=by have:=(cG H.2.2.2.1 hd hlt H.2.2.2.2).1;have:=R3.len;omega
   rw[qd]at hat;have qc:Below wr.heap.size wr (wr.alloc (.cells #[.int .u8 (ty.toNat:Int),.slice A3 n3 c3,.slice A4 n4 c4] 84)):=br_.alloc nl_ _;have q1:=(World.cell?_of_block (a:=⟨p,0,none⟩) (hg.block p hpw (fun e=>hpr (by injection e)))).trans H.2.1;have j1:=(qc.cell (p:=⟨p,0,none⟩) ak).trans q1;have H7:=hd7 (hr.below qc) j1 ((R4.more (Nat.le_trans hhi q5)).up qc) hO hat hg qh;obtain⟨Av,cv,hv⟩:=hO.shape;subst hv;have HK:=hd1 hkok;clear hkok q1 j1 hr hO hat hg qh qd hd R3 R4 hLk q3 qc
   go_wp2_with fail
   refine(sT p r ek ty (.slice A3 n3 c3) A4 n4 c4 by_ ry _ H7.2.1 ai hpr H7.1 H7.2.2.1).mono ?_;rintro e w1 ⟨x,e1,rfl,hg1,hr1,he1,hrows,hap,hxok,hok⟩;obtain⟨⟨v0,v1,v2,v3,v4,fm,to_,v5,ee,v6,fl⟩,d⟩:=x;obtain⟨B0,m0,d0,hx0,_⟩:=(hrows (v0,d.1) (by simp[KI.rows])).rd;obtain⟨B1,m1,d1,hx1,_⟩:=(hrows (v1,d.2.1.tbs) (by simp[KI.rows])).rd;obtain⟨B2,m2,d2,hx2,_⟩:=(hrows (v2,d.2.1.iss) (by simp[KI.rows])).rd;obtain⟨B3,m3,d3,hx3,_⟩:=(hrows (v3,d.2.1.sub) (by simp[KI.rows])).rd;obtain⟨B4,m4,d4,hx4,_⟩:=(hrows (v4,d.2.1.ser) (by simp[KI.rows])).rd;obtain⟨B5,m5,d5,hx5,_⟩:=(hrows (v5,d.2.1.n) (by simp[KI.rows])).rd;obtain⟨B6,m6,d6,hx6,_⟩:=(hrows (v6,d.2.2) (by simp[KI.rows])).rd;dsimp only at hx0 hx1 hx2 hx3 hx4 hx5 hx6;subst hx0 hx1 hx2 hx3 hx4 hx5 hx6;have j6:wr.heap.size<w1.heap.size:=Nat.lt_of_lt_of_le ag hg1.size;have qc:wr.grownBy w1 (some r):=(aH aa _).trans hg1;have q6:kO (w1.alloc (.cells #[.slice B0 m0 d0,.slice B1 m1 d1,.slice B2 m2 d2,.slice B3 m3 d3,.slice B4 m4 d4,.int .u16 (fm.y:Int),.int .u8 (fm.mo:Int),.int .u8 (fm.d:Int),.int .u8 (fm.h:Int),.int .u8 (fm.mi:Int),.int .u8 (fm.s:Int),.int .u16 (to_.y:Int),.int .u8 (to_.mo:Int),.int .u8 (to_.d:Int),.int .u8 (to_.h:Int),.int .u8 (to_.mi:Int),.int .u8 (to_.s:Int),.slice B5 m5 d5,.int .u64 (ee:Int),.slice B6 m6 d6,.bool fl.ca,.int .i64 fl.path,.int .i64 fl.usage,.bool fl.code] 72)) w.heap.size wr.heap.size (.slice Av ll.length cv) ll:=(H7.2.2.2.1.keepRows (au.grown qc j5)).keepRows (au.alloc _ _);have q9:=eO w1 72 [.slice B0 m0 d0,.slice B1 m1 d1,.slice B2 m2 d2,.slice B3 m3 d3,.slice B4 m4 d4,.int .u16 (fm.y:Int),.int .u8 (fm.mo:Int),.int .u8 (fm.d:Int),.int .u8 (fm.h:Int),.int .u8 (fm.mi:Int),.int .u8 (fm.s:Int),.int .u16 (to_.y:Int),.int .u8 (to_.mo:Int),.int .u8 (to_.d:Int),.int .u8 (to_.h:Int),.int .u8 (to_.mi:Int),.int .u8 (to_.s:Int),.slice B5 m5 d5,.int .u64 (ee:Int),.slice B6 m6 d6,.bool fl.ca,.int .i64 fl.path,.int .i64 fl.usage,.bool fl.code];have q2:∀p∈KI.rows ⟨⟨.slice B0 m0 d0,.slice B1 m1 d1,.slice B2 m2 d2,.slice B3 m3 d3,.slice B4 m4 d4,fm,to_,.slice B5 m5 d5,ee,.slice B6 m6 d6,fl⟩,d⟩,az (w1.alloc (.cells #[.slice B0 m0 d0,.slice B1 m1 d1,.slice B2 m2 d2,.slice B3 m3 d3,.slice B4 m4 d4,.int .u16 (fm.y:Int),.int .u8 (fm.mo:Int),.int .u8 (fm.d:Int),.int .u8 (fm.h:Int),.int .u8 (fm.mi:Int),.int .u8 (fm.s:Int),.int .u16 (to_.y:Int),.int .u8 (to_.mo:Int),.int .u8 (to_.d:Int),.int .u8 (to_.h:Int),.int .u8 (to_.mi:Int),.int .u8 (to_.s:Int),.slice B5 m5 d5,.int .u64 (ee:Int),.slice B6 m6 d6,.bool fl.ca,.int .i64 fl.path,.int .i64 fl.usage,.bool fl.code] 72)) wr.heap.size (w1.alloc (.cells #[.slice B0 m0 d0,.slice B1 m1 d1,.slice B2 m2 d2,.slice B3 m3 d3,.slice B4 m4 d4,.int .u16 (fm.y:Int),.int .u8 (fm.mo:Int),.int .u8 (fm.d:Int),.int .u8 (fm.h:Int),.int .u8 (fm.mi:Int),.int .u8 (fm.s:Int),.int .u16 (to_.y:Int),.int .u8 (to_.mo:Int),.int .u8 (to_.d:Int),.int .u8 (to_.h:Int),.int .u8 (to_.mi:Int),.int .u8 (to_.s:Int),.slice B5 m5 d5,.int .u64 (ee:Int),.slice B6 m6 d6,.bool fl.ca,.int .i64 fl.path,.int .i64 fl.usage,.bool fl.code] 72)).heap.size p.1 p.2:=fun p hp=>
    ((hrows p hp).mono ag nl_).keepRows (au.alloc _ _) |>.mono nl_ ag
   have qs:=Zc.each_step H7.2.2.2.2.1 .cert he1 hok;have qg:∀y∈ll++[(⟨⟨.slice B0 m0 d0,.slice B1 m1 d1,.slice B2 m2 d2,.slice B3 m3 d3,.slice B4 m4 d4,fm,to_,.slice B5 m5 d5,ee,.slice B6 m6 d6,fl⟩,d⟩:KI)],y.ok:=fun y hy=>(List.mem_append.1 hy).elim (HK.out y) (fun h=>by obtain rfl:=List.mem_singleton.1 h;exact hxok)
   have j3:=hd1 qg;clear qg hxok;have H8:=hd7 hr1 qc q6 q9 q2 hap qs;clear hr1 qc q6 q9 q2 hap qs hg1 he1 hrows hok;dsimp only[CV.val,CV.cells];have qh:ll.length≤1099511627:=by have:=H7.2.2.2.2.2.2;omega
   go_wp2_with (first
    | (at_builtin
       refine bn rfl (.tmp 13) (.tmp 17) 25 rfl 72 _ 24 224 jI Tryz.underlying25 rfl ab w.heap.size wr.heap.size _ ll.length (ll.flatMap KI.cells) rfl H8.2.2.1.1 ai _ _ 1 1 [.slice B0 m0 d0,.slice B1 m1 d1,.slice B2 m2 d2,.slice B3 m3 d3,.slice B4 m4 d4,.int .u16 (fm.y:Int),.int .u8 (fm.mo:Int),.int .u8 (fm.d:Int),.int .u8 (fm.h:Int),.int .u8 (fm.mi:Int),.int .u8 (fm.s:Int),.int .u16 (to_.y:Int),.int .u8 (to_.mo:Int),.int .u8 (to_.d:Int),.int .u8 (to_.h:Int),.int .u8 (to_.mi:Int),.int .u8 (to_.s:Int),.slice B5 m5 d5,.int .u64 (ee:Int),.slice B6 m6 d6,.bool fl.ca,.int .i64 fl.path,.int .i64 fl.usage,.bool fl.code] rfl H8.2.2.2.1 (by simp[Value.oneCell']) ab ab ?_;intro v' w2 ho2 hg2 hat2 hb2)
    | fail)
   have q7:kO w2 w.heap.size w2.heap.size v' (ll++[(⟨⟨.slice B0 m0 d0,.slice B1 m1 d1,.slice B2 m2 d2,.slice B3 m3 d3,.slice B4 m4 d4,fm,to_,.slice B5 m5 d5,ee,.slice B6 m6 d6,fl⟩,d⟩:KI)]):=dR.snoc (x:=(⟨⟨.slice B0 m0 d0,.slice B1 m1 d1,.slice B2 m2 d2,.slice B3 m3 d3,.slice B4 m4 d4,fm,to_,.slice B5 m5 d5,ee,.slice B6 m6 d6,fl⟩,d⟩:KI)) H8.2.2.1 H8.2.2.2.2.1 H8.2.2.2.2.2.1 ai ho2 hg2 ab aj;have qk:∀q,Value.ownBlock (.slice Av ll.length cv)=some q→w.heap.size≤q:=fun q hq=>(H8.2.2.1.1.1.lt q hq).1
   have j2:Rr w2 r e1:=(H8.1.alloc _).grown hg2 (fun e=>by have:=qk r e.symm;omega);have qv:w.grownBy w2 (some r):=by
    have h1:=H7.2.2.2.2.2.1.trans H8.2.1;refine⟨hg2.os.trans h1.os,hg2.tape.trans h1.tape,hg2.output.trans h1.output,?_,fun k hk hne=>?_⟩
    ·have:=h1.size;have:=hg2.size;simp at this;omega
    ·rw[←h1.block k hk hne]
     have h2:=hg2.block k (by simp;have:=h1.size;omega) (fun e=>by have:=qk k e.symm;omega);rw[h2];exact Below.heap_alloc _ _ _ (by have:=h1.size;omega)
   have H9:=hd3 q7 j2 qv;have q0:=H7.2.2.2.2.2.2;have j4:=hd1 q0;clear ho2 hg2 hat2 hb2 q7 qk j2 qv q0
   go_wp2
   go_roundw
   case rel=>exact⟨k+1,e1,ll++[(⟨⟨.slice B0 m0 d0,.slice B1 m1 d1,.slice B2 m2 d2,.slice B3 m3 d3,.slice B4 m4 d4,fm,to_,.slice B5 m5 d5,ee,.slice B6 m6 d6,fl⟩,d⟩:KI)],ab,by go_num,by rw[List.length_append,j4.out];rfl,H9.2.2,H9.2.1,H9.1,j3.out,by rw[List.map_append];exact H8.2.2.2.2.2.2⟩
   case measure=>simp[intOf];omega
  ·obtain rfl:k=n:=ab
   have q4:¬((k:Int)<(k:Int)):=ab
   rw[List.drop_of_length_le (by rw[List.length_map];have:=H.2.2.2.2;omega)]at hat;have hf:Zc.At er (Zc.each Zc.cert (L.map EI.dat)) ek (.ok (ll.map KI.d)):=by
    have:((Zc.each Zc.cert []).bind fun t=>Except.ok (ll.map KI.d++t))=.ok (ll.map KI.d):=by show Except.ok (ll.map KI.d++[])=_;rw[List.append_nil]
    rwa [this]at hat
   have HE:=hd5 hg hr hO hf.fin qh;have HK:=hd1 hkok;clear hg hr hO hat hf qh hkok
   go_wp2
   go_ret
   exact⟨_,ll,ek,rfl,HE.1,HE.2.1,HE.2.2.2.1.1,HE.2.2.1,by rw[List.length_map,HE.2.2.2.2];exact H.2.2.2.2,HK.out,HE.2.2.2.1.2⟩
def AH (r er:Nat) (w:World) (x:El) (e:Ending) (w':World):Prop:=
 ∃(v:Value) (ll:List KI) (er':Nat),e=.returned v∧w.grownBy w' (some r)∧Rr w' r er'∧er'=Zc.next er (Zc.certs x)∧kO w' w.heap.size w'.heap.size v ll∧(∀y∈ll,y.ok)∧(er'=0→Zc.certs x=.ok (ll.map KI.d))
set_option maxHeartbeats 4000000 in
theorem vx (r er:Nat) (t:UInt8) (A1 A2:Option Addr) (n1 c1 n2 c2:Nat) (b raw:List UInt8) (w:World) (h:Rr w r er) (h6:6≤r) (h1:Rd w w.heap.size A1 n1 c1 b) (hn:n1≤1099511627) :
 Calls Tryz.prog 80 #[.pointer (some ⟨r,0,none⟩),.agg #[.int .u8 (t.toNat:Int),.slice A1 n1 c1,.slice A2 n2 c2]] w (AH r er w (t,b,raw)):=by
 have q7:=h.lt;have qd:=h1.len;have qg:Below w.heap.size w ((w.alloc (.cells #[.pointer (some ⟨r,0,none⟩)] 123)).alloc (.cells #[.int .u8 (t.toNat:Int),.slice A1 n1 c1,.slice A2 n2 c2] 84)):=by(repeat (first|exact Below.refl _ _|assumption|(refine Below.setCell ?_ al _)|(refine Below.alloc ?_ al _)|(refine ar ?_ _)|(refine Below.drew ?_)))
 have hP:=(aw.new w 123 #[.pointer (some ⟨r,0,none⟩)]).alloc (.cells #[.int .u8 (t.toNat:Int),.slice A1 n1 c1,.slice A2 n2 c2] 84);have H:=hd5 qg hP (h.below qg) (h1.up qg) qd;clear qg hP h h1 qd
 go_enter Tryz.func80,Tryz.ntmps80
 go_wp2_with fail
 refine(bL r er t A1 A2 n1 c1 n2 c2 160 0 n1 b raw _ H.2.2.1 H.2.2.2.1 hn (.inl rfl) ab).mono ?_;rintro e w1 ⟨A,n,c,L,e1,rfl,hg1,hr1,he1,hE,qd,_,_,hhm,hm,hok⟩;have e0:Zc.parts 160 0 (b.length:Int) (t,b,raw)=Zc.parts 160 ((0:Nat):Int) (n1:Int) (t,b,raw):=by rw[H.2.2.2.2];rfl
 have a1:=(Zc.At.start er (Zc.certs (t,b,raw))).step (er':=e1) (a:=L.map EI.dat) .parts (by show e1=Zc.next er (Zc.parts 160 0 (b.length:Int) (t,b,raw));rw[e0];exact he1) (fun h=>by show Zc.parts 160 0 (b.length:Int) (t,b,raw)=_;rw[e0];exact hok h);have q9:w.heap.size+2≤w1.heap.size:=by have:=hg1.size;simpa using this
 have qh:=H.2.1.grown hg1 (fun e=>by injection e with e;omega);have q6:n≤n1:=ab
 have q2:w1.cell? ⟨w.heap.size,0,none⟩=some (.pointer (some ⟨r,0,none⟩)):=qh.cell 0;have qc:w.grownBy w1 (some r):=(aH H.1 _).trans hg1;have H1:=hd7 qc hr1 (hE.mono (lo':=w.heap.size+2) ag nl_) qh qd hm a1;clear hg1 qc hr1 he1 hE qd hhm hm hok e0 a1 qh
 go_wp2_with fail
 refine(ik r e1 10 _ _ H1.2.1).mono ?_;rintro e w2 ⟨rfl,hg2,hr2⟩;obtain⟨e2,he2⟩:∃e,e=Zc.next e1 (Zc.must (decide (n≤16)) 10):=⟨_,rfl⟩
 replace hr2:Rr w2 r e2:=by
  rw[he2,show decide (n≤16)=decide ((n:Int)≤16) by rw[Bool.eq_iff_iff];simp;omega];exact hr2
 have a2:=H1.2.2.2.2.2.2.step (er':=e2) (a:=()) (.must ab) (by rw[List.length_map,←H1.2.2.2.2.1];exact he2) (by rw[List.length_map,←H1.2.2.2.2.1];exact Zc.unit_zero (.must ab) he2);have qv:=H1.2.2.2.1.grown hg2 (fun e=>by injection e with e;omega);have q3:w2.cell? ⟨w.heap.size,0,none⟩=some (.pointer (some ⟨r,0,none⟩)):=qv.cell 0;have q5:=hr2.cell;have q4:w1.heap.size≤w2.heap.size:=hg2.size;have qs:=(H1.2.2.1.keepRows (au.grown hg2 ab))
 have H2:=hd4 (H1.1.trans hg2) hr2 qs a2;clear hg2 hr2 qs he2 a2 qv q2
 by_cases h0:e2=0
 ·subst h0
  have q1:((0:Int) != 0)=false:=rfl;have qk:=hd1 q3
  go_wp2_with fail
  refine(vB w.heap.size r 0 (w.heap.size+2) w1.heap.size n c n1 A L w2 H2.2.1 qk.out ab ab H2.2.2.1 ab q4 H1.2.2.2.2.2.1 hn ab).mono ?_;rintro e w3 ⟨v,ll,e3,rfl,hg3,hr3,he3,hO3,_,hok3,hs3⟩;have a3:=H2.2.2.2.last (.each (fun _=>.cert) _) he3 hs3;have q0:=H2.1.size;have H3:=hd5 (H2.1.trans hg3) hr3 a3 (hO3.mono q0 nl_) hok3;clear hg3 hr3 he3 hO3 hok3 hs3 a3
  go_wp2
  go_ret
  exact⟨v,ll,e3,rfl,H3.1,H3.2.1,H3.2.2.1.1,H3.2.2.2.1,H3.2.2.2.2,H3.2.2.1.2⟩
 ·have q1:((e2:Int) != 0)=true:=ai
  have HN:=hd1 h0;clear h0
  go_wp2
  go_ret
  exact⟨_,[],e2,rfl,H2.1,H2.2.1,H2.2.2.2.2 HN.out,dR.nil_,fun y hy=>by simp at hy,fun h=>absurd h HN.out⟩
def AJ (r er:Nat) (w:World) (l:List El) (e:Ending) (w':World):Prop:=
 ∃(v:Value) (ll:List SI) (er':Nat),e=.returned v∧w.grownBy w' (some r)∧Rr w' r er'∧er'=Zc.next er (Zc.each Zc.signer l)∧o7 w' w.heap.size w'.heap.size v ll∧ll.length=l.length∧(er'=0→Zc.each Zc.signer l=.ok (ll.map SI.s))
set_option maxHeartbeats 4000000 in
theorem vD (r er loL hiL n c m:Nat) (A:Option Addr) (L:List EI) (w:World) (h:Rr w r er) (h6:6≤r) (hG:dr w) (hE:aU w loL hiL (.slice A n c) L) (hrl:r<loL) (hhi:hiL≤w.heap.size) (hm:∀y∈L.map EI.dat,y.2.1.length≤m∧y.2.2.length≤m) (hm2:m≤1099511627) (hn:n≤1099511627) :
 Calls Tryz.prog 82 #[.slice A n c,.func (.func 83) #[.pointer (some ⟨r,0,none⟩)] #[]] w (AJ r er w (L.map EI.dat)):=by
 have j3:=h.lt;have q9:=eK hE;have H:=hd5 h hG hE hm q9;clear h hG hE hm q9
 go_enter Tryz.func82,Tryz.ntmps82
 go_wp2
 go_loopw [4,9] (fun v i wr=>∃(k ek:Nat) (ll:List SI),k≤n∧i=.int .i64 (k:Int)∧ll.length=k∧w.grownBy wr (some r)∧Rr wr r ek∧o7 wr w.heap.size wr.heap.size v ll∧Zc.At er (Zc.each Zc.signer (L.map EI.dat)) ek ((Zc.each Zc.signer ((L.map EI.dat).drop k)).bind fun t=>.ok (ll.map SI.s++t))) (fun _ i _=>n - (intOf i).toNat)
 case atStart=>exact⟨0,er,[],Nat.zero_le _,rfl,rfl,World.grownBy.refl _ _,H.1,dR.nil_,by
  have:=Zc.At.start er (Zc.each Zc.signer (L.map EI.dat));rw[Zc.each_start]at this;rw[Zc.each_start];exact this⟩
 case round=>
  obtain⟨k,ek,ll,hk,rfl,qg,hg,hr,hO,hat⟩:=hrel;have j5:n≤1099511627:=hn;have q3:=hg.size
  by_cases hlt:k<n
  ·have q2:(k:Int)<(n:Int):=ab
   have q1:=H.2.2.1.keepRows (au.grown hg hrl);obtain⟨g,hA,hgh,hgl⟩:=q1.spot_ ab;subst hA;obtain⟨ty,A3,n3,c3,by_,A4,n4,c4,ry,hd,p0,p1,p2,R3,R4,hLk⟩:=q1.el rfl (Below.refl hiL wr) nl_ k (k*3) hlt rfl;have qd:(L.map EI.dat).drop k=(ty,by_,ry)::(L.map EI.dat).drop (k+1):=by
    have qg:k<(L.map EI.dat).length:=by rw[List.length_map];have:=H.2.2.2.2;omega
    rw[←hd,List.getD_eq_getElem?_getD,List.getElem?_eq_getElem qg];exact List.drop_eq_getElem_cons qg
   have j2:n3≤1099511627:=by have:=(cG H.2.2.2.1 hd hlt H.2.2.2.2).1;have:=R3.len;omega
   rw[qd]at hat;have qc:Below wr.heap.size wr (wr.alloc (.cells #[.int .u8 (ty.toNat:Int),.slice A3 n3 c3,.slice A4 n4 c4] 84)):=br_.alloc nl_ _;have q4:=H.2.1.grown hg h6;have H7:=hd7 (hr.below qc) (q4.below qc) ((R3.more (Nat.le_trans hhi q3)).up qc) hO hat hg qg;obtain⟨Av,cv,hv⟩:=hO.shape;subst hv;clear hr q4 hO hat hg qg qd hd R3 R4 hLk q1 qc
   go_wp2_with fail
   refine(ug r ek ty A3 A4 n3 c3 n4 c4 by_ ry _ H7.1 h6 H7.2.1 H7.2.2.1 j2).mono ?_;rintro e w1 ⟨x,s,e1,rfl,hg1,hr1,he1,hrows,hap,hok⟩;obtain⟨x0,x1,x2,x3,x4,x5⟩:=x;obtain⟨B0,m0,d0,hx0,_⟩:=(hrows (x0,s.iss) (by simp[SV.rows])).rd;obtain⟨B1,m1,d1,hx1,_⟩:=(hrows (x1,s.ser) (by simp[SV.rows])).rd;obtain⟨B2,m2,d2,hx2,_⟩:=(hrows (x2,s.att) (by simp[SV.rows])).rd;obtain⟨B3,m3,d3,hx3,_⟩:=(hrows (x3,s.kind) (by simp[SV.rows])).rd;obtain⟨B4,m4,d4,hx4,_⟩:=(hrows (x4,s.dig) (by simp[SV.rows])).rd;obtain⟨B5,m5,d5,hx5,_⟩:=(hrows (x5,s.sig) (by simp[SV.rows])).rd;dsimp only at hx0 hx1 hx2 hx3 hx4 hx5;subst hx0 hx1 hx2 hx3 hx4 hx5;have j4:wr.heap.size<w1.heap.size:=Nat.lt_of_lt_of_le ag hg1.size;have qc:wr.grownBy w1 (some r):=(aH aa _).trans hg1;have q5:o7 (w1.alloc (.cells #[.slice B0 m0 d0,.slice B1 m1 d1,.slice B2 m2 d2,.slice B3 m3 d3,.slice B4 m4 d4,.slice B5 m5 d5] 54)) w.heap.size wr.heap.size (.slice Av ll.length cv) ll:=(H7.2.2.2.1.keepRows (au.grown qc j3)).keepRows (au.alloc _ _);have q7:=eO w1 54 [.slice B0 m0 d0,.slice B1 m1 d1,.slice B2 m2 d2,.slice B3 m3 d3,.slice B4 m4 d4,.slice B5 m5 d5];have q0:∀p∈SI.rows ⟨⟨.slice B0 m0 d0,.slice B1 m1 d1,.slice B2 m2 d2,.slice B3 m3 d3,.slice B4 m4 d4,.slice B5 m5 d5⟩,s⟩,az (w1.alloc (.cells #[.slice B0 m0 d0,.slice B1 m1 d1,.slice B2 m2 d2,.slice B3 m3 d3,.slice B4 m4 d4,.slice B5 m5 d5] 54)) wr.heap.size (w1.alloc (.cells #[.slice B0 m0 d0,.slice B1 m1 d1,.slice B2 m2 d2,.slice B3 m3 d3,.slice B4 m4 d4,.slice B5 m5 d5] 54)).heap.size p.1 p.2:=fun p hp=>
    ((hrows p hp).mono ag nl_).keepRows (au.alloc _ _) |>.mono nl_ ag
   have qk:=Zc.each_step H7.2.2.2.2.1 .signer he1 hok;have H8:=hd7 hr1 qc q5 q7 q0 hap qk;clear hr1 qc q5 q7 q0 hap qk hg1 he1 hrows hok;dsimp only[SV.val,SV.cells];have qg:ll.length≤1099511627:=by have:=H7.2.2.2.2.2.2;omega
   go_wp2_with (first
    | (at_builtin
       refine bn rfl (.tmp 13) (.tmp 17) 26 rfl 54 _ 6 144 fY Tryz.underlying26 rfl ab w.heap.size wr.heap.size _ ll.length (ll.flatMap SI.cells) rfl H8.2.2.1.1 ai _ _ 1 1 [.slice B0 m0 d0,.slice B1 m1 d1,.slice B2 m2 d2,.slice B3 m3 d3,.slice B4 m4 d4,.slice B5 m5 d5] rfl H8.2.2.2.1 (by simp[Value.oneCell']) ab ab ?_;intro v' w2 ho2 hg2 hat2 hb2)
    | fail)
   have q6:o7 w2 w.heap.size w2.heap.size v' (ll++[(⟨⟨.slice B0 m0 d0,.slice B1 m1 d1,.slice B2 m2 d2,.slice B3 m3 d3,.slice B4 m4 d4,.slice B5 m5 d5⟩,s⟩:SI)]):=dR.snoc (x:=(⟨⟨.slice B0 m0 d0,.slice B1 m1 d1,.slice B2 m2 d2,.slice B3 m3 d3,.slice B4 m4 d4,.slice B5 m5 d5⟩,s⟩:SI)) H8.2.2.1 H8.2.2.2.2.1 H8.2.2.2.2.2.1 ai ho2 hg2 ab aj;have qh:∀q,Value.ownBlock (.slice Av ll.length cv)=some q→w.heap.size≤q:=fun q hq=>(H8.2.2.1.1.1.lt q hq).1
   have j0:Rr w2 r e1:=(H8.1.alloc _).grown hg2 (fun e=>by have:=qh r e.symm;omega);have qs:w.grownBy w2 (some r):=by
    have h1:=H7.2.2.2.2.2.1.trans H8.2.1;refine⟨hg2.os.trans h1.os,hg2.tape.trans h1.tape,hg2.output.trans h1.output,?_,fun k hk hne=>?_⟩
    ·have:=h1.size;have:=hg2.size;simp at this;omega
    ·rw[←h1.block k hk hne]
     have h2:=hg2.block k (by simp;have:=h1.size;omega) (fun e=>by have:=qh k e.symm;omega);rw[h2];exact Below.heap_alloc _ _ _ (by have:=h1.size;omega)
   have H9:=hd3 q6 j0 qs;have qv:=H7.2.2.2.2.2.2;have j1:=hd1 qv;clear ho2 hg2 hat2 hb2 q6 qh j0 qs qv
   go_wp2
   go_roundw
   case rel=>exact⟨k+1,e1,ll++[(⟨⟨.slice B0 m0 d0,.slice B1 m1 d1,.slice B2 m2 d2,.slice B3 m3 d3,.slice B4 m4 d4,.slice B5 m5 d5⟩,s⟩:SI)],ab,by go_num,by rw[List.length_append,j1.out];rfl,H9.2.2,H9.2.1,H9.1,by rw[List.map_append];exact H8.2.2.2.2.2.2⟩
   case measure=>simp[intOf];omega
  ·obtain rfl:k=n:=ab
   have q2:¬((k:Int)<(k:Int)):=ab
   rw[List.drop_of_length_le (by rw[List.length_map];have:=H.2.2.2.2;omega)]at hat;have hf:Zc.At er (Zc.each Zc.signer (L.map EI.dat)) ek (.ok (ll.map SI.s)):=by
    have:((Zc.each Zc.signer []).bind fun t=>Except.ok (ll.map SI.s++t))=.ok (ll.map SI.s):=by show Except.ok (ll.map SI.s++[])=_;rw[List.append_nil]
    rwa [this]at hat
   have HE:=hd5 hg hr hO hf.fin qg;clear hg hr hO hat hf qg
   go_wp2
   go_ret
   exact⟨_,ll,ek,rfl,HE.1,HE.2.1,HE.2.2.2.1.1,HE.2.2.1,by rw[List.length_map,HE.2.2.2.2];exact H.2.2.2.2,HE.2.2.2.1.2⟩
end Go.Proofs.YtmpkpphfoidbeaaGreatDoor
