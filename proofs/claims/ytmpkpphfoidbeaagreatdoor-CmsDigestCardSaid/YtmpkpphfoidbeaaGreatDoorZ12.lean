import Derived.OpenShut
import Derived.ProofKit
import Derived.Test.YtmpkpphfoidbeaaGreatDoorZ11
set_option linter.unusedVariables false
set_option linter.unusedSimpArgs false
namespace Go.Proofs.YtmpkpphfoidbeaaGreatDoor
open Go.RowKit
section
set_option maxRecDepth 100000
structure eR (w:World) (B:Nat) (A:Option Addr) (n c:Nat) (cs:List Value):Prop where
 len:cs.length=n
 cap:n≤c
 capm:c≤9223372036854775807
 nil:A=none→c=0
 spot:0<c→∃b o,A=some ⟨b,o,none⟩∧b<B
 rds:an w B 1 A n cs
section
variable {w w' : World} {B B' n c : Nat} {A : Option Addr} {cs : List Value}
theorem eR.keep (h:eR w B A n c cs) (hk:∀p:Addr,p.block<B→w'.cell? p=w.cell? p):eR w' B A n c cs:=⟨h.len,h.cap,h.capm,h.nil,h.spot,h.rds.keep hk⟩
theorem eR.below (h:eR w B A n c cs) (hb:Below B w w'):eR w' B A n c cs:=h.keep fun _ hp=>hb.cell hp
theorem eR.more (h:eR w B A n c cs) (hB:B≤B'):eR w B' A n c cs:=
 ⟨h.len,h.cap,h.capm,h.nil,fun hc=>by obtain⟨b,o,e,hb⟩:=h.spot hc;exact⟨b,o,e,by omega⟩,h.rds.more hB⟩
theorem eR.up (h:eR w w.heap.size A n c cs) (hb:Below w.heap.size w w'):eR w' w'.heap.size A n c cs:=(h.below hb).more hb.size
theorem eR.get (h:eR w B A n c cs) {k:Nat} (hk:k<n):∃b o u,A=some ⟨b,o,none⟩∧b<B∧cs[k]? = some u∧w.cell? ⟨b,o+k,none⟩=some u:=by
 obtain⟨ad,u,rfl,hb,hu,hc⟩:=h.rds.at_ hk;obtain⟨b,o,e,_⟩:=h.spot (by have:=h.cap;omega);injection e with e
 subst e;rw[Addr.add_lit]at hc;exact⟨b,o,u,rfl,hb,hu,hc⟩
theorem eR.drop (h:eR w B A n c cs) {lo:Nat} (h1:lo≤n):eR w B (if c=lo then A else A.map (·.add lo)) (n - lo) (c - lo) (cs.drop lo):=by
 have hc:=h.cap;have hl:=h.len;have hm:=h.capm;refine⟨by simp;omega,by omega,by omega,fun hA=>?_,fun h0=>?_,?_⟩
 ·by_cases e:c=lo
  ·omega
  ·rw[if_neg e]at hA
   have:=h.nil (by cases A<;>simp_all);omega
 ·obtain⟨b,o,rfl,hb⟩:=h.spot (by omega)
  rw[if_neg (by omega)];exact⟨b,o+lo,by simp[Addr.add_lit],hb⟩
 ·have:=h.rds.cut h1 hc
  simpa using this
end
theorem vh {w:World} {B n c:Nat} {A:Option Addr} {cs:List Value} (h:eR w B A n c cs) (lo:Nat) (l:Int) (hl:l=lo) (h1:lo≤n) :
 ∃A1,eR w B A1 (n - lo) (c - lo) (cs.drop lo)∧(∀W,(Instr.sliceAt 40 (.slice A n c) (some (.int .i64 l)) none none).run Tryz.prog W=.ok (.slice A1 (n - lo) (c - lo)) W)∧
  ∀W,(Instr.slice 40 (.slice A n c) (some (.int .i64 l)) none none).run Tryz.prog W=.ok (.slice A1 (n - lo) (c - lo)) W:=by
 have hc:=h.cap;refine⟨_,h.drop h1,fun W=>?_,fun W=>?_⟩<;>subst hl<;>simp[go_sem,Tryz.underlying40,show(lo:Int)≤n by omega]
def ez (w:World) (B:Nat) (A:Option Addr) (n c:Nat) (zs:List Nat):Prop:=eR w B A n c (zs.map uv)∧∀z∈zs,z<18446744073709551616
theorem ez.get {w:World} {B n c:Nat} {A:Option Addr} {zs:List Nat} (h:ez w B A n c zs) {k:Nat} (hk:k<n):∃b o z,A=some ⟨b,o,none⟩∧b<B∧zs[k]? = some z∧z<18446744073709551616∧w.cell? ⟨b,o+k,none⟩=some (.int .u64 (z:Int)):=by
 obtain⟨b,o,u,rfl,hb,hu,hc⟩:=h.1.get hk;simp only[List.getElem?_map,Option.map_eq_some_iff]at hu;obtain⟨z,hz,rfl⟩:=hu;exact⟨b,o,z,rfl,hb,hz,h.2 z (List.mem_of_getElem? hz),hc⟩
theorem ez.len {w:World} {B n c:Nat} {A:Option Addr} {zs:List Nat} (h:ez w B A n c zs):zs.length=n:=by have:=h.1.len;simpa using this
namespace Der
def putOk (a b:Nat):Bool:=decide (a≤2)&&(decide (2≤a)||decide (b≤39))&&decide (b≤18446744073709551535)
def sevs (l:List Nat):List UInt8:=l.flatMap sev
def putOid:List Nat→List UInt8
 | a::b::r=>if putOk a b then sev (40*a+b)++sevs r else []
 | _=>[]
theorem sevs_take {l:List Nat} {k z:Nat} (h:l[k]? = some z):sevs (l.take (k+1))=sevs (l.take k)++sev z:=by
 rw[List.take_add_one,h];simp[sevs]
theorem sevs_len:∀(l:List Nat),(∀z∈l,z<18446744073709551616)→(sevs l).length≤10*l.length
 | [],_=>by simp[sevs]
 | z::r,h=>by
  have h1:=sev_len z (h z (by simp));have h2:=sevs_len r fun y hy=>h y (by simp[hy])
  simp only[sevs,List.flatMap_cons,List.length_append,List.length_cons]at h2 ⊢;omega
end Der
theorem fO {zs:List Nat} {w w':World} (h:Der.putOid zs=[]) (hb:Below w.heap.size w w'):aA (Der.putOid zs) w (.returned (.slice none 0 0)) w':=by
 rw[h];exact bO aj.nil_ hb
theorem oZ (A:Option Addr) (n c:Nat) (zs:List Nat) (w:World) (h:ez w w.heap.size A n c zs) (hn:n<2) :
 Calls Tryz.prog 77 #[.slice A n c] w (aA (Der.putOid zs) w):=by
 have hz:Der.putOid zs=[]:=by
  have:=h.len
  match zs,this with
  | [],_=>rfl
  | [_],_=>rfl
  | _::_::_,h=>simp at h;omega
 have HZ:=hd1 hz;have qc:(n:Int)<2:=by omega
 clear h hz
 go_enter Tryz.func77,Tryz.ntmps77
 go_wp2
 exact bodyPost_ret (v:=.slice none 0 0) (by simp[results,Tryz.results77,go_sem]) rfl (fO HZ.out (by(repeat (first|exact Below.refl _ _|assumption|(refine Below.setCell ?_ (by first|omega|(simp;done)|(simp;omega)) _)|(refine Below.alloc ?_ (by first|omega|(simp;done)|(simp;omega)) _)|(refine aa ?_ _)|(refine Below.drew ?_)))))
theorem uT (b o n c x y:Nat) (zs:List Nat) (w:World) (hx:x<18446744073709551616) (hy:y<18446744073709551616) (hbw:b<w.heap.size) (h0:w.cell? ⟨b,o,none⟩=some (.int .u64 (x:Int))) (h1:w.cell? ⟨b,o+1,none⟩=some (.int .u64 (y:Int))) (hz:Hid (Der.putOid zs=[]))
 (hno:Der.putOk x y=false) (hn:2≤n) :
 Calls Tryz.prog 77 #[.slice (some ⟨b,o,none⟩) n c] w (aA (Der.putOid zs) w):=by
 have qc:¬(n:Int)<2:=by omega
 have qd:(1:Int)<n:=by omega
 simp only[Der.putOk,Bool.and_eq_false_iff,Bool.or_eq_false_iff,decide_eq_false_iff_not]at hno
 by_cases hx2:(2:Int)<x
 ·clear hno
  go_enter Tryz.func77,Tryz.ntmps77
  go_wp2
  exact bodyPost_ret (v:=.slice none 0 0) (by simp[results,Tryz.results77,go_sem]) rfl (fO hz.out (by(repeat (first|exact Below.refl _ _|assumption|(refine Below.setCell ?_ (by first|omega|(simp;done)|(simp;omega)) _)|(refine Below.alloc ?_ (by first|omega|(simp;done)|(simp;omega)) _)|(refine aa ?_ _)|(refine Below.drew ?_)))))
 by_cases hx3:(x:Int)<2
 ·by_cases hy2:(39:Int)<y
  ·clear hno
   go_enter Tryz.func77,Tryz.ntmps77
   go_wp2
   exact bodyPost_ret (v:=.slice none 0 0) (by simp[results,Tryz.results77,go_sem]) rfl (fO hz.out (by(repeat (first|exact Below.refl _ _|assumption|(refine Below.setCell ?_ (by first|omega|(simp;done)|(simp;omega)) _)|(refine Below.alloc ?_ (by first|omega|(simp;done)|(simp;omega)) _)|(refine aa ?_ _)|(refine Below.drew ?_)))))
  ·exfalso;omega
 ·have qg:(18446744073709551535:Int)<y:=by omega
  clear hno
  go_enter Tryz.func77,Tryz.ntmps77
  go_wp2
  exact bodyPost_ret (v:=.slice none 0 0) (by simp[results,Tryz.results77,go_sem]) rfl (fO hz.out (by(repeat (first|exact Below.refl _ _|assumption|(refine Below.setCell ?_ (by first|omega|(simp;done)|(simp;omega)) _)|(refine Below.alloc ?_ (by first|omega|(simp;done)|(simp;omega)) _)|(refine aa ?_ _)|(refine Below.drew ?_)))))
theorem sx (g x y:Nat) (v:Value) (xs:List UInt8) (w:World) (hB:ac w g 22 #[v]) (ho:aj w (g+1) w.heap.size v xs) (hN:40*x+y<18446744073709551616) (hx:xs.length≤17592186044416) :
 Calls Tryz.prog 105 #[.int .u64 (40*(x:Int)+(y:Int)),.pointer (some ⟨g,0,none⟩)] w (lA g xs (40*x+y) w):=by
 have:=qH g (40*x+y) v xs w hB ho hN hx;rw[show((40*x+y:Nat):Int)=40*(x:Int)+(y:Int) from by omega]at this;exact this
set_option maxHeartbeats 2000000 in
theorem sw (b o n c x y:Nat) (rs:List Nat) (w:World) (h:ez w w.heap.size (some ⟨b,o,none⟩) n c (x::y::rs)) (hx:x<18446744073709551616) (hbw:b<w.heap.size) (h0:w.cell? ⟨b,o,none⟩=some (.int .u64 (x:Int))) (h1:w.cell? ⟨b,o+1,none⟩=some (.int .u64 (y:Int)))
 (hok:Der.putOk x y=true) (hn:2≤n) (q6:n≤1099511627) :
 Calls Tryz.prog 77 #[.slice (some ⟨b,o,none⟩) n c] w (aA (Der.putOid (x::y::rs)) w):=by
 have j6:¬(n:Int)<2:=by omega
 have q6:(1:Int)<n:=by omega
 have hp:Der.putOid (x::y::rs)=Der.sev (40*x+y)++Der.sevs rs:=by rw[Der.putOid,if_pos hok]
 rw[hp];simp only[Der.putOk,Bool.and_eq_true,Bool.or_eq_true,decide_eq_true_eq]at hok;have j8:¬(2:Int)<x:=by omega
 have yh:¬(18446744073709551535:Int)<y:=by omega
 have qk:rs.length=n - 2:=by have:=h.len;simp at this;omega
 obtain⟨A1,hr1,c1,d1⟩:=vh h.1 2 2 rfl (by omega);have j0:40*x+y<18446744073709551616:=by omega
 have q5:IntKind.u64.wrap (40*(x:Int))=40*(x:Int):=by simp only[IntKind.wrap,IntKind.bits,IntKind.signed];simp;omega
 have qg:((x:Int)<2→¬(39:Int)<y):=fun hlt=>by omega
 have j7:0<n:=by omega
 have q2:IntKind.u64.wrap (40*(x:Int)+(y:Int))=40*(x:Int)+(y:Int):=by simp only[IntKind.wrap,IntKind.bits,IntKind.signed];simp;omega
 have j5:∀(fn:Fn) (first cap:Array Value) (w:World),(Instr.makeFunc fn first cap).run Tryz.prog w=.ok (.func fn first cap) w:=fun _ _ _ _=>rfl
 have HR:=hd4 h hr1 qk j0;clear hp hok h hr1 qk
 by_cases hx3:(x:Int)<2
 all_goals
  try (have yd:=qg hx3)
  clear qg
  go_enter Tryz.func77,Tryz.ntmps77
  go_wp2
  go_region_held3 (fun w'=>w'.cell? ⟨b,o,none⟩=some (.int .u64 (x:Int))∧w'.cell? ⟨b,o+1,none⟩=some (.int .u64 (y:Int))) (go_keep)
   (first|(go_at_call 105;((with_reducible refine(sx w.heap.size x y (.slice none 0 0) [] _ (ac.drew (ac.new w 22 #[.slice none 0 0])) aj.nil_ HR.out.2.2.2 (by simp)).mono ?_);rintro e w2 ⟨rfl,v2,qc,ho2,hb2⟩;have qh:=hd3 qc ho2 hb2;clear qc ho2;have k0:=(hb2.cell (p:=⟨b,o,none⟩) hbw).trans ((Below.drew (Below.alloc (Below.refl w.heap.size w) nl_ (.cells #[.slice none 0 0] 22))).cell (p:=⟨b,o,none⟩) hbw |>.trans h0);have k1:=(hb2.cell (p:=⟨b,o+1,none⟩) hbw).trans ((Below.drew (Below.alloc (Below.refl w.heap.size w) nl_ (.cells #[.slice none 0 0] 22))).cell (p:=⟨b,o+1,none⟩) hbw |>.trans h1))))
  go_wp2
  clear k0 k1 h0 h1;have qd:Below w.heap.size w w2:=Below.trans (by(repeat (first|exact Below.refl _ _|assumption|(refine Below.setCell ?_ (by first|omega|(simp;done)|(simp;omega)) _)|(refine Below.alloc ?_ (by first|omega|(simp;done)|(simp;omega)) _)|(refine aa ?_ _)|(refine Below.drew ?_)))) hb2;have q1:=hd1 qd;clear hb2 qd
  go_loopw [47] (fun i wr=>∃k:Nat,k≤n - 2∧i=.int .i64 k∧∃v',ac wr w.heap.size 22 #[v']∧aj wr (w.heap.size+1) wr.heap.size v' (Der.sev (40*x+y)++Der.sevs (rs.take k))∧Below w.heap.size w wr) (fun i _=>n - 2 - (intOf i).toNat)
  case atStart=>exact⟨0,by omega,rfl,v2,qh.1,by simpa [Der.sevs]using qh.2.1,q1.out⟩
  case round=>
   obtain⟨k,hk,rfl,v',hBv,hov,hbv⟩:=hrel
   by_cases hlt:k<n - 2
   ·have q3:(k:Int)<(n:Int) - 2:=by omega
    have q4:(k:Int)<((n - 2:Nat):Int):=by omega
    obtain⟨b2,o2,u,rfl,hb2,hu,hc⟩:=(HR.2.1.below hbv).get hlt;have hz:∃z,rs[k]? = some z∧u=uv z:=by
     simp only[List.map_cons,List.drop_succ_cons,List.drop_zero,List.getElem?_map,Option.map_eq_some_iff]at hu;obtain⟨z,h1,h2⟩:=hu;exact⟨z,h1,h2.symm⟩
    obtain⟨z,hz,rfl⟩:=hz;have j1:=HR.1.2 z (by simp[List.mem_of_getElem? hz]);have qv:=Der.sevs_take hz;have qs:=Der.sevs_len (rs.take k) (fun q hq=>HR.1.2 q (by simp[List.mem_of_mem_take hq]));have q9:=Der.sev_len (40*x+y) HR.2.2.2;rw[List.length_take]at qs;have HB:=hd5 hBv hov hbv qv (show(Der.sev (40*x+y)++Der.sevs (rs.take k)).length≤17592186044416 by rw[List.length_append];omega);have j2:wr.cell? ⟨b2,o2+k,none⟩=some (.int .u64 (z:Int)):=hc;clear hBv hov hbv qv hu hz hc qs q9
    go_wp2_with fail
    refine(qH w.heap.size z v' _ wr HB.1 HB.2.1 j1 HB.2.2.2.2).mono ?_;rintro e w3 ⟨rfl,v3,hB3,ho3,hb3⟩;have HC:=hd3 hB3 ho3 hb3;clear hB3 ho3 hb3
    go_wp2
    go_roundw
    case rel=>exact⟨k+1,by omega,by go_num,v3,HC.1,by rw[HB.2.2.2.1,←List.append_assoc];exact HC.2.1,HB.2.2.1.trans HC.2.2⟩
    case measure=>simp[intOf];omega
   ·have j4:k=n - 2:=by omega
    have j3:¬(k:Int)<((n - 2:Nat):Int):=by omega
    have q0:rs.take k=rs:=List.take_of_length_le (by have:=HR.2.2.1;omega);rw[q0]at hov;obtain⟨A5,n5,c5,rfl,_⟩:=hov.rd;obtain⟨hc0,hf0⟩:=hBv.facts;have qc:=(hBv.set_ 0 (.slice A5 n5 c5))
    obtain⟨hc1,hf1⟩:=qc.facts;have HB:=hd2 hov hbv;clear hov hbv q0 hBv qc
    go_wp2
    exact bodyPost_ret (v:=.slice A5 n5 c5) (by simp[results,Tryz.results77,go_sem,hc1]) rfl (bO (((HB.1.setCell (by simp) _).mono (by omega) (by simp))) (HB.2.setCell (by simp) _))
theorem su (A:Option Addr) (n c:Nat) (zs:List Nat) (w:World) (h:ez w w.heap.size A n c zs) (hn2:n≤1099511627) :
 Calls Tryz.prog 77 #[.slice A n c] w (aA (Der.putOid zs) w):=by
 by_cases hn:n<2
 ·exact oZ A n c zs w h hn
 have hl:=h.len;obtain⟨b,o,x,rfl,hb,hx,hxl,hc⟩:=h.get (k:=0) (by omega);obtain⟨b',o',y,e,_,hy,hyl,hc'⟩:=h.get (k:=1) (by omega);injection e with e
 injection e with e1 e2
 subst e1 e2
 match zs,hl with
 | [],hl=>simp at hl;omega
 | [_],hl=>simp at hl;omega
 | p::q::rs,hl=>
  simp only[List.getElem?_cons_zero,List.getElem?_cons_succ,Option.some.injEq]at hx hy;subst hx hy
  cases hok:Der.putOk p q with
  | true=>exact sw b o n c p q rs w h hxl hb hc hc' hok (by omega) hn2
  | false=>exact uT b o n c p q _ w hxl hyl hb hc hc' (by rw[Hid,Der.putOid,if_neg (by rw[hok];simp)]) hok (by omega)
end
section
section
set_option maxRecDepth 100000
namespace Der
def pend (n:Nat):List UInt8:=(sevT n).reverse
theorem pend_zero:pend 0=[]:=by unfold pend;rw[sevT_zero];rfl
end Der
end
section
set_option maxRecDepth 100000
def El.wf (x:El):Prop:=x.2.2=Der.write x.1 x.2.1∧x.1.toNat % 32≠31∧x.2.1.length<4294967296
theorem zO {l:List El} (h1:(2:Int)≤(l.length:Int)) (h2:(l.length:Int)≤2):∃a b,l=[a,b]:=by
 match l,h1,h2 with
 | [],h,_=>simp at h
 | [_],h,_=>simp at h
 | [a,b],_,_=>exact⟨a,b,rfl⟩
 | _::_::_::_,_,h=>simp at h;omega
end
section
set_option maxRecDepth 100000
structure Fl.ok (f:Fl):Prop where
 p1 : -1≤f.path
 p2:f.path≤255
 cp:f.ca=true∨f.path = -1
 u1 : -1≤f.usage
 u0:f.usage≠0
 u2:f.usage<512
structure Sg.ok (s:Sg):Prop where
 tbs:∃b,Der.elem s.tbs=some (48,b,s.tbs,[])∧s.tbs=Der.write 48 b∧b.length<4294967296
 ser:∃m,Der.int s.ser=some m∧m≠[]
 few:s.ser.length≤20
 less:Stamp.less s.to s.from_=false
 r1:Stamp.right s.from_=true
 r2:Stamp.right s.to=true
 e:s.e<8589934592
 fl:s.fl.ok
theorem xB {t:Tm} (hr:Stamp.right t=true):t.d≤31∧t.mo<13:=by
 unfold Stamp.right at hr;simp only[Bool.and_eq_true,decide_eq_true_eq]at hr;obtain⟨⟨⟨⟨⟨⟨h1,h2⟩,h3⟩,h4⟩,h5⟩,h6⟩,h7⟩:=hr;unfold Stamp.days at h2
 split at h2
 ·omega
 ·by_cases hm:t.mo<13
  ·refine⟨?_,hm⟩
   generalize t.mo=m at h2 hm
   match m,hm,h2 with
   | 0,_,h2|1,_,h2|2,_,h2|3,_,h2|4,_,h2|5,_,h2|6,_,h2|7,_,h2|8,_,h2|9,_,h2|10,_,h2|11,_,h2|12,_,h2=>simp at h2;omega
  ·rw[List.getD_eq_getElem?_getD,List.getElem?_eq_none (by simp;omega)]at h2
   simp at h2;omega
theorem sJ {t:Tm} (hr:Stamp.right t=true):t.fits:=by
 have hy:t.y≤9999:=by
  unfold Stamp.right at hr;simp only[Bool.and_eq_true,decide_eq_true_eq]at hr;omega
 unfold Stamp.right at hr;simp only[Bool.and_eq_true,decide_eq_true_eq]at hr;obtain⟨⟨⟨⟨⟨⟨h1,h2⟩,h3⟩,h4⟩,h5⟩,h6⟩,h7⟩:=hr;have hd:t.d≤31∧t.mo<13:=by
  unfold Stamp.days at h2
  split at h2
  ·omega
  ·by_cases hm:t.mo<13
   ·refine⟨?_,hm⟩
    generalize t.mo=m at h2 hm
    match m,hm,h2 with
    | 0,_,h2|1,_,h2|2,_,h2|3,_,h2|4,_,h2|5,_,h2|6,_,h2|7,_,h2|8,_,h2|9,_,h2|10,_,h2|11,_,h2|12,_,h2=>simp at h2;omega
   ·rw[List.getD_eq_getElem?_getD,List.getElem?_eq_none (by simp;omega)]at h2
    simp at h2;omega
 exact⟨by omega,by omega,by omega,by omega,by omega,by omega⟩
end
section
set_option maxRecDepth 100000
def dM (xs:List UInt8) (w:World) (e:Ending) (w':World):Prop:=
 ∃(n f:Int) (ok:Bool),e=.returned (.tuple #[.int .i64 n,.int .i64 f,.bool ok])∧(∃k,w'=w.drewN k)∧
  (ok=true→∃n' f':Nat,n=n'∧f=f'∧Der.lenOf xs=some (f',n'))∧(ok=false→Der.lenOf xs=none)
theorem ib {xs:List UInt8} {w w':World} {f n:Int} (h:Der.lenOf xs=none) (hw:∃k,w'=w.drewN k):dM xs w (.returned (.tuple #[.int .i64 n,.int .i64 f,.bool false])) w':=
 ⟨n,f,false,rfl,hw,(fun h=>by cases h),fun _=>h⟩
theorem qx {xs:List UInt8} {w w':World} {f n:Int} {f' n':Nat} (h:Der.lenOf xs=some (f',n')) (hf:f=f') (hn:n=n') (hw:∃k,w'=w.drewN k):dM xs w (.returned (.tuple #[.int .i64 n,.int .i64 f,.bool true])) w':=
 ⟨n,f,true,rfl,hw,fun _=>⟨n',f',hn,hf,h⟩,fun h=>by cases h⟩
theorem yP {xs:List UInt8} {w:World} {k m:Nat} (h:Der.lenOf xs=if Der.be ((xs.drop 2).take m)<128 then none else some (2+m,Der.be ((xs.drop 2).take m))) (hk:k=m) :
 dM xs w (.returned (.tuple #[.int .i64 (Der.be (((xs.drop 2).take m).take k):Int),.int .i64 (2+(m:Int)),.bool (decide (128≤(Der.be (((xs.drop 2).take m).take k):Int)))])) w:=by
 subst hk;rw[List.take_take,Nat.min_self]
 by_cases h1:Der.be ((xs.drop 2).take k)<128
 ·rw[if_pos h1]at h
  rw[decide_eq_false (by omega)];exact ib h ⟨0,rfl⟩
 ·rw[if_neg h1]at h
  rw[decide_eq_true (by omega)];exact qx h (by omega) rfl ⟨0,rfl⟩
theorem uG (A:Option Addr) (n c:Nat) (xs:List UInt8) (B:Nat) (w:World) (h:Rd w B A n c xs) (hn:n<2) :
 Calls Tryz.prog 85 #[.slice A n c] w (dM xs w):=by
 have hx:Der.lenOf xs=none:=by
  have hl:=h.len
  match xs,hl with
  | [],_=>simp[Der.lenOf,Der.lenOf]
  | [_],_=>simp[Der.lenOf,Der.lenOf]
  | _::_::_,hl=>simp at hl;omega
 have H:=hd1 hx;clear hx h;have h2:((n:Int)<2):=by omega
 go_enter Tryz.func85,Tryz.ntmps85
 go_wp2
 go_ret3
 exact ib H.out ⟨0,rfl⟩
theorem uF (b o n c:Nat) (x1:UInt8) (xs:List UInt8) (w:World) (hn:2≤n)
 (h1:w.cell? ⟨b,o+1,none⟩=some (.int .u8 (x1.toNat:Int)))
 (hl:(x1.toNat:Int)<128) (hx:Hid (Der.lenOf xs=some (2,x1.toNat))) :
  Calls Tryz.prog 85 #[.slice (some ⟨b,o,none⟩) n c] w (dM xs w):=by
 have qd:¬((n:Int)<2):=by omega
 have qc:(1:Int)<n:=by omega
 go_enter Tryz.func85,Tryz.ntmps85
 go_wp2
 go_ret3
 exact qx hx.out rfl rfl ⟨0,rfl⟩
theorem ot (b o n c:Nat) (m:Nat) (xs:List UInt8) (w:World) (hn:2≤n) (hm:m<128)
 (h1:w.cell? ⟨b,o+1,none⟩=some (.int .u8 ((m:Int)+128)))
 (hx:Hid (Der.lenOf xs=none)) (hno:m=0) :
  Calls Tryz.prog 85 #[.slice (some ⟨b,o,none⟩) n c] w (dM xs w):=by
 subst hno;have qd:¬((n:Int)<2):=by omega
 have qc:(1:Int)<n:=by omega
 go_enter Tryz.func85,Tryz.ntmps85
 go_wp2
 go_ret3
 exact ib hx.out ⟨0,rfl⟩
theorem ou (b o n c:Nat) (m:Nat) (xs:List UInt8) (w:World) (hn:2≤n) (hm:m<128)
 (h1:w.cell? ⟨b,o+1,none⟩=some (.int .u8 ((m:Int)+128)))
 (hx:Hid (Der.lenOf xs=none)) (hno:4<m) :
  Calls Tryz.prog 85 #[.slice (some ⟨b,o,none⟩) n c] w (dM xs w):=by
 have qd:¬((n:Int)<2):=by omega
 have qc:(1:Int)<n:=by omega
 have e0:((m:Int)==0)=false:=by simp;omega
 go_enter Tryz.func85,Tryz.ntmps85
 go_wp2
 go_ret3
 exact ib hx.out ⟨0,rfl⟩
theorem oz (b o n c:Nat) (m:Nat) (xs:List UInt8) (w:World) (hn:2≤n) (hm:m≤4)
 (h1:w.cell? ⟨b,o+1,none⟩=some (.int .u8 ((m:Int)+128)))
 (hx:Hid (Der.lenOf xs=none)) (hm0:0<m) (hno:n<2+m) :
  Calls Tryz.prog 85 #[.slice (some ⟨b,o,none⟩) n c] w (dM xs w):=by
 have qd:¬((n:Int)<2):=by omega
 have qc:(1:Int)<n:=by omega
 have e0:((m:Int)==0)=false:=by simp;omega
 have e1:¬(4:Int)<m:=by omega
 have e2:(n:Int)<2+m:=by omega
 go_enter Tryz.func85,Tryz.ntmps85
 go_wp2
 go_ret3
 exact ib hx.out ⟨0,rfl⟩
theorem oA (b o n c:Nat) (m:Nat) (xs:List UInt8) (w:World) (hn:2+m≤n) (hm:m≤4)
 (h1:w.cell? ⟨b,o+1,none⟩=some (.int .u8 ((m:Int)+128))) (h2:w.cell? ⟨b,o+2,none⟩=some (.int .u8 0))
 (hx:Hid (Der.lenOf xs=none)) (hm0:0<m) :
  Calls Tryz.prog 85 #[.slice (some ⟨b,o,none⟩) n c] w (dM xs w):=by
 have qd:¬((n:Int)<2):=by omega
 have qc:(2:Int)<n:=by omega
 have e0:((m:Int)==0)=false:=by simp;omega
 have e1:¬(4:Int)<m:=by omega
 have e2:¬(n:Int)<2+m:=by omega
 go_enter Tryz.func85,Tryz.ntmps85
 go_wp2
 go_ret3
 exact ib hx.out ⟨0,rfl⟩
set_option maxHeartbeats 400000 in
theorem wX (b o n c:Nat) (x2:UInt8) (m:Nat) (xs:List UInt8) (B:Nat) (w:World) (hr:Rd w B (some ⟨b,o,none⟩) n c xs) (hn:2+m≤n) (hm:m≤4)
 (h1:w.cell? ⟨b,o+1,none⟩=some (.int .u8 ((m:Int)+128))) (h2:w.cell? ⟨b,o+2,none⟩=some (.int .u8 (x2.toNat:Int)))
 (hm0:0<m) (hx2:((x2.toNat:Int)==0)=false)
 (hx:Hid (Der.lenOf xs=if Der.be ((xs.drop 2).take m)<128 then none else some (2+m,Der.be ((xs.drop 2).take m)))) :
  Calls Tryz.prog 85 #[.slice (some ⟨b,o,none⟩) n c] w (dM xs w):=by
 have qg:=hr.cap;have q2:=hr.capm;have qk:¬((n:Int)<2):=by omega
 have qc:(2:Int)<n:=by omega
 have e0:((m:Int)==0)=false:=by simp;omega
 have e1:¬(4:Int)<m:=by omega
 have e2:¬(n:Int)<2+m:=by omega
 go_enter Tryz.func85,Tryz.ntmps85
 go_wp2
 go_loop [6,7] (fun t i=>∃k:Nat,k≤m∧i=.int .i64 k∧t=.int .i64 (Der.be (((xs.drop 2).take m).take k))) (fun _ i=>m - (intOf i).toNat)
 case atStart=>exact⟨0,Nat.zero_le _,rfl,rfl⟩
 case round=>
  obtain⟨k,hk,rfl,rfl⟩:=hrel
  by_cases hlt:k<m
  ·obtain⟨x,hx',hc'⟩:=hr.get (k:=2+k) (by omega)
   have q1:w.cell? ⟨b,o+(2+k),none⟩=some (.int .u8 (x.toNat:Int)):=hc';clear hc';have HX:=hd1 (fG hlt hx');clear hx';have q4:(x.toNat:Int)<256:=by have:=x.toNat_lt;omega
   have qd:=Der.be_lt (((xs.drop 2).take m).take k);have qv:256 ^ (((xs.drop 2).take m).take k).length≤256 ^ 3:=Nat.pow_le_pow_right (by omega) (by simp;omega);have q0:(Der.be (((xs.drop 2).take m).take k):Int)<16777216:=by omega
   clear qd qv;have qs:(k:Int)<m:=by omega
   go_wp2
   go_round
   case rel=>
    refine⟨k+1,by omega,by go_num,?_⟩;rw[cH HX.out,Der.be_snoc];go_num
   case measure=>simp[intOf];omega
  ·have q3:¬(k:Int)<m:=by omega
   go_wp2
   go_ret3
   have qh:k=m:=by omega
   exact yP hx.out qh
theorem yO (A:Option Addr) (n c:Nat) (xs:List UInt8) (B:Nat) (w:World) (h:Rd w B A n c xs) :
 Calls Tryz.prog 85 #[.slice A n c] w (dM xs w):=by
 by_cases hn:n<2
 ·exact uG A n c xs B w h hn
 have qd:2≤n:=by omega
 obtain⟨b,o,rfl,hbB,hcell⟩:=h.at_ (by omega);have hl:=h.len
 match xs,hl with
 | [],hl=>simp at hl;omega
 | [_],hl=>simp at hl;omega
 | x0::x1::r,hl=>
  simp only[List.length_cons]at hl;have h1:w.cell? ⟨b,o+1,none⟩=some (.int .u8 (x1.toNat:Int)):=hcell 1 x1 rfl
  by_cases hs:x1.toNat<128
  ·exact uF b o n c x1 _ w qd h1 (by omega) (by simp[Hid,Der.lenOf,hs])
  obtain⟨m,hm⟩:∃m,x1.toNat=m+128:=⟨x1.toNat - 128,by omega⟩
  have qg:=x1.toNat_lt;have qc:w.cell? ⟨b,o+1,none⟩=some (.int .u8 ((m:Int)+128)):=by rw[h1,hm];rfl
  have hh:Der.lenOf (x0::x1::r)=if m=0∨4<m∨r.length<m∨r.headD 0=0 then none else if Der.be (r.take m)<128 then none else some (2+m,Der.be (r.take m)):=by
   simp only[Der.lenOf,hm,Nat.add_sub_cancel];rw[if_neg (by omega)];have e1:(m+128=128)=(m=0):=propext (by omega);have e2:(132<m+128)=(4<m):=propext (by omega);simp only[e1,e2]
  by_cases m0:m=0
  ·exact ot b o n c m _ w qd (by omega) qc (by rw[Hid,hh,if_pos (by omega)]) m0
  by_cases m4:4<m
  ·exact ou b o n c m _ w qd (by omega) qc (by rw[Hid,hh,if_pos (by omega)]) m4
  by_cases ml:r.length<m
  ·exact oz b o n c m _ w qd (by omega) qc (by rw[Hid,hh,if_pos (by omega)]) (by omega) (by omega)
  match r,hl,hcell,hh,ml with
  | [],_,_,_,ml=>simp at ml;omega
  | x2::r,hl,hcell,hh,ml=>
   simp only[List.length_cons]at ml hl;have h2:w.cell? ⟨b,o+2,none⟩=some (.int .u8 (x2.toNat:Int)):=hcell 2 x2 rfl
   by_cases z:x2=0
   ·subst z
    exact oA b o n c m _ w (by omega) (by omega) qc h2 (by rw[Hid,hh,if_pos (by simp)]) (by omega)
   ·have zn:x2.toNat≠0:=fun e=>z (UInt8.toNat_inj.1 e)
    refine wX b o n c x2 m _ B w h (by omega) (by omega) qc h2 (by omega) (by simp;omega) ?_;rw[Hid,hh,if_neg (by simp[z];omega)]
    rfl
end
section
set_option maxRecDepth 100000
theorem gW {xs:List UInt8} {w w':World} (h:Der.elem xs=none) (hb:Below w.heap.size w w') :
 jb 9 xs w (.returned (.tuple #[.agg #[.int .u8 0,.slice none 0 0,.slice none 0 0],.slice none 0 0,.int .i64 9])) w':=⟨hb,.inl ⟨h,rfl⟩⟩
set_option maxHeartbeats 1000000 in
theorem o6 (A:Option Addr) (n c:Nat) (xs:List UInt8) (w:World) (h:Rd w w.heap.size A n c xs) (hn:n≤1099511627776) :
 Calls Tryz.prog 51 #[.slice A n c] w (jb 9 xs w):=by
 have q5:=h.cap;have j3:=h.capm;have hl:=h.len
 go_enter Tryz.func51,Tryz.ntmps51
 go_wp2_with fail
 refine(yO A n c xs w.heap.size _ (h.alloc nl_ _)).mono ?_;rintro e w' ⟨k,f,ok,rfl,⟨nd,rfl⟩,hyes,qd⟩
 cases ok with
 | false=>
  have qc:Der.elem xs=none:=jk (by unfold Der.hdr;rw[qd rfl];split<;>rfl);have qg:=hd1 qc;clear hyes qd qc hl
  go_wp2
  exact bodyPost_ret (v:=.tuple #[.agg #[.int .u8 0,.slice none 0 0,.slice none 0 0],.slice none 0 0,.int .i64 9]) (by simp[results,Tryz.results51,go_sem]) rfl (gW qg.out (by(repeat (first|exact Below.refl _ _|assumption|(refine Below.setCell ?_ (by first|omega|(simp;done)|(simp;omega)) _)|(refine Below.alloc ?_ (by first|omega|(simp;done)|(simp;omega)) _)|(refine aa ?_ _)|(refine Below.drew ?_)))))
 | true=>
  obtain⟨n',f',rfl,rfl,hd⟩:=hyes rfl;clear qd hyes;obtain⟨hf2,hf6,hfl,hn32⟩:=Der.lenOf_bd hd;rw[hl]at hfl;obtain⟨b,o,rfl,hbB,hcell⟩:=h.at_ (by omega);obtain⟨x0,hx0⟩:∃x0,xs.headD 0=x0:=⟨_,rfl⟩
  have h0:w.cell? ⟨b,o,none⟩=some (.int .u8 (x0.toNat:Int)):=by
   have hx:xs[0]? = some (xs.headD 0):=by cases xs with
    | nil=>simp at hl;omega
    | cons x r=>rfl
   rw[hx0]at hx
   simpa using hcell 0 _ hx
  have q9:=x0.toNat_lt
  by_cases ht:x0.toNat % 32=31
  ·have qc:Der.elem xs=none:=jk (by unfold Der.hdr Der.tagBad;rw[hx0,ht];rfl)
   have qg:=hd1 qc;have e1:((x0.toNat:Int) % 32==31)=true:=by simp;omega
   have qk:(0:Int)<n:=by omega
   clear qc hl hx0 ht hd h hcell
   go_wp2
   exact bodyPost_ret (v:=.tuple #[.agg #[.int .u8 0,.slice none 0 0,.slice none 0 0],.slice none 0 0,.int .i64 9]) (by simp[results,Tryz.results51,go_sem]) rfl (gW qg.out (by(repeat (first|exact Below.refl _ _|assumption|(refine Below.setCell ?_ (by first|omega|(simp;done)|(simp;omega)) _)|(refine Below.alloc ?_ (by first|omega|(simp;done)|(simp;omega)) _)|(refine aa ?_ _)|(refine Below.drew ?_)))))
  ·have q3:Der.elem xs=if n'≤n - f' then some (x0,(xs.take (f'+n')).drop f',xs.take (f'+n'),xs.drop (f'+n')) else none:=by
    unfold Der.elem Der.hdr Der.tagBad;rw[hx0,hd,hl,if_neg (by simpa using ht)]
   have qs:=hd1 q3;have e1:((x0.toNat:Int) % 32==31)=false:=by simp;omega
   have qk:(0:Int)<n:=by omega
   clear q3 hd hx0 ht hcell
   by_cases hfit:n'≤n - f'
   ·have q6:¬((n:Int) - f'<n'):=by omega
    obtain⟨A1,hr1,c1,d1⟩:=qL h f' (f'+n') (f':Int) ((f':Int)+(n':Int)) rfl (by omega) (by omega) (by omega);obtain⟨A2,hr2,c2,d2⟩:=bZ h (f'+n') ((f':Int)+(n':Int)) (by omega) (by omega);have j2:=h.upto (f'+n') (by omega);simp only[Nat.add_sub_cancel_left]at hr1 c1 d1;have el:=qs.out;rw[if_pos hfit]at el;have HX:=hd1 el;have q4:=ac.new w 84 #[.int .u8 0,.slice none 0 0,.slice none 0 0];have ys:IntKind.i64.wrap ((f':Int)+(n':Int))=(f':Int)+(n':Int):=IntWalk.i64_in _ (by omega);have j4:0<n:=by omega
    have j0:¬b=w.heap.size:=by omega
    have j1:¬w.heap.size=b:=by omega
    have j8:(0:Int)≤(f':Int)+(n':Int):=by omega
    have yd:(f':Int)+(n':Int)≤(c:Int):=by omega
    have yh:((f':Int)+(n':Int)).toNat=f'+n':=by omega
    clear hl el qs
    go_wp2
    go_region_held3 (fun w'=>w'.cell? ⟨b,o,none⟩=some (.int .u8 (x0.toNat:Int))) (go_keep)
     (first
       | (go_at_call 43;((with_reducible refine(du A1 n' (c - f') _ _ (hr1.up (by(repeat (first|exact Below.refl _ _|assumption|(refine Below.setCell ?_ (by first|omega|(simp;done)|(simp;omega)) _)|(refine Below.alloc ?_ (by first|omega|(simp;done)|(simp;omega)) _)|(refine aa ?_ _)|(refine Below.drew ?_))))) (by omega)).mono ?_);rintro e w1 ⟨A4,n4,c4,rfl,ho1,hb1⟩);have q0:Below w.heap.size w w1:=Below.trans (by(repeat (first|exact Below.refl _ _|assumption|(refine Below.setCell ?_ (by first|omega|(simp;done)|(simp;omega)) _)|(refine Below.alloc ?_ (by first|omega|(simp;done)|(simp;omega)) _)|(refine aa ?_ _)|(refine Below.drew ?_)))) (hb1.mono (by simp));obtain⟨hc1,hf1,hB1,hz1⟩:=q4.box (B:=w.heap.size+1) (Below.trans (by(repeat (first|exact Below.refl _ _|assumption|(refine Below.setCell ?_ (by first|omega|(simp;done)|(simp;omega)) _)|(refine Below.alloc ?_ (by first|omega|(simp;done)|(simp;omega)) _)|(refine aa ?_ _)|(refine Below.drew ?_)))) (hb1.mono (by simp))) (by simp);have j5:w1.cell? ⟨b,o,none⟩=some (.int .u8 (x0.toNat:Int)):=(q0.cell (p:=⟨b,o,none⟩) hbB).trans h0)
       | (go_at_call 43;((with_reducible refine(du (some ⟨b,o,none⟩) (f'+n') c _ _ (j2.up (by(repeat (first|exact Below.refl _ _|assumption|(refine Below.setCell ?_ (by first|omega|(simp;done)|(simp;omega)) _)|(refine Below.alloc ?_ (by first|omega|(simp;done)|(simp;omega)) _)|(refine aa ?_ _)|(refine Below.drew ?_))))) (by omega)).mono ?_);rintro e w2 ⟨A5,n5,c5,rfl,ho2,hb2⟩);have q1:Below w.heap.size w w2:=Below.trans (by(repeat (first|exact Below.refl _ _|assumption|(refine Below.setCell ?_ (by first|omega|(simp;done)|(simp;omega)) _)|(refine Below.alloc ?_ (by first|omega|(simp;done)|(simp;omega)) _)|(refine aa ?_ _)|(refine Below.drew ?_)))) (hb2.mono (by omega));obtain⟨hc2,hf2,hB2,hz2⟩:=hB1.box hb2 hz1;have j6:w2.cell? ⟨b,o,none⟩=some (.int .u8 (x0.toNat:Int)):=(q1.cell (p:=⟨b,o,none⟩) hbB).trans h0)
       | (go_at_call 43;((with_reducible refine(du A2 (n - (f'+n')) (c - (f'+n')) _ _ (hr2.up (by(repeat (first|exact Below.refl _ _|assumption|(refine Below.setCell ?_ (by first|omega|(simp;done)|(simp;omega)) _)|(refine Below.alloc ?_ (by first|omega|(simp;done)|(simp;omega)) _)|(refine aa ?_ _)|(refine Below.drew ?_))))) (by omega)).mono ?_);rintro e w3 ⟨A6,n6,c6,rfl,ho3,hb3⟩);have q2:Below w.heap.size w w3:=Below.trans (by(repeat (first|exact Below.refl _ _|assumption|(refine Below.setCell ?_ (by first|omega|(simp;done)|(simp;omega)) _)|(refine Below.alloc ?_ (by first|omega|(simp;done)|(simp;omega)) _)|(refine aa ?_ _)|(refine Below.drew ?_)))) (hb3.mono (by first|omega|(simp;omega)));obtain⟨hc3,hf3,hB3,hz3⟩:=hB2.box hb3 (by first|exact hz2|simpa using hz2);have j7:w3.cell? ⟨b,o,none⟩=some (.int .u8 (x0.toNat:Int)):=(q2.cell (p:=⟨b,o,none⟩) hbB).trans h0))
    all_goals go_wp2
    have qv:=((br.one ho1 hb1.size).below hb2 nl_).append (br.one ho2 hb2.size);have qh:=(qv.below hb3 nl_).append (br.one ho3 hb3.size);refine bodyPost_ret (v:=.tuple #[.agg #[.int .u8 (x0.toNat:Int),.slice A4 n4 c4,.slice A5 n5 c5],.slice A6 n6 c6,.int .i64 0]) (by simp[results,Tryz.results51,go_sem,hc3]) rfl
     ⟨by(repeat (first|exact Below.refl _ _|assumption|(refine Below.setCell ?_ (by first|omega|(simp;done)|(simp;omega)) _)|(refine Below.alloc ?_ (by first|omega|(simp;done)|(simp;omega)) _)|(refine aa ?_ _)|(refine Below.drew ?_))),.inr ⟨_,_,_,_,_,_,_,_,_,_,_,_,_,HX.out,rfl,?_⟩⟩
    exact((((qh.setCell (by simp) _).setCell (by simp) _).setCell (by simp) _).mono (by simp) (by simp))
   ·have q6:((n:Int) - f'<n'):=by omega
    have qd:=qs.out;rw[if_neg hfit]at qd;have qg:=hd1 qd;clear qd hl h
    go_wp2
    exact bodyPost_ret (v:=.tuple #[.agg #[.int .u8 0,.slice none 0 0,.slice none 0 0],.slice none 0 0,.int .i64 9]) (by simp[results,Tryz.results51,go_sem]) rfl (gW qg.out (by(repeat (first|exact Below.refl _ _|assumption|(refine Below.setCell ?_ (by first|omega|(simp;done)|(simp;omega)) _)|(refine Below.alloc ?_ (by first|omega|(simp;done)|(simp;omega)) _)|(refine aa ?_ _)|(refine Below.drew ?_)))))
end
section
open Go.ChangeShapes Go.WideShapes Go.ChangeAt Go.RowKit
theorem pw {n:Int} (h:(Lit.int .u8 n).wf=true):((UInt8.ofNat n.toNat).toNat:Int)=n:=by
 have h1:IntKind.u8.min=0:=rfl;have h2:IntKind.u8.max=255:=rfl;simp only[Lit.wf,Bool.and_eq_true,decide_eq_true_eq]at h;rw[UInt8.toNat_ofNat'];omega
theorem sn {H:Type} {enc:TypeId×Value→H} {W:World} {a0:Option Addr} {len cap:Nat} {d0:DataW H} {p:List MemPlace}
 (h0:DataW.Trod enc Tryz.prog W 0 (fun _=>true) true 22 (.slice a0 len cap) d0 p):∃xs:List UInt8,Rd W W.heap.size a0 len cap xs:=by
 obtain⟨fuel,hf⟩:=h0;rcases open_ints Tryz.underlying22 Tryz.underlying5 (by kernel_rfl) hf with⟨hcs,_⟩|⟨x,l,c,zs,hcs,_,hl,hm,hz,_,hcell,hwz⟩
 ·simp[Value.cells]at hcs
  obtain⟨rfl,rfl,rfl⟩:=hcs;exact⟨[],Rd.none_⟩
 ·simp[Value.cells]at hcs
  obtain⟨rfl,rfl,rfl⟩:=hcs;have qh:zs.length=cap:=by simpa using hz
  have qc:∀i,i<cap→W.cell? (x.add i)=some (.int .u8 (zs.getD i 0)):=fun i hi=>hcell i (by omega)
  refine⟨(zs.take len).map fun n=>UInt8.ofNat n.toNat,by simp;omega,hl,by simpa [maxLen]using hm,(fun e=>by cases e),fun hc=>?_,by simp;omega,fun hn=>?_⟩
  ·obtain⟨b,o,s⟩:=x
   have h1:=qc 0 hc;obtain rfl:s=none:=by simpa [Addr.add]using World.cell?_spot h1
   have qd:=World.block_lt_of_cell? W _ h1;exact⟨b,o,rfl,by simpa [Addr.add]using qd⟩
  ·have h1:=qc 0 (by omega)
   have qd:=World.block_lt_of_cell? W _ h1;refine⟨x,rfl,by rw[gf]at qd;exact qd,fun j u hu=>?_⟩;have hj:j<len:=by
    have:=(List.getElem?_eq_some_iff.1 hu).1;simp at this;omega
   rw[qc j (by omega)];have qg:zs[j]? = some (zs[j]'(by omega)):=List.getElem?_eq_getElem (by omega);have hw:=hwz (zs[j]'(by omega)) (List.getElem_mem _);simp only[List.map_map,List.getElem?_map,List.getElem?_take,if_pos hj,qg,Option.map_some,Function.comp,Option.some.injEq]at hu;subst hu;simp only[List.getD,qg,Option.getD_some,bv];rw[pw hw]
end
end
end Go.Proofs.YtmpkpphfoidbeaaGreatDoor
