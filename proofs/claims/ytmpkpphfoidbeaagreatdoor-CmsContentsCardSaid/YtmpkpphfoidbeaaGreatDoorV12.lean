import Derived.OpenShut
import Derived.ProofKit
import Derived.Test.YtmpkpphfoidbeaaGreatDoorV11
set_option linter.unusedVariables false
set_option linter.unusedSimpArgs false
namespace Go.Proofs.YtmpkpphfoidbeaaGreatDoor
open Go.RowKit
section
set_option maxRecDepth 100000
structure fw (w:World) (B:Nat) (A:Option Addr) (n c:Nat) (cs:List Value):Prop where
 len:cs.length=n
 cap:n≤c
 capm:c≤9223372036854775807
 nil:A=none→c=0
 spot:0<c→∃b o,A=some ⟨b,o,none⟩∧b<B
 rds:aF w B 1 A n cs
section
variable {w w' : World} {B B' n c : Nat} {A : Option Addr} {cs : List Value}
theorem fw.keep (h:fw w B A n c cs) (hk:∀p:Addr,p.block<B→w'.cell? p=w.cell? p):fw w' B A n c cs:=⟨h.len,h.cap,h.capm,h.nil,h.spot,h.rds.keep hk⟩
theorem fw.below (h:fw w B A n c cs) (hb:Below B w w'):fw w' B A n c cs:=h.keep fun _ hp=>hb.cell hp
theorem fw.more (h:fw w B A n c cs) (hB:B≤B'):fw w B' A n c cs:=
 ⟨h.len,h.cap,h.capm,h.nil,fun hc=>by obtain⟨b,o,e,hb⟩:=h.spot hc;exact⟨b,o,e,ab⟩,h.rds.more hB⟩
theorem fw.up (h:fw w w.heap.size A n c cs) (hb:Below w.heap.size w w'):fw w' w'.heap.size A n c cs:=(h.below hb).more hb.size
theorem fw.get (h:fw w B A n c cs) {k:Nat} (hk:k<n):∃b o u,A=some ⟨b,o,none⟩∧b<B∧cs[k]? = some u∧w.cell? ⟨b,o+k,none⟩=some u:=by
 obtain⟨ad,u,rfl,hb,hu,hc⟩:=h.rds.at_ hk;obtain⟨b,o,e,_⟩:=h.spot (by have:=h.cap;omega);injection e with e
 subst e;rw[Addr.add_lit]at hc;exact⟨b,o,u,rfl,hb,hu,hc⟩
theorem fw.drop (h:fw w B A n c cs) {lo:Nat} (h1:lo≤n):fw w B (if c=lo then A else A.map (·.add lo)) (n - lo) (c - lo) (cs.drop lo):=by
 have hc:=h.cap;have hl:=h.len;have hm:=h.capm;refine⟨ai,ab,ab,fun hA=>?_,fun h0=>?_,?_⟩
 ·by_cases e:c=lo
  ·omega
  ·rw[if_neg e]at hA
   have:=h.nil (by cases A<;>simp_all);omega
 ·obtain⟨b,o,rfl,hb⟩:=h.spot ab
  rw[if_neg ab];exact⟨b,o+lo,by simp[Addr.add_lit],hb⟩
 ·have:=h.rds.cut h1 hc
  simpa using this
end
theorem wF {w:World} {B n c:Nat} {A:Option Addr} {cs:List Value} (h:fw w B A n c cs) (lo:Nat) (l:Int) (hl:l=lo) (h1:lo≤n) :
 ∃A1,fw w B A1 (n - lo) (c - lo) (cs.drop lo)∧(∀W,(Instr.sliceAt 40 (.slice A n c) (some (.int .i64 l)) none none).run Tryz.prog W=.ok (.slice A1 (n - lo) (c - lo)) W)∧
  ∀W,(Instr.slice 40 (.slice A n c) (some (.int .i64 l)) none none).run Tryz.prog W=.ok (.slice A1 (n - lo) (c - lo)) W:=by
 have hc:=h.cap;refine⟨_,h.drop h1,fun W=>?_,fun W=>?_⟩<;>subst hl<;>simp[go_sem,Tryz.underlying40,show(lo:Int)≤n by omega]
def eT (w:World) (B:Nat) (A:Option Addr) (n c:Nat) (zs:List Nat):Prop:=fw w B A n c (zs.map uv)∧∀z∈zs,z<18446744073709551616
theorem eT.get {w:World} {B n c:Nat} {A:Option Addr} {zs:List Nat} (h:eT w B A n c zs) {k:Nat} (hk:k<n):∃b o z,A=some ⟨b,o,none⟩∧b<B∧zs[k]? = some z∧z<18446744073709551616∧w.cell? ⟨b,o+k,none⟩=some (.int .u64 (z:Int)):=by
 obtain⟨b,o,u,rfl,hb,hu,hc⟩:=h.1.get hk;simp only[List.getElem?_map,Option.map_eq_some_iff]at hu;obtain⟨z,hz,rfl⟩:=hu;exact⟨b,o,z,rfl,hb,hz,h.2 z (List.mem_of_getElem? hz),hc⟩
theorem eT.len {w:World} {B n c:Nat} {A:Option Addr} {zs:List Nat} (h:eT w B A n c zs):zs.length=n:=by have:=h.1.len;simpa using this
namespace Der
def putOk (a b:Nat):Bool:=decide (a≤2)&&(decide (2≤a)||decide (b≤39))&&decide (b≤18446744073709551535)
def sevs (l:List Nat):List UInt8:=l.flatMap sev
def putOid:List Nat→List UInt8
 | a::b::r=>if putOk a b then sev (40*a+b)++sevs r else []
 | _=>[]
theorem sevs_take {l:List Nat} {k z:Nat} (h:l[k]? = some z):sevs (l.take (k+1))=sevs (l.take k)++sev z:=by
 rw[List.take_add_one,h];simp[sevs]
theorem sevs_len:∀(l:List Nat),(∀z∈l,z<18446744073709551616)→(sevs l).length≤10*l.length
 | [],_=>by simp[sevs]
 | z::r,h=>by
  have h1:=sev_len z (h z ag);have h2:=sevs_len r fun y hy=>h y (by simp[hy])
  simp only[sevs,List.flatMap_cons,List.length_append,List.length_cons]at h2 ⊢;omega
end Der
theorem gq {zs:List Nat} {w w':World} (h:Der.putOid zs=[]) (hb:Below w.heap.size w w'):aO (Der.putOid zs) w (.returned (.slice none 0 0)) w':=by
 rw[h];exact cE az.nil_ hb
theorem pV (A:Option Addr) (n c:Nat) (zs:List Nat) (w:World) (h:eT w w.heap.size A n c zs) (hn:n<2) :
 Calls Tryz.prog 77 #[.slice A n c] w (aO (Der.putOid zs) w):=by
 have hz:Der.putOid zs=[]:=by
  have:=h.len
  match zs,this with
  | [],_=>rfl
  | [_],_=>rfl
  | _::_::_,h=>simp at h;omega
 have HZ:=hd1 hz;have qc:(n:Int)<2:=ab
 clear h hz
 go_enter Tryz.func77,Tryz.ntmps77
 go_wp2
 exact bodyPost_ret (v:=.slice none 0 0) (by simp[results,Tryz.results77,go_sem]) rfl (gq HZ.out aa)
theorem wt (b o n c x y:Nat) (zs:List Nat) (w:World) (hx:x<18446744073709551616) (hy:y<18446744073709551616) (hbw:b<w.heap.size) (h0:w.cell? ⟨b,o,none⟩=some (.int .u64 (x:Int))) (h1:w.cell? ⟨b,o+1,none⟩=some (.int .u64 (y:Int))) (hz:Hid (Der.putOid zs=[]))
 (hno:Der.putOk x y=false) (hn:2≤n) :
 Calls Tryz.prog 77 #[.slice (some ⟨b,o,none⟩) n c] w (aO (Der.putOid zs) w):=by
 have qc:¬(n:Int)<2:=ab
 have qd:(1:Int)<n:=ab
 simp only[Der.putOk,Bool.and_eq_false_iff,Bool.or_eq_false_iff,decide_eq_false_iff_not]at hno
 by_cases hx2:(2:Int)<x
 ·clear hno
  go_enter Tryz.func77,Tryz.ntmps77
  go_wp2
  exact bodyPost_ret (v:=.slice none 0 0) (by simp[results,Tryz.results77,go_sem]) rfl (gq hz.out aa)
 by_cases hx3:(x:Int)<2
 ·by_cases hy2:(39:Int)<y
  ·clear hno
   go_enter Tryz.func77,Tryz.ntmps77
   go_wp2
   exact bodyPost_ret (v:=.slice none 0 0) (by simp[results,Tryz.results77,go_sem]) rfl (gq hz.out aa)
  ·exfalso;omega
 ·have qg:(18446744073709551535:Int)<y:=ab
  clear hno
  go_enter Tryz.func77,Tryz.ntmps77
  go_wp2
  exact bodyPost_ret (v:=.slice none 0 0) (by simp[results,Tryz.results77,go_sem]) rfl (gq hz.out aa)
theorem tL (g x y:Nat) (v:Value) (xs:List UInt8) (w:World) (hB:aw w g 22 #[v]) (ho:az w (g+1) w.heap.size v xs) (hN:40*x+y<18446744073709551616) (hx:xs.length≤17592186044416) :
 Calls Tryz.prog 105 #[.int .u64 (40*(x:Int)+(y:Int)),.pointer (some ⟨g,0,none⟩)] w (mG g xs (40*x+y) w):=by
 have:=rT g (40*x+y) v xs w hB ho hN hx;rw[show((40*x+y:Nat):Int)=40*(x:Int)+(y:Int) from by omega]at this;exact this
set_option maxHeartbeats 2000000 in
theorem tK (b o n c x y:Nat) (rs:List Nat) (w:World) (h:eT w w.heap.size (some ⟨b,o,none⟩) n c (x::y::rs)) (hx:x<18446744073709551616) (hbw:b<w.heap.size) (h0:w.cell? ⟨b,o,none⟩=some (.int .u64 (x:Int))) (h1:w.cell? ⟨b,o+1,none⟩=some (.int .u64 (y:Int)))
 (hok:Der.putOk x y=true) (hn:2≤n) (q6:n≤1099511627) :
 Calls Tryz.prog 77 #[.slice (some ⟨b,o,none⟩) n c] w (aO (Der.putOid (x::y::rs)) w):=by
 have j5:¬(n:Int)<2:=ab
 have q6:(1:Int)<n:=ab
 have hp:Der.putOid (x::y::rs)=Der.sev (40*x+y)++Der.sevs rs:=by rw[Der.putOid,if_pos hok]
 rw[hp];simp only[Der.putOk,Bool.and_eq_true,Bool.or_eq_true,decide_eq_true_eq]at hok;have j7:¬(2:Int)<x:=ab
 have yd:¬(18446744073709551535:Int)<y:=ab
 have qk:rs.length=n - 2:=by have:=h.len;simp at this;omega
 obtain⟨A1,hr1,c1,d1⟩:=wF h.1 2 2 rfl ab;have q9:40*x+y<18446744073709551616:=ab
 have q5:IntKind.u64.wrap (40*(x:Int))=40*(x:Int):=by simp only[IntKind.wrap,IntKind.bits,IntKind.signed];simp;omega
 have qg:((x:Int)<2→¬(39:Int)<y):=fun hlt=>by omega
 have j6:0<n:=ab
 have q2:IntKind.u64.wrap (40*(x:Int)+(y:Int))=40*(x:Int)+(y:Int):=by simp only[IntKind.wrap,IntKind.bits,IntKind.signed];simp;omega
 have j4:∀(fn:Fn) (first cap:Array Value) (w:World),(Instr.makeFunc fn first cap).run Tryz.prog w=.ok (.func fn first cap) w:=fun _ _ _ _=>rfl
 have HR:=hd4 h hr1 qk q9;clear hp hok h hr1 qk
 by_cases hx3:(x:Int)<2
 all_goals
  try (have j8:=qg hx3)
  clear qg
  go_enter Tryz.func77,Tryz.ntmps77
  go_wp2
  go_region_held3 (fun w'=>w'.cell? ⟨b,o,none⟩=some (.int .u64 (x:Int))∧w'.cell? ⟨b,o+1,none⟩=some (.int .u64 (y:Int))) (go_keep)
   (first|(go_at_call 105;((with_reducible refine(tL w.heap.size x y (.slice none 0 0) [] _ (aw.drew (aw.new w 22 #[.slice none 0 0])) az.nil_ HR.out.2.2.2 ag).mono ?_);rintro e w2 ⟨rfl,v2,qc,ho2,hb2⟩;have qh:=hd3 qc ho2 hb2;clear qc ho2;have k0:=(hb2.cell (p:=⟨b,o,none⟩) hbw).trans ((Below.drew (Below.alloc (Below.refl w.heap.size w) nl_ (.cells #[.slice none 0 0] 22))).cell (p:=⟨b,o,none⟩) hbw |>.trans h0);have k1:=(hb2.cell (p:=⟨b,o+1,none⟩) hbw).trans ((Below.drew (Below.alloc (Below.refl w.heap.size w) nl_ (.cells #[.slice none 0 0] 22))).cell (p:=⟨b,o+1,none⟩) hbw |>.trans h1))))
  go_wp2
  clear k0 k1 h0 h1;have qd:Below w.heap.size w w2:=Below.trans aa hb2;have q1:=hd1 qd;clear hb2 qd
  go_loopw [47] (fun i wr=>∃k:Nat,k≤n - 2∧i=.int .i64 k∧∃v',aw wr w.heap.size 22 #[v']∧az wr (w.heap.size+1) wr.heap.size v' (Der.sev (40*x+y)++Der.sevs (rs.take k))∧Below w.heap.size w wr) (fun i _=>n - 2 - (intOf i).toNat)
  case atStart=>exact⟨0,ab,rfl,v2,qh.1,by simpa [Der.sevs]using qh.2.1,q1.out⟩
  case round=>
   obtain⟨k,hk,rfl,v',hBv,hov,hbv⟩:=hrel
   by_cases hlt:k<n - 2
   ·have q3:(k:Int)<(n:Int) - 2:=ab
    have q4:(k:Int)<((n - 2:Nat):Int):=ab
    obtain⟨b2,o2,u,rfl,hb2,hu,hc⟩:=(HR.2.1.below hbv).get hlt;have hz:∃z,rs[k]? = some z∧u=uv z:=by
     simp only[List.map_cons,List.drop_succ_cons,List.drop_zero,List.getElem?_map,Option.map_eq_some_iff]at hu;obtain⟨z,h1,h2⟩:=hu;exact⟨z,h1,h2.symm⟩
    obtain⟨z,hz,rfl⟩:=hz;have j0:=HR.1.2 z (by simp[List.mem_of_getElem? hz]);have qv:=Der.sevs_take hz;have qs:=Der.sevs_len (rs.take k) (fun q hq=>HR.1.2 q (by simp[List.mem_of_mem_take hq]));have q7:=Der.sev_len (40*x+y) HR.2.2.2;rw[List.length_take]at qs;have HB:=hd5 hBv hov hbv qv (show(Der.sev (40*x+y)++Der.sevs (rs.take k)).length≤17592186044416 by rw[List.length_append];omega);have j1:wr.cell? ⟨b2,o2+k,none⟩=some (.int .u64 (z:Int)):=hc;clear hBv hov hbv qv hu hz hc qs q7
    go_wp2_with fail
    refine(rT w.heap.size z v' _ wr HB.1 HB.2.1 j0 HB.2.2.2.2).mono ?_;rintro e w3 ⟨rfl,v3,hB3,ho3,hb3⟩;have HC:=hd3 hB3 ho3 hb3;clear hB3 ho3 hb3
    go_wp2
    go_roundw
    case rel=>exact⟨k+1,ab,by go_num,v3,HC.1,by rw[HB.2.2.2.1,←List.append_assoc];exact HC.2.1,HB.2.2.1.trans HC.2.2⟩
    case measure=>simp[intOf];omega
   ·have j3:k=n - 2:=ab
    have j2:¬(k:Int)<((n - 2:Nat):Int):=ab
    have q0:rs.take k=rs:=List.take_of_length_le (by have:=HR.2.2.1;omega);rw[q0]at hov;obtain⟨A5,n5,c5,rfl,_⟩:=hov.rd;obtain⟨hc0,hf0⟩:=hBv.facts;have qc:=(hBv.set_ 0 (.slice A5 n5 c5))
    obtain⟨hc1,hf1⟩:=qc.facts;have HB:=hd2 hov hbv;clear hov hbv q0 hBv qc
    go_wp2
    exact bodyPost_ret (v:=.slice A5 n5 c5) (by simp[results,Tryz.results77,go_sem,hc1]) rfl (cE (((HB.1.setCell ag _).mono ab ag)) (HB.2.setCell ag _))
theorem tJ (A:Option Addr) (n c:Nat) (zs:List Nat) (w:World) (h:eT w w.heap.size A n c zs) (hn2:n≤1099511627) :
 Calls Tryz.prog 77 #[.slice A n c] w (aO (Der.putOid zs) w):=by
 by_cases hn:n<2
 ·exact pV A n c zs w h hn
 have hl:=h.len;obtain⟨b,o,x,rfl,hb,hx,hxl,hc⟩:=h.get (k:=0) ab;obtain⟨b',o',y,e,_,hy,hyl,hc'⟩:=h.get (k:=1) ab;injection e with e
 injection e with e1 e2
 subst e1 e2
 match zs,hl with
 | [],hl=>simp at hl;omega
 | [_],hl=>simp at hl;omega
 | p::q::rs,hl=>
  simp only[List.getElem?_cons_zero,List.getElem?_cons_succ,Option.some.injEq]at hx hy;subst hx hy
  cases hok:Der.putOk p q with
  | true=>exact tK b o n c p q rs w h hxl hb hc hc' hok ab hn2
  | false=>exact wt b o n c p q _ w hxl hyl hb hc hc' (by rw[Hid,Der.putOid,if_neg (by rw[hok];simp)]) hok ab
end
section
section
set_option maxRecDepth 100000
namespace Der
def pend (n:Nat):List UInt8:=(sevT n).reverse
theorem pend_zero:pend 0=[]:=by unfold pend;rw[sevT_zero];rfl
end Der
end
section
set_option maxRecDepth 100000
def El.wf (x:El):Prop:=x.2.2=Der.write x.1 x.2.1∧x.1.toNat % 32≠31∧x.2.1.length<4294967296
end
section
set_option maxRecDepth 100000
structure Fl.ok (f:Fl):Prop where
 p1 : -1≤f.path
 p2:f.path≤255
 cp:f.ca=true∨f.path = -1
 u1 : -1≤f.usage
 u0:f.usage≠0
 u2:f.usage<512
structure Sg.ok (s:Sg):Prop where
 tbs:∃b,Der.elem s.tbs=some (48,b,s.tbs,[])∧s.tbs=Der.write 48 b∧b.length<4294967296
 ser:∃m,Der.int s.ser=some m∧m≠[]
 few:s.ser.length≤20
 less:Stamp.less s.to s.from_=false
 r1:Stamp.right s.from_=true
 r2:Stamp.right s.to=true
 e:s.e<8589934592
 fl:s.fl.ok
theorem yA {t:Tm} (hr:Stamp.right t=true):t.d≤31∧t.mo<13:=by
 unfold Stamp.right at hr;simp only[Bool.and_eq_true,decide_eq_true_eq]at hr;obtain⟨⟨⟨⟨⟨⟨h1,h2⟩,h3⟩,h4⟩,h5⟩,h6⟩,h7⟩:=hr;unfold Stamp.days at h2
 split at h2
 ·omega
 ·by_cases hm:t.mo<13
  ·refine⟨?_,hm⟩
   generalize t.mo=m at h2 hm
   match m,hm,h2 with
   | 0,_,h2|1,_,h2|2,_,h2|3,_,h2|4,_,h2|5,_,h2|6,_,h2|7,_,h2|8,_,h2|9,_,h2|10,_,h2|11,_,h2|12,_,h2=>simp at h2;omega
  ·rw[List.getD_eq_getElem?_getD,List.getElem?_eq_none ai]at h2
   simp at h2;omega
theorem tZ {t:Tm} (hr:Stamp.right t=true):t.fits:=by
 have hy:t.y≤9999:=by
  unfold Stamp.right at hr;simp only[Bool.and_eq_true,decide_eq_true_eq]at hr;omega
 unfold Stamp.right at hr;simp only[Bool.and_eq_true,decide_eq_true_eq]at hr;obtain⟨⟨⟨⟨⟨⟨h1,h2⟩,h3⟩,h4⟩,h5⟩,h6⟩,h7⟩:=hr;have hd:t.d≤31∧t.mo<13:=by
  unfold Stamp.days at h2
  split at h2
  ·omega
  ·by_cases hm:t.mo<13
   ·refine⟨?_,hm⟩
    generalize t.mo=m at h2 hm
    match m,hm,h2 with
    | 0,_,h2|1,_,h2|2,_,h2|3,_,h2|4,_,h2|5,_,h2|6,_,h2|7,_,h2|8,_,h2|9,_,h2|10,_,h2|11,_,h2|12,_,h2=>simp at h2;omega
   ·rw[List.getD_eq_getElem?_getD,List.getElem?_eq_none ai]at h2
    simp at h2;omega
 exact⟨ab,ab,ab,ab,ab,ab⟩
end
section
set_option maxRecDepth 100000
def ei (xs:List UInt8) (w:World) (e:Ending) (w':World):Prop:=
 ∃(n f:Int) (ok:Bool),e=.returned (.tuple #[.int .i64 n,.int .i64 f,.bool ok])∧(∃k,w'=w.drewN k)∧
  (ok=true→∃n' f':Nat,n=n'∧f=f'∧Der.lenOf xs=some (f',n'))∧(ok=false→Der.lenOf xs=none)
theorem iL {xs:List UInt8} {w w':World} {f n:Int} (h:Der.lenOf xs=none) (hw:∃k,w'=w.drewN k):ei xs w (.returned (.tuple #[.int .i64 n,.int .i64 f,.bool false])) w':=
 ⟨n,f,false,rfl,hw,(fun h=>by cases h),fun _=>h⟩
theorem rH {xs:List UInt8} {w w':World} {f n:Int} {f' n':Nat} (h:Der.lenOf xs=some (f',n')) (hf:f=f') (hn:n=n') (hw:∃k,w'=w.drewN k):ei xs w (.returned (.tuple #[.int .i64 n,.int .i64 f,.bool true])) w':=
 ⟨n,f,true,rfl,hw,fun _=>⟨n',f',hn,hf,h⟩,fun h=>by cases h⟩
theorem zH {xs:List UInt8} {w:World} {k m:Nat} (h:Der.lenOf xs=if Der.be ((xs.drop 2).take m)<128 then none else some (2+m,Der.be ((xs.drop 2).take m))) (hk:k=m) :
 ei xs w (.returned (.tuple #[.int .i64 (Der.be (((xs.drop 2).take m).take k):Int),.int .i64 (2+(m:Int)),.bool (decide (128≤(Der.be (((xs.drop 2).take m).take k):Int)))])) w:=by
 subst hk;rw[List.take_take,Nat.min_self]
 by_cases h1:Der.be ((xs.drop 2).take k)<128
 ·rw[if_pos h1]at h
  rw[decide_eq_false ab];exact iL h ⟨0,rfl⟩
 ·rw[if_neg h1]at h
  rw[decide_eq_true ab];exact rH h ab rfl ⟨0,rfl⟩
theorem vV (A:Option Addr) (n c:Nat) (xs:List UInt8) (B:Nat) (w:World) (h:Rd w B A n c xs) (hn:n<2) :
 Calls Tryz.prog 85 #[.slice A n c] w (ei xs w):=by
 have hx:Der.lenOf xs=none:=by
  have hl:=h.len
  match xs,hl with
  | [],_=>simp[Der.lenOf,Der.lenOf]
  | [_],_=>simp[Der.lenOf,Der.lenOf]
  | _::_::_,hl=>simp at hl;omega
 have H:=hd1 hx;clear hx h;have h2:((n:Int)<2):=ab
 go_enter Tryz.func85,Tryz.ntmps85
 go_wp2
 go_ret3
 exact iL H.out ⟨0,rfl⟩
theorem vU (b o n c:Nat) (x1:UInt8) (xs:List UInt8) (w:World) (hn:2≤n)
 (h1:w.cell? ⟨b,o+1,none⟩=some (.int .u8 (x1.toNat:Int)))
 (hl:(x1.toNat:Int)<128) (hx:Hid (Der.lenOf xs=some (2,x1.toNat))) :
  Calls Tryz.prog 85 #[.slice (some ⟨b,o,none⟩) n c] w (ei xs w):=by
 have qd:¬((n:Int)<2):=ab
 have qc:(1:Int)<n:=ab
 go_enter Tryz.func85,Tryz.ntmps85
 go_wp2
 go_ret3
 exact rH hx.out rfl rfl ⟨0,rfl⟩
theorem pt (b o n c:Nat) (m:Nat) (xs:List UInt8) (w:World) (hn:2≤n) (hm:m<128)
 (h1:w.cell? ⟨b,o+1,none⟩=some (.int .u8 ((m:Int)+128)))
 (hx:Hid (Der.lenOf xs=none)) (hno:m=0) :
  Calls Tryz.prog 85 #[.slice (some ⟨b,o,none⟩) n c] w (ei xs w):=by
 subst hno;have qd:¬((n:Int)<2):=ab
 have qc:(1:Int)<n:=ab
 go_enter Tryz.func85,Tryz.ntmps85
 go_wp2
 go_ret3
 exact iL hx.out ⟨0,rfl⟩
theorem pu (b o n c:Nat) (m:Nat) (xs:List UInt8) (w:World) (hn:2≤n) (hm:m<128)
 (h1:w.cell? ⟨b,o+1,none⟩=some (.int .u8 ((m:Int)+128)))
 (hx:Hid (Der.lenOf xs=none)) (hno:4<m) :
  Calls Tryz.prog 85 #[.slice (some ⟨b,o,none⟩) n c] w (ei xs w):=by
 have qd:¬((n:Int)<2):=ab
 have qc:(1:Int)<n:=ab
 have e0:((m:Int)==0)=false:=ai
 go_enter Tryz.func85,Tryz.ntmps85
 go_wp2
 go_ret3
 exact iL hx.out ⟨0,rfl⟩
theorem pw (b o n c:Nat) (m:Nat) (xs:List UInt8) (w:World) (hn:2≤n) (hm:m≤4)
 (h1:w.cell? ⟨b,o+1,none⟩=some (.int .u8 ((m:Int)+128)))
 (hx:Hid (Der.lenOf xs=none)) (hm0:0<m) (hno:n<2+m) :
  Calls Tryz.prog 85 #[.slice (some ⟨b,o,none⟩) n c] w (ei xs w):=by
 have qd:¬((n:Int)<2):=ab
 have qc:(1:Int)<n:=ab
 have e0:((m:Int)==0)=false:=ai
 have e1:¬(4:Int)<m:=ab
 have e2:(n:Int)<2+m:=ab
 go_enter Tryz.func85,Tryz.ntmps85
 go_wp2
 go_ret3
 exact iL hx.out ⟨0,rfl⟩
theorem px (b o n c:Nat) (m:Nat) (xs:List UInt8) (w:World) (hn:2+m≤n) (hm:m≤4)
 (h1:w.cell? ⟨b,o+1,none⟩=some (.int .u8 ((m:Int)+128))) (h2:w.cell? ⟨b,o+2,none⟩=some (.int .u8 0))
 (hx:Hid (Der.lenOf xs=none)) (hm0:0<m) :
  Calls Tryz.prog 85 #[.slice (some ⟨b,o,none⟩) n c] w (ei xs w):=by
 have qd:¬((n:Int)<2):=ab
 have qc:(2:Int)<n:=ab
 have e0:((m:Int)==0)=false:=ai
 have e1:¬(4:Int)<m:=ab
 have e2:¬(n:Int)<2+m:=ab
 go_enter Tryz.func85,Tryz.ntmps85
 go_wp2
 go_ret3
 exact iL hx.out ⟨0,rfl⟩
set_option maxHeartbeats 400000 in
theorem yc (b o n c:Nat) (x2:UInt8) (m:Nat) (xs:List UInt8) (B:Nat) (w:World) (hr:Rd w B (some ⟨b,o,none⟩) n c xs) (hn:2+m≤n) (hm:m≤4)
 (h1:w.cell? ⟨b,o+1,none⟩=some (.int .u8 ((m:Int)+128))) (h2:w.cell? ⟨b,o+2,none⟩=some (.int .u8 (x2.toNat:Int)))
 (hm0:0<m) (hx2:((x2.toNat:Int)==0)=false)
 (hx:Hid (Der.lenOf xs=if Der.be ((xs.drop 2).take m)<128 then none else some (2+m,Der.be ((xs.drop 2).take m)))) :
  Calls Tryz.prog 85 #[.slice (some ⟨b,o,none⟩) n c] w (ei xs w):=by
 have qg:=hr.cap;have q2:=hr.capm;have qk:¬((n:Int)<2):=ab
 have qc:(2:Int)<n:=ab
 have e0:((m:Int)==0)=false:=ai
 have e1:¬(4:Int)<m:=ab
 have e2:¬(n:Int)<2+m:=ab
 go_enter Tryz.func85,Tryz.ntmps85
 go_wp2
 go_loop [6,7] (fun t i=>∃k:Nat,k≤m∧i=.int .i64 k∧t=.int .i64 (Der.be (((xs.drop 2).take m).take k))) (fun _ i=>m - (intOf i).toNat)
 case atStart=>exact⟨0,Nat.zero_le _,rfl,rfl⟩
 case round=>
  obtain⟨k,hk,rfl,rfl⟩:=hrel
  by_cases hlt:k<m
  ·obtain⟨x,hx',hc'⟩:=hr.get (k:=2+k) ab
   have q1:w.cell? ⟨b,o+(2+k),none⟩=some (.int .u8 (x.toNat:Int)):=hc';clear hc';have HX:=hd1 (gd hlt hx');clear hx';have q4:(x.toNat:Int)<256:=by have:=x.toNat_lt;omega
   have qd:=Der.be_lt (((xs.drop 2).take m).take k);have qv:256 ^ (((xs.drop 2).take m).take k).length≤256 ^ 3:=Nat.pow_le_pow_right ab ai;have q0:(Der.be (((xs.drop 2).take m).take k):Int)<16777216:=ab
   clear qd qv;have qs:(k:Int)<m:=ab
   go_wp2
   go_round
   case rel=>
    refine⟨k+1,ab,by go_num,?_⟩;rw[df HX.out,Der.be_snoc];go_num
   case measure=>simp[intOf];omega
  ·have q3:¬(k:Int)<m:=ab
   go_wp2
   go_ret3
   have qh:k=m:=ab
   exact zH hx.out qh
theorem zG (A:Option Addr) (n c:Nat) (xs:List UInt8) (B:Nat) (w:World) (h:Rd w B A n c xs) :
 Calls Tryz.prog 85 #[.slice A n c] w (ei xs w):=by
 by_cases hn:n<2
 ·exact vV A n c xs B w h hn
 have qd:2≤n:=ab
 obtain⟨b,o,rfl,hbB,hcell⟩:=h.at_ ab;have hl:=h.len
 match xs,hl with
 | [],hl=>simp at hl;omega
 | [_],hl=>simp at hl;omega
 | x0::x1::r,hl=>
  simp only[List.length_cons]at hl;have h1:w.cell? ⟨b,o+1,none⟩=some (.int .u8 (x1.toNat:Int)):=hcell 1 x1 rfl
  by_cases hs:x1.toNat<128
  ·exact vU b o n c x1 _ w qd h1 ab (by simp[Hid,Der.lenOf,hs])
  obtain⟨m,hm⟩:∃m,x1.toNat=m+128:=⟨x1.toNat - 128,ab⟩
  have qg:=x1.toNat_lt;have qc:w.cell? ⟨b,o+1,none⟩=some (.int .u8 ((m:Int)+128)):=by rw[h1,hm];rfl
  have hh:Der.lenOf (x0::x1::r)=if m=0∨4<m∨r.length<m∨r.headD 0=0 then none else if Der.be (r.take m)<128 then none else some (2+m,Der.be (r.take m)):=by
   simp only[Der.lenOf,hm,Nat.add_sub_cancel];rw[if_neg ab];have e1:(m+128=128)=(m=0):=propext ab;have e2:(132<m+128)=(4<m):=propext ab;simp only[e1,e2]
  by_cases m0:m=0
  ·exact pt b o n c m _ w qd ab qc (by rw[Hid,hh,if_pos ab]) m0
  by_cases m4:4<m
  ·exact pu b o n c m _ w qd ab qc (by rw[Hid,hh,if_pos ab]) m4
  by_cases ml:r.length<m
  ·exact pw b o n c m _ w qd ab qc (by rw[Hid,hh,if_pos ab]) ab ab
  match r,hl,hcell,hh,ml with
  | [],_,_,_,ml=>simp at ml;omega
  | x2::r,hl,hcell,hh,ml=>
   simp only[List.length_cons]at ml hl;have h2:w.cell? ⟨b,o+2,none⟩=some (.int .u8 (x2.toNat:Int)):=hcell 2 x2 rfl
   by_cases z:x2=0
   ·subst z
    exact px b o n c m _ w ab ab qc h2 (by rw[Hid,hh,if_pos ag]) ab
   ·have zn:x2.toNat≠0:=fun e=>z (UInt8.toNat_inj.1 e)
    refine yc b o n c x2 m _ B w h ab ab qc h2 ab ai ?_;rw[Hid,hh,if_neg (by simp[z];omega)]
    rfl
end
section
set_option maxRecDepth 100000
theorem iE {xs:List UInt8} {w w':World} (h:Der.elem xs=none) (hb:Below w.heap.size w w') :
 jC 9 xs w (.returned (.tuple #[.agg #[.int .u8 0,.slice none 0 0,.slice none 0 0],.slice none 0 0,.int .i64 9])) w':=⟨hb,.inl ⟨h,rfl⟩⟩
set_option maxHeartbeats 1000000 in
theorem gW (A:Option Addr) (n c:Nat) (xs:List UInt8) (w:World) (h:Rd w w.heap.size A n c xs) (hn:n≤1099511627776) :
 Calls Tryz.prog 51 #[.slice A n c] w (jC 9 xs w):=by
 have q5:=h.cap;have j2:=h.capm;have hl:=h.len
 go_enter Tryz.func51,Tryz.ntmps51
 go_wp2_with fail
 refine(zG A n c xs w.heap.size _ (h.alloc nl_ _)).mono ?_;rintro e w' ⟨k,f,ok,rfl,⟨nd,rfl⟩,hyes,qd⟩
 cases ok with
 | false=>
  have qc:Der.elem xs=none:=jM (by unfold Der.hdr;rw[qd rfl];split<;>rfl);have qg:=hd1 qc;clear hyes qd qc hl
  go_wp2
  exact bodyPost_ret (v:=.tuple #[.agg #[.int .u8 0,.slice none 0 0,.slice none 0 0],.slice none 0 0,.int .i64 9]) (by simp[results,Tryz.results51,go_sem]) rfl (iE qg.out aa)
 | true=>
  obtain⟨n',f',rfl,rfl,hd⟩:=hyes rfl;clear qd hyes;obtain⟨hf2,hf6,hfl,hn32⟩:=Der.lenOf_bd hd;rw[hl]at hfl;obtain⟨b,o,rfl,hbB,hcell⟩:=h.at_ ab;obtain⟨x0,hx0⟩:∃x0,xs.headD 0=x0:=⟨_,rfl⟩
  have h0:w.cell? ⟨b,o,none⟩=some (.int .u8 (x0.toNat:Int)):=by
   have hx:xs[0]? = some (xs.headD 0):=by cases xs with
    | nil=>simp at hl;omega
    | cons x r=>rfl
   rw[hx0]at hx
   simpa using hcell 0 _ hx
  have q7:=x0.toNat_lt
  by_cases ht:x0.toNat % 32=31
  ·have qc:Der.elem xs=none:=jM (by unfold Der.hdr Der.tagBad;rw[hx0,ht];rfl)
   have qg:=hd1 qc;have e1:((x0.toNat:Int) % 32==31)=true:=ai
   have qk:(0:Int)<n:=ab
   clear qc hl hx0 ht hd h hcell
   go_wp2
   exact bodyPost_ret (v:=.tuple #[.agg #[.int .u8 0,.slice none 0 0,.slice none 0 0],.slice none 0 0,.int .i64 9]) (by simp[results,Tryz.results51,go_sem]) rfl (iE qg.out aa)
  ·have q3:Der.elem xs=if n'≤n - f' then some (x0,(xs.take (f'+n')).drop f',xs.take (f'+n'),xs.drop (f'+n')) else none:=by
    unfold Der.elem Der.hdr Der.tagBad;rw[hx0,hd,hl,if_neg (by simpa using ht)]
   have qs:=hd1 q3;have e1:((x0.toNat:Int) % 32==31)=false:=ai
   have qk:(0:Int)<n:=ab
   clear q3 hd hx0 ht hcell
   by_cases hfit:n'≤n - f'
   ·have q6:¬((n:Int) - f'<n'):=ab
    obtain⟨A1,hr1,c1,d1⟩:=rV h f' (f'+n') (f':Int) ((f':Int)+(n':Int)) rfl ab ab ab;obtain⟨A2,hr2,c2,d2⟩:=cQ h (f'+n') ((f':Int)+(n':Int)) ab ab;have j1:=h.upto (f'+n') ab;simp only[Nat.add_sub_cancel_left]at hr1 c1 d1;have el:=qs.out;rw[if_pos hfit]at el;have HX:=hd1 el;have q4:=aw.new w 84 #[.int .u8 0,.slice none 0 0,.slice none 0 0];have yh:IntKind.i64.wrap ((f':Int)+(n':Int))=(f':Int)+(n':Int):=IntWalk.i64_in _ ab;have j3:0<n:=ab
    have q9:¬b=w.heap.size:=ab
    have j0:¬w.heap.size=b:=ab
    have j7:(0:Int)≤(f':Int)+(n':Int):=ab
    have j8:(f':Int)+(n':Int)≤(c:Int):=ab
    have yd:((f':Int)+(n':Int)).toNat=f'+n':=ab
    clear hl el qs
    go_wp2
    go_region_held3 (fun w'=>w'.cell? ⟨b,o,none⟩=some (.int .u8 (x0.toNat:Int))) (go_keep)
     (first
       | (go_at_call 43;((with_reducible refine(dM A1 n' (c - f') _ _ (hr1.up aa) ab).mono ?_);rintro e w1 ⟨A4,n4,c4,rfl,ho1,hb1⟩);have q0:Below w.heap.size w w1:=Below.trans aa (hb1.mono ag);obtain⟨hc1,hf1,hB1,hz1⟩:=q4.box (B:=w.heap.size+1) (Below.trans aa (hb1.mono ag)) ag;have j4:w1.cell? ⟨b,o,none⟩=some (.int .u8 (x0.toNat:Int)):=(q0.cell (p:=⟨b,o,none⟩) hbB).trans h0)
       | (go_at_call 43;((with_reducible refine(dM (some ⟨b,o,none⟩) (f'+n') c _ _ (j1.up aa) ab).mono ?_);rintro e w2 ⟨A5,n5,c5,rfl,ho2,hb2⟩);have q1:Below w.heap.size w w2:=Below.trans aa (hb2.mono ab);obtain⟨hc2,hf2,hB2,hz2⟩:=hB1.box hb2 hz1;have j5:w2.cell? ⟨b,o,none⟩=some (.int .u8 (x0.toNat:Int)):=(q1.cell (p:=⟨b,o,none⟩) hbB).trans h0)
       | (go_at_call 43;((with_reducible refine(dM A2 (n - (f'+n')) (c - (f'+n')) _ _ (hr2.up aa) ab).mono ?_);rintro e w3 ⟨A6,n6,c6,rfl,ho3,hb3⟩);have q2:Below w.heap.size w w3:=Below.trans aa (hb3.mono (by first|omega|(simp;omega)));obtain⟨hc3,hf3,hB3,hz3⟩:=hB2.box hb3 (by first|exact hz2|simpa using hz2);have j6:w3.cell? ⟨b,o,none⟩=some (.int .u8 (x0.toNat:Int)):=(q2.cell (p:=⟨b,o,none⟩) hbB).trans h0))
    all_goals go_wp2
    have qv:=((bN.one ho1 hb1.size).below hb2 nl_).append (bN.one ho2 hb2.size);have qh:=(qv.below hb3 nl_).append (bN.one ho3 hb3.size);refine bodyPost_ret (v:=.tuple #[.agg #[.int .u8 (x0.toNat:Int),.slice A4 n4 c4,.slice A5 n5 c5],.slice A6 n6 c6,.int .i64 0]) (by simp[results,Tryz.results51,go_sem,hc3]) rfl
     ⟨aa,.inr ⟨_,_,_,_,_,_,_,_,_,_,_,_,_,HX.out,rfl,?_⟩⟩
    exact((((qh.setCell ag _).setCell ag _).setCell ag _).mono ag ag)
   ·have q6:((n:Int) - f'<n'):=ab
    have qd:=qs.out;rw[if_neg hfit]at qd;have qg:=hd1 qd;clear qd hl h
    go_wp2
    exact bodyPost_ret (v:=.tuple #[.agg #[.int .u8 0,.slice none 0 0,.slice none 0 0],.slice none 0 0,.int .i64 9]) (by simp[results,Tryz.results51,go_sem]) rfl (iE qg.out aa)
end
section
open Go.ChangeShapes Go.WideShapes Go.ChangeAt Go.RowKit
end
end
end Go.Proofs.YtmpkpphfoidbeaaGreatDoor
