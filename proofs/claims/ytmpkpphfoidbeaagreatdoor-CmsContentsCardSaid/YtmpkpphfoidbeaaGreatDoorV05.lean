import Derived.Deep.RegionHeld2
import Derived.Test.YtmpkpphfoidbeaaGreatDoorV03
import Derived.Test.YtmpkpphfoidbeaaGreatDoorV04
set_option linter.unusedVariables false
set_option linter.unusedSimpArgs false
namespace Go.Proofs.YtmpkpphfoidbeaaGreatDoor
open Go.RowKit
section
section
set_option maxRecDepth 100000
def fR:List PanicEntry:=[{v:=.iface 180 (.agg #[]),recovered:=false}]
def Ans {α:Type} (w:World) (o:Option α) (R:α→Value→World→Prop) (e:Ending) (w':World):Prop:=
 Below w.heap.size w w'∧((o=none∧e=.panicked fR)∨∃a v,o=some a∧e=.returned v∧R a v w')
theorem Ans.wrong {α:Type} {w w':World} {o:Option α} {R:α→Value→World→Prop} (h:o=none) (hb:Below w.heap.size w w'):Ans w o R (.panicked fR) w':=⟨hb,.inl ⟨h,rfl⟩⟩
theorem Ans.right {α:Type} {w w':World} {o:Option α} {R:α→Value→World→Prop} {a:α} {v:Value} (h:o=some a) (hb:Below w.heap.size w w') (hR:R a v w'):Ans w o R (.returned v) w':=⟨hb,.inr ⟨a,v,h,rfl,hR⟩⟩
theorem kp (x:Bool) (w:World):(Op.unary .not (.bool x)).run Tryz.prog w=.ok (.bool (!x)) w:=rfl
theorem cU (w:World):Calls Tryz.prog 148 #[.bool true] w fun e w'=>e=.returned (.tuple #[])∧w'=w:=by
 have qc:=kp
 go_enter Tryz.func148,Tryz.ntmps148
 go_wp2
 go_end0
 exact⟨rfl,rfl⟩
theorem bE (w:World):Calls Tryz.prog 148 #[.bool false] w fun e w'=>e=.panicked fR∧w'=w:=by
 have qc:=kp
 go_enter Tryz.func148,Tryz.ntmps148
 go_wp2
 exact⟨rfl,rfl,rfl⟩
theorem dm (b:Bool) (w:World):Calls Tryz.prog 148 #[.bool b] w fun e w'=>w'=w∧((b=false∧e=.panicked fR)∨(b=true∧e=.returned (.tuple #[]))):=by
 cases b
 ·exact(bE w).mono fun e w' h=>⟨h.2,.inl ⟨rfl,h.1⟩⟩
 ·exact(cU w).mono fun e w' h=>⟨h.2,.inr ⟨rfl,h.1⟩⟩
theorem eH (t:UInt8) (vb vr:Value) (u:Int) (b r:List UInt8) (w:World) :
 Calls Tryz.prog 147 #[.agg #[.int .u8 (t.toNat:Int),vb,vr],.int .u8 u] w (Ans w (Cert.body u (t,b,r)) fun a v _=>a=b∧v=vb):=by
 go_enter Tryz.func147,Tryz.ntmps147
 go_wp2_with fail
 refine(dm _ _).mono ?_;rintro e w' ⟨rfl,⟨h,rfl⟩|⟨h,rfl⟩⟩
 ·have HH:=hd1 h
  clear h
  go_wp2
  exact⟨rfl,Ans.wrong (by simp only[Cert.body,cX HH.out,Option.bind_none]) aa⟩
 ·have HH:=hd1 h
  clear h
  go_wp2
  go_ret
  exact Ans.right (by simp only[Cert.body,bI HH.out,Option.bind_some]) aa ⟨rfl,rfl⟩
def AO (w:World) (l:List El) (v:Value) (w':World):Prop:=∃L A n c,v=.slice A n c∧l=(L:List EI).map EI.dat∧aU w' w.heap.size w'.heap.size (.slice A n c) L∧n=l.length
theorem eK {w:World} {lo hi n c:Nat} {A:Option Addr} {L:List EI} (h:aU w lo hi (.slice A n c) L):n=L.length:=by
 obtain⟨_,_,e,_⟩:=h.1.shape;injection e with _ e2 _
theorem du (t:UInt8) (A1 A2:Option Addr) (n1 c1 n2 c2:Nat) (u lo hi:Int) (b r:List UInt8) (w:World) (h1:Rd w w.heap.size A1 n1 c1 b) (hn:n1≤1099511627) :
 Calls Tryz.prog 133 #[.agg #[.int .u8 (t.toNat:Int),.slice A1 n1 c1,.slice A2 n2 c2],.int .u8 u,.int .i64 lo,.int .i64 hi] w (Ans w (Cert.parts u lo hi (t,b,r)) (AO w)):=by
 go_enter Tryz.func133,Tryz.ntmps133
 go_wp2_with fail
 refine(eH t _ _ u b r _).mono ?_;rintro e w1 ⟨hb1,⟨ho,rfl⟩|⟨a,v,ho,rfl,rfl,rfl⟩⟩
 ·have HH:=hd2 ho hb1
  clear ho hb1
  go_wp2
  exact⟨rfl,Ans.wrong (by simp only[Cert.parts,HH.1,Option.bind_none]) (Below.trans aa (HH.2.mono al))⟩
 have qc:Below w.heap.size w w1:=Below.trans aa (hb1.mono al);have H1:=hd3 ho qc (h1.up qc);clear ho hb1 qc h1
 go_wp2_with fail
 refine(mI A1 n1 c1 a _ H1.2.2 hn).mono ?_;rintro e w2 ⟨hb2,⟨hany,rfl⟩|⟨L,A,n,c,hs,rfl,hE⟩⟩
 ·have H2:=hd2 hany (H1.2.1.trans (hb2.mono H1.2.1.size))
  clear hany hb2
  go_wp2_with fail
  refine(bE _).mono ?_;rintro e w' ⟨rfl,rfl⟩
  go_wp2
  exact⟨rfl,Ans.wrong (by simp only[Cert.parts,H1.1,Option.bind_some,kP H2.1,Option.bind_none]) H2.2⟩
 ·have hl:=eK hE
  have qd:Der.all a=some (L.map EI.dat):=i6 (by rw[hs,List.map_map];rfl);have H2:=hd4 qd (H1.2.1.trans (hb2.mono H1.2.1.size)) (hE.mono H1.2.1.size nl_) hl;clear qd hE hs hb2 hl;have fin:∀(q:Bool),q=(decide (lo≤(n:Int))&&decide ((n:Int)≤hi))→Hid (Cert.parts u lo hi (t,a,r)=(Cert.must q).bind fun _=>some (L.map EI.dat)):=by
   rintro q rfl;refine hd1 ?_;simp only[Cert.parts,H1.1,Option.bind_some,H2.1,H2.2.2.2,List.length_map]
  by_cases hlo:lo≤(n:Int)
  ·have hf:=fin (decide ((n:Int)≤hi)) (by simp[hlo])
   clear fin
   go_wp2_with fail
   refine(dm _ _).mono ?_;rintro e w' ⟨rfl,⟨hq,rfl⟩|⟨hq,rfl⟩⟩
   ·have HQ:=hd1 hq
    clear hq
    go_wp2
    exact⟨rfl,Ans.wrong (hf.out.trans (by rw[HQ.out];rfl)) H2.2.1⟩
   ·have HQ:=hd1 hq
    clear hq
    go_wp2
    go_ret
    exact Ans.right (hf.out.trans (by rw[HQ.out];rfl)) H2.2.1 ⟨L,A,n,c,rfl,rfl,H2.2.2.1,by simp[H2.2.2.2]⟩
  ·have hf:=fin false (by simp[hlo])
   clear fin
   go_wp2_with fail
   refine(bE _).mono ?_;rintro e w' ⟨rfl,rfl⟩
   go_wp2
   exact⟨rfl,Ans.wrong (hf.out.trans aq) H2.2.1⟩
end
section
set_option maxRecDepth 100000
def BE (w:World) (x:El) (v:Value) (w':World):Prop:=∃A1 n1 c1 A2 n2 c2,v=.agg #[.int .u8 (x.1.toNat:Int),.slice A1 n1 c1,.slice A2 n2 c2]∧bN w' w.heap.size w'.heap.size [(.slice A1 n1 c1,x.2.1),(.slice A2 n2 c2,x.2.2)]
def uC (w:World) (ys:List UInt8) (v:Value) (w':World):Prop:=∃A n c,v=.slice A n c∧az w' w.heap.size w'.heap.size (.slice A n c) ys
def BF (w:World) (zs:List Nat) (v:Value) (w':World):Prop:=iW w' w.heap.size w'.heap.size v zs
theorem aU.spot_ {w:World} {lo hi n c:Nat} {A:Option Addr} {L:List EI} (h:aU w lo hi (.slice A n c) L) (hn:0<n):∃g,A=some ⟨g,0,none⟩∧g<hi∧lo≤g:=by
 obtain⟨g,t,A1,n1,c1,body,A2,n2,c2,raw,e,hg,_⟩:=h.get hn;exact⟨g,e,hg,(h.1.1.lt g (by subst e;rfl)).1⟩
theorem aU.el {w wr:World} {lo hi B g n c:Nat} {L:List EI} {l:List El} (h:aU w lo hi (.slice (some ⟨g,0,none⟩) n c) L) (hl:l=L.map EI.dat) (hb:Below B w wr) (hB:hi≤B) (k o:Nat) (hk:k<n) (ho:o=k*3) :
 ∃t A1 n1 c1 body A2 n2 c2 raw,l.getD k El.none_=(t,body,raw)∧wr.cell? ⟨g,o,none⟩=some (.int .u8 (t.toNat:Int))∧wr.cell? ⟨g,o+1,none⟩=some (.slice A1 n1 c1)∧wr.cell? ⟨g,o+2,none⟩=some (.slice A2 n2 c2)∧
  Rd wr hi A1 n1 c1 body∧Rd wr hi A2 n2 c2 raw∧L[k]? = some ⟨t,.slice A1 n1 c1,body,.slice A2 n2 c2,raw⟩:=by
 obtain⟨g',t,A1,n1,c1,body,A2,n2,c2,raw,e,hg,hx,q0,q1,q2,r1,r2⟩:=h.get hk;injection e with e
 injection e with e
 subst e ho;rw[Nat.mul_comm 3 k]at q0 q1 q2;have qc:∀p:Addr,p.block<hi→wr.cell? p=w.cell? p:=fun p hp=>hb.cell ab
 refine⟨t,A1,n1,c1,body,A2,n2,c2,raw,?_,(qc ⟨g,k*3,none⟩ hg).trans q0,(qc ⟨g,k*3+1,none⟩ hg).trans q1,(qc ⟨g,k*3+2,none⟩ hg).trans q2,r1.keep qc,r2.keep qc,hx⟩;subst hl;rw[List.getD_eq_getElem?_getD,List.getElem?_map,hx]
 rfl
theorem dE {lo hi:Int} {u:Int} {x:El} {l:List El} (h:Cert.parts u lo hi x=some l):lo≤(l.length:Int)∧(l.length:Int)≤hi∧Der.all x.2.1=some l:=by
 unfold Cert.parts Cert.body at h
 by_cases h1:((x.1.toNat:Int)==u)=true
 ·rw[bI h1]at h
  simp only[Option.bind_some]at h
  cases ha:Der.all x.2.1 with
  | none=>rw[ha]at h;cases h
  | some l'=>
   rw[ha]at h;simp only[Option.bind_some]at h
   by_cases h2:(decide (lo≤(l'.length:Int))&&decide ((l'.length:Int)≤hi))=true
   ·rw[bI h2]at h
    injection h with h
    subst h;simp at h2;exact⟨h2.1,h2.2,rfl⟩
   ·rw[cX (by simpa using h2)]at h
    cases h
 ·rw[cX (by simpa using h1)]at h
  cases h
theorem bO {lo hi:Int} {u:Int} {x:El} {l:List El} (h:Cert.parts u lo hi x=some l) (k:Nat) {t:UInt8} {b r:List UInt8} (hk:l.getD k El.none_=(t,b,r)):b.length≤x.2.1.length∧r.length≤x.2.1.length:=by
 rw[List.getD_eq_getElem?_getD]at hk
 cases hg:l[k]? with
 | none=>
  rw[hg]at hk;simp only[Option.getD_none,El.none_,Prod.mk.injEq]at hk;obtain⟨rfl,rfl,rfl⟩:=hk;simp
 | some y=>
  rw[hg]at hk;simp only[Option.getD_some]at hk;subst hk;exact jp (dE h).2.2 _ (List.mem_of_getElem? hg)
theorem aM {w:World} {lo hi n c:Nat} {A:Option Addr} {xs:List UInt8} (h:az w lo hi (.slice A n c) xs):xs.length=n:=by
 obtain⟨A,n,c,e,h⟩:=h.rd;injection e with e1 e2 e3
 rw[e2];exact h.len
theorem gT (A:Option Addr) (n c:Nat) (xs:List UInt8) (w:World) (h:Rd w w.heap.size A n c xs) (hn:n≤1099511627776) :
 Calls Tryz.prog 134 #[.slice A n c] w (Ans w (Cert.only xs) (BE w)):=by
 have qg:=aw.new w 84 #[.int .u8 0,.slice none 0 0,.slice none 0 0]
 go_enter Tryz.func134,Tryz.ntmps134
 go_wp2_with fail
 refine(jR A n c xs _ (h.alloc nl_ _ |>.more ag) hn).mono ?_;rintro e w1 ⟨hb1,⟨hx,rfl⟩|⟨t,body,raw,rest,A1,n1,c1,A2,n2,c2,A3,n3,c3,hx,rfl,ho⟩⟩
 ·have qc:Below w.heap.size w w1:=Below.trans aa (hb1.mono al)
  have H1:=hd2 hx qc;clear hx qc hb1 qg h
  go_wp2_with fail
  refine(bE _).mono ?_;rintro e w' ⟨rfl,rfl⟩
  go_wp2
  exact⟨rfl,Ans.wrong (by simp only[Cert.only,H1.1]) (by have:=H1.2;have:=this.size;(repeat (first|exact Below.refl _ _|assumption|(refine Below.setCell ?_ al _)|(refine Below.alloc ?_ al _)|(refine ar ?_ _)|(refine Below.drew ?_))))⟩
 ·have qc:Below w.heap.size w w1:=Below.trans aa (hb1.mono al)
  obtain⟨m1,hm1,ho1,m2,hm2,ho2,m3,hm3,ho3,qh⟩:=ho;have qk:=aM ho3;have qd:=qg.below hb1 ag;obtain⟨hc0,hf0⟩:=qd.facts;have q3:=qd.lt;have H1:=hd6 hx qc ho1 ho2 qk qd;have q5:=qc.size;have qh:m3≤w1.heap.size:=qh;have hm:w.heap.size+1≤m1∧m1≤m2∧m2≤w1.heap.size:=by simp at hm1;omega
  clear hx qc hb1 qg h ho1 ho2 ho3 qd qk hm1 hm2 hm3 qh
  by_cases h0:n3=0
  ·subst h0
   go_wp2_with fail
   refine(cU _).mono ?_;rintro e w' ⟨rfl,rfl⟩
   go_wp2
   have hx:=H1.1;have q2:rest=[]:=List.eq_nil_of_length_eq_zero H1.2.2.2.2.1;have q1:=(((H1.2.2.2.2.2.set_ 0 (.int .u8 (t.toNat:Int))).set_ 1 (.slice A1 n1 c1)).set_ 2 (.slice A2 n2 c2)).alloc (.cells #[.int .u8 (t.toNat:Int),.slice A1 n1 c1,.slice A2 n2 c2] 84);obtain⟨k0,k1⟩:=q1.facts;have qs:=k0 0;have qv:=k0 1;have q0:=k0 2;simp only[List.setIfInBounds_toArray,List.set_cons_zero,List.set_cons_succ,List.getElem?_toArray,List.getElem?_cons_zero,List.getElem?_cons_succ]at qs qv q0;refine bodyPost_ret (v:=.agg #[.int .u8 (t.toNat:Int),.slice A1 n1 c1,.slice A2 n2 c2]) (by simp[results,Tryz.results134,go_sem,qs,qv,q0]) rfl ?_;subst q2;refine Ans.right (by simp only[Cert.only,hx];rfl) (by have:=H1.2.1;(repeat (first|exact Below.refl _ _|assumption|(refine Below.setCell ?_ al _)|(refine Below.alloc ?_ al _)|(refine ar ?_ _)|(refine Below.drew ?_)))) ⟨A1,n1,c1,A2,n2,c2,rfl,m1,ab,?_,m2,hm.2.1,?_,?_⟩
   ·have o1:=H1.2.2.1.mono (lo':=w.heap.size+1) ag nl_
    exact(((((o1.setCell ag _).setCell ag _).setCell ag _).alloc ai _).mono ab nl_)
   ·exact((((H1.2.2.2.1).setCell ai _).setCell ai _).setCell ai _).alloc ai _
   ·exact Nat.le_trans hm.2.2 ag
  ·have q4:((n3:Int)==0)=false:=ai
   go_wp2_with fail
   refine(bE _).mono ?_;rintro e w' ⟨rfl,rfl⟩
   go_wp2
   refine⟨rfl,Ans.wrong (by simp only[Cert.only,H1.1];rw[if_neg (by rintro rfl;exact h0 H1.2.2.2.2.1.symm)]) (by have:=H1.2.1;have:=this.size;(repeat (first|exact Below.refl _ _|assumption|(refine Below.setCell ?_ al _)|(refine Below.alloc ?_ al _)|(refine ar ?_ _)|(refine Below.drew ?_))))⟩
theorem jl (t:UInt8) (A1 A2:Option Addr) (n1 c1 n2 c2:Nat) (b r:List UInt8) (w:World) (h1:Rd w w.heap.size A1 n1 c1 b) (hn:n1≤1099511627776) :
 Calls Tryz.prog 149 #[.agg #[.int .u8 (t.toNat:Int),.slice A1 n1 c1,.slice A2 n2 c2]] w (Ans w (Cert.number (t,b,r)) (uC w)):=by
 go_enter Tryz.func149,Tryz.ntmps149
 go_wp2_with fail
 refine(eH t _ _ 2 b r _).mono ?_;rintro e w1 ⟨hb1,⟨ho,rfl⟩|⟨a,v,ho,rfl,rfl,rfl⟩⟩
 ·have HH:=hd2 ho hb1
  clear ho hb1
  go_wp2
  exact⟨rfl,Ans.wrong (by simp only[Cert.number,HH.1,Option.bind_none]) (Below.trans aa (HH.2.mono al))⟩
 have qc:Below w.heap.size w w1:=Below.trans aa (hb1.mono al);have H1:=hd3 ho qc (h1.up qc);clear ho hb1 qc h1
 go_wp2_with fail
 refine(rE A1 n1 c1 a _ H1.2.2 hn).mono ?_;rintro e w2 ⟨hb2,⟨hx,rfl⟩|⟨ys,A,n,c,hx,rfl,hO⟩⟩
 ·have H2:=hd2 hx (H1.2.1.trans (hb2.mono H1.2.1.size))
  clear hx hb2
  go_wp2_with fail
  refine(bE _).mono ?_;rintro e w' ⟨rfl,rfl⟩
  go_wp2
  exact⟨rfl,Ans.wrong (by simp only[Cert.number,H1.1,Option.bind_some,H2.1]) H2.2⟩
 ·have H2:=hd3 hx (H1.2.1.trans (hb2.mono H1.2.1.size)) (hO.mono H1.2.1.size nl_)
  clear hx hb2 hO
  go_wp2_with fail
  refine(cU _).mono ?_;rintro e w' ⟨rfl,rfl⟩
  go_wp2
  go_ret
  exact Ans.right (by simp only[Cert.number,H1.1,Option.bind_some,H2.1]) H2.2.1 ⟨A,n,c,rfl,H2.2.2⟩
theorem kR (t:UInt8) (A1 A2:Option Addr) (n1 c1 n2 c2:Nat) (b r:List UInt8) (w:World) (h1:Rd w w.heap.size A1 n1 c1 b) (hn:n1≤1099511627776) :
 Calls Tryz.prog 155 #[.agg #[.int .u8 (t.toNat:Int),.slice A1 n1 c1,.slice A2 n2 c2]] w (Ans w (Cert.arcs (t,b,r)) (BF w)):=by
 go_enter Tryz.func155,Tryz.ntmps155
 go_wp2_with fail
 refine(eH t _ _ 6 b r _).mono ?_;rintro e w1 ⟨hb1,⟨ho,rfl⟩|⟨a,v,ho,rfl,rfl,rfl⟩⟩
 ·have HH:=hd2 ho hb1
  clear ho hb1
  go_wp2
  exact⟨rfl,Ans.wrong (by simp only[Cert.arcs,HH.1,Option.bind_none]) (Below.trans aa (HH.2.mono al))⟩
 have qc:Below w.heap.size w w1:=Below.trans aa (hb1.mono al);have H1:=hd3 ho qc (h1.up qc);clear ho hb1 qc h1
 go_wp2_with fail
 refine(rO A1 n1 c1 a _ H1.2.2 hn).mono ?_;rintro e w2 ⟨hb2,⟨hx,rfl⟩|⟨ys,v,hx,rfl,hO⟩⟩
 ·have H2:=hd2 hx (H1.2.1.trans (hb2.mono H1.2.1.size))
  clear hx hb2
  go_wp2_with fail
  refine(bE _).mono ?_;rintro e w' ⟨rfl,rfl⟩
  go_wp2
  exact⟨rfl,Ans.wrong (by simp only[Cert.arcs,H1.1,Option.bind_some,H2.1]) H2.2⟩
 ·have H2:=hd3 hx (H1.2.1.trans (hb2.mono H1.2.1.size)) (aI.mono hO H1.2.1.size nl_)
  clear hx hb2 hO
  go_wp2_with fail
  refine(cU _).mono ?_;rintro e w' ⟨rfl,rfl⟩
  go_wp2
  go_ret
  exact Ans.right (by simp only[Cert.arcs,H1.1,Option.bind_some,H2.1]) H2.2.1 H2.2.2
theorem oj (t:UInt8) (A1 A2:Option Addr) (n1 c1 n2 c2:Nat) (b r:List UInt8) (w:World) (h1:Rd w w.heap.size A1 n1 c1 b) (hn:n1≤1099511627776) :
 Calls Tryz.prog 137 #[.agg #[.int .u8 (t.toNat:Int),.slice A1 n1 c1,.slice A2 n2 c2]] w (Ans w (Cert.whole (t,b,r)) (uC w)):=by
 go_enter Tryz.func137,Tryz.ntmps137
 go_wp2_with fail
 refine(eH t _ _ 3 b r _).mono ?_;rintro e w1 ⟨hb1,⟨ho,rfl⟩|⟨a,v,ho,rfl,rfl,rfl⟩⟩
 ·have HH:=hd2 ho hb1
  clear ho hb1
  go_wp2
  exact⟨rfl,Ans.wrong (by simp only[Cert.whole,HH.1,Option.bind_none]) (Below.trans aa (HH.2.mono al))⟩
 have qc:Below w.heap.size w w1:=Below.trans aa (hb1.mono al);have H1:=hd3 ho qc (h1.up qc);clear ho hb1 qc h1
 go_wp2_with fail
 refine(pg A1 n1 c1 a _ H1.2.2 hn).mono ?_;rintro e w2 ⟨hb2,⟨hx,rfl⟩|⟨ys,k,A,n,c,hx,rfl,hO⟩⟩
 ·have H2:=hd2 hx (H1.2.1.trans (hb2.mono H1.2.1.size))
  clear hx hb2
  go_wp2_with fail
  refine(bE _).mono ?_;rintro e w' ⟨rfl,rfl⟩
  go_wp2
  exact⟨rfl,Ans.wrong (by simp only[Cert.whole,H1.1,Option.bind_some,H2.1,Option.bind_none]) H2.2⟩
 ·have H2:=hd3 hx (H1.2.1.trans (hb2.mono H1.2.1.size)) (hO.mono H1.2.1.size nl_)
  clear hx hb2 hO
  by_cases hk:k=0
  ·subst hk
   go_wp2_with fail
   refine(cU _).mono ?_;rintro e w' ⟨rfl,rfl⟩
   go_wp2
   go_ret
   exact Ans.right (by simp only[Cert.whole,H1.1,Option.bind_some,H2.1];rfl) H2.2.1 ⟨A,n,c,rfl,H2.2.2⟩
  ·have qd:((k:Int)==0)=false:=ai
   go_wp2_with fail
   refine(bE _).mono ?_;rintro e w' ⟨rfl,rfl⟩
   go_wp2
   exact⟨rfl,Ans.wrong (by simp only[Cert.whole,H1.1,Option.bind_some,H2.1];rw[cX ai];rfl) H2.2.1⟩
end
section
set_option maxRecDepth 100000
theorem mn {w:World} {B n k:Nat} {A:Option Addr} {xs:List UInt8} (h:aF w B 1 A n (xs.map bv)) (hl:xs.length=n) (hk:k<n) :
 ∃b o x,A=some ⟨b,o,none⟩∧xs[k]? = some x∧w.cell? ⟨b,o+k,none⟩=some (.int .u8 (x.toNat:Int)):=by
 obtain⟨ad,u,e,hb,hx,hc⟩:=h.at_ hk;obtain⟨ad0,u0,e0,_,_,hc0⟩:=h.at_ (k:=0) ab;rw[e]at e0;injection e0 with e0
 subst e0;obtain⟨b,o,s⟩:=ad;obtain rfl:s=none:=by simpa [Addr.add]using World.cell?_spot hc0
 rw[Addr.add_lit]at hc;have qc:k<xs.length:=ab
 refine⟨b,o,xs[k],e,List.getElem?_eq_getElem qc,?_⟩;rw[hc];have:xs.map bv=xs.map bv:=rfl;simp[qc]at hx;rw[←hx]
 rfl
theorem ej (A A':Option Addr) (n c n' c':Nat) (xs ys:List UInt8) (B B':Nat) (w:World) (h:aF w B 1 A n (xs.map bv)) (h':aF w B' 1 A' n' (ys.map bv)) (hB:B≤w.heap.size) (hB':B'≤w.heap.size) (hm:n≤9223372036854775807) :
 Calls Tryz.prog 76 #[.slice A n c,.slice A' n' c'] w fun e w'=>e=.returned (.bool (xs==ys))∧Below w.heap.size w w':=by
 have hl:xs.length=n:=by simpa using h.1
 have qc:ys.length=n':=by simpa using h'.1
 by_cases hn:n=n'
 ·subst hn
  have qg:((n:Int) != n)=false:=ag
  have HX:=hd4 h h' hl qc;clear h h' hl qc
  go_enter Tryz.func76,Tryz.ntmps76
  go_wp2
  go_loopw [13] (fun i wr=>∃k:Nat,k≤n∧i=.int .i64 k∧Below w.heap.size w wr∧xs.take k=ys.take k) (fun i _=>n - (intOf i).toNat)
  case atStart=>exact⟨0,Nat.zero_le _,rfl,Below.refl _ _,rfl⟩
  case round=>
   obtain⟨k,hk,rfl,hb,ht⟩:=hrel
   by_cases hlt:k<n
   ·have qd:(k:Int)<n:=ab
    obtain⟨b,o,x,rfl,hx,hc⟩:=mn (HX.1.below (hb.mono hB)) HX.2.2.1 hlt;obtain⟨b',o',y,rfl,hy,hc'⟩:=mn (HX.2.1.below (hb.mono hB')) HX.2.2.2 hlt;have HT:=hd4 ht hx hy hb;clear ht hx hy hb
    by_cases hxy:x=y
    ·subst hxy
     have hq:((x.toNat:Int) != (x.toNat:Int))=false:=ag
     go_wp2
     go_region
     go_wp2
     go_roundw
     case rel=>exact⟨k+1,ab,by go_num,HT.2.2.2.drew,by rw[List.take_add_one,List.take_add_one,HT.1,HT.2.1,HT.2.2.1]⟩
     case measure=>simp[intOf];omega
    ·have hq:((x.toNat:Int) != (y.toNat:Int))=true:=by
      simp only[bne_iff_ne,ne_eq];intro e;exact hxy (UInt8.toNat.inj (by exact_mod_cast e))
     go_wp2
     go_region
     go_wp2
     go_ret
     have hz:(xs==ys)=false:=by
      rw[beq_eq_false_iff_ne];rintro rfl;have:=HT.2.1.symm.trans HT.2.2.1;injection this with this
      exact hxy this
     rw[hz];exact⟨rfl,HT.2.2.2.drew⟩
   ·obtain rfl:n=k:=ab
    have qh:¬(n:Int)<n:=ab
    have HT:=hd2 ht hb;clear ht hb
    go_wp2
    go_ret
    have e:=HT.1;rw[List.take_of_length_le (by have:=HX.2.2.1;omega),List.take_of_length_le (by have:=HX.2.2.2;omega)]at e;have hz:(xs==ys)=true:=by rw[e];simp
    rw[hz];exact⟨rfl,HT.2⟩
 ·have qg:((n:Int) != n')=true:=ai
  go_enter Tryz.func76,Tryz.ntmps76
  go_wp2
  go_ret
  have hz:(xs==ys)=false:=by
   rw[beq_eq_false_iff_ne];rintro rfl;exact hn (hl.symm.trans qc)
  rw[hz];exact⟨rfl,Below.refl _ _⟩
theorem mq {w:World} {B n k:Nat} {A:Option Addr} {xs:List Nat} (h:aF w B 1 A n (xs.map uv)) (hl:xs.length=n) (hk:k<n) :
 ∃b o x,A=some ⟨b,o,none⟩∧xs[k]? = some x∧w.cell? ⟨b,o+k,none⟩=some (.int .u64 (x:Int)):=by
 obtain⟨ad,u,e,hb,hx,hc⟩:=h.at_ hk;obtain⟨ad0,u0,e0,_,_,hc0⟩:=h.at_ (k:=0) ab;rw[e]at e0;injection e0 with e0
 subst e0;obtain⟨b,o,s⟩:=ad;obtain rfl:s=none:=by simpa [Addr.add]using World.cell?_spot hc0
 rw[Addr.add_lit]at hc;have qc:k<xs.length:=ab
 refine⟨b,o,xs[k],e,List.getElem?_eq_getElem qc,?_⟩;rw[hc];have:xs.map uv=xs.map uv:=rfl;simp[qc]at hx;rw[←hx]
 rfl
theorem jf (A A':Option Addr) (n c n' c':Nat) (xs ys:List Nat) (B B':Nat) (w:World) (h:aF w B 1 A n (xs.map uv)) (h':aF w B' 1 A' n' (ys.map uv)) (hB:B≤w.heap.size) (hB':B'≤w.heap.size) (hm:n≤9223372036854775807) :
 Calls Tryz.prog 154 #[.slice A n c,.slice A' n' c'] w fun e w'=>e=.returned (.bool (xs==ys))∧Below w.heap.size w w':=by
 have hl:xs.length=n:=by simpa using h.1
 have qc:ys.length=n':=by simpa using h'.1
 by_cases hn:n=n'
 ·subst hn
  have qg:((n:Int) != n)=false:=ag
  have HX:=hd4 h h' hl qc;clear h h' hl qc
  go_enter Tryz.func154,Tryz.ntmps154
  go_wp2
  go_loopw [13] (fun i wr=>∃k:Nat,k≤n∧i=.int .i64 k∧Below w.heap.size w wr∧xs.take k=ys.take k) (fun i _=>n - (intOf i).toNat)
  case atStart=>exact⟨0,Nat.zero_le _,rfl,Below.refl _ _,rfl⟩
  case round=>
   obtain⟨k,hk,rfl,hb,ht⟩:=hrel
   by_cases hlt:k<n
   ·have qd:(k:Int)<n:=ab
    obtain⟨b,o,x,rfl,hx,hc⟩:=mq (HX.1.below (hb.mono hB)) HX.2.2.1 hlt;obtain⟨b',o',y,rfl,hy,hc'⟩:=mq (HX.2.1.below (hb.mono hB')) HX.2.2.2 hlt;have HT:=hd4 ht hx hy hb;clear ht hx hy hb
    by_cases hxy:x=y
    ·subst hxy
     have hq:((x:Int) != (x:Int))=false:=ag
     go_wp2
     go_region
     go_wp2
     go_roundw
     case rel=>exact⟨k+1,ab,by go_num,HT.2.2.2.drew,by rw[List.take_add_one,List.take_add_one,HT.1,HT.2.1,HT.2.2.1]⟩
     case measure=>simp[intOf];omega
    ·have hq:((x:Int) != (y:Int))=true:=by
      simp only[bne_iff_ne,ne_eq];intro e;exact hxy (by exact_mod_cast e)
     go_wp2
     go_region
     go_wp2
     go_ret
     have hz:(xs==ys)=false:=by
      rw[beq_eq_false_iff_ne];rintro rfl;have:=HT.2.1.symm.trans HT.2.2.1;injection this with this
      exact hxy this
     rw[hz];exact⟨rfl,HT.2.2.2.drew⟩
   ·obtain rfl:n=k:=ab
    have qh:¬(n:Int)<n:=ab
    have HT:=hd2 ht hb;clear ht hb
    go_wp2
    go_ret
    have e:=HT.1;rw[List.take_of_length_le (by have:=HX.2.2.1;omega),List.take_of_length_le (by have:=HX.2.2.2;omega)]at e;have hz:(xs==ys)=true:=by rw[e];simp
    rw[hz];exact⟨rfl,HT.2⟩
 ·have qg:((n:Int) != n')=true:=ai
  go_enter Tryz.func154,Tryz.ntmps154
  go_wp2
  go_ret
  have hz:(xs==ys)=false:=by
   rw[beq_eq_false_iff_ne];rintro rfl;exact hn (hl.symm.trans qc)
  rw[hz];exact⟨rfl,Below.refl _ _⟩
end
section
set_option maxRecDepth 100000
theorem sp (t:UInt8) (vb:Value) (A2:Option Addr) (n2 c2:Nat) (r:List UInt8) (w:World) (h:Rd w w.heap.size A2 n2 c2 r) :
 Calls Tryz.prog 170 #[.agg #[.int .u8 (t.toNat:Int),vb,.slice A2 n2 c2]] w fun e w'=>e=.returned (.bool (r==[1,1,255]))∧Below w.heap.size w w':=by
 go_enter Tryz.func170,Tryz.ntmps170
 go_wp2_with fail
 refine(ej A2 _ n2 c2 3 3 r [1,1,255] w.heap.size _ _ (aF.alloc (aF.alloc h.rds nl_ _) ag _) (aV (w.alloc (.cells #[.int .u8 (t.toNat:Int),vb,.slice A2 n2 c2] 84)) 5 ([1,1,255].map bv) (w.heap.size+1) ag) ai ag (by have:=h.cap;have:=h.capm;omega)).mono ?_;rintro e w1 ⟨rfl,hb1⟩
 go_wp2
 go_ret
 exact⟨rfl,Below.trans aa (hb1.mono al)⟩
theorem Au (a x:Nat) (ha:a<36028797018963968) (hx:x<256):bits .or .u64 ((a:Int)*256) (x:Int)=((a*256+x:Nat):Int):=by
 rw[show(a:Int)*256=((a*256:Nat):Int) from by omega,mA _ _ ab ab]
 congr 1
 rw[Nat.mul_comm,show 256=2 ^ 8 from rfl,←Nat.two_pow_add_eq_or_of_lt ab]
theorem sE (xs:List UInt8) (k:Nat):Der.be (xs.take k)≤Der.be xs:=by
 have key:∀(ys:List UInt8) (a:Nat),a≤ys.foldl (fun a x=>a*256+x.toNat) a:=by
  intro ys
  induction ys with
  | nil=>intro a;exact Nat.le_refl _
  | cons y ys ih=>intro a;exact Nat.le_trans ab (ih (a*256+y.toNat))
 have h:=key (xs.drop k) (Der.be (xs.take k))
 rwa [show(xs.drop k).foldl (fun a x=>a*256+x.toNat) (Der.be (xs.take k))=Der.be xs from by
  unfold Der.be;rw[←List.foldl_append,List.take_append_drop]]at h
theorem oh (t:UInt8) (A1 A2:Option Addr) (n1 c1 n2 c2:Nat) (lim:Int) (b r:List UInt8) (w:World) (h1:Rd w w.heap.size A1 n1 c1 b) (hn:n1≤1099511627776) (hl0:0<lim) (hl1:lim≤8589934592) :
 Calls Tryz.prog 169 #[.agg #[.int .u8 (t.toNat:Int),.slice A1 n1 c1,.slice A2 n2 c2],.int .u64 lim] w (Ans w (Cert.small lim (t,b,r)) fun z v _=>v=.int .u64 (z:Int)):=by
 go_enter Tryz.func169,Tryz.ntmps169
 go_wp2_with fail
 refine(jl t A1 A2 n1 c1 n2 c2 b r _ ((h1.alloc nl_ _).more ag) hn).mono ?_;rintro e w1 ⟨hb1,⟨ho,rfl⟩|⟨ys,v,ho,rfl,A,n,c,rfl,hO⟩⟩
 ·have HH:=hd2 ho hb1
  clear ho hb1 h1
  go_wp2
  exact⟨rfl,Ans.wrong (by simp only[Cert.small,HH.1,Option.bind_none]) (Below.trans aa (HH.2.mono al))⟩
 have qc:Below w.heap.size w w1:=Below.trans aa (hb1.mono al);obtain⟨A',n',c',e,hR⟩:=hO.rd;injection e with e1 e2 e3
 subst e1 e2 e3;have hl:=hR.len;have q1:=hR.capm;have q2:=hR.cap;have qk:=qc.size;have H1:=hd4 ho qc hR hl;clear ho hb1 qc h1 hO hR hl
 go_wp2
 go_loopw [4,10] (fun v i wr=>∃k:Nat,k≤n∧i=.int .i64 k∧v=.int .u64 (Der.be (ys.take k):Int)∧Below w1.heap.size w1 wr∧(Der.be (ys.take k):Int)<lim) (fun _ i _=>n - (intOf i).toNat)
 case atStart=>exact⟨0,Nat.zero_le _,rfl,rfl,Below.refl _ _,by simpa [Der.be]using hl0⟩
 case round=>
  obtain⟨k,hk,rfl,rfl,hb,hlt0⟩:=hrel
  by_cases hlt:k<n
  ·have qs:(k:Int)<n:=ab
   obtain⟨g,o,rfl,hg,hcell⟩:=(H1.2.2.1.below hb).at_ ab;obtain⟨x,hx⟩:∃x,ys[k]? = some x:=⟨_,List.getElem?_eq_getElem (by have:=H1.2.2.2;omega)⟩
   have q3:=hcell k x hx;have qd:Der.be (ys.take (k+1))=Der.be (ys.take k)*256+x.toNat:=by rw[df hx,Der.be_snoc]
   have qh:=sE ys (k+1);obtain⟨V,hV⟩:∃V,Der.be (ys.take k)=V:=⟨_,rfl⟩
   rw[hV]at qd hlt0 ⊢;have qv:=x.toNat_lt;have q0:V<8589934592:=ab
   obtain⟨M,hM⟩:∃M,V*256+x.toNat=M:=⟨_,rfl⟩
   have q5:bits .or .u64 ((V:Int)*256) (x.toNat:Int)=(M:Int):=by rw[Au _ _ ab qv,hM]
   rw[hM]at qd;have HK:=hd3 hb qd qh;clear hb qd qh hcell hx hV hM
   go_wp2_with fail
   refine(dm _ _).mono ?_;rintro e w' ⟨rfl,⟨hq,rfl⟩|⟨hq,rfl⟩⟩
   ·have HQ:=hd1 hq
    clear hq
    go_wp2
    have qg:¬((Der.be ys:Int)<lim):=by
     have h1:=of_decide_eq_false HQ.out;have h2:=HK.2.1;have h3:=HK.2.2;omega
    exact⟨rfl,Ans.wrong (by simp only[Cert.small,H1.1,Option.bind_some];rw[cX (by simpa using qg)];rfl) (H1.2.1.trans (HK.1.mono qk))⟩
   ·have HQ:=hd1 hq
    clear hq
    go_wp2
    go_roundw
    case rel=>exact⟨k+1,ab,by go_num,by rw[HK.2.1],HK.1,by rw[HK.2.1];exact of_decide_eq_true HQ.out⟩
    case measure=>simp[intOf];omega
  ·obtain rfl:n=k:=ab
   have q4:¬(n:Int)<n:=ab
   have HK:=hd2 hb hlt0;clear hb hlt0
   go_wp2
   go_ret
   have e:ys.take n=ys:=List.take_of_length_le (by have:=H1.2.2.2;omega);have h2:=HK.2;rw[e]at h2 ⊢;exact Ans.right (by simp only[Cert.small,H1.1,Option.bind_some];rw[bI (by simpa using h2)];rfl) (H1.2.1.trans (HK.1.mono qk)) rfl
end
section
set_option maxRecDepth 100000
theorem jj (t:UInt8) (A1 A2:Option Addr) (n1 c1 n2 c2:Nat) (last:Nat) (b r:List UInt8) (w:World) (h1:Rd w w.heap.size A1 n1 c1 b) (hn:n1≤1099511627) :
 Calls Tryz.prog 136 #[.agg #[.int .u8 (t.toNat:Int),.slice A1 n1 c1,.slice A2 n2 c2],.int .u64 (last:Int)] w (Ans w (Cert.method last (t,b,r)) fun _ v _=>v=.tuple #[]):=by
 have qs:=h1.len;have q4:=hd1 qs;clear qs
 go_enter Tryz.func136,Tryz.ntmps136
 go_wp2_with fail
 refine(du t A1 A2 n1 c1 n2 c2 48 2 2 b r _ ((h1.alloc nl_ _).more ag) hn).mono ?_;rintro e w1 ⟨hb1,⟨ho,rfl⟩|⟨l,v,ho,rfl,L,A,n,c,rfl,hl,hE,hnl⟩⟩
 ·have HH:=hd2 ho hb1
  clear ho hb1 h1
  go_wp2
  exact⟨rfl,Ans.wrong (by simp only[Cert.method,HH.1,Option.bind_none]) (Below.trans aa (HH.2.mono al))⟩
 have qk:=dE ho;obtain rfl:n=2:=ab
 obtain⟨g,rfl,hg,_⟩:=hE.spot_ ab;obtain⟨t0,A3,n3,c3,b0,A4,n4,c4,r0,hx0,p0,p1,p2,R0,R1,_⟩:=hE.el hl (Below.refl w1.heap.size w1) nl_ 0 0 ab rfl;have qc:Below w.heap.size w w1:=Below.trans aa (hb1.mono al);have qv:=qc.size;have q3:=bO ho 0 hx0;have q7:n3≤1099511627:=by have:=R0.len;have:=q4.out;simp at q3;omega
 have H1:=hd6 ho qc hE hl hx0 R0;clear ho hb1 qc h1 hE hl hx0 R0 R1 qk hnl q3
 go_wp2_with fail
 refine(kR t0 A3 A4 n3 c3 n4 c4 b0 r0 _ H1.2.2.2.2.2 ab).mono ?_;rintro e w2 ⟨hb2,⟨ho,rfl⟩|⟨zs,v,ho,rfl,hO⟩⟩
 ·have HH:=hd2 ho hb2
  clear ho hb2
  go_wp2
  exact⟨rfl,Ans.wrong (by simp only[Cert.method,H1.1,Option.bind_some,H1.2.2.2.2.1,HH.1,Option.bind_none]) (H1.2.1.trans (HH.2.mono qv))⟩
 obtain⟨A5,c5,rfl,hc5,hcm5,hn5,hr5⟩:=hO.shape;obtain⟨zn,hzn⟩:∃zn,zs.length=zn:=⟨_,rfl⟩
 rw[hzn]at hc5 hr5 ⊢;have qh:=H1.2.1.trans (hb2.mono qv);have q5:=hb2.size;have H2:=hd4 ho hb2 qh hr5;clear ho hb2 qh hO hr5 hn5 hzn
 go_wp2_with fail
 refine(jf A5 _ zn c5 7 7 zs [1,2,840,113549,1,1,last] w2.heap.size _ _ (H2.2.2.2.alloc nl_ _) (aV w2 65 ([1,2,840,113549,1,1,last].map uv) w2.heap.size rfl) ag ag ab).mono ?_;rintro e w3 ⟨rfl,hb3⟩;obtain⟨q,hq⟩:∃q,(zs==[1,2,840,113549,1,1,last])=q:=⟨_,rfl⟩
 rw[hq];have q6:=hb3.size;simp only[World.size_alloc]at q6;have qd:Below w2.heap.size w2 w3:=Below.trans aa (hb3.mono al);have H3:=hd2 hq qd;clear hq hb3 qd
 go_wp2_with fail
 refine(dm _ _).mono ?_;rintro e w' ⟨rfl,⟨hq,rfl⟩|⟨hq,rfl⟩⟩
 ·have HQ:=hd1 hq
  clear hq
  go_wp2
  exact⟨rfl,Ans.wrong (by simp only[Cert.method,H1.1,Option.bind_some,H1.2.2.2.2.1,H2.1,H3.1,cX HQ.out,Option.bind_none]) (H2.2.2.1.trans (H3.2.mono ab))⟩
 obtain⟨t1,A6,n6,c6,b1,A7,n7,c7,r1,hx1,q0,q1,q2,Q0,Q1,_⟩:=H1.2.2.1.el H1.2.2.2.1 (H2.2.1.trans (H3.2.mono q5)) nl_ 1 3 ab rfl;have HQ:=hd3 hq hx1 Q1;clear hq hx1 Q0 Q1
 go_wp2_with fail
 refine(ej A7 _ n7 c7 2 2 r1 [5,0] w1.heap.size _ _ (HQ.2.2.rds.alloc ab _) (aV w' 5 ([5,0].map bv) w'.heap.size rfl) ai ag (by have:=HQ.2.2.cap;have:=HQ.2.2.capm;omega)).mono ?_;rintro e w4 ⟨rfl,hb4⟩;obtain⟨q,hq⟩:∃q,(r1==[5,0])=q:=⟨_,rfl⟩
 rw[hq];have qg:Below w'.heap.size w' w4:=Below.trans aa (hb4.mono al);have H4:=hd2 hq qg;clear hq hb4 qg
 go_wp2_with fail
 refine(dm _ _).mono ?_;rintro e w'' ⟨rfl,⟨hq,rfl⟩|⟨hq,rfl⟩⟩
 ·have HR:=hd1 hq
  clear hq
  go_wp2
  exact⟨rfl,Ans.wrong (by simp only[Cert.method,H1.1,Option.bind_some,H1.2.2.2.2.1,H2.1,H3.1,bI HQ.1,HQ.2.1,H4.1,cX HR.out]) ((H2.2.2.1.trans (H3.2.mono ab)).trans (H4.2.mono ab))⟩
 ·have HR:=hd1 hq
  clear hq
  go_wp2
  go_end0
  exact Ans.right (a:=()) (by simp only[Cert.method,H1.1,Option.bind_some,H1.2.2.2.2.1,H2.1,H3.1,bI HQ.1,HQ.2.1,H4.1,bI HR.out]) ((H2.2.2.1.trans (H3.2.mono ab)).trans (H4.2.mono ab)) rfl
def BX (w:World) (k:List UInt8×Nat) (v:Value) (w':World):Prop:=∃A n c,v=.agg #[.slice A n c,.int .u64 (k.2:Int)]∧az w' w.heap.size w'.heap.size (.slice A n c) k.1
set_option maxHeartbeats 1000000 in
theorem zD (t:UInt8) (A1 A2:Option Addr) (n1 c1 n2 c2:Nat) (b r:List UInt8) (w:World) (h1:Rd w w.heap.size A1 n1 c1 b) (hn:n1≤1099511627) :
 Calls Tryz.prog 152 #[.agg #[.int .u8 (t.toNat:Int),.slice A1 n1 c1,.slice A2 n2 c2]] w (Ans w (Cert.key (t,b,r)) (BX w)):=by
 have q9:=h1.len;have q7:=hd1 q9;clear q9
 go_enter Tryz.func152,Tryz.ntmps152
 go_wp2_with fail
 refine(du t A1 A2 n1 c1 n2 c2 48 2 2 b r _ (((h1.alloc nl_ _).alloc ag _).more ai) hn).mono ?_;rintro e w1 ⟨hb1,⟨ho,rfl⟩|⟨l,v,ho,rfl,L,A,n,c,rfl,hl,hE,hnl⟩⟩
 ·have HH:=hd2 ho hb1
  clear ho hb1 h1
  go_wp2
  exact⟨rfl,Ans.wrong (by simp only[Cert.key,HH.1,Option.bind_none]) (Below.trans aa (HH.2.mono al))⟩
 have qd:=dE ho;obtain rfl:n=2:=ab
 obtain⟨g,rfl,hg,_⟩:=hE.spot_ ab;obtain⟨t0,A3,n3,c3,b0,A4,n4,c4,r0,hx0,p0,p1,p2,R0,R1,_⟩:=hE.el hl (Below.refl w1.heap.size w1) nl_ 0 0 ab rfl;have qg:Below w.heap.size w w1:=Below.trans aa (hb1.mono al);have j6:=hb1.size;simp only[World.size_alloc]at j6;have qv:=bO ho 0 hx0;have yh:n3≤1099511627:=by have:=R0.len;have:=q7.out;simp at qv;omega
 have j2:=hd1 ((aw.new (w.alloc (.cells #[.int .u8 (t.toNat:Int),.slice A1 n1 c1,.slice A2 n2 c2] 84)) 67 #[.slice none 0 0,.int .u64 0]).below hb1 ag);have H1:=hd6 ho qg hE hl hx0 R0;clear ho hb1 qg h1 hE hl hx0 R0 R1 qd hnl qv
 go_wp2_with fail
 refine(jj t0 A3 A4 n3 c3 n4 c4 1 b0 r0 _ H1.2.2.2.2.2 ab).mono ?_;rintro e w2 ⟨hb2,⟨ho,rfl⟩|⟨_,v,ho,rfl,rfl⟩⟩
 ·have HH:=hd2 ho hb2
  clear ho hb2
  go_wp2
  exact⟨rfl,Ans.wrong (by simp only[Cert.key,H1.1,Option.bind_some,H1.2.2.2.2.1,HH.1,Option.bind_none]) (H1.2.1.trans (HH.2.mono ab))⟩
 obtain⟨t1,A6,n6,c6,b1,A7,n7,c7,r1,hx1,q0,q1,q2,Q0,Q1,_⟩:=H1.2.2.1.el H1.2.2.2.1 hb2 nl_ 1 3 ab rfl;have j7:=hb2.size;have qv:=bO H1.1 1 hx1;have yv:n6≤1099511627:=by have:=Q0.len;have:=q7.out;simp at qv;omega
 have H2:=hd4 ho hb2 hx1 (Q0.more j7);clear ho hb2 hx1 Q0 Q1 qv
 go_wp2_with fail
 refine(oj t1 A6 A7 n6 c6 n7 c7 b1 r1 _ H2.2.2.2 ab).mono ?_;rintro e w3 ⟨hb3,⟨ho,rfl⟩|⟨ys,v,ho,rfl,A8,n8,c8,rfl,hO⟩⟩
 ·have HH:=hd2 ho hb3
  clear ho hb3
  go_wp2
  exact⟨rfl,Ans.wrong (by simp only[Cert.key,H1.1,Option.bind_some,H1.2.2.2.2.1,H2.1,H2.2.2.1,HH.1,Option.bind_none]) ((H1.2.1.trans (H2.2.1.mono ab)).trans (HH.2.mono ab))⟩
 have qh:=(H1.2.1.trans (H2.2.1.mono ab)).trans (hb3.mono ab);have y0:=hb3.size;have yy:n8≤1099511627:=by have:=xj ho;have:=H2.2.2.2.len;have:=aM hO;simp at *;omega
 obtain⟨A8',n8',c8',e,hR8⟩:=hO.rd;injection e with e1 e2 e3
 subst e1 e2 e3;have H3:=hd4 ho hb3 qh hR8;clear ho hb3 qh hO hR8
 go_wp2_with fail
 refine(gT A8 n8 c8 ys _ H3.2.2.2 ab).mono ?_;rintro e w4 ⟨hb4,⟨ho,rfl⟩|⟨⟨t2,b2,r2⟩,v,ho,rfl,A9,n9,c9,Aa,na,ca,rfl,hO⟩⟩
 ·have HH:=hd2 ho hb4
  clear ho hb4
  go_wp2
  exact⟨rfl,Ans.wrong (by simp only[Cert.key,H1.1,Option.bind_some,H1.2.2.2.2.1,H2.1,H2.2.2.1,H3.1,HH.1,Option.bind_none]) (H3.2.2.1.trans (HH.2.mono ab))⟩
 have qk:=H3.2.2.1.trans (hb4.mono ab);have y1:=hb4.size;have j5:n9≤1099511627:=by have:=gU ho;have:=H3.2.2.2.len;obtain⟨m,h1,h2,_⟩:=hO;have:=aM h2;simp at *;omega
 have q3:=(hO.rd (by simp:(Value.slice A9 n9 c9,b2)∈_)).rd;obtain⟨A8',n8',c8',e,q3⟩:=q3;injection e with e1 e2 e3
 subst e1 e2 e3;have H4:=hd4 ho hb4 qk q3;clear ho hb4 qk hO q3
 go_wp2_with fail
 refine(du t2 A9 Aa n9 c9 na ca 48 2 2 b2 r2 _ H4.2.2.2 j5).mono ?_;rintro e w5 ⟨hb5,⟨ho,rfl⟩|⟨l5,v,ho,rfl,L5,A5,n5,c5,rfl,hl,hE,hnl⟩⟩
 ·have HH:=hd2 ho hb5
  clear ho hb5
  go_wp2
  exact⟨rfl,Ans.wrong (by simp only[Cert.key,H1.1,Option.bind_some,H1.2.2.2.2.1,H2.1,H2.2.2.1,H3.1,H4.1,HH.1,Option.bind_none]) (H4.2.2.1.trans (HH.2.mono ab))⟩
 have qd:=dE ho;obtain rfl:n5=2:=ab
 obtain⟨g5,rfl,hg5,hg5'⟩:=hE.spot_ ab;obtain⟨t6,B6,m6,d6,b6,B7,m7,d7,r6,hx6,s0,s1,s2,R6,R7,_⟩:=hE.el hl (Below.refl w5.heap.size w5) nl_ 0 0 ab rfl;obtain⟨t7,B8,m8,d8,b7,B9,m9,d9,r7,hx7,u0,u1,u2,R8,R9,_⟩:=hE.el hl (Below.refl w5.heap.size w5) nl_ 1 3 ab rfl;have qs:=H4.2.2.1.trans (hb5.mono ab);have y2:=hb5.size;have yd:m6≤1099511627776∧m8≤1099511627776:=by
  have h6:=bO ho 0 hx6;have h7:=bO ho 1 hx7;have:=H4.2.2.2.len;have:=R6.len;have:=R8.len;simp at h6 h7;omega
 have H5:=hd6 ho hx6 hx7 qs R6 R8;have qc:Hid (Cert.key (t,b,r)=(Cert.number (t6,b6,r6)).bind fun n=>(Cert.small 8589934592 (t7,b7,r7)).bind fun e=>some (n,e)):=hd1 (by
  simp only[Cert.key,H1.1,Option.bind_some,H1.2.2.2.2.1,H2.1,H2.2.2.1,H3.1,H4.1,ho,hx6,hx7])
 have q5:=hd1 ((((j2.out.below H2.2.1 ai).below H3.2.1 ai).below H4.2.1 ai).below hb5 ai);simp only[World.size_alloc]at q5;clear ho hb5 qs hE hl R6 R7 R8 R9 qd hnl hx6 hx7
 go_wp2
 simp only[Nat.zero_add,Nat.reduceAdd]at s1 s2 u1 u2;clear p0 p1 p2 q0 q1 q2
 go_region_held2 (fun w'=>w'.cell? ⟨g5,0,none⟩=some (.int .u8 (t6.toNat:Int))∧w'.cell? ⟨g5,1,none⟩=some (.slice B6 m6 d6)∧w'.cell? ⟨g5,2,none⟩=some (.slice B7 m7 d7)∧w'.cell? ⟨g5,3,none⟩=some (.int .u8 (t7.toNat:Int))∧w'.cell? ⟨g5,4,none⟩=some (.slice B8 m8 d8)∧w'.cell? ⟨g5,5,none⟩=some (.slice B9 m9 d9)) (first|go_keep|(refine⟨?_,?_,?_,?_,?_,?_⟩<;>(rw[World.cell?_setCell_other _ _ _ _ (by intro e;injection e with e;omega),World.cell?_setCell_other _ _ _ _ (by intro e;injection e with e;omega)];assumption)))
  (first
    | (go_at_call 149;((with_reducible refine(jl t6 B6 B7 m6 d6 m7 d7 b6 r6 _ H5.out.2.2.2.2.1.drew ab).mono ?_);rintro e w6 ⟨hb6,⟨ho,rfl⟩|⟨nn,v,ho,rfl,A6',n6',c6',rfl,hO6⟩⟩);(·exact⟨rfl,Ans.wrong (by simp only[qc.out,ho,Option.bind_none]) (H5.out.2.2.2.1.trans (Below.trans aa (hb6.mono ai)))⟩);have HN:=hd1 ho;clear ho;have j8:=hb6.size;simp only[World.size_drew]at j8 hb6;have k0:w6.cell? ⟨g5,0,none⟩=some (.int .u8 (t6.toNat:Int)):=(hb6.cell (p:=⟨g5,0,none⟩) am).trans an;have k1:w6.cell? ⟨g5,1,none⟩=some (.slice B6 m6 d6):=(hb6.cell (p:=⟨g5,1,none⟩) am).trans an;have k2:w6.cell? ⟨g5,2,none⟩=some (.slice B7 m7 d7):=(hb6.cell (p:=⟨g5,2,none⟩) am).trans an;have k3:w6.cell? ⟨g5,3,none⟩=some (.int .u8 (t7.toNat:Int)):=(hb6.cell (p:=⟨g5,3,none⟩) am).trans an;have k4:w6.cell? ⟨g5,4,none⟩=some (.slice B8 m8 d8):=(hb6.cell (p:=⟨g5,4,none⟩) am).trans an;have k5:w6.cell? ⟨g5,5,none⟩=some (.slice B9 m9 d9):=(hb6.cell (p:=⟨g5,5,none⟩) am).trans an)
    | (go_at_call 169;((with_reducible refine(oh t7 B8 B9 m8 d8 m9 d9 8589934592 b7 r7 _ (H5.out.2.2.2.2.2.up (Below.trans aa (hb6.mono nl_))) ab ab ab).mono ?_);rintro e w7 ⟨hb7,⟨ho,rfl⟩|⟨mm,v,ho,rfl,rfl⟩⟩);(·exact⟨rfl,Ans.wrong (by simp only[qc.out,HN.out,ho,Option.bind_some,Option.bind_none]) ((H5.out.2.2.2.1.trans (Below.trans aa (hb6.mono ab))).trans (hb7.mono ab))⟩);have HM:=hd1 ho;clear ho;have y3:=hb7.size;have q6:=hd1 ((q5.out.drew.below hb6 ab).below hb7 ab);obtain⟨hkc,hkf⟩:=q6.out.facts;have l0:w7.cell? ⟨g5,0,none⟩=some (.int .u8 (t6.toNat:Int)):=(hb7.cell (p:=⟨g5,0,none⟩) am).trans an;have l1:w7.cell? ⟨g5,1,none⟩=some (.slice B6 m6 d6):=(hb7.cell (p:=⟨g5,1,none⟩) am).trans an;have l2:w7.cell? ⟨g5,2,none⟩=some (.slice B7 m7 d7):=(hb7.cell (p:=⟨g5,2,none⟩) am).trans an;have l3:w7.cell? ⟨g5,3,none⟩=some (.int .u8 (t7.toNat:Int)):=(hb7.cell (p:=⟨g5,3,none⟩) am).trans an;have l4:w7.cell? ⟨g5,4,none⟩=some (.slice B8 m8 d8):=(hb7.cell (p:=⟨g5,4,none⟩) am).trans an;have l5:w7.cell? ⟨g5,5,none⟩=some (.slice B9 m9 d9):=(hb7.cell (p:=⟨g5,5,none⟩) am).trans an))
 go_wp2
 have j3:=(q6.out.set_ 0 (.slice A6' n6' c6')).set_ 1 (.int .u64 (mm:Int));obtain⟨k0,_⟩:=j3.facts;have j0:=k0 0;have j1:=k0 1;simp only[List.setIfInBounds_toArray,List.set_cons_zero,List.set_cons_succ,List.getElem?_toArray,List.getElem?_cons_zero,List.getElem?_cons_succ]at j0 j1;refine bodyPost_ret (v:=.agg #[.slice A6' n6' c6',.int .u64 (mm:Int)]) (by simp[results,Tryz.results152,go_sem,j0,j1]) rfl ?_;have q4:Below w5.heap.size w5 w7:=(Below.trans aa (hb6.mono nl_)).trans (hb7.mono ab);have j4:Below w.heap.size w w7:=H5.2.2.2.1.trans (q4.mono ab);refine Ans.right (a:=(nn,mm)) (by simp only[qc.out,HN.out,HM.out,Option.bind_some]) aa ⟨A6',n6',c6',rfl,?_⟩;exact((((hO6.below hb7 nl_).setCell ai _).setCell ai _).mono ai ai)
end
end
end Go.Proofs.YtmpkpphfoidbeaaGreatDoor
