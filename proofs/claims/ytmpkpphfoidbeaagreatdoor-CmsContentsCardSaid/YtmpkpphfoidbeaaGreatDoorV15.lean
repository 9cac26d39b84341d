import Derived.Test.YtmpkpphfoidbeaaGreatDoorV12
import Derived.Test.YtmpkpphfoidbeaaGreatDoorV14
set_option linter.unusedVariables false
set_option linter.unusedSimpArgs false
namespace Go.Proofs.YtmpkpphfoidbeaaGreatDoor
open Go.RowKit
section
section
set_option maxRecDepth 100000
theorem Rd.pre {w:World} {B n c:Nat} {A:Option Addr} {xs:List UInt8} (h:Rd w B A n c xs) (m:Nat) (hm:m≤n):Rd w B A m c (xs.take m):=by
 refine⟨by rw[List.length_take,h.len];omega,by have:=h.cap;omega,h.capm,h.nil,h.spot,by rw[List.length_map,List.length_take,h.len];omega,fun h0=>?_⟩;obtain⟨ad,e,hb,hc⟩:=h.rds.2 ab;refine⟨ad,e,hb,fun j u hu=>hc j u ?_⟩;rw[List.getElem?_map]at hu ⊢;rw[List.getElem?_take]at hu
 split at hu
 ·exact hu
 ·cases hu
set_option maxHeartbeats 1000000 in
theorem jY (k:Nat) (A:Option Addr) (n c:Nat) (xs:List UInt8) (w:World) (h:Rd w w.heap.size A n c xs) (hk:k≤1000) (hn:n≤9223372036854775807) :
 Calls Tryz.prog 58 #[.slice A n c,.int .i64 (k:Int)] w (aO (xs.take k) w):=by
 have hc:=h.cap;have qg:=h.capm;have qd:=h.nil;have HL:=hd1 h.len;rcases Nat.lt_or_ge k n with hlt|hge
 ·have qc:min (n:Int) (k:Int)=(k:Int):=ab
  have hp:=h.pre k ab;obtain⟨b0,o0,rfl,_⟩:=h.spot ab;have HP:=hd1 hp;clear hp h qd
  go_enter Tryz.func58,Tryz.ntmps58
  go_wp2_with fail
  refine(dM _ _ _ _ _ HP.out ab).mono ?_;rintro en w1 ⟨A1,n1,c1,rfl,ho1,hb1⟩;have H1:=hd2 ho1 hb1;clear ho1 hb1
  go_wp2
  go_ret
  exact⟨A1,n1,c1,rfl,H1.1,H1.2⟩
 ·have qc:min (n:Int) (k:Int)=(n:Int):=ab
  have ht:xs.take k=xs:=List.take_of_length_le (by have:=h.len;omega);rw[ht];have HP:=hd1 h;clear ht h
  cases A with
  | none=>
   obtain rfl:=qd rfl;obtain rfl:n=0:=ab
   go_enter Tryz.func58,Tryz.ntmps58
   go_wp2_with fail
   refine(dM _ _ _ _ _ HP.out ab).mono ?_;rintro en w1 ⟨A1,n1,c1,rfl,ho1,hb1⟩;have H1:=hd2 ho1 hb1;clear ho1 hb1
   go_wp2
   go_ret
   exact⟨A1,n1,c1,rfl,H1.1,H1.2⟩
  | some ad=>
   go_enter Tryz.func58,Tryz.ntmps58
   go_wp2_with fail
   refine(dM _ _ _ _ _ HP.out ab).mono ?_;rintro en w1 ⟨A1,n1,c1,rfl,ho1,hb1⟩;have H1:=hd2 ho1 hb1;clear ho1 hb1
   go_wp2
   go_ret
   exact⟨A1,n1,c1,rfl,H1.1,H1.2⟩
def Ref.name (s:List UInt8):List UInt8:=Ref.seq [Der.write 49 (Ref.seq [Der.write 6 [85,4,3],Der.write 12 s])]
set_option maxHeartbeats 1000000 in
theorem pJ (s:List UInt8) (w:World) (hs:s.length≤1000) :
 Calls Tryz.prog 64 #[.string ⟨s.toArray⟩] w (aO (Ref.name s) w):=by
 have q4:=fun W=>kq W s
 have q5:=fun W=>ia W s
 go_enter Tryz.func64,Tryz.ntmps64
 go_wp2_with fail
 refine(aL 6 6 rfl _ 3 3 [85,4,3] _ (Rd.lit w 5 [85,4,3] [.int .u8 85,.int .u8 4,.int .u8 3] _ 3 rfl rfl rfl ab) ab).mono ?_;rintro en w1 ⟨A1,n1,c1,rfl,ho1,hb1⟩;have qc:Below w.heap.size w w1:=Below.trans (br_.alloc nl_ _) (hb1.mono ag);have q0:=qc.size;have H1:=hd2 ho1 qc;clear ho1 hb1 qc;have HS:=hd2 (it w1 s) (mw w1 s ab)
 go_wp2_with fail
 refine(aL 12 12 rfl _ _ _ s _ HS.2 ab).mono ?_;rintro en w2 ⟨A2,n2,c2,rfl,ho2,hb2⟩;have qd:Below w1.heap.size w1 w2:=HS.1.trans (hb2.mono HS.1.size);have q1:=qd.size;have H2:=hd2 ho2 qd;clear ho2 hb2 qd
 go_wp2_with fail
 refine(bu _ 2 2 [(.slice A1 n1 c1,Der.write 6 [85,4,3]),(.slice A2 n2 c2,Der.write 12 s)] _ (jm w2 _ _ _ _ (aJ.mk (H1.1.rdx.up H2.2)) (aJ.mk H2.1.rdx)) ab ?_).mono ?_
 ·rw[iy]
  have h1:=aC 6 [85,4,3] ag;have h2:=aC 12 s ab;simp at h1;omega
 rintro en w3 ⟨A3,n3,c3,rfl,ho3,hb3⟩;have qg:Below w2.heap.size w2 w3:=Below.trans (br_.alloc nl_ _) (hb3.mono ag);have q2:=qg.size;have qk:(Ref.seq [Der.write 6 [85,4,3],Der.write 12 s]).length=n3:=aM ho3;have qs:n3≤1100:=by
  have h1:=aC 6 [85,4,3] ag;have h2:=aC 12 s ab;have h3:=fu (Der.write 6 [85,4,3]) (Der.write 12 s) 1015 (by simp at h1;omega) ab;omega
 have H3:=hd2 ho3 qg;clear ho3 hb3 qg qk
 go_wp2_with fail
 refine(aL 49 49 rfl A3 n3 c3 _ _ H3.1.rdx ab).mono ?_;rintro en w4 ⟨A4,n4,c4,rfl,ho4,hb4⟩;have q3:=hb4.size;have qh:(Der.write 49 (Ref.seq [Der.write 6 [85,4,3],Der.write 12 s])).length=n4:=aM ho4;have qv:n4≤1200:=by
  have h0:=aM H3.1;have h1:=aC 49 (Ref.seq [Der.write 6 [85,4,3],Der.write 12 s]) (by have:(Ref.seq [Der.write 6 [85,4,3],Der.write 12 s]).length=n3:=h0;omega);have:(Ref.seq [Der.write 6 [85,4,3],Der.write 12 s]).length=n3:=h0;omega
 have H4:=hd3 ho4 hb4 qh;clear ho4 hb4 qh
 go_wp2_with fail
 refine(bu _ 1 1 [(.slice A4 n4 c4,Der.write 49 (Ref.seq [Der.write 6 [85,4,3],Der.write 12 s]))] _ (dn.lit w4 _ _ _ _ 1 rfl rfl rfl ab (fun v xs hm=>?_)) ab ?_).mono ?_
 ·simp only[List.mem_cons,List.not_mem_nil,or_false,Prod.mk.injEq]at hm
  obtain⟨rfl,rfl⟩:=hm;exact aJ.mk H4.1.rdx
 ·have:=H4.2.2
  simp only[aZ,List.map_cons,List.map_nil,List.flatten_cons,List.flatten_nil,List.append_nil];omega
 rintro en w5 ⟨A5,n5,c5,rfl,ho5,hb5⟩;have H5:=hd2 ho5 hb5;clear ho5 hb5
 go_wp2
 go_ret
 exact⟨A5,n5,c5,rfl,H5.1.mono ai nl_,((H1.2.trans (H2.2.mono q0)).trans ((H3.2.mono ab).trans (H4.2.1.mono ab))).trans (Below.trans (br_.alloc ab _) (H5.2.mono ai))⟩
end
section
set_option maxRecDepth 100000
end
section
set_option maxRecDepth 100000
end
section
set_option maxRecDepth 100000
def CV.seven (c:CV):List Value:=[c.raw,c.tbs,c.iss,c.sub,c.ser,c.n,c.sig]
set_option maxHeartbeats 1000000 in
theorem yD (C D:CV) (l:List (List UInt8)) (w:World) (hl:l.length=7) (hC:∀(k:Nat) (xs:List UInt8),l[k]? = some xs→∃v,C.seven[k]? = some v∧aJ w w.heap.size v xs) (hD:∀(k:Nat) (xs:List UInt8),l[k]? = some xs→∃v,D.seven[k]? = some v∧aJ w w.heap.size v xs)
 (hf:C.from_=D.from_) (ht:C.to=D.to) (he:C.e=D.e) (hfl:C.fl=D.fl) :
 Calls Tryz.prog 35 #[C.val,D.val] w fun e w'=>e=.returned (.bool true)∧Below w.heap.size w w':=by
 obtain⟨a0,a1,a2,a3,a4,af,at_,a5,ae,a6,afl⟩:=C;obtain⟨b0,b1,b2,b3,b4,bf,bt,b5,be,b6,bfl⟩:=D;dsimp only at hf ht he hfl;subst hf ht he hfl;obtain⟨y,mo,d,h,mi,s⟩:=af;obtain⟨y',mo',d',h',mi',s'⟩:=at_;obtain⟨ca,path,usage,code⟩:=afl;have hx:∀k,k<7→∃xs,l[k]? = some xs:=fun k hk=>⟨_,List.getElem?_eq_getElem ab⟩
 obtain⟨x0,hx0⟩:=hx 0 ab;obtain⟨_,e,A0,n0,c0,rfl,r0⟩:=hC 0 x0 hx0;obtain rfl:a0=.slice A0 n0 c0:=Option.some.inj e;clear e;obtain⟨_,e,B0,m0,d0,rfl,q0⟩:=hD 0 x0 hx0;obtain rfl:b0=.slice B0 m0 d0:=Option.some.inj e;clear e;obtain⟨x1,hx1⟩:=hx 1 ab;obtain⟨_,e,A1,n1,c1,rfl,r1⟩:=hC 1 x1 hx1;obtain rfl:a1=.slice A1 n1 c1:=Option.some.inj e;clear e;obtain⟨_,e,B1,m1,d1,rfl,q1⟩:=hD 1 x1 hx1;obtain rfl:b1=.slice B1 m1 d1:=Option.some.inj e;clear e;obtain⟨x2,hx2⟩:=hx 2 ab;obtain⟨_,e,A2,n2,c2,rfl,r2⟩:=hC 2 x2 hx2;obtain rfl:a2=.slice A2 n2 c2:=Option.some.inj e;clear e;obtain⟨_,e,B2,m2,d2,rfl,q2⟩:=hD 2 x2 hx2;obtain rfl:b2=.slice B2 m2 d2:=Option.some.inj e;clear e;obtain⟨x3,hx3⟩:=hx 3 ab;obtain⟨_,e,A3,n3,c3,rfl,r3⟩:=hC 3 x3 hx3;obtain rfl:a3=.slice A3 n3 c3:=Option.some.inj e;clear e;obtain⟨_,e,B3,m3,d3,rfl,q3⟩:=hD 3 x3 hx3;obtain rfl:b3=.slice B3 m3 d3:=Option.some.inj e;clear e;obtain⟨x4,hx4⟩:=hx 4 ab;obtain⟨_,e,A4,n4,c4,rfl,r4⟩:=hC 4 x4 hx4;obtain rfl:a4=.slice A4 n4 c4:=Option.some.inj e;clear e;obtain⟨_,e,B4,m4,d4,rfl,q4⟩:=hD 4 x4 hx4;obtain rfl:b4=.slice B4 m4 d4:=Option.some.inj e;clear e;obtain⟨x5,hx5⟩:=hx 5 ab;obtain⟨_,e,A5,n5,c5,rfl,r5⟩:=hC 5 x5 hx5;obtain rfl:a5=.slice A5 n5 c5:=Option.some.inj e;clear e;obtain⟨_,e,B5,m5,d5,rfl,q5⟩:=hD 5 x5 hx5;obtain rfl:b5=.slice B5 m5 d5:=Option.some.inj e;clear e;obtain⟨x6,hx6⟩:=hx 6 ab;obtain⟨_,e,A6,n6,c6,rfl,r6⟩:=hC 6 x6 hx6;obtain rfl:a6=.slice A6 n6 c6:=Option.some.inj e;clear e;obtain⟨_,e,B6,m6,d6,rfl,q6⟩:=hD 6 x6 hx6;obtain rfl:b6=.slice B6 m6 d6:=Option.some.inj e;clear e;have H:Hid (∀p∈([(Value.slice A0 n0 c0,Value.slice B0 m0 d0,x0),(Value.slice A1 n1 c1,Value.slice B1 m1 d1,x1),(Value.slice A2 n2 c2,Value.slice B2 m2 d2,x2),(Value.slice A3 n3 c3,Value.slice B3 m3 d3,x3),(Value.slice A4 n4 c4,Value.slice B4 m4 d4,x4),(Value.slice A5 n5 c5,Value.slice B5 m5 d5,x5),(Value.slice A6 n6 c6,Value.slice B6 m6 d6,x6)]:List (Value×Value×List UInt8)),aJ w w.heap.size p.1 p.2.2∧aJ w w.heap.size p.2.1 p.2.2):=hd1 (by
  intro p hp;simp only[List.mem_cons,List.not_mem_nil,or_false]at hp;rcases hp with rfl|rfl|rfl|rfl|rfl|rfl|rfl
  ·exact⟨aJ.mk r0,aJ.mk q0⟩
  ·exact⟨aJ.mk r1,aJ.mk q1⟩
  ·exact⟨aJ.mk r2,aJ.mk q2⟩
  ·exact⟨aJ.mk r3,aJ.mk q3⟩
  ·exact⟨aJ.mk r4,aJ.mk q4⟩
  ·exact⟨aJ.mk r5,aJ.mk q5⟩
  ·exact⟨aJ.mk r6,aJ.mk q6⟩)
 clear hC hD hx hx0 r0 q0 hx1 r1 q1 hx2 r2 q2 hx3 r3 q3 hx4 r4 q4 hx5 r5 q5 hx6 r6 q6;obtain⟨cc,hcc⟩:∃cc:List (Value×Value×List UInt8),[(Value.slice A0 n0 c0,Value.slice B0 m0 d0,x0),(Value.slice A1 n1 c1,Value.slice B1 m1 d1,x1),(Value.slice A2 n2 c2,Value.slice B2 m2 d2,x2),(Value.slice A3 n3 c3,Value.slice B3 m3 d3,x3),(Value.slice A4 n4 c4,Value.slice B4 m4 d4,x4),(Value.slice A5 n5 c5,Value.slice B5 m5 d5,x5),(Value.slice A6 n6 c6,Value.slice B6 m6 d6,x6)]=cc:=⟨_,rfl⟩
 have hX:aw ((((w.alloc (.cells #[Value.slice A0 n0 c0,Value.slice A1 n1 c1,Value.slice A2 n2 c2,Value.slice A3 n3 c3,Value.slice A4 n4 c4,.int .u16 (y:Int),.int .u8 (mo:Int),.int .u8 (d:Int),.int .u8 (h:Int),.int .u8 (mi:Int),.int .u8 (s:Int),.int .u16 (y':Int),.int .u8 (mo':Int),.int .u8 (d':Int),.int .u8 (h':Int),.int .u8 (mi':Int),.int .u8 (s':Int),Value.slice A5 n5 c5,.int .u64 (ae:Int),Value.slice A6 n6 c6,.bool ca,.int .i64 path,.int .i64 usage,.bool code] 72)).alloc (.cells #[Value.slice B0 m0 d0,Value.slice B1 m1 d1,Value.slice B2 m2 d2,Value.slice B3 m3 d3,Value.slice B4 m4 d4,.int .u16 (y:Int),.int .u8 (mo:Int),.int .u8 (d:Int),.int .u8 (h:Int),.int .u8 (mi:Int),.int .u8 (s:Int),.int .u16 (y':Int),.int .u8 (mo':Int),.int .u8 (d':Int),.int .u8 (h':Int),.int .u8 (mi':Int),.int .u8 (s':Int),Value.slice B5 m5 d5,.int .u64 (ae:Int),Value.slice B6 m6 d6,.bool ca,.int .i64 path,.int .i64 usage,.bool code] 72)).alloc (.cells #[Value.slice A0 n0 c0,Value.slice A1 n1 c1,Value.slice A2 n2 c2,Value.slice A3 n3 c3,Value.slice A4 n4 c4,Value.slice A5 n5 c5,Value.slice A6 n6 c6] 22)).alloc (.cells #[Value.slice B0 m0 d0,Value.slice B1 m1 d1,Value.slice B2 m2 d2,Value.slice B3 m3 d3,Value.slice B4 m4 d4,Value.slice B5 m5 d5,Value.slice B6 m6 d6] 22)) w.heap.size 72 #[Value.slice A0 n0 c0,Value.slice A1 n1 c1,Value.slice A2 n2 c2,Value.slice A3 n3 c3,Value.slice A4 n4 c4,.int .u16 (y:Int),.int .u8 (mo:Int),.int .u8 (d:Int),.int .u8 (h:Int),.int .u8 (mi:Int),.int .u8 (s:Int),.int .u16 (y':Int),.int .u8 (mo':Int),.int .u8 (d':Int),.int .u8 (h':Int),.int .u8 (mi':Int),.int .u8 (s':Int),Value.slice A5 n5 c5,.int .u64 (ae:Int),Value.slice A6 n6 c6,.bool ca,.int .i64 path,.int .i64 usage,.bool code]:=(((aw.new w _ _).alloc _).alloc _).alloc _;have hY:aw ((((w.alloc (.cells #[Value.slice A0 n0 c0,Value.slice A1 n1 c1,Value.slice A2 n2 c2,Value.slice A3 n3 c3,Value.slice A4 n4 c4,.int .u16 (y:Int),.int .u8 (mo:Int),.int .u8 (d:Int),.int .u8 (h:Int),.int .u8 (mi:Int),.int .u8 (s:Int),.int .u16 (y':Int),.int .u8 (mo':Int),.int .u8 (d':Int),.int .u8 (h':Int),.int .u8 (mi':Int),.int .u8 (s':Int),Value.slice A5 n5 c5,.int .u64 (ae:Int),Value.slice A6 n6 c6,.bool ca,.int .i64 path,.int .i64 usage,.bool code] 72)).alloc (.cells #[Value.slice B0 m0 d0,Value.slice B1 m1 d1,Value.slice B2 m2 d2,Value.slice B3 m3 d3,Value.slice B4 m4 d4,.int .u16 (y:Int),.int .u8 (mo:Int),.int .u8 (d:Int),.int .u8 (h:Int),.int .u8 (mi:Int),.int .u8 (s:Int),.int .u16 (y':Int),.int .u8 (mo':Int),.int .u8 (d':Int),.int .u8 (h':Int),.int .u8 (mi':Int),.int .u8 (s':Int),Value.slice B5 m5 d5,.int .u64 (ae:Int),Value.slice B6 m6 d6,.bool ca,.int .i64 path,.int .i64 usage,.bool code] 72)).alloc (.cells #[Value.slice A0 n0 c0,Value.slice A1 n1 c1,Value.slice A2 n2 c2,Value.slice A3 n3 c3,Value.slice A4 n4 c4,Value.slice A5 n5 c5,Value.slice A6 n6 c6] 22)).alloc (.cells #[Value.slice B0 m0 d0,Value.slice B1 m1 d1,Value.slice B2 m2 d2,Value.slice B3 m3 d3,Value.slice B4 m4 d4,Value.slice B5 m5 d5,Value.slice B6 m6 d6] 22)) (w.heap.size+1) 72 #[Value.slice B0 m0 d0,Value.slice B1 m1 d1,Value.slice B2 m2 d2,Value.slice B3 m3 d3,Value.slice B4 m4 d4,.int .u16 (y:Int),.int .u8 (mo:Int),.int .u8 (d:Int),.int .u8 (h:Int),.int .u8 (mi:Int),.int .u8 (s:Int),.int .u16 (y':Int),.int .u8 (mo':Int),.int .u8 (d':Int),.int .u8 (h':Int),.int .u8 (mi':Int),.int .u8 (s':Int),Value.slice B5 m5 d5,.int .u64 (ae:Int),Value.slice B6 m6 d6,.bool ca,.int .i64 path,.int .i64 usage,.bool code]:=((aw.new' _ _ ag).alloc _).alloc _;have hA:aw ((((w.alloc (.cells #[Value.slice A0 n0 c0,Value.slice A1 n1 c1,Value.slice A2 n2 c2,Value.slice A3 n3 c3,Value.slice A4 n4 c4,.int .u16 (y:Int),.int .u8 (mo:Int),.int .u8 (d:Int),.int .u8 (h:Int),.int .u8 (mi:Int),.int .u8 (s:Int),.int .u16 (y':Int),.int .u8 (mo':Int),.int .u8 (d':Int),.int .u8 (h':Int),.int .u8 (mi':Int),.int .u8 (s':Int),Value.slice A5 n5 c5,.int .u64 (ae:Int),Value.slice A6 n6 c6,.bool ca,.int .i64 path,.int .i64 usage,.bool code] 72)).alloc (.cells #[Value.slice B0 m0 d0,Value.slice B1 m1 d1,Value.slice B2 m2 d2,Value.slice B3 m3 d3,Value.slice B4 m4 d4,.int .u16 (y:Int),.int .u8 (mo:Int),.int .u8 (d:Int),.int .u8 (h:Int),.int .u8 (mi:Int),.int .u8 (s:Int),.int .u16 (y':Int),.int .u8 (mo':Int),.int .u8 (d':Int),.int .u8 (h':Int),.int .u8 (mi':Int),.int .u8 (s':Int),Value.slice B5 m5 d5,.int .u64 (ae:Int),Value.slice B6 m6 d6,.bool ca,.int .i64 path,.int .i64 usage,.bool code] 72)).alloc (.cells #[Value.slice A0 n0 c0,Value.slice A1 n1 c1,Value.slice A2 n2 c2,Value.slice A3 n3 c3,Value.slice A4 n4 c4,Value.slice A5 n5 c5,Value.slice A6 n6 c6] 22)).alloc (.cells #[Value.slice B0 m0 d0,Value.slice B1 m1 d1,Value.slice B2 m2 d2,Value.slice B3 m3 d3,Value.slice B4 m4 d4,Value.slice B5 m5 d5,Value.slice B6 m6 d6] 22)) (w.heap.size+1+1) 22 (cc.map (·.1)).toArray:=by
  rw[←hcc];exact aw.alloc (aw.new' _ _ ag) _
 have hB:aw ((((w.alloc (.cells #[Value.slice A0 n0 c0,Value.slice A1 n1 c1,Value.slice A2 n2 c2,Value.slice A3 n3 c3,Value.slice A4 n4 c4,.int .u16 (y:Int),.int .u8 (mo:Int),.int .u8 (d:Int),.int .u8 (h:Int),.int .u8 (mi:Int),.int .u8 (s:Int),.int .u16 (y':Int),.int .u8 (mo':Int),.int .u8 (d':Int),.int .u8 (h':Int),.int .u8 (mi':Int),.int .u8 (s':Int),Value.slice A5 n5 c5,.int .u64 (ae:Int),Value.slice A6 n6 c6,.bool ca,.int .i64 path,.int .i64 usage,.bool code] 72)).alloc (.cells #[Value.slice B0 m0 d0,Value.slice B1 m1 d1,Value.slice B2 m2 d2,Value.slice B3 m3 d3,Value.slice B4 m4 d4,.int .u16 (y:Int),.int .u8 (mo:Int),.int .u8 (d:Int),.int .u8 (h:Int),.int .u8 (mi:Int),.int .u8 (s:Int),.int .u16 (y':Int),.int .u8 (mo':Int),.int .u8 (d':Int),.int .u8 (h':Int),.int .u8 (mi':Int),.int .u8 (s':Int),Value.slice B5 m5 d5,.int .u64 (ae:Int),Value.slice B6 m6 d6,.bool ca,.int .i64 path,.int .i64 usage,.bool code] 72)).alloc (.cells #[Value.slice A0 n0 c0,Value.slice A1 n1 c1,Value.slice A2 n2 c2,Value.slice A3 n3 c3,Value.slice A4 n4 c4,Value.slice A5 n5 c5,Value.slice A6 n6 c6] 22)).alloc (.cells #[Value.slice B0 m0 d0,Value.slice B1 m1 d1,Value.slice B2 m2 d2,Value.slice B3 m3 d3,Value.slice B4 m4 d4,Value.slice B5 m5 d5,Value.slice B6 m6 d6] 22)) (w.heap.size+1+1+1) 22 (cc.map (·.2.1)).toArray:=by
  rw[←hcc];exact aw.new' _ _ ag
 have qg:Below w.heap.size w ((((w.alloc (.cells #[Value.slice A0 n0 c0,Value.slice A1 n1 c1,Value.slice A2 n2 c2,Value.slice A3 n3 c3,Value.slice A4 n4 c4,.int .u16 (y:Int),.int .u8 (mo:Int),.int .u8 (d:Int),.int .u8 (h:Int),.int .u8 (mi:Int),.int .u8 (s:Int),.int .u16 (y':Int),.int .u8 (mo':Int),.int .u8 (d':Int),.int .u8 (h':Int),.int .u8 (mi':Int),.int .u8 (s':Int),Value.slice A5 n5 c5,.int .u64 (ae:Int),Value.slice A6 n6 c6,.bool ca,.int .i64 path,.int .i64 usage,.bool code] 72)).alloc (.cells #[Value.slice B0 m0 d0,Value.slice B1 m1 d1,Value.slice B2 m2 d2,Value.slice B3 m3 d3,Value.slice B4 m4 d4,.int .u16 (y:Int),.int .u8 (mo:Int),.int .u8 (d:Int),.int .u8 (h:Int),.int .u8 (mi:Int),.int .u8 (s:Int),.int .u16 (y':Int),.int .u8 (mo':Int),.int .u8 (d':Int),.int .u8 (h':Int),.int .u8 (mi':Int),.int .u8 (s':Int),Value.slice B5 m5 d5,.int .u64 (ae:Int),Value.slice B6 m6 d6,.bool ca,.int .i64 path,.int .i64 usage,.bool code] 72)).alloc (.cells #[Value.slice A0 n0 c0,Value.slice A1 n1 c1,Value.slice A2 n2 c2,Value.slice A3 n3 c3,Value.slice A4 n4 c4,Value.slice A5 n5 c5,Value.slice A6 n6 c6] 22)).alloc (.cells #[Value.slice B0 m0 d0,Value.slice B1 m1 d1,Value.slice B2 m2 d2,Value.slice B3 m3 d3,Value.slice B4 m4 d4,Value.slice B5 m5 d5,Value.slice B6 m6 d6] 22)):=by(repeat (first|exact Below.refl _ _|assumption|(refine Below.setCell ?_ al _)|(refine Below.alloc ?_ al _)|(refine ar ?_ _)|(refine Below.drew ?_)))
 have qd:cc.length=7:=by rw[←hcc];rfl
 rw[hcc]at H;unfold CV.val CV.cells;dsimp only
 go_enter Tryz.func35,Tryz.ntmps35
 go_wp2
 obtain⟨W,hW⟩:∃W,((((w.alloc (.cells #[Value.slice A0 n0 c0,Value.slice A1 n1 c1,Value.slice A2 n2 c2,Value.slice A3 n3 c3,Value.slice A4 n4 c4,.int .u16 (y:Int),.int .u8 (mo:Int),.int .u8 (d:Int),.int .u8 (h:Int),.int .u8 (mi:Int),.int .u8 (s:Int),.int .u16 (y':Int),.int .u8 (mo':Int),.int .u8 (d':Int),.int .u8 (h':Int),.int .u8 (mi':Int),.int .u8 (s':Int),Value.slice A5 n5 c5,.int .u64 (ae:Int),Value.slice A6 n6 c6,.bool ca,.int .i64 path,.int .i64 usage,.bool code] 72)).alloc (.cells #[Value.slice B0 m0 d0,Value.slice B1 m1 d1,Value.slice B2 m2 d2,Value.slice B3 m3 d3,Value.slice B4 m4 d4,.int .u16 (y:Int),.int .u8 (mo:Int),.int .u8 (d:Int),.int .u8 (h:Int),.int .u8 (mi:Int),.int .u8 (s:Int),.int .u16 (y':Int),.int .u8 (mo':Int),.int .u8 (d':Int),.int .u8 (h':Int),.int .u8 (mi':Int),.int .u8 (s':Int),Value.slice B5 m5 d5,.int .u64 (ae:Int),Value.slice B6 m6 d6,.bool ca,.int .i64 path,.int .i64 usage,.bool code] 72)).alloc (.cells #[Value.slice A0 n0 c0,Value.slice A1 n1 c1,Value.slice A2 n2 c2,Value.slice A3 n3 c3,Value.slice A4 n4 c4,Value.slice A5 n5 c5,Value.slice A6 n6 c6] 22)).alloc (.cells #[Value.slice B0 m0 d0,Value.slice B1 m1 d1,Value.slice B2 m2 d2,Value.slice B3 m3 d3,Value.slice B4 m4 d4,Value.slice B5 m5 d5,Value.slice B6 m6 d6] 22))=W:=⟨_,rfl⟩
 rw[hW]at hX hY hA hB qg ⊢;have qh:=hA.lt;have qk:=hB.lt;have HX:=hd6 hX hY hA hB qg qd;clear hW hX hY hA hB qg qd hcc
 go_loopw [7] (fun i wr=>∃k:Nat,k≤7∧i=.int .i64 k∧Below W.heap.size W wr) (fun i _=>7 - (intOf i).toNat)
 case atStart=>exact⟨0,ab,rfl,Below.refl _ _⟩
 case round=>
  obtain⟨k,hk,rfl,hb⟩:=hrel;have q7:=hb.size
  by_cases hlt:k<7
  ·have qs:(k:Int)<7:=ab
   obtain⟨⟨p1,p2,xs⟩,hp⟩:∃p,cc[k]? = some p:=⟨_,List.getElem?_eq_getElem (by have:=HX.2.2.2.2.2;omega)⟩
   obtain⟨⟨P1,z1,f1,e1,r1⟩,⟨P2,z2,f2,e2,r2⟩⟩:=H.out _ (List.mem_of_getElem? hp);dsimp only at e1 e2 r1 r2;subst e1 e2;have k0:wr.cell? ⟨w.heap.size+1+1,k,none⟩=some (.slice P1 z1 f1):=(hb.cell (p:=⟨w.heap.size+1+1,k,none⟩) qh).trans (by rw[HX.2.2.1.cell k];simp[hp]);have k1:wr.cell? ⟨w.heap.size+1+1+1,k,none⟩=some (.slice P2 z2 f2):=(hb.cell (p:=⟨w.heap.size+1+1+1,k,none⟩) qk).trans (by rw[HX.2.2.2.1.cell k];simp[hp]);have qc:=HX.2.2.2.2.1.trans (hb.mono HX.2.2.2.2.1.size);have HO:=hd3 hb ((r1.below qc).more qc.size) ((r2.below qc).more qc.size);clear hb hp r1 r2 qc
   go_wp2
   go_quiet ((go_at_call 23;exact Calls.quiet_of_same (fH _ _ _ _ _ _ _ _ _ _ (HO.2.1.drewN _) (HO.2.2.drewN _))))
   go_wp2
   go_roundw
   case rel=>exact⟨k+1,ab,by go_num,ar HO.1 _⟩
   case measure=>simp[intOf];omega
  ·obtain rfl:k=7:=ab
   have qv:¬(7:Int)<7:=ab
   have hX:=(HX.1.below hb HX.1.lt).cell;have hY:=(HX.2.1.below hb HX.2.1.lt).cell;have HO:=hd1 hb;clear hb
   go_wp2
   go_ret
   exact⟨by first|rfl|simp,HX.2.2.2.2.1.trans (HO.out.mono HX.2.2.2.2.1.size)⟩
end
section
set_option maxRecDepth 100000
end
section
set_option maxRecDepth 100000
theorem wZ (xs:List UInt8):∃F,F≤xs.length∧Der.trim xs=xs.drop F∧(∀k,k<F→xs[k]? = some 0)∧∀x,xs[F]? = some x→x≠0:=by
 induction xs with
 | nil=>exact⟨0,Nat.le_refl _,rfl,fun k h=>by omega,fun x h=>by simp at h⟩
 | cons x xs ih=>
  by_cases h:x=0
  ·subst h
   obtain⟨F,h1,h2,h3,h4⟩:=ih;refine⟨F+1,ai,by rw[gx,h2];rfl,fun k hk=>?_,fun x hx=>h4 x (by simpa using hx)⟩
   cases k with
   | zero=>rfl
   | succ k=>simpa using h3 k ab
  ·refine⟨0,ab,by rw[eq xs h];rfl,fun k h=>by omega,fun y hy=>?_⟩
   simp at hy;rw[←hy];exact h
theorem eA (xs:List UInt8):Der.int (Der.putInt xs)=some (Der.trim xs):=by
 obtain⟨F,h1,h2,h3,h4⟩:=wZ xs;unfold Der.putInt
 cases hy:Der.trim xs with
 | nil=>simp[Der.int]
 | cons y ys=>
  have qd:y≠0:=h4 y (by
   have:(xs.drop F)[0]? = some y:=by rw[←h2,hy];rfl
   simpa using this)
  have qc:y.toNat≠0:=fun e=>qd (UInt8.toNat_inj.1 e)
  by_cases h:128≤y.toNat
  ·rw[if_pos (.inr (by simpa using h))]
   simp only[Der.int];rw[if_neg ag,if_pos ag,if_neg ab]
  ·rw[if_neg ai]
   simp only[Der.int];rw[if_neg h,if_neg qc]
end
end
section
set_option maxRecDepth 100000
theorem gQ (s:List UInt8) (h:s.length≤200):(Ref.name s).length≤260:=by
 have h1:=aC 6 [85,4,3] ag;have h2:=aC 12 s ab;have h3:=fu (Der.write 6 [85,4,3]) (Der.write 12 s) 215 (by simp at h1;omega) ab;have h4:=aC 49 (Ref.seq [Der.write 6 [85,4,3],Der.write 12 s]) ab;have h5:=aC 48 (Der.write 49 (Ref.seq [Der.write 6 [85,4,3],Der.write 12 s])) ab;unfold Ref.name;generalize hX:Der.write 49 (Ref.seq [Der.write 6 [85,4,3],Der.write 12 s])=X at h4 h5 ⊢;unfold Ref.seq;simp only[List.flatten_cons,List.flatten_nil,List.append_nil];omega
theorem zU (nn:List UInt8) (e:Nat) (h:nn.length≤600):(Ref.rsa nn e).length≤640:=by
 have h1:=bW nn;have h2:=bW (Ref.five e);have h3:(Ref.five e).length=5:=rfl;have h4:=aC 2 (Der.putInt nn) ab;have h5:=aC 2 (Der.putInt (Ref.five e)) ab;have h6:=fu (Der.write 2 (Der.putInt nn)) (Der.write 2 (Der.putInt (Ref.five e))) 619 ab ab;unfold Ref.rsa;omega
theorem sj (iss sub ser nn:List UInt8) (a b:Tm) (e:Nat) (f:Fl) (h1:iss.length≤260) (h2:sub.length≤260) (h3:ser.length≤20) (h4:nn.length≤600):(Ref.tbs iss sub ser nn a b e f).length≤4000:=by
 have g0:=zU nn e h4;have g1:=aC 2 ser ab;have g2:=gE a;have g3:=gE b;have g4:=fu (Ref.general a) (Ref.general b) 42 ab ab;have g5:=aC 3 ([0]++Ref.rsa nn e) (by rw[List.length_append];simp;omega);rw[List.length_append,List.length_singleton]at g5;have g6:Ref.keyAlg.length=15:=rfl;have g7:=fu Ref.keyAlg (Der.write 3 ([0]++Ref.rsa nn e)) 700 ab ab;have g8:Ref.version.length=5:=rfl;have g9:Ref.signAlg.length=15:=rfl;have qd:=nL f;have qc:=aC 48 ([Ref.version,Der.write 2 ser,Ref.signAlg,iss,Ref.seq [Ref.general a,Ref.general b],sub,Ref.key nn e,Ref.extra f]:List (List UInt8)).flatten (by rw[sY];unfold Ref.key;omega);unfold Ref.tbs;rw[show ∀l,Ref.seq l=Der.write 48 l.flatten from fun _=>rfl];rw[sY]at qc;unfold Ref.key at qc ⊢;omega
structure br where
 ser:List UInt8
 n:List UInt8
 sig:List UInt8
 iss:List UInt8
 sub:List UInt8
 from_:Tm
 to:Tm
 e:Nat
 ca:Bool
 code:Bool
 path:Nat
 usage:Nat
def br.start (k:br):Tm:=if Stamp.right k.from_ then k.from_ else ⟨2020,1,1,0,0,0⟩
def br.stop (k:br):Tm:=if !Stamp.right k.to||Stamp.less k.to k.start then k.start else k.to
def br.fl (k:br):Fl:=⟨k.ca,if k.ca&&decide (0<k.path) then(k.path:Int) - 1 else -1,if 0<k.usage then 2*(k.usage:Int)+(k.usage % 2:Nat) else -1,k.code⟩
theorem zt (k:br) (h:k.path<256):k.fl.path<256:=by
 unfold br.fl;dsimp only
 split<;>omega
def br.nn (k:br):List UInt8:=(Der.int (Der.putInt (k.n.take 600))).getD []
def br.serial (k:br):List UInt8:=Der.putInt ([1]++k.ser.take 18)
def br.tbs (k:br):List UInt8:=Ref.tbs (Ref.name (k.iss.take 200)) (Ref.name (k.sub.take 200)) k.serial k.nn k.start k.stop (k.e % 8589934592) k.fl
def br.raw (k:br):List UInt8:=Ref.wr k.tbs (k.sig.take 600)
end
end Go.Proofs.YtmpkpphfoidbeaaGreatDoor
