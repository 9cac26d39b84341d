import Derived.Test.YtmpkpphfoidbeaaGreatDoorV05
set_option linter.unusedVariables false
set_option linter.unusedSimpArgs false
namespace Go.Proofs.YtmpkpphfoidbeaaGreatDoor
open Go.RowKit
section
section
set_option maxRecDepth 100000
set_option maxHeartbeats 4000000 in
theorem ul (b o c:Nat) (xs:List UInt8) (w:World) (h:Rd w w.heap.size (some ⟨b,o,none⟩) 15 c xs) (hx:xs[14]? = some 90) (hd:(xs.take 14).any bR=false) :
 Calls Tryz.prog 179 #[.slice (some ⟨b,o,none⟩) 15 c,.int .i64 4,.func (.func 180) #[] #[]] w (dD (Stamp.told 4 id xs) w):=by
 have hl:=h.len;have q5:∀k j,k+j≤14→((xs.drop k).take j).any bR=false:=by
  intro k j hkj;rw[List.any_eq_false]at hd ⊢;intro y hy;refine hd y ?_;obtain⟨i,hi⟩:=List.getElem?_of_mem hy;rw[List.getElem?_take]at hi
  split at hi
  ·rw[List.getElem?_drop]at hi
   exact List.mem_of_getElem? (i:=k+i) (by rw[List.getElem?_take,if_pos ab];exact hi)
  ·cases hi
 obtain⟨V,hV⟩:∃V,Stamp.told 4 id xs=V:=⟨_,rfl⟩
 rw[hV];have q4:(if Stamp.right (Stamp.tm 4 id xs)=true then some (Stamp.tm 4 id xs) else none)=V:=by
  rw[←hV];unfold Stamp.told
  by_cases hr:Stamp.right (Stamp.tm 4 id xs)=true
  ·rw[if_pos hr,if_pos ⟨hl,hx,hd,hr⟩]
  ·rw[if_neg hr,if_neg (fun h'=>hr h'.2.2.2)]
 obtain⟨b',o',e,hb,hcell⟩:=h.at_ ab;injection e with e
 injection e with e1 e2
 subst e1 e2;have hc:w.cell? ⟨b,o+14,none⟩=some (.int .u8 90):=hcell 14 90 hx;have yd:=h.cap;have j8:=h.capm;have HX:=hd5 (h.upto 14 ab) hd h q5 q4;have hB:=hb;have yv:∀(fn:Fn) (first cap:Array Value) (w:World),(Instr.makeFunc fn first cap).run Tryz.prog w=.ok (.func fn first cap) w:=fun _ _ _ _=>rfl
 have q2:=hd1 ((aw.new w 22 #[.slice (some ⟨b,o,none⟩) 15 c]).alloc (.cells #[.int .u16 0,.int .u8 0,.int .u8 0,.int .u8 0,.int .u8 0,.int .u8 0] 70));have q7:Hid (aw ((w.alloc (.cells #[.slice (some ⟨b,o,none⟩) 15 c] 22)).alloc (.cells #[.int .u16 0,.int .u8 0,.int .u8 0,.int .u8 0,.int .u8 0,.int .u8 0] 70)) (w.heap.size+1) 70 #[.int .u16 0,.int .u8 0,.int .u8 0,.int .u8 0,.int .u8 0,.int .u8 0]):=hd1 (by have:=aw.new (w.alloc (.cells #[.slice (some ⟨b,o,none⟩) 15 c] 22)) 70 #[.int .u16 0,.int .u8 0,.int .u8 0,.int .u8 0,.int .u8 0,.int .u8 0];simpa using this);clear h hcell hx hd hV q4 q5 hl
 go_enter Tryz.func179,Tryz.ntmps179
 go_wp2_with fail
 refine(ew (some ⟨b,o,none⟩) 14 c (xs.take 14) w.heap.size _ ((HX.1.alloc nl_ _).alloc ag _)).mono ?_;rintro e w' ⟨rfl,rfl⟩;rw[HX.2.1]
 go_wp2_with fail
 refine(jk (some ⟨b,o,none⟩) 15 c xs w.heap.size w.heap.size (w.heap.size+2) 4 0 _ (((HX.2.2.1.alloc nl_ _).alloc ag _).alloc ai _) ab ((q2.out.alloc _).cell 0) ab (by have:=aw.new ((w.alloc (.cells #[.slice (some ⟨b,o,none⟩) 15 c] 22)).alloc (.cells #[.int .u16 0,.int .u8 0,.int .u8 0,.int .u8 0,.int .u8 0,.int .u8 0] 70)) 3 #[.int .i64 0];simpa using this) ab ab ab (HX.2.2.2.1 0 4 ab)).mono ?_;rintro e w1 ⟨rfl,hg1,hs1,hb1⟩;have qk:Stamp.dig ((xs.drop 0).take 4)<10000:=by
  have h1:=lK _ (HX.2.2.2.1 0 4 ab);have h2:(10:Nat) ^ ((xs.drop 0).take 4).length≤10 ^ 4:=Nat.pow_le_pow_right ab ai;omega
 obtain⟨Y,hY⟩:∃Y,Stamp.dig ((xs.drop 0).take 4)=Y:=⟨_,rfl⟩
 rw[hY]at qk ⊢;simp only[World.size_alloc]at hs1;have qg:Below w.heap.size w w1:=Below.grown aa hg1 ai (fun k e=>by injection e with e;omega);have c0:aw w1 w.heap.size 22 #[.slice (some ⟨b,o,none⟩) 15 c]:=(q2.out.alloc _).grown hg1 (fun e=>by injection e with e;omega);have c1:aw w1 (w.heap.size+1) 70 #[.int .u16 0,.int .u8 0,.int .u8 0,.int .u8 0,.int .u8 0,.int .u8 0]:=(q7.out.alloc _).grown hg1 (fun e=>by injection e with e;omega);have H1:=hd5 hY qg c0 c1 hb1;clear hY qg c0 c1 hb1 hg1
 go_wp2_with fail
 refine(xT Y _).mono ?_;rintro e w2 ⟨rfl,rfl⟩;obtain⟨Z,hZ,hZb⟩:∃Z,Y=Z∧Z<10000:=⟨Y,rfl,qk⟩
 rw[hZ];have HZ:=hd1 hZ;clear hZ
 go_wp2
 go_loopw [50] (fun i wr=>∃k:Nat,k≤5∧i=.int .i64 k∧oT 4 (Z) (.slice (some ⟨b,o,none⟩) 15 c) xs w k wr) (fun i _=>5 - (intOf i).toNat)
 case atStart=>
  refine⟨0,ab,rfl,?_⟩;have hh:=H1.out;refine⟨by have:=hh.2.1;(repeat (first|exact Below.refl _ _|assumption|(refine Below.setCell ?_ al _)|(refine Below.alloc ?_ al _)|(refine ar ?_ _)|(refine Below.drew ?_))),ai,(hh.2.2.1.alloc _).alloc _,(hh.2.2.2.1.alloc _).alloc _,?_,?_,?_⟩
  ·have:=(hh.2.2.2.2.alloc (.cells #[.int .u16 ((Z:Nat):Int),.int .u8 0,.int .u8 0,.int .u8 0,.int .u8 0,.int .u8 0] 70))
   simpa using this.alloc _
  ·have:=aw.new w2 70 (Stamp.cells (Z) 4 xs 0)
   rw[hs1]at this;exact this.alloc _
  ·have:=aw.new (w2.alloc (.cells (Stamp.cells (Z) 4 xs 0) 70)) 225 #[.pointer (some ⟨w.heap.size+1+1+1,1,none⟩),.pointer (some ⟨w.heap.size+1+1+1,2,none⟩),.pointer (some ⟨w.heap.size+1+1+1,3,none⟩),.pointer (some ⟨w.heap.size+1+1+1,4,none⟩),.pointer (some ⟨w.heap.size+1+1+1,5,none⟩)]
   simp only[World.size_alloc,hs1]at this;exact this
 case round=>
  obtain⟨k,hk,rfl,hI⟩:=hrel;have hs:=hI.size
  by_cases hlt:k<5
  ·have j6:(k:Int)<5:=ab
   have hp:wr.cell? ⟨w.heap.size+1+1+1+1,k,none⟩=some (.pointer (some ⟨w.heap.size+1+1+1,k+1,none⟩)):=by
    rw[hI.b4.cell k];rcases k with _|_|_|_|_|k<;>first|rfl|omega
   have qd:=HX.2.2.2.1 (4+2*k) 2 ab;have q9:=lG qd;have HI:=hd2 hI qd;clear hI qd
   go_wp2_with fail
   refine(jk (some ⟨b,o,none⟩) 15 c xs w.heap.size w.heap.size (w.heap.size+1+1) 2 (4+2*k) _ (HX.2.2.1.below HI.1.bel) ab (HI.1.b0.cell 0) ab HI.1.b2 ab ab ab HI.2).mono ?_;rintro e w3 ⟨rfl,hg3,hs3,hb3⟩;have d3:=HI.1.b3.grown hg3 (fun e=>by injection e with e;omega);have q3:Hid (oT 4 (Z) (.slice (some ⟨b,o,none⟩) 15 c) xs w (k+1) (w3.setCell ⟨w.heap.size+1+1+1,k+1,none⟩ (.int .u8 (Stamp.at2 xs (4+2*k):Int)))):=hd1 (by
    have hI:=HI.1;refine⟨(hI.bel.grown hg3 ab (fun q e=>by injection e with e;omega)).setCell ak _,ai,(hI.b0.grown hg3 (fun e=>by injection e with e;omega)).far ak _,(hI.b1.grown hg3 (fun e=>by injection e with e;omega)).far ak _,?_,?_,(hI.b4.grown hg3 (fun e=>by injection e with e;omega)).far (by show _≠_;dsimp only;omega) _⟩
    ·have:=hb3.far (p:=⟨w.heap.size+1+1+1,k+1,none⟩) ag (.int .u8 (Stamp.at2 xs (4+2*k):Int))
     rwa [show 4+2*(k+1)=4+2*k+2 from by omega]
    ·have:=d3.set_ (k+1) (.int .u8 (Stamp.at2 xs (4+2*k):Int))
     rwa [show(Stamp.cells (Z) 4 xs k).setIfInBounds (k+1) (.int .u8 (Stamp.at2 xs (4+2*k):Int))=Stamp.cells (Z) 4 xs (k+1) from by
      rcases k with _|_|_|_|_|k<;>first|rfl|omega]at this)
   have qc:w3.cell? ⟨w.heap.size+1+1+1,k+1,none⟩=some (.int .u8 0):=by
    rw[d3.cell (k+1)];rcases k with _|_|_|_|_|k<;>first|rfl|omega
   have yh:=d3.frozen (k+1);have hz:Stamp.dig ((xs.drop (4+2*k)).take 2)=Stamp.at2 xs (4+2*k):=rfl;rw[hz];obtain⟨D,hD⟩:∃D,Stamp.at2 xs (4+2*k)=D:=⟨_,rfl⟩
   rw[hD]at q9 q3 ⊢;clear hz hD d3 hb3 hg3 hp
   go_wp2
   go_roundw
   case rel=>exact⟨k+1,ab,by go_num,q3.out⟩
   case measure=>simp[intOf];omega
  ·obtain rfl:k=5:=ab
   have ys:¬((5:Nat):Int)<5:=ab
   have qc:=hI.b3.cell;have k0:wr.cell? ⟨w.heap.size+1+1+1,0,none⟩=some (.int .u16 ((Z:Nat):Int)):=qc 0;have k1:wr.cell? ⟨w.heap.size+1+1+1,1,none⟩=some (.int .u8 (Stamp.at2 xs 4:Int)):=qc 1;have k2:wr.cell? ⟨w.heap.size+1+1+1,2,none⟩=some (.int .u8 (Stamp.at2 xs 6:Int)):=qc 2;have k3:wr.cell? ⟨w.heap.size+1+1+1,3,none⟩=some (.int .u8 (Stamp.at2 xs 8:Int)):=qc 3;have k4:wr.cell? ⟨w.heap.size+1+1+1,4,none⟩=some (.int .u8 (Stamp.at2 xs 10:Int)):=qc 4;have k5:wr.cell? ⟨w.heap.size+1+1+1,5,none⟩=some (.int .u8 (Stamp.at2 xs 12:Int)):=qc 5;have j7:=lG (HX.2.2.2.1 4 2 ab);have q6:Stamp.tm 4 id xs=⟨Z,Stamp.at2 xs 4,Stamp.at2 xs 6,Stamp.at2 xs 8,Stamp.at2 xs 10,Stamp.at2 xs 12⟩:=by
    unfold Stamp.tm;rw[H1.1,show id Y=Z from HZ.out]
   have HT:=hd2 q6 hI;clear hI qc q6
   go_wp2_with fail
   refine(nY ⟨Z,Stamp.at2 xs 4,Stamp.at2 xs 6,Stamp.at2 xs 8,Stamp.at2 xs 10,Stamp.at2 xs 12⟩ _ ak (Nat.lt_trans j7 ab)).mono ?_;rintro e w3 ⟨rfl,hb3⟩;rw[←HT.1];have hI:=HT.2;have hV:=HX.2.2.2.2;have qh:=hI.bel.trans (hb3.mono ab);have j0:w3.cell? ⟨w.heap.size+1+1+1,0,none⟩=_:=(hb3.cell (p:=⟨w.heap.size+1+1+1,0,none⟩) ai).trans k0;have j1:w3.cell? ⟨w.heap.size+1+1+1,1,none⟩=_:=(hb3.cell (p:=⟨w.heap.size+1+1+1,1,none⟩) ai).trans k1;have j2:w3.cell? ⟨w.heap.size+1+1+1,2,none⟩=_:=(hb3.cell (p:=⟨w.heap.size+1+1+1,2,none⟩) ai).trans k2;have j3:w3.cell? ⟨w.heap.size+1+1+1,3,none⟩=_:=(hb3.cell (p:=⟨w.heap.size+1+1+1,3,none⟩) ai).trans k3;have j4:w3.cell? ⟨w.heap.size+1+1+1,4,none⟩=_:=(hb3.cell (p:=⟨w.heap.size+1+1+1,4,none⟩) ai).trans k4;have j5:w3.cell? ⟨w.heap.size+1+1+1,5,none⟩=_:=(hb3.cell (p:=⟨w.heap.size+1+1+1,5,none⟩) ai).trans k5;have e1:=hI.b1.below hb3 ab;obtain⟨q0,q1⟩:=e1.facts;have H3:=hd3 qh hV e1;clear hI hV qh hb3 e1
   cases hr:Stamp.right (Stamp.tm 4 id xs) with
   | false=>
    have HR:=hd1 hr;clear hr
    go_wp2
    have e1:=H3.2.2;have e2:=((((((e1.set_ 0 (.int .u16 0)).set_ 1 (.int .u8 0)).set_ 2 (.int .u8 0)).set_ 3 (.int .u8 0)).set_ 4 (.int .u8 0)).set_ 5 (.int .u8 0))
    have qv:=dI _ _ _ _ _ _ _ _ e2;refine bodyPost_ret (cI rfl _ _ _ _ _ rfl qv) rfl ?_;have qs:=H3.1;exact⟨((((((qs.setCell ak _).setCell ak _).setCell ak _).setCell ak _).setCell ak _).setCell ak _),.inl ⟨by rw[←H3.2.1,HR.out];rfl,rfl⟩⟩
   | true=>
    have HR:=hd1 hr;clear hr
    go_wp2
    have e1:=H3.2.2;have e2:=((((((e1.set_ 0 (.int .u16 ((Z:Nat):Int))).set_ 1 (.int .u8 (Stamp.at2 xs 4:Int))).set_ 2 (.int .u8 (Stamp.at2 xs 6:Int))).set_ 3 (.int .u8 (Stamp.at2 xs 8:Int))).set_ 4 (.int .u8 (Stamp.at2 xs 10:Int))).set_ 5 (.int .u8 (Stamp.at2 xs 12:Int)))
    have qv:=dI _ _ _ _ _ _ _ _ e2;refine bodyPost_ret (cI rfl _ _ _ _ _ rfl qv) rfl ?_;have qs:=H3.1;exact⟨((((((qs.setCell ak _).setCell ak _).setCell ak _).setCell ak _).setCell ak _).setCell ak _),.inr ⟨Stamp.tm 4 id xs,by rw[←H3.2.1,HR.out];rfl,by rw[HT.1];rfl⟩⟩
theorem wT (A:Option Addr) (m c:Nat) (xs:List UInt8) (w:World) (h:Rd w w.heap.size A m c xs) :
 Calls Tryz.prog 179 #[.slice A m c,.int .i64 4,.func (.func 180) #[] #[]] w (dD (Stamp.told 4 id xs) w):=by
 by_cases hl:m=15
 ·subst hl
  obtain⟨b,o,rfl,_,_⟩:=h.at_ ab;have qc:=h.len;obtain⟨x,hx⟩:∃x,xs[14]? = some x:=⟨_,List.getElem?_eq_getElem ab⟩
  by_cases hz:x=90
  ·subst hz
   cases hd:(xs.take 14).any bR with
   | true=>exact wU b o c xs w h hx hd
   | false=>exact ul b o c xs w h hx hd
  ·exact uk b o c x xs w h hx hz
 ·exact wV A m c xs w h hl
end
section
set_option maxRecDepth 100000
set_option maxHeartbeats 4000000 in
theorem uj (b o c:Nat) (xs:List UInt8) (w:World) (h:Rd w w.heap.size (some ⟨b,o,none⟩) 13 c xs) (hx:xs[12]? = some 90) (hd:(xs.take 12).any bR=false) :
 Calls Tryz.prog 179 #[.slice (some ⟨b,o,none⟩) 13 c,.int .i64 2,.func (.func 181) #[] #[]] w (dD (Stamp.told 2 Stamp.year2 xs) w):=by
 have hl:=h.len;have q5:∀k j,k+j≤12→((xs.drop k).take j).any bR=false:=by
  intro k j hkj;rw[List.any_eq_false]at hd ⊢;intro y hy;refine hd y ?_;obtain⟨i,hi⟩:=List.getElem?_of_mem hy;rw[List.getElem?_take]at hi
  split at hi
  ·rw[List.getElem?_drop]at hi
   exact List.mem_of_getElem? (i:=k+i) (by rw[List.getElem?_take,if_pos ab];exact hi)
  ·cases hi
 obtain⟨V,hV⟩:∃V,Stamp.told 2 Stamp.year2 xs=V:=⟨_,rfl⟩
 rw[hV];have q4:(if Stamp.right (Stamp.tm 2 Stamp.year2 xs)=true then some (Stamp.tm 2 Stamp.year2 xs) else none)=V:=by
  rw[←hV];unfold Stamp.told
  by_cases hr:Stamp.right (Stamp.tm 2 Stamp.year2 xs)=true
  ·rw[if_pos hr,if_pos ⟨hl,hx,hd,hr⟩]
  ·rw[if_neg hr,if_neg (fun h'=>hr h'.2.2.2)]
 obtain⟨b',o',e,hb,hcell⟩:=h.at_ ab;injection e with e
 injection e with e1 e2
 subst e1 e2;have hc:w.cell? ⟨b,o+12,none⟩=some (.int .u8 90):=hcell 12 90 hx;have yd:=h.cap;have j8:=h.capm;have HX:=hd5 (h.upto 12 ab) hd h q5 q4;have hB:=hb;have yv:∀(fn:Fn) (first cap:Array Value) (w:World),(Instr.makeFunc fn first cap).run Tryz.prog w=.ok (.func fn first cap) w:=fun _ _ _ _=>rfl
 have q2:=hd1 ((aw.new w 22 #[.slice (some ⟨b,o,none⟩) 13 c]).alloc (.cells #[.int .u16 0,.int .u8 0,.int .u8 0,.int .u8 0,.int .u8 0,.int .u8 0] 70));have q7:Hid (aw ((w.alloc (.cells #[.slice (some ⟨b,o,none⟩) 13 c] 22)).alloc (.cells #[.int .u16 0,.int .u8 0,.int .u8 0,.int .u8 0,.int .u8 0,.int .u8 0] 70)) (w.heap.size+1) 70 #[.int .u16 0,.int .u8 0,.int .u8 0,.int .u8 0,.int .u8 0,.int .u8 0]):=hd1 (by have:=aw.new (w.alloc (.cells #[.slice (some ⟨b,o,none⟩) 13 c] 22)) 70 #[.int .u16 0,.int .u8 0,.int .u8 0,.int .u8 0,.int .u8 0,.int .u8 0];simpa using this);clear h hcell hx hd hV q4 q5 hl
 go_enter Tryz.func179,Tryz.ntmps179
 go_wp2_with fail
 refine(ew (some ⟨b,o,none⟩) 12 c (xs.take 12) w.heap.size _ ((HX.1.alloc nl_ _).alloc ag _)).mono ?_;rintro e w' ⟨rfl,rfl⟩;rw[HX.2.1]
 go_wp2_with fail
 refine(jk (some ⟨b,o,none⟩) 13 c xs w.heap.size w.heap.size (w.heap.size+2) 2 0 _ (((HX.2.2.1.alloc nl_ _).alloc ag _).alloc ai _) ab ((q2.out.alloc _).cell 0) ab (by have:=aw.new ((w.alloc (.cells #[.slice (some ⟨b,o,none⟩) 13 c] 22)).alloc (.cells #[.int .u16 0,.int .u8 0,.int .u8 0,.int .u8 0,.int .u8 0,.int .u8 0] 70)) 3 #[.int .i64 0];simpa using this) ab ab ab (HX.2.2.2.1 0 2 ab)).mono ?_;rintro e w1 ⟨rfl,hg1,hs1,hb1⟩;have qk:Stamp.dig ((xs.drop 0).take 2)<100:=by
  have h1:=lK _ (HX.2.2.2.1 0 2 ab);have h2:(10:Nat) ^ ((xs.drop 0).take 2).length≤10 ^ 2:=Nat.pow_le_pow_right ab ai;omega
 obtain⟨Y,hY⟩:∃Y,Stamp.dig ((xs.drop 0).take 2)=Y:=⟨_,rfl⟩
 rw[hY]at qk ⊢;simp only[World.size_alloc]at hs1;have qg:Below w.heap.size w w1:=Below.grown aa hg1 ai (fun k e=>by injection e with e;omega);have c0:aw w1 w.heap.size 22 #[.slice (some ⟨b,o,none⟩) 13 c]:=(q2.out.alloc _).grown hg1 (fun e=>by injection e with e;omega);have c1:aw w1 (w.heap.size+1) 70 #[.int .u16 0,.int .u8 0,.int .u8 0,.int .u8 0,.int .u8 0,.int .u8 0]:=(q7.out.alloc _).grown hg1 (fun e=>by injection e with e;omega);have H1:=hd5 hY qg c0 c1 hb1;clear hY qg c0 c1 hb1 hg1
 go_wp2_with fail
 refine(yK Y qk _).mono ?_;rintro e w2 ⟨rfl,rfl⟩;obtain⟨Z,hZ,hZb⟩:∃Z,(if 50≤Y then 1900+Y else 2000+Y)=Z∧Z<10000:=⟨_,rfl,by split<;>omega⟩
 rw[hZ];have HZ:=hd1 hZ;clear hZ
 go_wp2
 go_loopw [50] (fun i wr=>∃k:Nat,k≤5∧i=.int .i64 k∧oT 2 (Z) (.slice (some ⟨b,o,none⟩) 13 c) xs w k wr) (fun i _=>5 - (intOf i).toNat)
 case atStart=>
  refine⟨0,ab,rfl,?_⟩;have hh:=H1.out;refine⟨by have:=hh.2.1;(repeat (first|exact Below.refl _ _|assumption|(refine Below.setCell ?_ al _)|(refine Below.alloc ?_ al _)|(refine ar ?_ _)|(refine Below.drew ?_))),ai,(hh.2.2.1.alloc _).alloc _,(hh.2.2.2.1.alloc _).alloc _,?_,?_,?_⟩
  ·have:=(hh.2.2.2.2.alloc (.cells #[.int .u16 ((Z:Nat):Int),.int .u8 0,.int .u8 0,.int .u8 0,.int .u8 0,.int .u8 0] 70))
   simpa using this.alloc _
  ·have:=aw.new w2 70 (Stamp.cells (Z) 2 xs 0)
   rw[hs1]at this;exact this.alloc _
  ·have:=aw.new (w2.alloc (.cells (Stamp.cells (Z) 2 xs 0) 70)) 225 #[.pointer (some ⟨w.heap.size+1+1+1,1,none⟩),.pointer (some ⟨w.heap.size+1+1+1,2,none⟩),.pointer (some ⟨w.heap.size+1+1+1,3,none⟩),.pointer (some ⟨w.heap.size+1+1+1,4,none⟩),.pointer (some ⟨w.heap.size+1+1+1,5,none⟩)]
   simp only[World.size_alloc,hs1]at this;exact this
 case round=>
  obtain⟨k,hk,rfl,hI⟩:=hrel;have hs:=hI.size
  by_cases hlt:k<5
  ·have j6:(k:Int)<5:=ab
   have hp:wr.cell? ⟨w.heap.size+1+1+1+1,k,none⟩=some (.pointer (some ⟨w.heap.size+1+1+1,k+1,none⟩)):=by
    rw[hI.b4.cell k];rcases k with _|_|_|_|_|k<;>first|rfl|omega
   have qd:=HX.2.2.2.1 (2+2*k) 2 ab;have q9:=lG qd;have HI:=hd2 hI qd;clear hI qd
   go_wp2_with fail
   refine(jk (some ⟨b,o,none⟩) 13 c xs w.heap.size w.heap.size (w.heap.size+1+1) 2 (2+2*k) _ (HX.2.2.1.below HI.1.bel) ab (HI.1.b0.cell 0) ab HI.1.b2 ab ab ab HI.2).mono ?_;rintro e w3 ⟨rfl,hg3,hs3,hb3⟩;have d3:=HI.1.b3.grown hg3 (fun e=>by injection e with e;omega);have q3:Hid (oT 2 (Z) (.slice (some ⟨b,o,none⟩) 13 c) xs w (k+1) (w3.setCell ⟨w.heap.size+1+1+1,k+1,none⟩ (.int .u8 (Stamp.at2 xs (2+2*k):Int)))):=hd1 (by
    have hI:=HI.1;refine⟨(hI.bel.grown hg3 ab (fun q e=>by injection e with e;omega)).setCell ak _,ai,(hI.b0.grown hg3 (fun e=>by injection e with e;omega)).far ak _,(hI.b1.grown hg3 (fun e=>by injection e with e;omega)).far ak _,?_,?_,(hI.b4.grown hg3 (fun e=>by injection e with e;omega)).far (by show _≠_;dsimp only;omega) _⟩
    ·have:=hb3.far (p:=⟨w.heap.size+1+1+1,k+1,none⟩) ag (.int .u8 (Stamp.at2 xs (2+2*k):Int))
     rwa [show 2+2*(k+1)=2+2*k+2 from by omega]
    ·have:=d3.set_ (k+1) (.int .u8 (Stamp.at2 xs (2+2*k):Int))
     rwa [show(Stamp.cells (Z) 2 xs k).setIfInBounds (k+1) (.int .u8 (Stamp.at2 xs (2+2*k):Int))=Stamp.cells (Z) 2 xs (k+1) from by
      rcases k with _|_|_|_|_|k<;>first|rfl|omega]at this)
   have qc:w3.cell? ⟨w.heap.size+1+1+1,k+1,none⟩=some (.int .u8 0):=by
    rw[d3.cell (k+1)];rcases k with _|_|_|_|_|k<;>first|rfl|omega
   have yh:=d3.frozen (k+1);have hz:Stamp.dig ((xs.drop (2+2*k)).take 2)=Stamp.at2 xs (2+2*k):=rfl;rw[hz];obtain⟨D,hD⟩:∃D,Stamp.at2 xs (2+2*k)=D:=⟨_,rfl⟩
   rw[hD]at q9 q3 ⊢;clear hz hD d3 hb3 hg3 hp
   go_wp2
   go_roundw
   case rel=>exact⟨k+1,ab,by go_num,q3.out⟩
   case measure=>simp[intOf];omega
  ·obtain rfl:k=5:=ab
   have ys:¬((5:Nat):Int)<5:=ab
   have qc:=hI.b3.cell;have k0:wr.cell? ⟨w.heap.size+1+1+1,0,none⟩=some (.int .u16 ((Z:Nat):Int)):=qc 0;have k1:wr.cell? ⟨w.heap.size+1+1+1,1,none⟩=some (.int .u8 (Stamp.at2 xs 2:Int)):=qc 1;have k2:wr.cell? ⟨w.heap.size+1+1+1,2,none⟩=some (.int .u8 (Stamp.at2 xs 4:Int)):=qc 2;have k3:wr.cell? ⟨w.heap.size+1+1+1,3,none⟩=some (.int .u8 (Stamp.at2 xs 6:Int)):=qc 3;have k4:wr.cell? ⟨w.heap.size+1+1+1,4,none⟩=some (.int .u8 (Stamp.at2 xs 8:Int)):=qc 4;have k5:wr.cell? ⟨w.heap.size+1+1+1,5,none⟩=some (.int .u8 (Stamp.at2 xs 10:Int)):=qc 5;have j7:=lG (HX.2.2.2.1 2 2 ab);have q6:Stamp.tm 2 Stamp.year2 xs=⟨Z,Stamp.at2 xs 2,Stamp.at2 xs 4,Stamp.at2 xs 6,Stamp.at2 xs 8,Stamp.at2 xs 10⟩:=by
    unfold Stamp.tm;rw[H1.1,show Stamp.year2 Y=Z from HZ.out]
   have HT:=hd2 q6 hI;clear hI qc q6
   go_wp2_with fail
   refine(nY ⟨Z,Stamp.at2 xs 2,Stamp.at2 xs 4,Stamp.at2 xs 6,Stamp.at2 xs 8,Stamp.at2 xs 10⟩ _ ak (Nat.lt_trans j7 ab)).mono ?_;rintro e w3 ⟨rfl,hb3⟩;rw[←HT.1];have hI:=HT.2;have hV:=HX.2.2.2.2;have qh:=hI.bel.trans (hb3.mono ab);have j0:w3.cell? ⟨w.heap.size+1+1+1,0,none⟩=_:=(hb3.cell (p:=⟨w.heap.size+1+1+1,0,none⟩) ai).trans k0;have j1:w3.cell? ⟨w.heap.size+1+1+1,1,none⟩=_:=(hb3.cell (p:=⟨w.heap.size+1+1+1,1,none⟩) ai).trans k1;have j2:w3.cell? ⟨w.heap.size+1+1+1,2,none⟩=_:=(hb3.cell (p:=⟨w.heap.size+1+1+1,2,none⟩) ai).trans k2;have j3:w3.cell? ⟨w.heap.size+1+1+1,3,none⟩=_:=(hb3.cell (p:=⟨w.heap.size+1+1+1,3,none⟩) ai).trans k3;have j4:w3.cell? ⟨w.heap.size+1+1+1,4,none⟩=_:=(hb3.cell (p:=⟨w.heap.size+1+1+1,4,none⟩) ai).trans k4;have j5:w3.cell? ⟨w.heap.size+1+1+1,5,none⟩=_:=(hb3.cell (p:=⟨w.heap.size+1+1+1,5,none⟩) ai).trans k5;have e1:=hI.b1.below hb3 ab;obtain⟨q0,q1⟩:=e1.facts;have H3:=hd3 qh hV e1;clear hI hV qh hb3 e1
   cases hr:Stamp.right (Stamp.tm 2 Stamp.year2 xs) with
   | false=>
    have HR:=hd1 hr;clear hr
    go_wp2
    have e1:=H3.2.2;have e2:=((((((e1.set_ 0 (.int .u16 0)).set_ 1 (.int .u8 0)).set_ 2 (.int .u8 0)).set_ 3 (.int .u8 0)).set_ 4 (.int .u8 0)).set_ 5 (.int .u8 0))
    have qv:=dI _ _ _ _ _ _ _ _ e2;refine bodyPost_ret (cI rfl _ _ _ _ _ rfl qv) rfl ?_;have qs:=H3.1;exact⟨((((((qs.setCell ak _).setCell ak _).setCell ak _).setCell ak _).setCell ak _).setCell ak _),.inl ⟨by rw[←H3.2.1,HR.out];rfl,rfl⟩⟩
   | true=>
    have HR:=hd1 hr;clear hr
    go_wp2
    have e1:=H3.2.2;have e2:=((((((e1.set_ 0 (.int .u16 ((Z:Nat):Int))).set_ 1 (.int .u8 (Stamp.at2 xs 2:Int))).set_ 2 (.int .u8 (Stamp.at2 xs 4:Int))).set_ 3 (.int .u8 (Stamp.at2 xs 6:Int))).set_ 4 (.int .u8 (Stamp.at2 xs 8:Int))).set_ 5 (.int .u8 (Stamp.at2 xs 10:Int)))
    have qv:=dI _ _ _ _ _ _ _ _ e2;refine bodyPost_ret (cI rfl _ _ _ _ _ rfl qv) rfl ?_;have qs:=H3.1;exact⟨((((((qs.setCell ak _).setCell ak _).setCell ak _).setCell ak _).setCell ak _).setCell ak _),.inr ⟨Stamp.tm 2 Stamp.year2 xs,by rw[←H3.2.1,HR.out];rfl,by rw[HT.1];rfl⟩⟩
theorem wP (A:Option Addr) (m c:Nat) (xs:List UInt8) (w:World) (h:Rd w w.heap.size A m c xs) :
 Calls Tryz.prog 179 #[.slice A m c,.int .i64 2,.func (.func 181) #[] #[]] w (dD (Stamp.told 2 Stamp.year2 xs) w):=by
 by_cases hl:m=13
 ·subst hl
  obtain⟨b,o,rfl,_,_⟩:=h.at_ ab;have qc:=h.len;obtain⟨x,hx⟩:∃x,xs[12]? = some x:=⟨_,List.getElem?_eq_getElem ab⟩
  by_cases hz:x=90
  ·subst hz
   cases hd:(xs.take 12).any bR with
   | true=>exact wQ b o c xs w h hx hd
   | false=>exact uj b o c xs w h hx hd
  ·exact ui b o c x xs w h hx hz
 ·exact wR A m c xs w h hl
end
section
set_option maxRecDepth 100000
theorem qB (A:Option Addr) (m c:Nat) (xs:List UInt8) (w:World) (h:Rd w w.heap.size A m c xs) :
 Calls Tryz.prog 165 #[.slice A m c] w (dD (Stamp.told 4 id xs) w):=by
 have qd:=aw.new w 70 #[.int .u16 0,.int .u8 0,.int .u8 0,.int .u8 0,.int .u8 0,.int .u8 0]
 go_enter Tryz.func165,Tryz.ntmps165
 go_wp2_with fail
 refine(wT A m c xs _ ((h.alloc nl_ _).more ag)).mono ?_;rintro e w1 ⟨hb1,⟨ho,rfl⟩|⟨⟨y,mo,d,hh,mi,s⟩,ho,rfl⟩⟩
 ·simp only[World.size_alloc]at hb1
  have qc:Below w.heap.size w w1:=Below.trans aa (hb1.mono ab);have e1:=qd.below hb1 ab;obtain⟨q0,q1⟩:=e1.facts;have H1:=hd3 ho qc e1;clear ho qc e1 hb1 qd h;dsimp only[Tm.v,Tm.zero]
  go_wp2
  have e2:=((((((H1.2.2.set_ 0 (.int .u16 0)).set_ 1 (.int .u8 0)).set_ 2 (.int .u8 0)).set_ 3 (.int .u8 0)).set_ 4 (.int .u8 0)).set_ 5 (.int .u8 0))
  have qg:=dI _ _ _ _ _ _ _ _ e2;refine bodyPost_ret (cI rfl _ _ _ _ _ rfl qg) rfl ?_;have qc:=H1.2.1;exact⟨((((((qc.setCell ak _).setCell ak _).setCell ak _).setCell ak _).setCell ak _).setCell ak _),.inl ⟨H1.1,rfl⟩⟩
 ·simp only[World.size_alloc]at hb1
  have qc:Below w.heap.size w w1:=Below.trans aa (hb1.mono ab);have e1:=qd.below hb1 ab;obtain⟨q0,q1⟩:=e1.facts;have H1:=hd3 ho qc e1;clear ho qc e1 hb1 qd h;dsimp only[Tm.v]
  go_wp2
  have e2:=((((((H1.2.2.set_ 0 (.int .u16 (y:Int))).set_ 1 (.int .u8 (mo:Int))).set_ 2 (.int .u8 (d:Int))).set_ 3 (.int .u8 (hh:Int))).set_ 4 (.int .u8 (mi:Int))).set_ 5 (.int .u8 (s:Int)))
  have qg:=dI _ _ _ _ _ _ _ _ e2;refine bodyPost_ret (cI rfl _ _ _ _ _ rfl qg) rfl ?_;have qc:=H1.2.1;exact⟨((((((qc.setCell ak _).setCell ak _).setCell ak _).setCell ak _).setCell ak _).setCell ak _),.inr ⟨_,H1.1,rfl⟩⟩
theorem AB (A:Option Addr) (m c:Nat) (xs:List UInt8) (w:World) (h:Rd w w.heap.size A m c xs) :
 Calls Tryz.prog 166 #[.slice A m c] w (dD (Stamp.told 2 Stamp.year2 xs) w):=by
 have qd:=aw.new w 70 #[.int .u16 0,.int .u8 0,.int .u8 0,.int .u8 0,.int .u8 0,.int .u8 0]
 go_enter Tryz.func166,Tryz.ntmps166
 go_wp2_with fail
 refine(wP A m c xs _ ((h.alloc nl_ _).more ag)).mono ?_;rintro e w1 ⟨hb1,⟨ho,rfl⟩|⟨⟨y,mo,d,hh,mi,s⟩,ho,rfl⟩⟩
 ·simp only[World.size_alloc]at hb1
  have qc:Below w.heap.size w w1:=Below.trans aa (hb1.mono ab);have e1:=qd.below hb1 ab;obtain⟨q0,q1⟩:=e1.facts;have H1:=hd3 ho qc e1;clear ho qc e1 hb1 qd h;dsimp only[Tm.v,Tm.zero]
  go_wp2
  have e2:=((((((H1.2.2.set_ 0 (.int .u16 0)).set_ 1 (.int .u8 0)).set_ 2 (.int .u8 0)).set_ 3 (.int .u8 0)).set_ 4 (.int .u8 0)).set_ 5 (.int .u8 0))
  have qg:=dI _ _ _ _ _ _ _ _ e2;refine bodyPost_ret (cI rfl _ _ _ _ _ rfl qg) rfl ?_;have qc:=H1.2.1;exact⟨((((((qc.setCell ak _).setCell ak _).setCell ak _).setCell ak _).setCell ak _).setCell ak _),.inl ⟨H1.1,rfl⟩⟩
 ·simp only[World.size_alloc]at hb1
  have qc:Below w.heap.size w w1:=Below.trans aa (hb1.mono ab);have e1:=qd.below hb1 ab;obtain⟨q0,q1⟩:=e1.facts;have H1:=hd3 ho qc e1;clear ho qc e1 hb1 qd h;dsimp only[Tm.v]
  go_wp2
  have e2:=((((((H1.2.2.set_ 0 (.int .u16 (y:Int))).set_ 1 (.int .u8 (mo:Int))).set_ 2 (.int .u8 (d:Int))).set_ 3 (.int .u8 (hh:Int))).set_ 4 (.int .u8 (mi:Int))).set_ 5 (.int .u8 (s:Int)))
  have qg:=dI _ _ _ _ _ _ _ _ e2;refine bodyPost_ret (cI rfl _ _ _ _ _ rfl qg) rfl ?_;have qc:=H1.2.1;exact⟨((((((qc.setCell ak _).setCell ak _).setCell ak _).setCell ak _).setCell ak _).setCell ak _),.inr ⟨_,H1.1,rfl⟩⟩
end
section
set_option maxRecDepth 100000
def yI (x:Nat):Value:=.int .u16 (x:Int)
def fb:List Nat→List Nat→Bool
 | x::xs,y::ys=>if x=y then fb xs ys else decide (x<y)
 | _,_=>false
theorem pA:∀(xs ys:List Nat) (k:Nat) (x y:Nat),xs.take k=ys.take k→xs[k]? = some x→ys[k]? = some y→x≠y→fb xs ys=decide (x<y)
 | [],_,_,_,_,_,h,_,_=>by simp at h
 | _::_,[],_,_,_,_,_,h,_=>by simp at h
 | a::xs,b::ys,0,x,y,_,hx,hy,hne=>by
  simp at hx hy;subst hx hy;simp[fb,hne]
 | a::xs,b::ys,k+1,x,y,ht,hx,hy,hne=>by
  simp only[List.take_succ_cons,List.cons.injEq]at ht;simp only[List.getElem?_cons_succ]at hx hy;simp only[fb,if_pos ht.1];exact pA xs ys k x y ht.2 hx hy hne
theorem lO:∀xs:List Nat,fb xs xs=false
 | []=>rfl
 | x::xs=>by simp[fb,lO xs]
theorem fE (x:Nat) (w:World):Calls Tryz.prog 193 #[.int .u16 (x:Int)] w fun e w'=>e=.returned (.bool false)∧w'=w:=by
 have hx:((x:Int) != x)=false:=ag
 go_enter Tryz.func193,Tryz.ntmps193
 go_wp2
 go_ret
 exact⟨rfl,rfl⟩
theorem vA (x y:Nat) (w:World):Calls Tryz.prog 182 #[.int .u16 (x:Int),.int .u16 (y:Int)] w fun e w'=>e=.returned (.int .i64 (if x<y then -1 else if y<x then 1 else 0))∧w'=w:=by
 by_cases h1:x<y
 ·rw[if_pos h1]
  have qc:(x:Int)<y:=ab
  go_enter Tryz.func182,Tryz.ntmps182
  go_wp2_with ((first|(refine(fE x _).mono ?_;rintro e w' ⟨rfl,rfl⟩)|(refine(fE y _).mono ?_;rintro e w' ⟨rfl,rfl⟩)))
  go_ret
  exact⟨rfl,rfl⟩
 ·rw[if_neg h1]
  have qc:¬(x:Int)<y:=ab
  by_cases h2:y<x
  ·rw[if_pos h2]
   have qd:(y:Int)<x:=ab
   go_enter Tryz.func182,Tryz.ntmps182
   go_wp2_with ((first|(refine(fE x _).mono ?_;rintro e w' ⟨rfl,rfl⟩)|(refine(fE y _).mono ?_;rintro e w' ⟨rfl,rfl⟩)))
   go_ret
   exact⟨rfl,rfl⟩
  ·rw[if_neg h2]
   have qd:¬(y:Int)<x:=ab
   go_enter Tryz.func182,Tryz.ntmps182
   go_wp2_with ((first|(refine(fE x _).mono ?_;rintro e w' ⟨rfl,rfl⟩)|(refine(fE y _).mono ?_;rintro e w' ⟨rfl,rfl⟩)))
   go_ret
   exact⟨rfl,rfl⟩
theorem kH {w:World} {B n k:Nat} {A:Option Addr} {xs:List Nat} (h:aF w B 1 A n (xs.map yI)) (hl:xs.length=n) (hk:k<n) :
 ∃b o x,A=some ⟨b,o,none⟩∧xs[k]? = some x∧w.cell? ⟨b,o+k,none⟩=some (.int .u16 (x:Int)):=by
 obtain⟨ad,u,e,hb,hx,hc⟩:=h.at_ hk;obtain⟨ad0,u0,e0,_,_,hc0⟩:=h.at_ (k:=0) ab;rw[e]at e0;injection e0 with e0
 subst e0;obtain⟨b,o,s⟩:=ad;obtain rfl:s=none:=by simpa [Addr.add]using World.cell?_spot hc0
 rw[Addr.add_lit]at hc;have qc:k<xs.length:=ab
 refine⟨b,o,xs[k],e,List.getElem?_eq_getElem qc,?_⟩;rw[hc];simp[qc]at hx;rw[←hx]
 rfl
theorem oo (A A':Option Addr) (n c c':Nat) (xs ys:List Nat) (B B':Nat) (w:World) (h:aF w B 1 A n (xs.map yI)) (h':aF w B' 1 A' n (ys.map yI)) (hm:n≤100) :
 Calls Tryz.prog 168 #[.slice A n c,.slice A' n c'] w fun e w'=>w'=w∧∃z:Int,e=.returned (.int .i64 z)∧decide (z<0)=fb xs ys:=by
 have hl:xs.length=n:=by simpa using h.1
 have qd:ys.length=n:=by simpa using h'.1
 have HX:=hd4 h h' hl qd;obtain⟨q,hq⟩:∃q,fb xs ys=q:=⟨_,rfl⟩
 rw[hq];have HQ:=hd1 hq;clear h h' hl qd hq
 go_enter Tryz.func168,Tryz.ntmps168
 go_wp2
 go_loopw [11] (fun i wr=>∃k:Nat,k≤n∧i=.int .i64 k∧wr=w∧xs.take k=ys.take k) (fun i _=>n - (intOf i).toNat)
 case atStart=>exact⟨0,Nat.zero_le _,rfl,rfl,rfl⟩
 case round=>
  obtain⟨k,hk,rfl,rfl,ht⟩:=hrel
  by_cases hlt:k<n
  ·have qh:(k:Int)<n:=ab
   have qg:¬(n:Int)≤k:=ab
   obtain⟨b,o,x,rfl,hx,hc⟩:=kH HX.1 HX.2.2.1 hlt;obtain⟨b',o',y,rfl,hy,hc'⟩:=kH HX.2.1 HX.2.2.2 hlt;have HT:=hd3 ht hx hy;clear ht hx hy
   go_wp2_with fail
   refine(vA x y _).mono ?_;rintro e w' ⟨rfl,rfl⟩
   by_cases hxy:x=y
   ·subst hxy
    rw[if_neg ab,if_neg ab]
    go_wp2
    go_roundw
    case rel=>exact⟨k+1,ab,by go_num,trivial,by rw[List.take_add_one,List.take_add_one,HT.1,HT.2.1,HT.2.2]⟩
    case measure=>simp[intOf];omega
   ·have qc:=pA xs ys k x y HT.1 HT.2.1 HT.2.2 hxy
    have HA:=hd1 (qc.symm.trans HQ.out);clear qc
    by_cases hlt2:x<y
    ·rw[if_pos hlt2]
     go_wp2
     go_ret
     exact⟨rfl,-1,rfl,by rw[←HA.out];simp[hlt2]⟩
    ·rw[if_neg hlt2,if_pos ab]
     go_wp2
     go_ret
     exact⟨rfl,1,rfl,by rw[←HA.out];simp[hlt2]⟩
  ·obtain rfl:n=k:=ab
   have qk:¬(n:Int)<n:=ab
   have HT:=hd1 ht;clear ht
   go_wp2
   go_ret
   have e:=HT.out;rw[List.take_of_length_le (by have:=HX.2.2.1;omega),List.take_of_length_le (by have:=HX.2.2.2;omega)]at e;subst e;exact⟨rfl,0,rfl,by rw[←HQ.out,lO];rfl⟩
end
section
set_option maxRecDepth 100000
def Tm.parts (t:Tm):List Nat:=[t.y,t.mo,t.d,t.h,t.mi,t.s]
theorem ym (w:World) (b:Nat) (v0 v1 v2 v3 v4 v5:Value) (h:aw w b 209 #[v0,v1,v2,v3,v4,v5]):(loadVar 209 ⟨b,0,none⟩).run Tryz.prog w=.ok (.agg #[v0,v1,v2,v3,v4,v5]) w:=by
 obtain⟨k,_⟩:=h.facts;have k0:=k 0;have k1:=k 1;have k2:=k 2;have k3:=k 3;have k4:=k 4;have k5:=k 5;simp only[List.getElem?_toArray,List.getElem?_cons_zero,List.getElem?_cons_succ]at k0 k1 k2 k3 k4 k5;clear k h;simp[go_sem,k0,k1,k2,k3,k4,k5]
theorem me (y mo d h mi s:Nat) (hmo:mo<256) (hd:d<256) (hh:h<256) (hmi:mi<256) (hs:s<256) (w:World) :
 Calls Tryz.prog 167 #[.agg #[.int .u16 (y:Int),.int .u8 (mo:Int),.int .u8 (d:Int),.int .u8 (h:Int),.int .u8 (mi:Int),.int .u8 (s:Int)]] w fun e w'=>e=.returned (.agg #[.int .u16 (y:Int),.int .u16 (mo:Int),.int .u16 (d:Int),.int .u16 (h:Int),.int .u16 (mi:Int),.int .u16 (s:Int)])∧w'=(w.alloc (.cells #[.int .u16 (y:Int),.int .u8 (mo:Int),.int .u8 (d:Int),.int .u8 (h:Int),.int .u8 (mi:Int),.int .u8 (s:Int)] 70)).alloc (.cells #[.int .u16 (y:Int),.int .u16 (mo:Int),.int .u16 (d:Int),.int .u16 (h:Int),.int .u16 (mi:Int),.int .u16 (s:Int)] 209):=by
 go_enter Tryz.func167,Tryz.ntmps167
 go_wp2
 have hb:∀W:World,W.heap.size=w.heap.size+1→aw (W.alloc (.cells #[.int .u16 (y:Int),.int .u16 (mo:Int),.int .u16 (d:Int),.int .u16 (h:Int),.int .u16 (mi:Int),.int .u16 (s:Int)] 209)) (w.heap.size+1) 209 #[.int .u16 (y:Int),.int .u16 (mo:Int),.int .u16 (d:Int),.int .u16 (h:Int),.int .u16 (mi:Int),.int .u16 (s:Int)]:=fun W hW=>by rw[←hW];exact aw.new _ _ _
 have qc:=ym _ _ _ _ _ _ _ _ (hb (w.alloc (.cells #[.int .u16 (y:Int),.int .u8 (mo:Int),.int .u8 (d:Int),.int .u8 (h:Int),.int .u8 (mi:Int),.int .u8 (s:Int)] 70)) ag);refine bodyPost_ret (gY rfl _ _ _ _ _ rfl qc) rfl ?_;exact⟨rfl,rfl⟩
end
end
end Go.Proofs.YtmpkpphfoidbeaaGreatDoor
