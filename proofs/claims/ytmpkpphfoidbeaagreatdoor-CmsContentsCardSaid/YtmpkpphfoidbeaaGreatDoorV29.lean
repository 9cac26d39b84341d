import Derived.Test.YtmpkpphfoidbeaaGreatDoorV28
set_option linter.unusedVariables false
set_option linter.unusedSimpArgs false
set_option maxRecDepth 100000
namespace Go.Proofs.YtmpkpphfoidbeaaGreatDoor
open Go.RowKit
theorem yn {w:World} {ad:Addr} {v:Value} (h:w.cell? ad=some v):(loadVar 5 ad).run Tryz.prog w=.ok v w:=by simp[go_sem,h]
theorem nQ {w:World} {ad:Addr} {v:Value} (h:w.cell? ad=some v):(loadVar 9 ad).run Tryz.prog w=.ok v w:=by simp[go_sem,h]
theorem lP {w:World} {ad:Addr} {v:Value} (h:w.cell? ad=some v):(loadVar 4 ad).run Tryz.prog w=.ok v w:=by simp[go_sem,h]
theorem nP {w:World} {ad:Addr} {v:Value} (h:w.cell? ad=some v):(loadVar 3 ad).run Tryz.prog w=.ok v w:=by simp[go_sem,h]
theorem wG (w:World) (A1 A2 A3 A4:Option Addr) (n1 c1 n2 c2 n3 c3 n4 c4:Nat) (a b:Tm) (e:Int) :
 (Instr.build 72 #[(4,.slice A3 n3 c3),(2,.slice A1 n1 c1),(3,.slice A2 n2 c2),(5,a.v),(6,b.v),(7,.agg #[.slice A4 n4 c4,.int .u64 e]),(9,.bool true),(10,.int .i64 (-1)),(11,.int .i64 (-1)),(12,.bool true)]).run Tryz.prog w =
  .ok (.agg #[.slice none 0 0,.slice none 0 0,.slice A1 n1 c1,.slice A2 n2 c2,.slice A3 n3 c3,.int .u16 (a.y:Int),.int .u8 (a.mo:Int),.int .u8 (a.d:Int),.int .u8 (a.h:Int),.int .u8 (a.mi:Int),.int .u8 (a.s:Int),
   .int .u16 (b.y:Int),.int .u8 (b.mo:Int),.int .u8 (b.d:Int),.int .u8 (b.h:Int),.int .u8 (b.mi:Int),.int .u8 (b.s:Int),.slice A4 n4 c4,.int .u64 e,.slice none 0 0,.bool true,.int .i64 (-1),.int .i64 (-1),.bool true]) w:=by
 unfold Tm.v;simp[go_sem]
theorem nA {op:Oper} {a:Act} {w:World} {K:Act→World→Prop} {Q:Exit→Act→World→Prop} (x y:Operand) (ho:op.op=.store 72 x y)
 (gc:Nat) (C D:CV) (hx:a.eval x=.pointer (some ⟨gc,0,none⟩)) (hy:a.eval y=.agg D.cells) (hB:Bc w gc C) (hD:∀v∈D.cells.toList,v.oneCell'=true)
 (h:∀w',Bc w' gc D→w.grownBy w' (some gc)→K (a.put op.dst undef) w'):op.wp Tryz.prog a w K Q:=by
 unfold Oper.wp execOp;simp only[ho,hx,hy,Instr.storeAt,Instr.sureAddr,Sem.run_bind,Sem.run_pure,Result.andThen_ok,jW hB D hD];exact h _ (setRow_blk hB).1 (setRow_blk hB).2
theorem rU {w w':World} {v:Value} {xs:List UInt8} {g:Nat} {t:TypeId} {cs:Array Value} (h:aE w v xs) (hg:w.grownBy w' (some g)) (hb:aw w g t cs) (ht:t≠5):aE w' v xs:=
 h.keep hg.size fun q cs' fr hq=>hg.block q (Array.getElem?_eq_some_iff.1 hq).1 fun e=>by
  injection e with e
  subst e;rw[show w.heap[q]? = some (Obj.cells cs t (0,0)) from hb]at hq;injection hq with hq
  injection hq with _ hq
  exact absurd hq ht
theorem qx {ops:Array Oper} {rest:List Oper} {op:Oper} {a:Act} {w:World} {Q:Exit→Act→World→Prop} (hgd:op.guard=none) (x:Operand) (ho:op.op=.move x) (h:wpList Tryz.prog ops Q rest (a.put op.dst (a.eval x)) w):wpList Tryz.prog ops Q (op::rest) a w:=
 wpList_plain hgd fun K hK=>nz ho (hK _ _ h)
section
variable {o : Oper} {a : Act} {w : World} {Q : Exit → Act → World → Prop} {J : Value → World → Prop} {B : Nat}
theorem AU (ho:o.op=.alloc 72) (hd:o.dst≠none) (hB:B≤w.heap.size) (hJ:∀g w',B≤g→Bc w' g CV.zero→J (.pointer (some ⟨g,0,none⟩)) w'):o.wp Tryz.prog a w (KK a o J (KU B) w) Q:=by
 have hr:(Instr.alloc 72 true (.tuple #[])).run Tryz.prog w=.ok (.pointer (some ⟨w.heap.size,0,none⟩)) (w.alloc (.cells CV.zero.cells 72)):=by
  simp[go_sem]
  try rfl
 exact eZ (by simp only[execOp,ho];simp[hr]) ⟨_,rfl,fun h=>absurd h hd,hJ _ _ hB (aw.new w _ _),KU.below (br_.alloc nl_ _) hB⟩
theorem BI {x:Operand} (ho:o.op=.buildSlice 22 2 #[(0,.const (.int .u8 1)),(1,x)]) (hd:o.dst≠none) (hx:a.eval x=.int .u8 0) (hB:B≤w.heap.size) (hJ:∀v w',aE w' v [1,0]→J v w'):o.wp Tryz.prog a w (KK a o J (KU B) w) Q:=by
 obtain⟨i0,hi0,hz0,hz1,hz2⟩:=info_parts eG;have hR:aE (w.alloc (.cells #[.int .u8 1,.int .u8 0] 5)) (.slice (some ⟨w.heap.size,0,none⟩) 2 2) [1,0]:=aE.own ((az.lit w [1,0] [.int .u8 1,.int .u8 0] 2 rfl rfl ab).mono nl_ ag);refine wp_buildSlice 22 5 2 _ ho #[.int .u8 1,.int .u8 0] i0 _ Tryz.underlying22 hi0 hz0 (by rw[hz1];omega) (by rw[hz1];omega) ?_ ⟨_,rfl,fun h=>absurd h hd,hJ _ _ hR,KU.below (br_.alloc nl_ _) hB⟩;rw[hz1];simp only[List.map_toArray,List.map_cons,List.map_nil,hx];exact Great.fill_flat [Value.int .u8 1,Value.int .u8 0] _ (by intro v hv;simp only[List.mem_cons,List.not_mem_nil,or_false]at hv;rcases hv with rfl|rfl<;>rfl) ag
end
def dU (s:List UInt8):List Value:=[.string ⟨s.toArray⟩,.int .u8 0,.bool true,.bool true,.int .i64 (-1),.int .i64 (-1)]
def o8 (w:World) (A:Option Addr) (n c:Nat) (names:List (List UInt8)):Prop:=kw 6 dU (fun _=>[]) w A n c names
def uD (B b p g7:Nat) (va vkey vn:Value) (i ke:Nat) (iss sub:List UInt8) (k:Nat) (v:Value) (w:World):Prop:=
 match k with
 | 0=>v=va
 | 1=>v=.int .i64 (i:Int)
 | 2=>v=.pointer (some ⟨b,p,none⟩)
 | 3=>v=.pointer (some ⟨b,p+1,none⟩)
 | 4=>v=.int .u8 0
 | 5=>aE w v [1,0]
 | 6=>v=.pointer (some ⟨g7,0,none⟩)
 | 7=>v=.string ⟨iss.toArray⟩
 | 8=>aE w v (Ref.name iss)
 | 9=>v=va
 | 10=>v=.int .i64 (i:Int)
 | 11=>v=.pointer (some ⟨b,p,none⟩)
 | 12=>v=.pointer (some ⟨b,p,none⟩)
 | 13=>v=.string ⟨sub.toArray⟩
 | 14=>aE w v (Ref.name sub)
 | 15=>v=(⟨2020,1,1,0,0,0⟩:Tm).v
 | 16=>v=(⟨2060,1,1,0,0,0⟩:Tm).v
 | 17=>v=vkey
 | 18=>v=va
 | 19=>v=.int .i64 (i:Int)
 | 20=>v=.pointer (some ⟨b,p,none⟩)
 | 21=>v=.pointer (some ⟨b,p+2,none⟩)
 | 22=>v=.bool true
 | 23=>v=va
 | 24=>v=.int .i64 (i:Int)
 | 25=>v=.pointer (some ⟨b,p,none⟩)
 | 26=>v=.pointer (some ⟨b,p+4,none⟩)
 | 27=>v=.int .i64 (-1)
 | 28=>v=va
 | 29=>v=.int .i64 (i:Int)
 | 30=>v=.pointer (some ⟨b,p,none⟩)
 | 31=>v=.pointer (some ⟨b,p+5,none⟩)
 | 32=>v=.int .i64 (-1)
 | 33=>v=va
 | 34=>v=.int .i64 (i:Int)
 | 35=>v=.pointer (some ⟨b,p,none⟩)
 | 36=>v=.pointer (some ⟨b,p+3,none⟩)
 | 37=>v=.bool true
 | 38=>∃vi vs vr,v=(⟨.slice none 0 0,.slice none 0 0,vi,vs,vr,⟨2020,1,1,0,0,0⟩,⟨2060,1,1,0,0,0⟩,vn,ke,.slice none 0 0,⟨true,-1,-1,true⟩⟩:CV).val∧aE w vi (Ref.name iss)∧aE w vs (Ref.name sub)∧aE w vr [1,0]
 | _=>∃g,v=.pointer (some ⟨g,0,none⟩)∧B≤g∧Bc w g CV.zero
theorem uD.up {B b p g7:Nat} {va vkey vn:Value} {i ke:Nat} {iss sub:List UInt8} (k:Nat) (v:Value) (w w':World) (hR:KU B w w') (h:uD B b p g7 va vkey vn i ke iss sub k v w):uD B b p g7 va vkey vn i ke iss sub k v w':=by
 match k,h with
 | 0,h|1,h|2,h|3,h|4,h|6,h|7,h|9,h|10,h|11,h|12,h|13,h|15,h|16,h|17,h|18,h|19,h|20,h|21,h|22,h|23,h|24,h|25,h|26,h|27,h|28,h|29,h|30,h|31,h|32,h|33,h|34,h|35,h|36,h|37,h=>exact h
 | 5,h|8,h|14,h=>exact hR.rdt h
 | 38,⟨vi,vs,vr,e,h1,h2,h3⟩=>exact⟨vi,vs,vr,e,hR.rdt h1,hR.rdt h2,hR.rdt h3⟩
 | _+39,⟨g,e,h1,h2⟩=>exact⟨g,e,h1,hR.blk h2 aj⟩
def yZ (names:List (List UInt8)) (k0:List UInt8×Nat) (w:World) (e:Ending) (w':World):Prop:=
 ∃v L,e=.returned v∧iV w' w.heap.size w'.heap.size v L∧L.map KI.d=(List.range names.length).map (fun i=>Lad.d (Lad.kase names k0 i))∧(∀y∈L,y.ok)∧Below w.heap.size w w'
set_option maxHeartbeats 16000000 in
theorem qG (names:List (List UInt8)) (k0:List UInt8×Nat) (A An:Option Addr) (n c nn cn:Nat) (w:World) (h:o8 w A n c names) (hk:aE w (.slice An nn cn) k0.1) (hg:Lad.Good k0) (hn:n≤10) (hl:∀s∈names,s.length≤200) :
 Calls Tryz.prog 33 #[.slice A n c,.agg #[.slice An nn cn,.int .u64 (k0.2:Int)]] w (yZ names k0 w):=by
 obtain⟨w1,hw1⟩:∃W,W=w.alloc (.cells #[.slice An nn cn,.int .u64 (k0.2:Int)] 67):=⟨_,rfl⟩
 have z6:Below w.heap.size w w1:=by rw[hw1];exact aB w _
 have hK:aw w1 w.heap.size 67 #[.slice An nn cn,.int .u64 (k0.2:Int)]:=by rw[hw1];exact aw.new w _ _
 have m3:w1.heap.size=w.heap.size+1:=by rw[hw1];simp
 have zz:=h.len;have H0:=hd1 h;have H1:=hd7 z6 hK (h.up z6) (hk.below z6) hg hl zz;clear z6 hK h hk hg hl zz
 go_enter Tryz.func33,Tryz.ntmps33
 go_upto_region 2 with fail
 rw[←hw1];clear hw1
 go_wp2_with fail
 go_loopw [5,6] (fun ov iv wr=>∃(i:Nat) (v:Value) (L:List KI) (Ak:Option Addr) (nk ck:Nat),i≤n∧iv=.int .i64 (i:Int)∧ov=v∧iV wr w1.heap.size wr.heap.size v L∧L.map KI.d=(List.range i).map (fun j=>Lad.d (Lad.kase names k0 j))∧(∀y∈L,y.ok)∧
  aw wr w.heap.size 67 #[.slice Ak nk ck,.int .u64 (((Lad.key names k0 i).2:Nat):Int)]∧aE wr (.slice Ak nk ck) (Lad.key names k0 i).1∧Below w.heap.size w wr∧o8 wr A n c names∧w1.heap.size≤wr.heap.size) (fun _ iv _=>n - (intOf iv).toNat)
 case atStart=>exact⟨0,_,[],An,nn,cn,Nat.zero_le _,rfl,rfl,bA.nil_,rfl,(fun y hy=>by simp at hy),H1.2.1,H1.2.2.2.1,H1.1,H1.2.2.1,Nat.le_refl _⟩
 case round=>
  obtain⟨i,v,L,An,nn,cn,hi,rfl,rfl,hO,hL,hok,hKb,hkr,hb,hR,hsz⟩:=hrel;obtain⟨Av,cv,rfl,rv⟩:=hO.rd;have yy:L.length=i:=by have:=congrArg List.length hL;simpa using this
  rw[yy]at rv ⊢
  by_cases hlt:i<n
  ·have qk:(i:Int)<(n:Int):=ab
   obtain⟨m,hm⟩:∃m,min (i+1) (n - 1)=m:=⟨_,rfl⟩
   have p7:m<n:=ab
   have m1:(m:Int)<(n:Int):=ab
   have p6:min ((i:Int)+1) ((n:Int) - 1)=(m:Int):=ab
   obtain⟨b,o,sub,rfl,hbl,hsub,hcs,_⟩:=hR.at_ (fun _=>rfl) hlt;obtain⟨b',o',iss,e',_,hiss,hci,_⟩:=hR.at_ (fun _=>rfl) p7;injection e' with e'
   injection e' with e1 e2
   subst e1 e2;have j0:(Lad.isub names i).2=sub:=by show names.getD i []=sub;rw[List.getD_eq_getElem?_getD,hsub];rfl
   have q7:(Lad.isub names i).1=iss:=by show names.getD (min (i+1) (names.length - 1)) []=iss;rw[H1.2.2.2.2.2.2,hm,List.getD_eq_getElem?_getD,hiss];rfl
   have v1:sub.length≤200:=H1.2.2.2.2.2.1 _ (List.mem_of_getElem? hsub);have v0:iss.length≤200:=H1.2.2.2.2.2.1 _ (List.mem_of_getElem? hiss);have kc:=hci 0 _ rfl;have k6:=hci 1 _ rfl;have pa:=hci 2 _ rfl;have pb:=hci 3 _ rfl;have ps:=hci 4 _ rfl;have pv:=hci 5 _ rfl;rw[Nat.add_zero]at kc;have HR:=hd10 hO hL hok hKb hkr hb hR hcs j0 q7;clear hO hL hok hKb hkr hb hR hcs hci j0 q7 hsub hiss rv;have y7:∃W,W=wr.alloc (.cells #[.string ⟨iss.toArray⟩,.int .u8 0,.bool true,.bool true,.int .i64 (-1),.int .i64 (-1)] 62):=⟨_,rfl⟩
   obtain⟨w2,hw2⟩:=y7
   go_upto_region 5 with fail
   go_cut [7] from 11 to 92 (fun s7 wx=>s7=.pointer (some ⟨wr.heap.size,0,none⟩)∧wx=w2)
   case first=>
    by_cases hla:i+1<n
    ·obtain rfl:m=i+1:=ab
     have vw:(i:Int)+1≤(n:Int) - 1:=ab
     go_wp2_with fail
     go_meet
     case rel=>exact⟨rfl,hw2.symm⟩
    ·have vw:¬((i:Int)+1≤(n:Int) - 1):=ab
     have m2:(n:Int) - 1=(i:Int):=ab
     obtain rfl:m=i:=ab
     go_wp2_with fail
     go_meet
     case rel=>exact⟨rfl,hw2.symm⟩
   case rest=>
    obtain⟨rfl,rfl⟩:=hcut;have m4:wc.heap.size=wr.heap.size+1:=by rw[hw2];simp
    obtain⟨w2,hwc⟩:∃W,W=wc:=⟨_,rfl⟩
    subst hwc;obtain⟨g7,hg7⟩:∃g,wr.heap.size=g:=⟨_,rfl⟩
    have b2:Below wr.heap.size wr w2:=by rw[hw2];exact aB wr _
    have B7:aw w2 wr.heap.size 62 #[.string ⟨iss.toArray⟩,.int .u8 0,.bool true,.bool true,.int .i64 (-1),.int .i64 (-1)]:=by rw[hw2];exact aw.new wr _ _
    rw[hg7]at B7 ⊢;obtain⟨ke,q9⟩:∃e,(Lad.key names k0 i).2=e:=⟨_,rfl⟩
    obtain⟨kn,hkn⟩:∃e,(Lad.key names k0 i).1=e:=⟨_,rfl⟩
    have p3:=Lad.key_good (names:=names) H1.2.2.2.2.1 i;have vp:=HR.2.2.2.1;have vt:=HR.2.2.2.2.1;have z1:Lad.pre names k0 i=Lad.kase0 iss sub kn ke []:=by unfold Lad.pre;rw[HR.2.2.2.2.2.2.2.2.1,HR.2.2.2.2.2.2.2.2.2,hkn,q9]
    have zs:Lad.kase names k0 i=Lad.kase0 iss sub kn ke (Lad.sig names k0 i):=by unfold Lad.kase;rw[HR.2.2.2.2.2.2.2.2.1,HR.2.2.2.2.2.2.2.2.2,hkn,q9]
    rw[q9]at vp;rw[hkn]at vt;obtain⟨hg1,hg2,hg3⟩:=p3;rw[hkn]at hg1 hg2;rw[q9]at hg3;have hk:∀V,Below w2.heap.size w2 V→(∀j v,(dU sub)[j]? = some v→V.cell? ⟨b,o+i*6+j,none⟩=some v)∧aw V g7 62 #[.string ⟨iss.toArray⟩,.int .u8 0,.bool true,.bool true,.int .i64 (-1),.int .i64 (-1)]∧aw V w.heap.size 67 #[.slice An nn cn,.int .u64 (ke:Int)]:=fun V hV=>
     ⟨fun j v hv=>((b2.trans (hV.mono ab)).cell (p:=⟨b,o+i*6+j,none⟩) hbl).trans (HR.2.2.2.2.2.2.2.1 j v hv),B7.below hV ab,(vp.below b2 ab).below hV ab⟩
    have HK:=hd1 hk;have HX:=hd9 hg1 hg2 hg3 z1 zs (vt.below b2) b2 q9 hkn;clear hk hw2 b2 B7 vp vt z1 zs hg1 hg2 hg3 q9 hkn kc k6 pa pb ps pv
    go_upto_region 6 with fail
    refine iw (uD w2.heap.size b (o+i*6) g7 (.slice (some ⟨b,o,none⟩) n c) (.agg #[.slice An nn cn,.int .u64 (ke:Int)]) (.slice An nn cn) i ke iss sub) (fun V=>Below w2.heap.size w2 V) (KU w2.heap.size) rfl (KU.refl _) uD.up (fun _ _ h h'=>h.trans h'.1) (by show bp _ 94=true;decide +kernel) ac _ rfl rfl ac br_.drew ⟨?_,?_,?_,?_,?_,?_,?_,?_,?_,?_,?_,?_,?_,?_,?_,?_,?_,?_,?_,?_,?_,?_,?_,?_,?_,?_,?_,?_,?_,?_,?_,?_,?_,?_,?_,?_,?_,?_,?_,?_,trivial⟩ ?_
    ·refine aA.run rfl ?_;intro a' V hfr hG hdep;exact di rfl ag (hfr 0 ac)
    ·refine aA.run rfl ?_;intro a' V hfr hG hdep;exact di rfl ag (hfr 6 ac)
    ·refine aA.run rfl ?_;intro a' V hfr hG hdep
     have d1:a'.eval (.tmp 26)=.slice (some ⟨b,o,none⟩) n c:=hdep 0 ac;have d2:a'.eval (.tmp 27)=.int .i64 (i:Int):=hdep 1 ac;exact cH (v:=.pointer (some ⟨b,o+i*6,none⟩)) (by simp only[execOp,d1,d2];simp[go_sem,Act.eval,hlt,qk]) ag rfl
    ·refine aA.run rfl ?_;intro a' V hfr hG hdep
     have d:a'.eval (.tmp 28)=.pointer (some ⟨b,o+i*6,none⟩):=hdep 2 ac;exact cH (v:=.pointer (some ⟨b,o+i*6+1,none⟩)) (by simp only[execOp,d];simp[go_sem,Act.eval]) ag rfl
    ·refine aA.run rfl ?_;intro a' V hfr hG hdep
     have d:a'.eval (.tmp 29)=.pointer (some ⟨b,o+i*6+1,none⟩):=hdep 3 ac;exact dt rfl ag d (yn ((HK.out V hG).1 1 _ rfl)) rfl
    ·refine aA.run rfl ?_;intro a' V hfr hG hdep
     have d:a'.eval (.tmp 30)=.int .u8 0:=hdep 4 ac;exact BI rfl ag d hG.size (fun v w' h=>h)
    ·refine aA.run rfl ?_;intro a' V hfr hG hdep
     have d:a'.eval (.tmp 7)=.pointer (some ⟨g7,0,none⟩):=hfr 7 ac;exact cH (v:=.pointer (some ⟨g7,0,none⟩)) (by simp only[execOp,d];simp[go_sem,Act.eval]) ag rfl
    ·refine aA.run rfl ?_;intro a' V hfr hG hdep
     have d:a'.eval (.tmp 32)=.pointer (some ⟨g7,0,none⟩):=hdep 6 ac;exact dt rfl ag d (nQ ((HK.out V hG).2.1.cell 0)) rfl
    ·refine aA.run rfl ?_;intro a' V hfr hG hdep
     have d:a'.eval (.tmp 33)=.string ⟨iss.toArray⟩:=hdep 7 ac;refine bV ag rfl Tryz.func64 rfl aj (args:=#[.string ⟨iss.toArray⟩]) (by simp only[List.map_toArray,List.map_cons,List.map_nil,d]) (pJ iss V ab) ?_;rintro e w' ⟨A',n',c',rfl,ho',hb'⟩;exact⟨_,rfl,aE.own ho',KU.below hb' hG.size⟩
    ·refine aA.run rfl ?_;intro a' V hfr hG hdep;exact di rfl ag (hfr 0 ac)
    ·refine aA.run rfl ?_;intro a' V hfr hG hdep;exact di rfl ag (hfr 6 ac)
    ·refine aA.run rfl ?_;intro a' V hfr hG hdep
     have d1:a'.eval (.tmp 35)=.slice (some ⟨b,o,none⟩) n c:=hdep 9 ac;have d2:a'.eval (.tmp 36)=.int .i64 (i:Int):=hdep 10 ac;exact cH (v:=.pointer (some ⟨b,o+i*6,none⟩)) (by simp only[execOp,d1,d2];simp[go_sem,Act.eval,hlt,qk]) ag rfl
    ·refine aA.run rfl ?_;intro a' V hfr hG hdep
     have d:a'.eval (.tmp 37)=.pointer (some ⟨b,o+i*6,none⟩):=hdep 11 ac;exact cH (v:=.pointer (some ⟨b,o+i*6,none⟩)) (by simp only[execOp,d];simp[go_sem,Act.eval]) ag rfl
    ·refine aA.run rfl ?_;intro a' V hfr hG hdep
     have d:a'.eval (.tmp 38)=.pointer (some ⟨b,o+i*6,none⟩):=hdep 12 ac;exact dt rfl ag d (nQ ((HK.out V hG).1 0 _ rfl)) rfl
    ·refine aA.run rfl ?_;intro a' V hfr hG hdep
     have d:a'.eval (.tmp 39)=.string ⟨sub.toArray⟩:=hdep 13 ac;refine bV ag rfl Tryz.func64 rfl aj (args:=#[.string ⟨sub.toArray⟩]) (by simp only[List.map_toArray,List.map_cons,List.map_nil,d]) (pJ sub V ab) ?_;rintro e w' ⟨A',n',c',rfl,ho',hb'⟩;exact⟨_,rfl,aE.own ho',KU.below hb' hG.size⟩
    ·refine aA.run rfl ?_;intro a' V hfr hG hdep;exact cH (v:=(⟨2020,1,1,0,0,0⟩:Tm).v) (by simp only[execOp];simp[go_sem,Tm.v]) ag rfl
    ·refine aA.run rfl ?_;intro a' V hfr hG hdep;exact cH (v:=(⟨2060,1,1,0,0,0⟩:Tm).v) (by simp only[execOp];simp[go_sem,Tm.v]) ag rfl
    ·refine aA.run rfl ?_;intro a' V hfr hG hdep;exact dt rfl ag (hfr 3 ac) (pC (HK.out V hG).2.2) rfl
    ·refine aA.run rfl ?_;intro a' V hfr hG hdep;exact di rfl ag (hfr 0 ac)
    ·refine aA.run rfl ?_;intro a' V hfr hG hdep;exact di rfl ag (hfr 6 ac)
    ·refine aA.run rfl ?_;intro a' V hfr hG hdep
     have d1:a'.eval (.tmp 44)=.slice (some ⟨b,o,none⟩) n c:=hdep 18 ac;have d2:a'.eval (.tmp 45)=.int .i64 (i:Int):=hdep 19 ac;exact cH (v:=.pointer (some ⟨b,o+i*6,none⟩)) (by simp only[execOp,d1,d2];simp[go_sem,Act.eval,hlt,qk]) ag rfl
    ·refine aA.run rfl ?_;intro a' V hfr hG hdep
     have d:a'.eval (.tmp 46)=.pointer (some ⟨b,o+i*6,none⟩):=hdep 20 ac;exact cH (v:=.pointer (some ⟨b,o+i*6+2,none⟩)) (by simp only[execOp,d];simp[go_sem,Act.eval]) ag rfl
    ·refine aA.run rfl ?_;intro a' V hfr hG hdep
     have d:a'.eval (.tmp 47)=.pointer (some ⟨b,o+i*6+2,none⟩):=hdep 21 ac;exact dt rfl ag d (lP ((HK.out V hG).1 2 _ rfl)) rfl
    ·refine aA.run rfl ?_;intro a' V hfr hG hdep;exact di rfl ag (hfr 0 ac)
    ·refine aA.run rfl ?_;intro a' V hfr hG hdep;exact di rfl ag (hfr 6 ac)
    ·refine aA.run rfl ?_;intro a' V hfr hG hdep
     have d1:a'.eval (.tmp 49)=.slice (some ⟨b,o,none⟩) n c:=hdep 23 ac;have d2:a'.eval (.tmp 50)=.int .i64 (i:Int):=hdep 24 ac;exact cH (v:=.pointer (some ⟨b,o+i*6,none⟩)) (by simp only[execOp,d1,d2];simp[go_sem,Act.eval,hlt,qk]) ag rfl
    ·refine aA.run rfl ?_;intro a' V hfr hG hdep
     have d:a'.eval (.tmp 51)=.pointer (some ⟨b,o+i*6,none⟩):=hdep 25 ac;exact cH (v:=.pointer (some ⟨b,o+i*6+4,none⟩)) (by simp only[execOp,d];simp[go_sem,Act.eval]) ag rfl
    ·refine aA.run rfl ?_;intro a' V hfr hG hdep
     have d:a'.eval (.tmp 52)=.pointer (some ⟨b,o+i*6+4,none⟩):=hdep 26 ac;exact dt rfl ag d (nP ((HK.out V hG).1 4 _ rfl)) rfl
    ·refine aA.run rfl ?_;intro a' V hfr hG hdep;exact di rfl ag (hfr 0 ac)
    ·refine aA.run rfl ?_;intro a' V hfr hG hdep;exact di rfl ag (hfr 6 ac)
    ·refine aA.run rfl ?_;intro a' V hfr hG hdep
     have d1:a'.eval (.tmp 54)=.slice (some ⟨b,o,none⟩) n c:=hdep 28 ac;have d2:a'.eval (.tmp 55)=.int .i64 (i:Int):=hdep 29 ac;exact cH (v:=.pointer (some ⟨b,o+i*6,none⟩)) (by simp only[execOp,d1,d2];simp[go_sem,Act.eval,hlt,qk]) ag rfl
    ·refine aA.run rfl ?_;intro a' V hfr hG hdep
     have d:a'.eval (.tmp 56)=.pointer (some ⟨b,o+i*6,none⟩):=hdep 30 ac;exact cH (v:=.pointer (some ⟨b,o+i*6+5,none⟩)) (by simp only[execOp,d];simp[go_sem,Act.eval]) ag rfl
    ·refine aA.run rfl ?_;intro a' V hfr hG hdep
     have d:a'.eval (.tmp 57)=.pointer (some ⟨b,o+i*6+5,none⟩):=hdep 31 ac;exact dt rfl ag d (nP ((HK.out V hG).1 5 _ rfl)) rfl
    ·refine aA.run rfl ?_;intro a' V hfr hG hdep;exact di rfl ag (hfr 0 ac)
    ·refine aA.run rfl ?_;intro a' V hfr hG hdep;exact di rfl ag (hfr 6 ac)
    ·refine aA.run rfl ?_;intro a' V hfr hG hdep
     have d1:a'.eval (.tmp 59)=.slice (some ⟨b,o,none⟩) n c:=hdep 33 ac;have d2:a'.eval (.tmp 60)=.int .i64 (i:Int):=hdep 34 ac;exact cH (v:=.pointer (some ⟨b,o+i*6,none⟩)) (by simp only[execOp,d1,d2];simp[go_sem,Act.eval,hlt,qk]) ag rfl
    ·refine aA.run rfl ?_;intro a' V hfr hG hdep
     have d:a'.eval (.tmp 61)=.pointer (some ⟨b,o+i*6,none⟩):=hdep 35 ac;exact cH (v:=.pointer (some ⟨b,o+i*6+3,none⟩)) (by simp only[execOp,d];simp[go_sem,Act.eval]) ag rfl
    ·refine aA.run rfl ?_;intro a' V hfr hG hdep
     have d:a'.eval (.tmp 62)=.pointer (some ⟨b,o+i*6+3,none⟩):=hdep 36 ac;exact dt rfl ag d (lP ((HK.out V hG).1 3 _ rfl)) rfl
    ·refine aA.run rfl ?_;intro a' V hfr hG hdep
     obtain⟨R0,x0,y0,e0,r0⟩:aE V (a'.eval (.tmp 34)) (Ref.name iss):=hdep 8 ac;obtain⟨R1,x1,y1,e1,r1⟩:aE V (a'.eval (.tmp 40)) (Ref.name sub):=hdep 14 ac;obtain⟨R2,x2,y2,e2,r2⟩:aE V (a'.eval (.tmp 31)) [1,0]:=hdep 5 ac;have f1:a'.eval (.tmp 41)=(⟨2020,1,1,0,0,0⟩:Tm).v:=hdep 15 ac;have f2:a'.eval (.tmp 42)=(⟨2060,1,1,0,0,0⟩:Tm).v:=hdep 16 ac;have f3:a'.eval (.tmp 43)=.agg #[.slice An nn cn,.int .u64 (ke:Int)]:=hdep 17 ac;have f4:a'.eval (.tmp 48)=.bool true:=hdep 22 ac;have f5:a'.eval (.tmp 53)=.int .i64 (-1):=hdep 27 ac;have f6:a'.eval (.tmp 58)=.int .i64 (-1):=hdep 32 ac;have f7:a'.eval (.tmp 63)=.bool true:=hdep 37 ac;exact cH (by simp only[execOp,List.map_toArray,List.map_cons,List.map_nil,e0,e1,e2,f1,f2,f3,f4,f5,f6,f7];simp[wG];rfl) ag ⟨_,_,_,rfl,⟨R0,x0,y0,rfl,r0⟩,⟨R1,x1,y1,rfl,r1⟩,⟨R2,x2,y2,rfl,r2⟩⟩
    ·refine aA.run rfl ?_;intro a' V hfr hG hdep
     exact AU rfl ag hG.size (fun g w' h1 h2=>⟨g,rfl,h1,h2⟩)
    intro a' V hd hsz' hfr hG hJ;obtain⟨vi,vsu,vr,e64,r1,r2,r3⟩:∃vi vs vr,a'.eval (.tmp 64)=(⟨.slice none 0 0,.slice none 0 0,vi,vs,vr,⟨2020,1,1,0,0,0⟩,⟨2060,1,1,0,0,0⟩,.slice An nn cn,ke,.slice none 0 0,⟨true,-1,-1,true⟩⟩:CV).val∧aE V vi (Ref.name iss)∧aE V vs (Ref.name sub)∧aE V vr [1,0]:=hJ 38 aj aj;obtain⟨g,e8,hg8,hB8⟩:∃g,a'.eval (.tmp 8)=.pointer (some ⟨g,0,none⟩)∧w2.heap.size≤g∧Bc V g CV.zero:=hJ 39 aj aj;obtain⟨R0,x0,y0,rfl,_⟩:=id r1;obtain⟨R1,x1,y1,rfl,_⟩:=id r2;obtain⟨R2,x2,y2,rfl,_⟩:=id r3;refine nA _ _ rfl g CV.zero _ e8 e64 hB8 (CV.one rfl rfl rfl rfl rfl rfl rfl) ?_;intro w3 hB3 hg3;change Exit.then _ _ Exit.normal a' w3;obtain⟨sl,z7,ha⟩:=eD (by show bp _ 94=true;decide +kernel) hd hsz' hfr;have v8:sl 39=.pointer (some ⟨g,0,none⟩):=(z7 39).symm.trans e8;have kz:List.range 41=[0,1,2,3,4,5,6,7,8,9,10,11,12,13,14,15,16,17,18,19,20,21,22,23,24,25,26,27,28,29,30,31,32,33,34,35,36,37,38,39,40]:=rfl;simp only[dT,List.map_cons,List.map_nil,List.size_toArray,List.length_cons,List.length_nil,Nat.reduceAdd,kz,List.zip_cons_cons,List.zip_nil_left,List.foldl_cons,List.foldl_nil,Act.put,List.setIfInBounds_toArray,List.set_cons_zero,List.set_cons_succ,List.getD_cons_zero,List.getD_cons_succ,v8]at ha;subst ha;have m0:=hB8.lt;have mz:=hG.size;have m5:=hg3.size;have q0:∀v xs,aE V v xs→aE w3 v xs:=fun v xs hv=>rU hv hg3 hB8 aj
    have v7:Below w2.heap.size w2 w3:=hG.grown hg3 hG.size (fun j hj=>by cases hj;exact hg8);have H3:=hd6 hB3 v7 (q0 _ _ r1) (q0 _ _ r2) (q0 _ _ r3) (q0 _ _ (HX.2.2.2.2.2.1.below hG));clear kz hd hsz' hfr hG hJ z7 v8 e8 e64 r1 r2 r3 hB8 hB3 hg3 q0 v7;apply_assumption;have li:=(bT H3.2.2.1).len;have ls:=(bT H3.2.2.2.1).len;have lr:=(bT H3.2.2.2.2.1).len;have ln:=(bT H3.2.2.2.2.2).len;have kx:=gQ iss v0;have ky:=gQ sub v1;have p5:=HX.1;obtain⟨TT,hT⟩:∃TT,Ref.tbs (Ref.name iss) (Ref.name sub) [1,0] kn ⟨2020,1,1,0,0,0⟩ ⟨2060,1,1,0,0,0⟩ ke ⟨true,-1,-1,true⟩=TT:=⟨_,rfl⟩
    have q9:=HX.2.2.1;have ko:∀sg,(Lad.kase0 iss sub kn ke sg).tbs=TT:=fun sg=>(Lad.k_tbs iss sub kn sg ke ab HX.2.1 v0 v1 ab).trans hT
    have ks:TT.length≤4000:=by rw[←hT];exact sj _ _ _ _ _ _ _ _ kx ky ag ab
    have q2:=tX (.slice none 0 0) (.slice none 0 0) (.slice none 0 0) R0 R1 R2 An x0 y0 x1 y1 x2 y2 nn cn (Ref.name iss) (Ref.name sub) [1,0] kn ⟨2020,1,1,0,0,0⟩ ⟨2060,1,1,0,0,0⟩ ke ⟨true,-1,-1,true⟩ w3 rfl rfl rfl (bT H3.2.2.1) (bT H3.2.2.2.1) (bT H3.2.2.2.2.1) (bT H3.2.2.2.2.2) ab ab (by simp at lr;omega) ab ⟨aj,aj,aj,aj,aj,aj⟩ ⟨aj,aj,aj,aj,aj,aj⟩ ab aj aj ⟨rfl,rfl,rfl,rfl⟩;rw[hT]at q2;have HC:=hd3 q2 ko ks;clear q2 ko ks hT li ls lr ln kx ky p5 q9
    go_upto_region 7 with fail
    refine wp_region_lit ?_;refine eC rfl (.tmp 8) rfl g (⟨.slice none 0 0,.slice none 0 0,.slice R0 x0 y0,.slice R1 x1 y1,.slice R2 x2 y2,⟨2020,1,1,0,0,0⟩,⟨2060,1,1,0,0,0⟩,.slice An nn cn,ke,.slice none 0 0,⟨true,-1,-1,true⟩⟩:CV) rfl H3.1 ?_;obtain⟨cval,hcv⟩:∃v,CV.val (⟨.slice none 0 0,.slice none 0 0,.slice R0 x0 y0,.slice R1 x1 y1,.slice R2 x2 y2,⟨2020,1,1,0,0,0⟩,⟨2060,1,1,0,0,0⟩,.slice An nn cn,ke,.slice none 0 0,⟨true,-1,-1,true⟩⟩:CV)=v:=⟨_,rfl⟩
    rw[hcv];have vo:=HC.1;rw[hcv]at vo;have k4:=hd1 vo;clear vo hcv
    go_wp2_with fail
    refine k4.out.mono ?_;rintro en w4 ⟨At_,nt,ct,rfl,ho4,hb4⟩;have m6:=hb4.size;have yv:=H3.1.below hb4 H3.1.lt;have lt_:TT.length=nt:=aM ho4;have kf:Bc (w4.setCell ⟨g,1,none⟩ (.slice At_ nt ct)) g ({(⟨.slice none 0 0,.slice none 0 0,.slice R0 x0 y0,.slice R1 x1 y1,.slice R2 x2 y2,⟨2020,1,1,0,0,0⟩,⟨2060,1,1,0,0,0⟩,.slice An nn cn,ke,.slice none 0 0,⟨true,-1,-1,true⟩⟩:CV) with tbs:=.slice At_ nt ct}:CV):=aw.set_ yv 1 (.slice At_ nt ct);have j6:∀v xs,aE w4 v xs→aE (w4.setCell ⟨g,1,none⟩ (.slice At_ nt ct)) v xs:=fun v xs hv=>em hv yv aj _
    have v9:Below w2.heap.size w2 (w4.setCell ⟨g,1,none⟩ (.slice At_ nt ct)):=(H3.2.1.trans (hb4.mono H3.2.1.size)).setCell (by show w2.heap.size≤g;exact hg8) _;have H5:=hd5 kf v9 (j6 _ _ (aE.own ho4)) (And.intro (j6 _ _ (H3.2.2.1.below hb4)) (And.intro (j6 _ _ (H3.2.2.2.1.below hb4)) (And.intro (j6 _ _ (H3.2.2.2.2.1.below hb4)) (j6 _ _ (H3.2.2.2.2.2.below hb4))))) lt_;have kv:w4.cell? ⟨g,1,none⟩=some (.slice none 0 0):=aw.cell yv 1;have mj:=aw.frozen yv 1;clear ho4 hb4 yv kf j6 v9 lt_
    go_upto_region 8 with fail
    obtain⟨w5,hw5⟩:∃W,W=w4.setCell ⟨g,1,none⟩ (.slice At_ nt ct):=⟨_,rfl⟩
    have va:=H5.out;rw[←hw5]at va ⊢;have H5:=hd1 va;have kv:w5.cell? ⟨g,1,none⟩=some (.slice At_ nt ct):=aw.cell H5.1 1;clear va hw5 mj
    go_wp2_with fail
    refine(yC At_ nt ct TT w5 (bT H5.2.2.1) (by have:=H5.2.2.2.2;have:=HC.2.2;omega)).mono ?_;rintro en w6 ⟨rfl,hb6⟩;rw[zY];obtain⟨D,hD⟩:∃D,Sha.sumB TT=D:=⟨_,rfl⟩
    have ve:D.length=32:=by rw[←hD];exact qm TT
    rw[hD];have md:=hb6.size;have HD:=hd3 hb6 hD ve;clear hb6 hD
    go_wp2_with fail
    refine(yi D ve w6).mono ?_;rintro en w7 ⟨p1,p2,rfl,hp1,hp2,hP1,hP2,hb7⟩;have m7:=hb7.size;have mc:w5.heap.size≤w7.heap.size:=ab
    have q6:Below w5.heap.size w5 w7:=HD.1.trans (hb7.mono md);have H7:=hd6 (H5.1.below q6 H5.1.lt) (H5.2.1.trans (q6.mono H5.2.1.size)) (H5.2.2.1.below q6) (And.intro (H5.2.2.2.1.1.below q6) (And.intro (H5.2.2.2.1.2.1.below q6) (And.intro (H5.2.2.2.1.2.2.1.below q6) (H5.2.2.2.1.2.2.2.below q6)))) hP1 hP2;clear hP1 hP2 hb7 q6 kv ve
    go_upto_region 9 with fail
    obtain⟨w8,hw8⟩:∃W,W=w7.alloc (.cells #[.slice (some ⟨p1,0,none⟩) 256 256,.int .u64 3] 67):=⟨_,rfl⟩
    rw[←hw8];have qv:Below w7.heap.size w7 w8:=by rw[hw8];exact aB w7 _
    have K8:aw w8 w7.heap.size 67 #[.slice (some ⟨p1,0,none⟩) 256 256,.int .u64 3]:=by rw[hw8];exact aw.new w7 _ _
    have m8:w8.heap.size=w7.heap.size+1:=by rw[hw8];simp
    have B8:=H7.1.below qv H7.1.lt;have z3:i+1<n→Lad.sig names k0 i=Lb.keyS D:=fun h=>by
     unfold Lad.sig Lad.dig;rw[H1.2.2.2.2.2.2,if_pos h,HX.2.2.2.1,HC.2.1,HD.2.1]
    have z2:¬i+1<n→Lad.sig names k0 i=[]:=fun h=>by
     unfold Lad.sig;rw[H1.2.2.2.2.2.2,if_neg h]
    have q3:Lad.key names k0 (i+1)=(Lb.keyN D,3):=by
     rw[Lad.key_succ];unfold Lad.dig;rw[HX.2.2.2.1,HC.2.1,HD.2.1]
    have y5:aE w8 (.slice (some ⟨p1,0,none⟩) 256 256) (Lb.keyN D):=aE.blk (H7.2.2.2.2.1.below qv H7.2.2.2.2.1.lt) (km (H7.2.2.2.2.1.below qv H7.2.2.2.2.1.lt) (Lb.keyN_len D) ab);have y6:aE w8 (.slice (some ⟨p2,0,none⟩) 256 256) (Lb.keyS D):=aE.blk (H7.2.2.2.2.2.below qv H7.2.2.2.2.2.lt) (km (H7.2.2.2.2.2.below qv H7.2.2.2.2.2.lt) (Lb.keyS_len D) ab);have kd:g≠w7.heap.size:=by have:=H7.1.lt;omega
    have H8:=hd10 B8 (H7.2.1.trans (qv.mono H7.2.1.size)) (H7.2.2.1.below qv) (And.intro (H7.2.2.2.1.1.below qv) (And.intro (H7.2.2.2.1.2.1.below qv) (And.intro (H7.2.2.2.1.2.2.1.below qv) (H7.2.2.2.1.2.2.2.below qv)))) K8 y5 y6 z3 z2 q3;have k5:w8.cell? ⟨g,19,none⟩=some (.slice none 0 0):=aw.cell B8 19;have mv:=aw.frozen B8 19;clear hw8 qv K8 B8 z3 z2 q3 y5 y6
    go_upto_if 79 with fail
    go_cut [] from 11 to 92 (fun wx=>∃A m c',Bc wx g (⟨.slice none 0 0,.slice At_ nt ct,.slice R0 x0 y0,.slice R1 x1 y1,.slice R2 x2 y2,⟨2020,1,1,0,0,0⟩,⟨2060,1,1,0,0,0⟩,.slice An nn cn,ke,.slice A m c',⟨true,-1,-1,true⟩⟩:CV)∧aE wx (.slice A m c') (Lad.sig names k0 i)∧w8.grownBy wx (some g))
    case first=>
     by_cases hla:i+1<n
     ·have vy:(i:Int)+1<(n:Int):=ab
      go_wp2_with fail
      go_meet
      case rel=>exact⟨some ⟨p2,0,none⟩,256,256,aw.set_ H8.1 19 (.slice (some ⟨p2,0,none⟩) 256 256),by rw[H8.2.2.2.2.2.2.2.1 hla];exact em H8.2.2.2.2.2.2.1 H8.1 aj _,bM (World.grownBy.refl _ _) _ _⟩
     ·have vy:¬((i:Int)+1<(n:Int)):=ab
      go_wp2_with fail
      go_meet
      case rel=>exact⟨none,0,0,H8.1,by rw[H8.2.2.2.2.2.2.2.2.1 hla];exact⟨none,0,0,rfl,Rd.none_,fun ad e=>(by cases e)⟩,World.grownBy.refl _ _⟩
    case rest=>
     obtain⟨Sg_,sm,sc,hB9,hS9,hgr⟩:=hcut;obtain⟨w9,hw9⟩:∃W,W=wc:=⟨_,rfl⟩
     subst hw9;have m9:=hgr.size;have qg:∀v xs,aE w8 v xs→aE w9 v xs:=fun v xs hv=>rU hv hgr H8.1 aj
     have kb:Below w2.heap.size w2 w9:=H8.2.1.grown hgr H8.2.1.size (fun j hj=>by cases hj;exact hg8);have K9:=H8.2.2.2.2.1.grown hgr (fun e=>by injection e with e;exact kd e.symm);have z7:=Lad.sig_len names k0 i;obtain⟨sg,hsg⟩:∃sg,Lad.sig names k0 i=sg:=⟨_,rfl⟩
     rw[hsg]at hS9 z7;have lS:=(bT hS9).len;have vn:=qg _ _ H8.2.2.1;have lT:=(bT vn).len;have f1:w9.cell? ⟨g,1,none⟩=some (.slice At_ nt ct):=aw.cell hB9 1;have p0:w9.cell? ⟨g,19,none⟩=some (.slice Sg_ sm sc):=aw.cell hB9 19;have H9:=hd8 hB9 kb vn (And.intro (qg _ _ H8.2.2.2.1.1) (And.intro (qg _ _ H8.2.2.2.1.2.1) (And.intro (qg _ _ H8.2.2.2.1.2.2.1) (qg _ _ H8.2.2.2.1.2.2.2)))) K9 (qg _ _ H8.2.2.2.2.2.1) hS9 hsg;clear hB9 hS9 hgr qg kb K9 vn k5 mv hsg
     go_wp2_with fail
     refine(wA At_ Sg_ nt ct sm sc TT sg w9 (bT H9.2.2.1) (bT H9.2.2.2.2.2.2.1) (by have:=HC.2.2;omega) ab).mono ?_;rintro en w10 ⟨Aw,nw,cw,rfl,ho10,hb10⟩;have ma:=hb10.size;have q1:=H9.1.below hb10 H9.1.lt;have qd:∀v xs,aE w10 v xs→aE (w10.setCell ⟨g,0,none⟩ (.slice Aw nw cw)) v xs:=fun v xs hv=>em hv q1 aj _
     have yh:Bc (w10.setCell ⟨g,0,none⟩ (.slice Aw nw cw)) g (⟨.slice Aw nw cw,.slice At_ nt ct,.slice R0 x0 y0,.slice R1 x1 y1,.slice R2 x2 y2,⟨2020,1,1,0,0,0⟩,⟨2060,1,1,0,0,0⟩,.slice An nn cn,ke,.slice Sg_ sm sc,⟨true,-1,-1,true⟩⟩:CV):=aw.set_ q1 0 (.slice Aw nw cw);have v5:aw (w10.setCell ⟨g,0,none⟩ (.slice Aw nw cw)) w7.heap.size 67 #[.slice (some ⟨p1,0,none⟩) 256 256,.int .u64 3]:=(H9.2.2.2.2.1.below hb10 ab).far (by show w7.heap.size≠g;exact kd.symm) _;have yd:Below w2.heap.size w2 (w10.setCell ⟨g,0,none⟩ (.slice Aw nw cw)):=(H9.2.1.trans (hb10.mono H9.2.1.size)).setCell (by show w2.heap.size≤g;exact hg8) _;have R:=H9.2.2.2.1;have qs:=hd5 yh v5 yd (And.intro (qd _ _ (aE.own ho10)) (And.intro (qd _ _ (H9.2.2.1.below hb10)) (And.intro (qd _ _ (R.1.below hb10)) (And.intro (qd _ _ (R.2.1.below hb10)) (And.intro (qd _ _ (R.2.2.1.below hb10)) (And.intro (qd _ _ (R.2.2.2.below hb10)) (qd _ _ (H9.2.2.2.2.2.2.1.below hb10)))))))) (qd _ _ (H9.2.2.2.2.2.1.below hb10));have f0:w10.cell? ⟨g,0,none⟩=some (.slice none 0 0):=aw.cell q1 0;have z0:=aw.frozen q1 0;clear ho10 hb10 q1 qd yh v5 yd R f1 p0
     go_upto_region 12 with fail
     obtain⟨w11,hw11⟩:∃W,W=w10.setCell ⟨g,0,none⟩ (.slice Aw nw cw):=⟨_,rfl⟩
     have j2:=qs.out;have v2:w11.heap.size=w10.heap.size:=by rw[hw11];simp
     rw[←hw11]at j2 ⊢;have qs:=hd1 j2;clear j2 hw11 f0 z0;have kB:=(HK.out w11 qs.2.2.1).2.2;have t0:=kB.cell 0;have t1:=kB.cell 1;have ml:=kB.frozen 0;have mm:=kB.frozen 1;have a0:=qs.2.1.cell 0;have a1:=qs.2.1.cell 1;have k3:w.heap.size≠g:=ab
     have z4:=(kB.set_ 0 (.slice (some ⟨p1,0,none⟩) 256 256)).set_ 1 (.int .u64 3);have ys:Bc ((w11.setCell ⟨w.heap.size,0,none⟩ (.slice (some ⟨p1,0,none⟩) 256 256)).setCell ⟨w.heap.size,1,none⟩ (.int .u64 3)) g (⟨.slice Aw nw cw,.slice At_ nt ct,.slice R0 x0 y0,.slice R1 x1 y1,.slice R2 x2 y2,⟨2020,1,1,0,0,0⟩,⟨2060,1,1,0,0,0⟩,.slice An nn cn,ke,.slice Sg_ sm sc,⟨true,-1,-1,true⟩⟩:CV):=(aw.far qs.1 (by show g≠w.heap.size;exact k3.symm) _).far (by show g≠w.heap.size;exact k3.symm) _;have qc:∀v xs,aE w11 v xs→aE ((w11.setCell ⟨w.heap.size,0,none⟩ (.slice (some ⟨p1,0,none⟩) 256 256)).setCell ⟨w.heap.size,1,none⟩ (.int .u64 3)) v xs:=fun v xs hv=>em (em hv kB aj _) (kB.set_ 0 (.slice (some ⟨p1,0,none⟩) 256 256)) aj _
     have v6:Below w1.heap.size wr w11:=(HX.2.2.2.2.2.2.1.trans (qs.2.2.1.mono ab)).mono ab;have j8:Below w.heap.size w ((w11.setCell ⟨w.heap.size,0,none⟩ (.slice (some ⟨p1,0,none⟩) 256 256)).setCell ⟨w.heap.size,1,none⟩ (.int .u64 3)):=((HR.2.2.2.2.2.1.trans (v6.mono ab)).setCell (by show w.heap.size≤w.heap.size;exact Nat.le_refl _) _).setCell (by show w.heap.size≤w.heap.size;exact Nat.le_refl _) _;have j1:∀q,w1.heap.size≤q→q<wr.heap.size→((w11.setCell ⟨w.heap.size,0,none⟩ (.slice (some ⟨p1,0,none⟩) 256 256)).setCell ⟨w.heap.size,1,none⟩ (.int .u64 3)).heap[q]? = wr.heap[q]?:=fun q h1 h2=>by
      rw[Below.heap_setCell _ _ _ q (by show q≠w.heap.size;omega),Below.heap_setCell _ _ _ q (by show q≠w.heap.size;omega)];exact(HX.2.2.2.2.2.2.1.trans (qs.2.2.1.mono ab)).block q h2
     have T:=qs.2.2.2.1;have q4:=hd7 z4 ys j8 j1 (And.intro (qc _ _ T.1) (And.intro (qc _ _ T.2.1) (And.intro (qc _ _ T.2.2.1) (And.intro (qc _ _ T.2.2.2.1) (And.intro (qc _ _ T.2.2.2.2.1) (And.intro (qc _ _ T.2.2.2.2.2.1) (qc _ _ T.2.2.2.2.2.2))))))) (qc _ _ qs.2.2.2.2) (fun v xs (hv:aE wr v xs)=>qc v xs (hv.below (HX.2.2.2.2.2.2.1.trans (qs.2.2.1.mono ab))));clear kB z4 ys qc v6 j8 j1 T
     go_upto_region 13 with fail
     obtain⟨w12,hw12⟩:∃W,W=(w11.setCell ⟨w.heap.size,0,none⟩ (.slice (some ⟨p1,0,none⟩) 256 256)).setCell ⟨w.heap.size,1,none⟩ (.int .u64 3):=⟨_,rfl⟩
     have j3:=q4.out;have v3:w12.heap.size=w11.heap.size:=by rw[hw12];simp
     rw[←hw12]at j3 ⊢;have q4:=hd1 j3;clear j3 hw12 t0 t1 ml mm a0 a1;have k1:=qs.2.2.1.size;have kt:=eO w12 72 [.slice Aw nw cw,.slice At_ nt ct,.slice R0 x0 y0,.slice R1 x1 y1,.slice R2 x2 y2,.int .u16 2020,.int .u8 1,.int .u8 1,.int .u8 0,.int .u8 0,.int .u8 0,.int .u16 2060,.int .u8 1,.int .u8 1,.int .u8 0,.int .u8 0,.int .u8 0,.slice An nn cn,.int .u64 (ke:Int),.slice Sg_ sm sc,.bool true,.int .i64 (-1),.int .i64 (-1),.bool true];have y3:bA 72 24 KI.cells KI.rows (w12.alloc (.cells #[.slice Aw nw cw,.slice At_ nt ct,.slice R0 x0 y0,.slice R1 x1 y1,.slice R2 x2 y2,.int .u16 2020,.int .u8 1,.int .u8 1,.int .u8 0,.int .u8 0,.int .u8 0,.int .u16 2060,.int .u8 1,.int .u8 1,.int .u8 0,.int .u8 0,.int .u8 0,.slice An nn cn,.int .u64 (ke:Int),.slice Sg_ sm sc,.bool true,.int .i64 (-1),.int .i64 (-1),.bool true] 72)) w1.heap.size wr.heap.size (.slice Av i cv) L:=by
      have h0:=HR.1;rw[yy]at h0;refine⟨aI.alloc (aI.keep h0.1 q4.2.2.2.1) ab _,fun p hp=>(q4.2.2.2.2.2.2 _ _ (h0.2 p hp)).alloc _⟩
     have HA:=hd2 kt y3;clear kt y3;have q5:=q4.2.1;obtain⟨wo,hwo⟩:∃W,W=wr:=⟨_,rfl⟩
     subst hwo;refine wp_region_lit ?_;refine qx rfl (.tmp 5) rfl ?_;refine eC rfl (.tmp 8) rfl g (⟨.slice Aw nw cw,.slice At_ nt ct,.slice R0 x0 y0,.slice R1 x1 y1,.slice R2 x2 y2,⟨2020,1,1,0,0,0⟩,⟨2060,1,1,0,0,0⟩,.slice An nn cn,ke,.slice Sg_ sm sc,⟨true,-1,-1,true⟩⟩:CV) rfl q5 ?_;clear q5;unfold CV.val CV.cells;dsimp only
     go_wp2_with (first
      | (at_builtin
         go_loud (refine bn rfl (.tmp 89) (.tmp 91) 25 rfl 72 _ 24 224 jI Tryz.underlying25 rfl ab w1.heap.size wo.heap.size (.slice Av i cv) i (L.flatMap KI.cells) rfl (by have:=HA.2.1;rwa [yy]at this) ai (w12.heap.size+1) (some ⟨w12.heap.size,0,none⟩) 1 1 [.slice Aw nw cw,.slice At_ nt ct,.slice R0 x0 y0,.slice R1 x1 y1,.slice R2 x2 y2,.int .u16 2020,.int .u8 1,.int .u8 1,.int .u8 0,.int .u8 0,.int .u8 0,.int .u16 2060,.int .u8 1,.int .u8 1,.int .u8 0,.int .u8 0,.int .u8 0,.slice An nn cn,.int .u64 (ke:Int),.slice Sg_ sm sc,.bool true,.int .i64 (-1),.int .i64 (-1),.bool true] (by rw[v3,v2];rfl) HA.1 (by simp[Value.oneCell']) ab ab ?_)
         intro v' w13 ho13 hg13 hat13 qh)
      | fail)
     have T:=q4.2.2.2.2.1;have p4:=HX.2.2.1;have v4:=H9.2.2.2.2.2.2.2;have kk:=HX.2.2.2.2.1;rw[v4]at kk;have kl:=HC.2.1 sg;have j4:=Lad.k_sg iss sub kn sg ke (by have:=HX.1;omega) HX.2.1 v0 v1 ab;rw[kl]at j4;have hd:Lad.d (Lad.kase names k0 i)=(Ref.wr TT sg,(⟨TT,Ref.name iss,Ref.name sub,[1,0],⟨2020,1,1,0,0,0⟩,⟨2060,1,1,0,0,0⟩,kn,ke,⟨true,-1,-1,true⟩⟩:Sg),sg):=by
      rw[kk];unfold Lad.d;rw[j4];unfold br.raw;rw[kl];show(Ref.wr TT (sg.take 600),_,sg.take 600)=_;rw[List.take_of_length_le ab]
     have y4:iV w13 w1.heap.size w13.heap.size v' (L++[(⟨(⟨.slice Aw nw cw,.slice At_ nt ct,.slice R0 x0 y0,.slice R1 x1 y1,.slice R2 x2 y2,⟨2020,1,1,0,0,0⟩,⟨2060,1,1,0,0,0⟩,.slice An nn cn,ke,.slice Sg_ sm sc,⟨true,-1,-1,true⟩⟩:CV),Lad.d (Lad.kase names k0 i)⟩:KI)]):=by
      refine bA.snoc (x:=(⟨(⟨.slice Aw nw cw,.slice At_ nt ct,.slice R0 x0 y0,.slice R1 x1 y1,.slice R2 x2 y2,⟨2020,1,1,0,0,0⟩,⟨2060,1,1,0,0,0⟩,.slice An nn cn,ke,.slice Sg_ sm sc,⟨true,-1,-1,true⟩⟩:CV),Lad.d (Lad.kase names k0 i)⟩:KI)) HA.2 (fun p hp=>?_) (by rw[yy];exact ho13) hg13 aj;rw[hd]at hp;simp only[KI.rows,List.mem_cons,List.not_mem_nil,or_false]at hp;rcases hp with rfl|rfl|rfl|rfl|rfl|rfl|rfl
      ·exact T.1.alloc _
      ·exact T.2.1.alloc _
      ·exact T.2.2.1.alloc _
      ·exact T.2.2.2.1.alloc _
      ·exact T.2.2.2.2.1.alloc _
      ·exact T.2.2.2.2.2.1.alloc _
      ·exact T.2.2.2.2.2.2.alloc _
     have j7:Below w.heap.size w w13:=(q4.2.2.1.alloc q4.2.2.1.size _).trans (qh.mono ab);have mb:=qh.size;have k2:aw w13 w.heap.size 67 #[.slice (some ⟨p1,0,none⟩) 256 256,.int .u64 3]:=(aw.alloc q4.1 _).below qh ab;have z5:aE w13 (.slice (some ⟨p1,0,none⟩) 256 256) (Lb.keyN D):=by
      have h1:=q4.2.2.2.2.2.1.alloc (.cells #[.slice Aw nw cw,.slice At_ nt ct,.slice R0 x0 y0,.slice R1 x1 y1,.slice R2 x2 y2,.int .u16 2020,.int .u8 1,.int .u8 1,.int .u8 0,.int .u8 0,.int .u8 0,.int .u16 2060,.int .u8 1,.int .u8 1,.int .u8 0,.int .u8 0,.int .u8 0,.slice An nn cn,.int .u64 (ke:Int),.slice Sg_ sm sc,.bool true,.int .i64 (-1),.int .i64 (-1),.bool true] 72);refine h1.keep hg13.size fun q cs fr hq=>hg13.block q (Array.getElem?_eq_some_iff.1 hq).1 fun e2=>?_
      rcases HA.2.1.1.2 with⟨e3,_⟩|⟨g2,cap2,cur2,e3,hb2,hg2,_⟩
      ·injection e3 with e3 _ _
       subst e3;simp[Value.ownBlock]at e2
      ·injection e3 with e3 _ _
       subst e3;simp only[Value.ownBlock,Option.some.injEq]at e2;subst e2;rw[hg2]at hq;injection hq with hq
       injection hq with _ ht
       exact absurd ht.symm aj
     have HF:=hd6 y4 j7 k2 z5 hd j4;clear y4 j7 k2 z5 hd qh hg13 ho13 hat13 T
     go_wp2_with fail
     go_roundw
     case rel=>
      have q3:=H8.2.2.2.2.2.2.2.2.2;have zn:=HF.2.2.1;have j5:=HF.2.2.2.1;have qh:=HF.2.1;have vv:aw w13 w.heap.size 67 #[.slice (some ⟨p1,0,none⟩) 256 256,.int .u64 (((Lad.key names k0 (i+1)).2:Nat):Int)]∧aE w13 (.slice (some ⟨p1,0,none⟩) 256 256) (Lad.key names k0 (i+1)).1:=by
       rw[q3];generalize Lb.keyN D=KN at j5;exact⟨zn,j5⟩
      clear q3 zn j5;refine⟨i+1,_,_,some ⟨p1,0,none⟩,256,256,ab,by go_num,rfl,HF.1,?_,?_,vv.1,vv.2,qh,H0.out.up qh,by have:=vv.1.lt;omega⟩
      ·rw[List.map_append,HR.2.1,List.range_succ,List.map_append]
       rfl
      ·intro y hy
       rcases List.mem_append.1 hy with hy|hy
       ·exact HR.2.2.1 y hy
       ·rw[List.mem_singleton.1 hy]
        unfold KI.ok;rw[HF.2.2.2.2.1]
        rfl
     case measure=>first|(simp[intOf];done)|(simp[intOf];omega)
  ·obtain rfl:i=n:=ab
   have qk:¬((i:Int)<(i:Int)):=ab
   have HF:=hd4 hO hL hok hb;clear hO hL hok hb rv hKb hkr hR
   go_wp2_with fail
   go_ret
   refine⟨_,L,rfl,?_,by rw[H1.2.2.2.2.2.2];exact HF.2.1,HF.2.2.1,HF.2.2.2⟩;have h1:=HF.1;rw[yy]at h1;exact bA.mono h1 ab nl_
theorem tD {w:World} {g:Nat} {v0 v1 v2 v3 v4 v5:Value} (h:aw w g 62 #[v0,v1,v2,v3,v4,v5]):(loadVar 62 ⟨g,0,none⟩).run Tryz.prog w=.ok (.agg #[v0,v1,v2,v3,v4,v5]) w:=by
 have hk:=h.cell;have h0:=run_loadVar_mid (P:=Tryz.prog) w g 0 62 [v0,v1,v2,v3,v4,v5] _ (fun j u hu=>by rw[Nat.zero_add,hk];simpa using hu) Tryz.underlying62 rfl rfl;exact h0
theorem t8 (s:ByteArray) (w:World) :
 Calls Tryz.prog 34 #[.string s] w fun e w'=>e=.returned (.agg #[.string s,.int .u8 0,.bool true,.bool true,.int .i64 (-1),.int .i64 (-1)])∧Below w.heap.size w w':=by
 go_enter Tryz.func34,Tryz.ntmps34
 go_wp2_with (fail)
 exact bodyPost_ret (cJ Tryz.results34 _ _ _ ⟨w.heap.size,0,none⟩ _ rfl (tD (aw.new w _ _))) rfl ⟨rfl,aB w _⟩
noncomputable def vZ:Code:=eJ 5 (iJ Tryz.f25)
def uG (B g p b o n c k:Nat) (vL vS:Value) (y:OI) (i:Nat) (v:Value) (w:World):Prop:=
 match i with
 | 0=>v=.pointer (some ⟨g,3,none⟩)
 | 1=>v=vS
 | 2=>v=.pointer (some ⟨p,3,none⟩)
 | 3=>v=vL
 | 4=>v=.int .i64 (k:Int)
 | 5=>v=.pointer (some ⟨b,o+k*6,none⟩)
 | 6=>v=.agg (y.x.row y.vk y.vs y.vd y.vg)
 | 7=>∃z:SI,v=.agg z.v.cells∧z.s=y.x.sr∧∀p∈z.rows,aE w p.1 p.2
 | _=>∃(z:SI) (q:Nat),v=.slice (some ⟨q,0,none⟩) 1 1∧B≤q∧aw w q 54 z.v.cells∧z.s=y.x.sr∧∀p∈z.rows,aE w p.1 p.2
theorem uG.up {B g p b o n c k:Nat} {vL vS:Value} {y:OI} (i:Nat) (v:Value) (w w':World) (hR:KU B w w') (h:uG B g p b o n c k vL vS y i v w):uG B g p b o n c k vL vS y i v w':=by
 match i,h with
 | 0,h|1,h|2,h|3,h|4,h|5,h|6,h=>exact h
 | 7,⟨z,h1,h2,h3⟩=>exact⟨z,h1,h2,fun p hp=>hR.rdt (h3 p hp)⟩
 | _+8,⟨z,q,h1,h2,h3,h4,h5⟩=>exact⟨z,q,h1,h2,hR.blk h3 aj,h4,fun p hp=>hR.rdt (h5 p hp)⟩
theorem yr:(Tryz.prog.info? 51).map (·.size)=some 6:=by kernel_rfl
theorem yl {w:World} {b p:Nat} (y:OI) (h:∀j v,(OI.cells y)[j]? = some v→w.cell? ⟨b,p+j,none⟩=some v):(loadVar 51 ⟨b,p,none⟩).run Tryz.prog w=.ok (.agg (y.x.row y.vk y.vs y.vd y.vg)) w:=by
 have:=lQ (l:=OI.cells y) 51 _ Tryz.underlying51 rfl yr h
 simpa [OI.cells]using this
structure M9 (x:MK) (w:World) (g:Nat) (vk vc vs vK vC:Value) (Av:Option Addr) (m cv:Nat) (W:World):Prop where
 bel:Below w.heap.size w W
 big:w.heap.size+1<g
 lt:g<W.heap.size
 case_:aw W w.heap.size 43 #[vk,vc,.int .u8 (x.certs:Int),vs,.bool x.bare,.bool x.none]
 res:aw W (w.heap.size+1) 28 #[.slice none 0 0,.slice none 0 0,.slice none 0 0,.slice none 0 0]
 sd:aw W g 28 #[vK,vC,.slice none 0 0,.slice none 0 0]
 rk:aE W vK (Zc.koid x.kind)
 rc:aE W vC x.cont
 rg:o8 W Av m cv x.names
theorem M9.mt {x:MK} {w W W8 W9:World} {g m cv c8:Nat} {vk vc vs vK vC:Value} {Av A8:Option Addr} {L:List KI} (h:M9 x w g vk vc vs vK vC Av m cv W) (hb:Below W.heap.size W W8) (ho:iV W8 W.heap.size W8.heap.size (.slice A8 L.length c8) L)
 (he:W9=W8.setCell ⟨g,2,none⟩ (.slice A8 L.length c8)):gK x w g W9.heap.size vk vc vs vK vC (.slice A8 L.length c8) (.slice none 0 0) L W9:=by
 have qh:=hb.size;have qd:=h.sd.below hb h.lt;have qk:W9.heap.size=W8.heap.size:=by rw[he];simp
 have qc:W8.grownBy W9 (some g):=by
  rw[he];exact⟨rfl,rfl,rfl,ag,fun k hk hne=>Below.heap_setCell _ _ _ k (fun e=>hne (by rw[e]))⟩
 have qg:=h.bel.trans (hb.mono h.bel.size);refine⟨qg.grown qc qg.size (fun j hj=>by cases hj;have:=h.big;omega),h.big,by have:=h.lt;omega,Nat.le_refl _,(h.case_.below hb h.case_.lt).grown qc (fun e=>by injection e with e;have:=h.big;omega),(h.res.below hb h.res.lt).grown qc (fun e=>by injection e with e;have:=h.big;omega),?_,
  eB (h.rk.below hb) qc qd aj,eB (h.rc.below hb) qc qd aj,?_⟩
 ·rw[he]
  have:=qd.set_ 2 (.slice A8 L.length c8)
  simpa using this
 ·exact bA.grow (bA.mono ho (by have:=h.lt;omega) nl_) qc (Nat.lt_succ_self _) qd aj
set_option maxHeartbeats 16000000 in
theorem tF (N:Nat) (hN:jA N) (x:MK) (Ak Ac As:Option Addr) (nk ck nc cc ns cs:Nat) (w wr:World) (g:Nat) (A1 A5 Av:Option Addr) (n1 c1 n5 c5 m cv:Nat)
 (h:M9 x w g (.slice Ak nk ck) (.slice Ac nc cc) (.slice As ns cs) (.slice A1 n1 c1) (.slice A5 n5 c5) Av m cv wr) (hm:m≤3) (hs:uJ w As ns cs x.ones) (hn:(x.ones.length≤N∨8≤N)∧1≤N) (u0 u3 u6 u7 u8 u9 u10 u11 u12 u13 u14 u15 u16 u17 u18 u19 u20 u21 u22 u23 u24 u25 u26 u27 u28 u29 u30 u31 u32 u33 u34 u35 u36 u37 u38 u39 u40 u41 u42 u43 u44 u45 u46 u47 u48 u49 u50 u51 u52 u53 u54 u55 u56 u57 u58 u59 u60 u61 u62 u63 u64 u65 u66 u67 u68 u69 u70 u71 u72 u73 u74 u75 u76 u77 u78 u79 u80 u81:Value) :
 vZ.wp Tryz.prog (bodyPost Tryz.prog Tryz.f25 (dY x w)) {tmps:=(u0::Value.pointer (some ⟨w.heap.size,0,none⟩)::Value.pointer (some ⟨w.heap.size+1,0,none⟩)::u3::Value.pointer (some ⟨g,0,none⟩)::Value.slice Av m cv::u6::u7::u8::u9::u10::u11::u12::u13::u14::u15::u16::u17::u18::u19::u20::u21::u22::u23::u24::u25::u26::u27::u28::u29::u30::u31::u32::u33::u34::u35::u36::u37::u38::u39::u40::u41::u42::u43::u44::u45::u46::u47::u48::u49::u50::u51::u52::u53::u54::u55::u56::u57::u58::u59::u60::u61::u62::u63::u64::u65::u66::u67::u68::u69::u70::u71::u72::u73::u74::u75::u76::u77::u78::u79::u80::u81::[]).toArray,defers:=[]} wr:=by
 obtain⟨x0,x1⟩:=h.sd.facts;have ys:=h.lt;have y2:=h.big;have qk:=hs.row.len;generalize hQ:bodyPost Tryz.prog Tryz.f25 (dY x w)=Q;unfold vZ iJ;simp only[Tryz.f25,eJ,Option.getD_some];have q0:=az.lit wr [1] [.int .u8 1] 1 aq rfl ab;have r1:aE (wr.alloc (.cells #[.int .u8 1] 5)) (.slice (some ⟨wr.heap.size,0,none⟩) 1 1) [1]:=aE.own (by simpa using q0);have H:=hd6 h hs hn hQ r1 qk;clear h hs hn hQ r1 q0 qk;refine wp_seq_k fun K9 hK9=>?_
 have j1:=hd1 hK9;clear hK9
 go_wp2_with fail
 refine(qG x.names ([1],3) Av (some ⟨wr.heap.size,0,none⟩) m cv 1 1 _ (H.1.rg.up (aB wr (.cells #[.int .u8 1] 5))) H.2.2.2.2.1 ⟨aj,aj,rfl⟩ ab (by
  intro s hs;unfold MK.names at hs;obtain⟨j,_,rfl⟩:=List.mem_map.1 hs;simp)).mono ?_
 rintro e w8 ⟨v8,L,rfl,hO8,hL8,hok8,hb8⟩;obtain⟨A8,c8,rfl,_⟩:=id hO8.rd;have y3:wr.heap.size+1≤w8.heap.size:=by simpa using hb8.size
 have b8:Below wr.heap.size wr w8:=(aB wr _).trans (hb8.mono ag);have qv:iV w8 wr.heap.size w8.heap.size (.slice A8 L.length c8) L:=bA.mono hO8 ag nl_;obtain⟨w9,hw9⟩:∃W,W=w8.setCell ⟨g,2,none⟩ (.slice A8 L.length c8):=⟨_,rfl⟩
 have j4:=H.1.mt b8 qv hw9;obtain⟨f0,f1⟩:=(H.1.sd.below b8 ys).facts;have yy:g<w8.heap.size:=ab
 have H8:=hd3 j4 hL8 hok8;clear hO8 qv hL8 hok8 hb8 b8 j4 x0 x1
 go_wp2_with fail
 rw[←hw9];clear hw9 f0 f1;refine j1.out _ _ ?_;clear j1 K9;refine wp_seq_k fun K10 hK10=>?_
 have qs:=hd1 hK10;clear hK10
 go_upto_region 11 with fail
 obtain⟨B,hB⟩:∃B,w9.heap.size=B:=⟨_,rfl⟩
 have HB:=hd1 hB
 go_loopw [7] (fun kv wq=>∃(k:Nat) (vS:Value) (l:List SI),k≤ns∧k≤8∧kv=.int .i64 (k:Int)∧gK x w g B (.slice Ak nk ck) (.slice Ac nc cc) (.slice As ns cs) (.slice A1 n1 c1) (.slice A5 n5 c5) (.slice A8 L.length c8) vS L wq∧gb wq B wq.heap.size vS l∧l.map SI.s=(x.ones.take k).map (fun y=>y.x.sr)) (fun kv _=>9 - (intOf kv).toNat)
 case atStart=>exact⟨0,.slice none 0 0,[],Nat.zero_le _,Nat.zero_le _,rfl,by rw[←HB.out];exact H8.1,bA.nil_,rfl⟩
 case round=>
  obtain⟨k,vS,l,hk1,hk2,rfl,hM,hO,hl⟩:=hrel;obtain⟨wq,hwq⟩:∃W,W=wr:=⟨_,rfl⟩
  subst hwq;obtain⟨Av2,cv2,e,hRg⟩:=id hO.rd;have qc:l.length=k:=by have:=congrArg List.length hl;have:=H.2.2.2.2.2;simp only[List.length_map,List.length_take]at *;omega
  rw[qc]at e;subst e;have x3:=hM.case_.cell 3;have j8:=hM.gB;have yv:=hM.BW
  by_cases hlt:k<ns∧k<8
  ·obtain⟨hlt2,hlt8⟩:=hlt
   have qd:(k:Int)<(ns:Int):=ab
   have q1:(k:Int)<8:=ab
   have q4:=H.2.1.up hM.bel;obtain⟨b,o,y,rfl,hbl,hy,hcy,_⟩:=q4.row.at_ (fun _=>rfl) hlt2;have j7:=q4.each y (List.mem_of_getElem? hy);have q3:=q4.str y (List.mem_of_getElem? hy);have HK:=hd1 (fun V (hV:Below wq.heap.size wq V)=>And.intro (hM.up hV) (And.intro (fun j v (hv:(OI.cells y)[j]? = some v)=>(hV.cell (p:=⟨b,o+k*6+j,none⟩) hbl).trans (hcy j v hv)) (j7.up hV)));have HO:=hd5 hO hl qc hy q3;clear hM hO hl qc hRg q4 hcy j7 hy q3
   go_upto_region 13 with fail
   refine fQ 9 (uG wq.heap.size g w.heap.size b o ns cs k (.slice (some ⟨b,o,none⟩) ns cs) (.slice Av2 k cv2) y) (fun V=>Below wq.heap.size wq V) (KU wq.heap.size) rfl (KU.refl _) uG.up (fun _ _ h h'=>h.trans h'.1) (by show bp _ 82=true;decide +kernel) ac aj ac br_.drew ⟨?_,?_,?_,?_,?_,?_,?_,?_,?_,trivial⟩ ?_
   ·refine aA.run rfl ?_;intro a' V hfr hG hdep
    have d:a'.eval (.tmp 4)=.pointer (some ⟨g,0,none⟩):=hfr 4 ac;exact cH (v:=.pointer (some ⟨g,3,none⟩)) (by simp only[execOp,d];simp[go_sem,Act.eval]) ag rfl
   ·refine aA.run rfl ?_;intro a' V hfr hG hdep
    have d:a'.eval (.tmp 53)=.pointer (some ⟨g,3,none⟩):=hdep 0 ac;have hc:V.cell? ⟨g,3,none⟩=some (.slice Av2 k cv2):=(HK.out V hG).1.sd.cell 3;exact dt (v:=.slice Av2 k cv2) rfl ag d (by simp[go_sem,hc]) rfl
   ·refine aA.run rfl ?_;intro a' V hfr hG hdep
    have d:a'.eval (.tmp 1)=.pointer (some ⟨w.heap.size,0,none⟩):=hfr 1 ac;exact cH (v:=.pointer (some ⟨w.heap.size,3,none⟩)) (by simp only[execOp,d];simp[go_sem,Act.eval]) ag rfl
   ·refine aA.run rfl ?_;intro a' V hfr hG hdep
    have d:a'.eval (.tmp 55)=.pointer (some ⟨w.heap.size,3,none⟩):=hdep 2 ac;have hc:V.cell? ⟨w.heap.size,3,none⟩=some (.slice (some ⟨b,o,none⟩) ns cs):=(HK.out V hG).1.case_.cell 3;exact dt (v:=.slice (some ⟨b,o,none⟩) ns cs) rfl ag d (by simp[go_sem,hc]) rfl
   ·refine aA.run rfl ?_;intro a' V hfr hG hdep
    exact di rfl ag (hfr 7 ac)
   ·refine aA.run rfl ?_;intro a' V hfr hG hdep
    have d1:a'.eval (.tmp 56)=.slice (some ⟨b,o,none⟩) ns cs:=hdep 3 ac;have d2:a'.eval (.tmp 57)=.int .i64 (k:Int):=hdep 4 ac;exact cH (v:=.pointer (some ⟨b,o+k*6,none⟩)) (by simp only[execOp,d1,d2];simp[go_sem,Act.eval,hlt2,qd]) ag rfl
   ·refine aA.run rfl ?_;intro a' V hfr hG hdep
    have d:a'.eval (.tmp 58)=.pointer (some ⟨b,o+k*6,none⟩):=hdep 5 ac;exact dt rfl ag d (yl y (HK.out V hG).2.1) rfl
   ·refine aA.run rfl ?_;intro a' V hfr hG hdep
    have d:a'.eval (.tmp 59)=.agg (y.x.row y.vk y.vs y.vd y.vg):=hdep 6 ac;refine bV ag rfl Tryz.func28 rfl aj (args:=#[.agg (y.x.row y.vk y.vs y.vd y.vg)]) (by simp only[List.map_toArray,List.map_cons,List.map_nil,d]) (iD y.x y.vk y.vs y.vd y.vg V (HK.out V hG).2.2 HO.2.2.2.2) ?_;intro e w' hp;obtain⟨hb',z,rfl,hz,hzr⟩:=hp.si;exact⟨_,rfl,⟨z,rfl,hz,hzr⟩,KU.below hb' hG.size⟩
   ·refine aA.run rfl ?_;intro a' V hfr hG hdep
    obtain⟨z,d,hz,hzr⟩:∃z:SI,a'.eval (.tmp 60)=.agg z.v.cells∧z.s=y.x.sr∧∀p∈z.rows,aE V p.1 p.2:=hdep 7 ac;obtain⟨i0,hi0,hz0,hz1,hz2⟩:=info_parts fY;refine wp_buildSlice 26 54 1 _ rfl z.v.cells i0 _ Tryz.underlying26 hi0 hz0 (by rw[hz1];omega) (by rw[hz1];omega) ?_ ⟨_,rfl,fun h=>by simp at h,⟨z,_,rfl,hG.size,aw.new _ _ _,hz,fun p hp=>(hzr p hp).alloc _⟩,KU.below (aB V _) hG.size⟩;rw[hz1];simp only[List.map_toArray,List.map_cons,List.map_nil,d];exact(Great.fill_whole (s:=6) ab [.agg z.v.cells] _ (fun v hv=>by rw[List.mem_singleton.1 hv];rfl) ag).trans (by simp[Value.cells])
   intro a' V hd hsz' hfr hG hJ;have j2:a'.eval (.tmp 54)=.slice Av2 k cv2:=hJ 1 aj;obtain⟨z,q,e61,hq,hBq,hz,hzr⟩:∃(z:SI) (q:Nat),a'.eval (.tmp 61)=.slice (some ⟨q,0,none⟩) 1 1∧wq.heap.size≤q∧aw V q 54 z.v.cells∧z.s=y.x.sr∧∀p∈z.rows,aE V p.1 p.2:=hJ 8 aj;obtain⟨a0,m0,d0,a1,m1,d1,a2,m2,d2,a3,m3,d3,a4,m4,d4,a5,m5,d5,hvx⟩:=iQ hzr;have q9:SI.cells z=[.slice a0 m0 d0,.slice a1 m1 d1,.slice a2 m2 d2,.slice a3 m3 d3,.slice a4 m4 d4,.slice a5 m5 d5]:=by unfold SI.cells SV.cells;rw[hvx]
   have q7:aF V V.heap.size 6 (some ⟨q,0,none⟩) 1 (SI.cells z):=jT (l:=SI.cells z) (by simpa [SI.cells]using hBq);rw[q9]at q7;obtain⟨sl,qk,ha⟩:=eD (by show bp _ 82=true;decide +kernel) hd hsz' hfr;have v1:sl 1=.slice Av2 k cv2:=(qk 1).symm.trans j2;have v8:sl 8=.slice (some ⟨q,0,none⟩) 1 1:=(qk 8).symm.trans e61;have j6:List.range 12=[0,1,2,3,4,5,6,7,8,9,10,11]:=rfl;simp only[dT,List.map_cons,List.map_nil,List.size_toArray,List.length_cons,List.length_nil,Nat.reduceAdd,j6,List.zip_cons_cons,List.zip_nil_left,List.foldl_cons,List.foldl_nil,Act.put,List.setIfInBounds_toArray,List.set_cons_zero,List.set_cons_succ,List.getD_cons_zero,List.getD_cons_succ,v1,v8]at ha;subst ha;have q6:gb V B V.heap.size (.slice Av2 k cv2) l:=bA.up HO.1 hG;have j0:=(HK.out V hG).1;have yd:=j0.BW;have q2:aI 54 6 V B V.heap.size (.slice Av2 k cv2) k (l.flatMap SI.cells):=by have:=q6.1;rwa [HO.2.2.1]at this
   have HE:=hd7 q6 j0 q2 q7 hz hzr q9;clear hd hsz' hfr hG hJ qk j6 v1 v8 j2 e61 q6 j0 q2 q7 hz hzr q9 hvx hBq x3;refine bn rfl (.tmp 54) (.tmp 61) 26 rfl 54 _ 6 144 fY Tryz.underlying26 rfl ab B V.heap.size (.slice Av2 k cv2) k (l.flatMap SI.cells) rfl HE.2.2.1 yd V.heap.size (some ⟨q,0,none⟩) 1 1 [.slice a0 m0 d0,.slice a1 m1 d1,.slice a2 m2 d2,.slice a3 m3 d3,.slice a4 m4 d4,.slice a5 m5 d5] rfl HE.2.2.2.1 (by simp[Value.oneCell']) ab ab ?_;intro v' w2 ho2 hg2 hat2 hb2;have qh:=HE.2.1.own HE.2.2.1 hg2 hb2 aj;have q5:gb w2 B w2.heap.size v' (l++[z]):=bA.snoc (x:=z) (l:=l) HE.1 HE.2.2.2.2.2.1 (by rw[HO.2.2.1,HE.2.2.2.2.2.2];exact ho2) hg2 aj;obtain⟨A2,c2,e2,_⟩:=id q5.rd;rw[List.length_append,HO.2.2.1,List.length_singleton]at e2;subst e2;obtain⟨y0,y1⟩:=qh.sd.facts;have yh:=qh.sd.lt;obtain⟨w3,hw3⟩:∃W,W=w2.setCell ⟨g,3,none⟩ (.slice A2 (k+1) c2):=⟨_,rfl⟩
   have qg:w2.grownBy w3 (some g):=by
    rw[hw3];exact⟨rfl,rfl,rfl,ag,fun k hk hne=>Below.heap_setCell _ _ _ k (fun e=>hne (by rw[e]))⟩
   have j3:aw w3 g 28 #[.slice A1 n1 c1,.slice A5 n5 c5,.slice A8 L.length c8,.slice A2 (k+1) c2]:=by
    rw[hw3];have:=qh.sd.set_ 3 (.slice A2 (k+1) c2)
    simpa using this
   have H3:=hd2 (qh.grow qg j3) (bA.grow q5 qg j8 qh.sd aj :gb w3 B w3.heap.size (.slice A2 (k+1) c2) (l++[z]));clear qh q5 qg j3 ho2 hg2 hat2 hb2
   go_wp2_with fail
   rw[←hw3];clear hw3;go_roundw
   case rel=>exact⟨k+1,_,l++[z],ab,ab,by go_num,H3.1,H3.2,by
    rw[List.take_add_one,HO.2.2.2.1,List.map_append,List.map_append,HO.2.1];simp[HE.2.2.2.2.1]⟩
   case measure=>first|(simp[intOf];done)|(simp[intOf];omega)
  ·have j5:l.map SI.s=(x.ones.take 8).map fun y=>y.x.sr:=by
    rw[hl];have:=H.2.2.2.2.2;rcases Nat.lt_or_ge k 8 with h|h
    ·rw[List.take_of_length_le (i:=k) ab,List.take_of_length_le (i:=8) ab]
    ·rw[show k=8 by omega]
   have HE:=hd3 hM hO j5;clear hM hO hl j5 hRg qc
   by_cases hlt2:k<ns
   ·have qd:(k:Int)<(ns:Int):=ab
    have q1:¬((k:Int)<8):=ab
    go_wp2_with fail
    refine qs.out _ _ ?_;rw[←H.2.2.2.1];exact lU N hN x Ak Ac As nk ck nc cc ns cs w wq g B _ _ _ _ L l HE.1 H8.2.1 H8.2.2 HE.2.1 HE.2.2 H.2.2.1 _ _ _ _ _ _ _ _ _ _ _ _ _ _ _ _ _ _ _ _ _ _ _ _ _ _ _ _ _ _ _ _ _ _ _ _ _ _ _ _ _ _ _ _ _ _ _ _ _ _ _ _ _ _ _ _ _ _ _ _ _ _ _ _ _ _ _ _ _ _ _ _ _ _ _ _ _ _ _
   ·have qd:¬((k:Int)<(ns:Int)):=ab
    go_wp2_with fail
    refine qs.out _ _ ?_;rw[←H.2.2.2.1];exact lU N hN x Ak Ac As nk ck nc cc ns cs w wq g B _ _ _ _ L l HE.1 H8.2.1 H8.2.2 HE.2.1 HE.2.2 H.2.2.1 _ _ _ _ _ _ _ _ _ _ _ _ _ _ _ _ _ _ _ _ _ _ _ _ _ _ _ _ _ _ _ _ _ _ _ _ _ _ _ _ _ _ _ _ _ _ _ _ _ _ _ _ _ _ _ _ _ _ _ _ _ _ _ _ _ _ _ _ _ _ _ _ _ _ _ _ _ _ _
set_option maxHeartbeats 1000000 in
theorem ud (k:Nat) (A:Option Addr) (n c:Nat) (xs:List UInt8) (w:World) (h:Rd w w.heap.size A n c xs) (hk:k≤100000) (hn:n≤9223372036854775807) :
 Calls Tryz.prog 58 #[.slice A n c,.int .i64 (k:Int)] w (aO (xs.take k) w):=by
 have hc:=h.cap;have qg:=h.capm;have qd:=h.nil;have HL:=hd1 h.len;rcases Nat.lt_or_ge k n with hlt|hge
 ·have qc:min (n:Int) (k:Int)=(k:Int):=ab
  have hp:=h.pre k ab;obtain⟨b0,o0,rfl,_⟩:=h.spot ab;have HP:=hd1 hp;clear hp h qd
  go_enter Tryz.func58,Tryz.ntmps58
  go_wp2_with fail
  refine(dM _ _ _ _ _ HP.out ab).mono ?_;rintro en w1 ⟨A1,n1,c1,rfl,ho1,hb1⟩;have H1:=hd2 ho1 hb1;clear ho1 hb1
  go_wp2
  go_ret
  exact⟨A1,n1,c1,rfl,H1.1,H1.2⟩
 ·have qc:min (n:Int) (k:Int)=(n:Int):=ab
  have ht:xs.take k=xs:=List.take_of_length_le (by have:=h.len;omega);rw[ht];have HP:=hd1 h;clear ht h
  cases A with
  | none=>
   obtain rfl:=qd rfl;obtain rfl:n=0:=ab
   go_enter Tryz.func58,Tryz.ntmps58
   go_wp2_with fail
   refine(dM _ _ _ _ _ HP.out ab).mono ?_;rintro en w1 ⟨A1,n1,c1,rfl,ho1,hb1⟩;have H1:=hd2 ho1 hb1;clear ho1 hb1
   go_wp2
   go_ret
   exact⟨A1,n1,c1,rfl,H1.1,H1.2⟩
  | some ad=>
   go_enter Tryz.func58,Tryz.ntmps58
   go_wp2_with fail
   refine(dM _ _ _ _ _ HP.out ab).mono ?_;rintro en w1 ⟨A1,n1,c1,rfl,ho1,hb1⟩;have H1:=hd2 ho1 hb1;clear ho1 hb1
   go_wp2
   go_ret
   exact⟨A1,n1,c1,rfl,H1.1,H1.2⟩
end Go.Proofs.YtmpkpphfoidbeaaGreatDoor
