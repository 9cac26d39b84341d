import Derived.Test.YtmpkpphfoidbeaaGreatDoorZ28
set_option linter.unusedVariables false
set_option linter.unusedSimpArgs false
set_option maxRecDepth 100000
namespace Go.Proofs.YtmpkpphfoidbeaaGreatDoor
open Go.RowKit
theorem xk {w:World} {ad:Addr} {v:Value} (h:w.cell? ad=some v):(loadVar 5 ad).run Tryz.prog w=.ok v w:=by simp[go_sem,h]
theorem my {w:World} {ad:Addr} {v:Value} (h:w.cell? ad=some v):(loadVar 9 ad).run Tryz.prog w=.ok v w:=by simp[go_sem,h]
theorem kR {w:World} {ad:Addr} {v:Value} (h:w.cell? ad=some v):(loadVar 4 ad).run Tryz.prog w=.ok v w:=by simp[go_sem,h]
theorem mx {w:World} {ad:Addr} {v:Value} (h:w.cell? ad=some v):(loadVar 3 ad).run Tryz.prog w=.ok v w:=by simp[go_sem,h]
theorem vj (w:World) (A1 A2 A3 A4:Option Addr) (n1 c1 n2 c2 n3 c3 n4 c4:Nat) (a b:Tm) (e:Int) :
 (Instr.build 72 #[(4,.slice A3 n3 c3),(2,.slice A1 n1 c1),(3,.slice A2 n2 c2),(5,a.v),(6,b.v),(7,.agg #[.slice A4 n4 c4,.int .u64 e]),(9,.bool true),(10,.int .i64 (-1)),(11,.int .i64 (-1)),(12,.bool true)]).run Tryz.prog w =
  .ok (.agg #[.slice none 0 0,.slice none 0 0,.slice A1 n1 c1,.slice A2 n2 c2,.slice A3 n3 c3,.int .u16 (a.y:Int),.int .u8 (a.mo:Int),.int .u8 (a.d:Int),.int .u8 (a.h:Int),.int .u8 (a.mi:Int),.int .u8 (a.s:Int),
   .int .u16 (b.y:Int),.int .u8 (b.mo:Int),.int .u8 (b.d:Int),.int .u8 (b.h:Int),.int .u8 (b.mi:Int),.int .u8 (b.s:Int),.slice A4 n4 c4,.int .u64 e,.slice none 0 0,.bool true,.int .i64 (-1),.int .i64 (-1),.bool true]) w:=by
 unfold Tm.v;simp[go_sem]
theorem l6 {op:Oper} {a:Act} {w:World} {K:Act→World→Prop} {Q:Exit→Act→World→Prop} (x y:Operand) (ho:op.op=.store 72 x y)
 (gc:Nat) (C D:CV) (hx:a.eval x=.pointer (some ⟨gc,0,none⟩)) (hy:a.eval y=.agg D.cells) (hB:Bc w gc C) (hD:∀v∈D.cells.toList,v.oneCell'=true)
 (h:∀w',Bc w' gc D→w.grownBy w' (some gc)→K (a.put op.dst undef) w'):op.wp Tryz.prog a w K Q:=by
 unfold Oper.wp execOp;simp only[ho,hx,hy,Instr.storeAt,Instr.sureAddr,Sem.run_bind,Sem.run_pure,Result.andThen_ok,ju hB D hD];exact h _ (setRow_blk hB).1 (setRow_blk hB).2
theorem qI {w w':World} {v:Value} {xs:List UInt8} {g:Nat} {t:TypeId} {cs:Array Value} (h:am w v xs) (hg:w.grownBy w' (some g)) (hb:ac w g t cs) (ht:t≠5):am w' v xs:=
 h.keep hg.size fun q cs' fr hq=>hg.block q (Array.getElem?_eq_some_iff.1 hq).1 fun e=>by
  injection e with e
  subst e;rw[show w.heap[q]? = some (Obj.cells cs t (0,0)) from hb]at hq;injection hq with hq
  injection hq with _ hq
  exact absurd hq ht
theorem pA {ops:Array Oper} {rest:List Oper} {op:Oper} {a:Act} {w:World} {Q:Exit→Act→World→Prop} (hgd:op.guard=none) (x:Operand) (ho:op.op=.move x) (h:wpList Tryz.prog ops Q rest (a.put op.dst (a.eval x)) w):wpList Tryz.prog ops Q (op::rest) a w:=
 wpList_plain hgd fun K hK=>lZ ho (hK _ _ h)
section
variable {o : Oper} {a : Act} {w : World} {Q : Exit → Act → World → Prop} {J : Value → World → Prop} {B : Nat}
theorem zD (ho:o.op=.alloc 72) (hd:o.dst≠none) (hB:B≤w.heap.size) (hJ:∀g w',B≤g→Bc w' g CV.zero→J (.pointer (some ⟨g,0,none⟩)) w'):o.wp Tryz.prog a w (KK a o J (KU B) w) Q:=by
 have hr:(Instr.alloc 72 true (.tuple #[])).run Tryz.prog w=.ok (.pointer (some ⟨w.heap.size,0,none⟩)) (w.alloc (.cells CV.zero.cells 72)):=by
  simp[go_sem]
  try rfl
 exact eE (by simp only[execOp,ho];simp[hr]) ⟨_,rfl,fun h=>absurd h hd,hJ _ _ hB (ac.new w _ _),KU.below (br_.alloc nl_ _) hB⟩
theorem AD {x:Operand} (ho:o.op=.buildSlice 22 2 #[(0,.const (.int .u8 1)),(1,x)]) (hd:o.dst≠none) (hx:a.eval x=.int .u8 0) (hB:B≤w.heap.size) (hJ:∀v w',am w' v [1,0]→J v w'):o.wp Tryz.prog a w (KK a o J (KU B) w) Q:=by
 obtain⟨i0,hi0,hz0,hz1,hz2⟩:=info_parts eh;have hR:am (w.alloc (.cells #[.int .u8 1,.int .u8 0] 5)) (.slice (some ⟨w.heap.size,0,none⟩) 2 2) [1,0]:=am.own ((aj.lit w [1,0] [.int .u8 1,.int .u8 0] 2 rfl rfl (by omega)).mono nl_ (by simp));refine wp_buildSlice 22 5 2 _ ho #[.int .u8 1,.int .u8 0] i0 _ Tryz.underlying22 hi0 hz0 (by rw[hz1];omega) (by rw[hz1];omega) ?_ ⟨_,rfl,fun h=>absurd h hd,hJ _ _ hR,KU.below (br_.alloc nl_ _) hB⟩;rw[hz1];simp only[List.map_toArray,List.map_cons,List.map_nil,hx];exact Great.fill_flat [Value.int .u8 1,Value.int .u8 0] _ (by intro v hv;simp only[List.mem_cons,List.not_mem_nil,or_false]at hv;rcases hv with rfl|rfl<;>rfl) (by simp)
end
def dF (s:List UInt8):List Value:=[.string ⟨s.toArray⟩,.int .u8 0,.bool true,.bool true,.int .i64 (-1),.int .i64 (-1)]
def nU (w:World) (A:Option Addr) (n c:Nat) (names:List (List UInt8)):Prop:=jF 6 dF (fun _=>[]) w A n c names
def tF (B b p g7:Nat) (va vkey vn:Value) (i ke:Nat) (iss sub:List UInt8) (k:Nat) (v:Value) (w:World):Prop:=
 match k with
 | 0=>v=va
 | 1=>v=.int .i64 (i:Int)
 | 2=>v=.pointer (some ⟨b,p,none⟩)
 | 3=>v=.pointer (some ⟨b,p+1,none⟩)
 | 4=>v=.int .u8 0
 | 5=>am w v [1,0]
 | 6=>v=.pointer (some ⟨g7,0,none⟩)
 | 7=>v=.string ⟨iss.toArray⟩
 | 8=>am w v (Ref.name iss)
 | 9=>v=va
 | 10=>v=.int .i64 (i:Int)
 | 11=>v=.pointer (some ⟨b,p,none⟩)
 | 12=>v=.pointer (some ⟨b,p,none⟩)
 | 13=>v=.string ⟨sub.toArray⟩
 | 14=>am w v (Ref.name sub)
 | 15=>v=(⟨2020,1,1,0,0,0⟩:Tm).v
 | 16=>v=(⟨2060,1,1,0,0,0⟩:Tm).v
 | 17=>v=vkey
 | 18=>v=va
 | 19=>v=.int .i64 (i:Int)
 | 20=>v=.pointer (some ⟨b,p,none⟩)
 | 21=>v=.pointer (some ⟨b,p+2,none⟩)
 | 22=>v=.bool true
 | 23=>v=va
 | 24=>v=.int .i64 (i:Int)
 | 25=>v=.pointer (some ⟨b,p,none⟩)
 | 26=>v=.pointer (some ⟨b,p+4,none⟩)
 | 27=>v=.int .i64 (-1)
 | 28=>v=va
 | 29=>v=.int .i64 (i:Int)
 | 30=>v=.pointer (some ⟨b,p,none⟩)
 | 31=>v=.pointer (some ⟨b,p+5,none⟩)
 | 32=>v=.int .i64 (-1)
 | 33=>v=va
 | 34=>v=.int .i64 (i:Int)
 | 35=>v=.pointer (some ⟨b,p,none⟩)
 | 36=>v=.pointer (some ⟨b,p+3,none⟩)
 | 37=>v=.bool true
 | 38=>∃vi vs vr,v=(⟨.slice none 0 0,.slice none 0 0,vi,vs,vr,⟨2020,1,1,0,0,0⟩,⟨2060,1,1,0,0,0⟩,vn,ke,.slice none 0 0,⟨true,-1,-1,true⟩⟩:CV).val∧am w vi (Ref.name iss)∧am w vs (Ref.name sub)∧am w vr [1,0]
 | _=>∃g,v=.pointer (some ⟨g,0,none⟩)∧B≤g∧Bc w g CV.zero
theorem tF.up {B b p g7:Nat} {va vkey vn:Value} {i ke:Nat} {iss sub:List UInt8} (k:Nat) (v:Value) (w w':World) (hR:KU B w w') (h:tF B b p g7 va vkey vn i ke iss sub k v w):tF B b p g7 va vkey vn i ke iss sub k v w':=by
 match k,h with
 | 0,h|1,h|2,h|3,h|4,h|6,h|7,h|9,h|10,h|11,h|12,h|13,h|15,h|16,h|17,h|18,h|19,h|20,h|21,h|22,h|23,h|24,h|25,h|26,h|27,h|28,h|29,h|30,h|31,h|32,h|33,h|34,h|35,h|36,h|37,h=>exact h
 | 5,h|8,h|14,h=>exact hR.rdt h
 | 38,⟨vi,vs,vr,e,h1,h2,h3⟩=>exact⟨vi,vs,vr,e,hR.rdt h1,hR.rdt h2,hR.rdt h3⟩
 | _+39,⟨g,e,h1,h2⟩=>exact⟨g,e,h1,hR.blk h2 (by decide)⟩
def yc (names:List (List UInt8)) (k0:List UInt8×Nat) (w:World) (e:Ending) (w':World):Prop:=
 ∃v L,e=.returned v∧im w' w.heap.size w'.heap.size v L∧L.map KI.d=(List.range names.length).map (fun i=>Lad.d (Lad.kase names k0 i))∧(∀y∈L,y.ok)∧Below w.heap.size w w'
set_option maxHeartbeats 16000000 in
theorem pI (names:List (List UInt8)) (k0:List UInt8×Nat) (A An:Option Addr) (n c nn cn:Nat) (w:World) (h:nU w A n c names) (hk:am w (.slice An nn cn) k0.1) (hg:Lad.Good k0) (hn:n≤10) (hl:∀s∈names,s.length≤200) :
 Calls Tryz.prog 33 #[.slice A n c,.agg #[.slice An nn cn,.int .u64 (k0.2:Int)]] w (yc names k0 w):=by
 obtain⟨w1,hw1⟩:∃W,W=w.alloc (.cells #[.slice An nn cn,.int .u64 (k0.2:Int)] 67):=⟨_,rfl⟩
 have z7:Below w.heap.size w w1:=by rw[hw1];exact al w _
 have hK:ac w1 w.heap.size 67 #[.slice An nn cn,.int .u64 (k0.2:Int)]:=by rw[hw1];exact ac.new w _ _
 have m7:w1.heap.size=w.heap.size+1:=by rw[hw1];simp
 have z1:=h.len;have H0:=hd1 h;have H1:=hd7 z7 hK (h.up z7) (hk.below z7) hg hl z1;clear z7 hK h hk hg hl z1
 go_enter Tryz.func33,Tryz.ntmps33
 go_upto_region 2 with fail
 rw[←hw1];clear hw1
 go_wp2_with fail
 go_loopw [5,6] (fun ov iv wr=>∃(i:Nat) (v:Value) (L:List KI) (Ak:Option Addr) (nk ck:Nat),i≤n∧iv=.int .i64 (i:Int)∧ov=v∧im wr w1.heap.size wr.heap.size v L∧L.map KI.d=(List.range i).map (fun j=>Lad.d (Lad.kase names k0 j))∧(∀y∈L,y.ok)∧
  ac wr w.heap.size 67 #[.slice Ak nk ck,.int .u64 (((Lad.key names k0 i).2:Nat):Int)]∧am wr (.slice Ak nk ck) (Lad.key names k0 i).1∧Below w.heap.size w wr∧nU wr A n c names∧w1.heap.size≤wr.heap.size) (fun _ iv _=>n - (intOf iv).toNat)
 case atStart=>exact⟨0,_,[],An,nn,cn,Nat.zero_le _,rfl,rfl,aP.nil_,rfl,(fun y hy=>by simp at hy),H1.2.1,H1.2.2.2.1,H1.1,H1.2.2.1,Nat.le_refl _⟩
 case round=>
  obtain⟨i,v,L,An,nn,cn,hi,rfl,rfl,hO,hL,hok,hKb,hkr,hb,hR,hsz⟩:=hrel;obtain⟨Av,cv,rfl,rv⟩:=hO.rd;have y3:L.length=i:=by have:=congrArg List.length hL;simpa using this
  rw[y3]at rv ⊢
  by_cases hlt:i<n
  ·have qk:(i:Int)<(n:Int):=by omega
   obtain⟨m,hm⟩:∃m,min (i+1) (n - 1)=m:=⟨_,rfl⟩
   have md:m<n:=by omega
   have m5:(m:Int)<(n:Int):=by omega
   have mc:min ((i:Int)+1) ((n:Int) - 1)=(m:Int):=by omega
   obtain⟨b,o,sub,rfl,hbl,hsub,hcs,_⟩:=hR.at_ (fun _=>rfl) hlt;obtain⟨b',o',iss,e',_,hiss,hci,_⟩:=hR.at_ (fun _=>rfl) md;injection e' with e'
   injection e' with e1 e2
   subst e1 e2;have j1:(Lad.isub names i).2=sub:=by show names.getD i []=sub;rw[List.getD_eq_getElem?_getD,hsub];rfl
   have q9:(Lad.isub names i).1=iss:=by show names.getD (min (i+1) (names.length - 1)) []=iss;rw[H1.2.2.2.2.2.2,hm,List.getD_eq_getElem?_getD,hiss];rfl
   have v4:sub.length≤200:=H1.2.2.2.2.2.1 _ (List.mem_of_getElem? hsub);have v3:iss.length≤200:=H1.2.2.2.2.2.1 _ (List.mem_of_getElem? hiss);have kk:=hci 0 _ rfl;have pv:=hci 1 _ rfl;have p0:=hci 2 _ rfl;have p3:=hci 3 _ rfl;have p4:=hci 4 _ rfl;have p5:=hci 5 _ rfl;rw[Nat.add_zero]at kk;have HR:=hd10 hO hL hok hKb hkr hb hR hcs j1 q9;clear hO hL hok hKb hkr hb hR hcs hci j1 q9 hsub hiss rv;have zn:∃W,W=wr.alloc (.cells #[.string ⟨iss.toArray⟩,.int .u8 0,.bool true,.bool true,.int .i64 (-1),.int .i64 (-1)] 62):=⟨_,rfl⟩
   obtain⟨w2,hw2⟩:=zn
   go_upto_region 5 with fail
   go_cut [7] from 11 to 92 (fun s7 wx=>s7=.pointer (some ⟨wr.heap.size,0,none⟩)∧wx=w2)
   case first=>
    by_cases hla:i+1<n
    ·obtain rfl:m=i+1:=by omega
     have v1:(i:Int)+1≤(n:Int) - 1:=by omega
     go_wp2_with fail
     go_meet
     case rel=>exact⟨rfl,hw2.symm⟩
    ·have v1:¬((i:Int)+1≤(n:Int) - 1):=by omega
     have m6:(n:Int) - 1=(i:Int):=by omega
     obtain rfl:m=i:=by omega
     go_wp2_with fail
     go_meet
     case rel=>exact⟨rfl,hw2.symm⟩
   case rest=>
    obtain⟨rfl,rfl⟩:=hcut;have m8:wc.heap.size=wr.heap.size+1:=by rw[hw2];simp
    obtain⟨w2,hwc⟩:∃W,W=wc:=⟨_,rfl⟩
    subst hwc;obtain⟨g7,hg7⟩:∃g,wr.heap.size=g:=⟨_,rfl⟩
    have b2:Below wr.heap.size wr w2:=by rw[hw2];exact al wr _
    have B7:ac w2 wr.heap.size 62 #[.string ⟨iss.toArray⟩,.int .u8 0,.bool true,.bool true,.int .i64 (-1),.int .i64 (-1)]:=by rw[hw2];exact ac.new wr _ _
    rw[hg7]at B7 ⊢;obtain⟨ke,j0⟩:∃e,(Lad.key names k0 i).2=e:=⟨_,rfl⟩
    obtain⟨kn,hkn⟩:∃e,(Lad.key names k0 i).1=e:=⟨_,rfl⟩
    have p7:=Lad.key_good (names:=names) H1.2.2.2.2.1 i;have vv:=HR.2.2.2.1;have vw:=HR.2.2.2.2.1;have z2:Lad.pre names k0 i=Lad.kase0 iss sub kn ke []:=by unfold Lad.pre;rw[HR.2.2.2.2.2.2.2.2.1,HR.2.2.2.2.2.2.2.2.2,hkn,j0]
    have zz:Lad.kase names k0 i=Lad.kase0 iss sub kn ke (Lad.sig names k0 i):=by unfold Lad.kase;rw[HR.2.2.2.2.2.2.2.2.1,HR.2.2.2.2.2.2.2.2.2,hkn,j0]
    rw[j0]at vv;rw[hkn]at vw;obtain⟨hg1,hg2,hg3⟩:=p7;rw[hkn]at hg1 hg2;rw[j0]at hg3;have hk:∀V,Below w2.heap.size w2 V→(∀j v,(dF sub)[j]? = some v→V.cell? ⟨b,o+i*6+j,none⟩=some v)∧ac V g7 62 #[.string ⟨iss.toArray⟩,.int .u8 0,.bool true,.bool true,.int .i64 (-1),.int .i64 (-1)]∧ac V w.heap.size 67 #[.slice An nn cn,.int .u64 (ke:Int)]:=fun V hV=>
     ⟨fun j v hv=>((b2.trans (hV.mono (by omega))).cell (p:=⟨b,o+i*6+j,none⟩) hbl).trans (HR.2.2.2.2.2.2.2.1 j v hv),B7.below hV (by omega),(vv.below b2 (by omega)).below hV (by omega)⟩
    have HK:=hd1 hk;have HX:=hd9 hg1 hg2 hg3 z2 zz (vw.below b2) b2 j0 hkn;clear hk hw2 b2 B7 vv vw z2 zz hg1 hg2 hg3 j0 hkn kk pv p0 p3 p4 p5
    go_upto_region 6 with fail
    refine gP (tF w2.heap.size b (o+i*6) g7 (.slice (some ⟨b,o,none⟩) n c) (.agg #[.slice An nn cn,.int .u64 (ke:Int)]) (.slice An nn cn) i ke iss sub) (fun V=>Below w2.heap.size w2 V) (KU w2.heap.size) rfl (KU.refl _) tF.up (fun _ _ h h'=>h.trans h'.1) (by show aH _ 94=true;decide +kernel) (by decide +kernel) _ rfl rfl (by decide +kernel) br_.drew ⟨?_,?_,?_,?_,?_,?_,?_,?_,?_,?_,?_,?_,?_,?_,?_,?_,?_,?_,?_,?_,?_,?_,?_,?_,?_,?_,?_,?_,?_,?_,?_,?_,?_,?_,?_,?_,?_,?_,?_,?_,trivial⟩ ?_
    ·refine ai.run rfl ?_;intro a' V hfr hG hdep;exact cI rfl (by simp) (hfr 0 (by decide +kernel))
    ·refine ai.run rfl ?_;intro a' V hfr hG hdep;exact cI rfl (by simp) (hfr 6 (by decide +kernel))
    ·refine ai.run rfl ?_;intro a' V hfr hG hdep
     have d1:a'.eval (.tmp 26)=.slice (some ⟨b,o,none⟩) n c:=hdep 0 (by decide +kernel);have d2:a'.eval (.tmp 27)=.int .i64 (i:Int):=hdep 1 (by decide +kernel);exact bR (v:=.pointer (some ⟨b,o+i*6,none⟩)) (by simp only[execOp,d1,d2];simp[go_sem,Act.eval,hlt,qk]) (by simp) rfl
    ·refine ai.run rfl ?_;intro a' V hfr hG hdep
     have d:a'.eval (.tmp 28)=.pointer (some ⟨b,o+i*6,none⟩):=hdep 2 (by decide +kernel);exact bR (v:=.pointer (some ⟨b,o+i*6+1,none⟩)) (by simp only[execOp,d];simp[go_sem,Act.eval]) (by simp) rfl
    ·refine ai.run rfl ?_;intro a' V hfr hG hdep
     have d:a'.eval (.tmp 29)=.pointer (some ⟨b,o+i*6+1,none⟩):=hdep 3 (by decide +kernel);exact cT rfl (by simp) d (xk ((HK.out V hG).1 1 _ rfl)) rfl
    ·refine ai.run rfl ?_;intro a' V hfr hG hdep
     have d:a'.eval (.tmp 30)=.int .u8 0:=hdep 4 (by decide +kernel);exact AD rfl (by simp) d hG.size (fun v w' h=>h)
    ·refine ai.run rfl ?_;intro a' V hfr hG hdep
     have d:a'.eval (.tmp 7)=.pointer (some ⟨g7,0,none⟩):=hfr 7 (by decide +kernel);exact bR (v:=.pointer (some ⟨g7,0,none⟩)) (by simp only[execOp,d];simp[go_sem,Act.eval]) (by simp) rfl
    ·refine ai.run rfl ?_;intro a' V hfr hG hdep
     have d:a'.eval (.tmp 32)=.pointer (some ⟨g7,0,none⟩):=hdep 6 (by decide +kernel);exact cT rfl (by simp) d (my ((HK.out V hG).2.1.cell 0)) rfl
    ·refine ai.run rfl ?_;intro a' V hfr hG hdep
     have d:a'.eval (.tmp 33)=.string ⟨iss.toArray⟩:=hdep 7 (by decide +kernel);refine bH (by simp) rfl Tryz.func64 rfl (by decide) (args:=#[.string ⟨iss.toArray⟩]) (by simp only[List.map_toArray,List.map_cons,List.map_nil,d]) (oK iss V (by omega)) ?_;rintro e w' ⟨A',n',c',rfl,ho',hb'⟩;exact⟨_,rfl,am.own ho',KU.below hb' hG.size⟩
    ·refine ai.run rfl ?_;intro a' V hfr hG hdep;exact cI rfl (by simp) (hfr 0 (by decide +kernel))
    ·refine ai.run rfl ?_;intro a' V hfr hG hdep;exact cI rfl (by simp) (hfr 6 (by decide +kernel))
    ·refine ai.run rfl ?_;intro a' V hfr hG hdep
     have d1:a'.eval (.tmp 35)=.slice (some ⟨b,o,none⟩) n c:=hdep 9 (by decide +kernel);have d2:a'.eval (.tmp 36)=.int .i64 (i:Int):=hdep 10 (by decide +kernel);exact bR (v:=.pointer (some ⟨b,o+i*6,none⟩)) (by simp only[execOp,d1,d2];simp[go_sem,Act.eval,hlt,qk]) (by simp) rfl
    ·refine ai.run rfl ?_;intro a' V hfr hG hdep
     have d:a'.eval (.tmp 37)=.pointer (some ⟨b,o+i*6,none⟩):=hdep 11 (by decide +kernel);exact bR (v:=.pointer (some ⟨b,o+i*6,none⟩)) (by simp only[execOp,d];simp[go_sem,Act.eval]) (by simp) rfl
    ·refine ai.run rfl ?_;intro a' V hfr hG hdep
     have d:a'.eval (.tmp 38)=.pointer (some ⟨b,o+i*6,none⟩):=hdep 12 (by decide +kernel);exact cT rfl (by simp) d (my ((HK.out V hG).1 0 _ rfl)) rfl
    ·refine ai.run rfl ?_;intro a' V hfr hG hdep
     have d:a'.eval (.tmp 39)=.string ⟨sub.toArray⟩:=hdep 13 (by decide +kernel);refine bH (by simp) rfl Tryz.func64 rfl (by decide) (args:=#[.string ⟨sub.toArray⟩]) (by simp only[List.map_toArray,List.map_cons,List.map_nil,d]) (oK sub V (by omega)) ?_;rintro e w' ⟨A',n',c',rfl,ho',hb'⟩;exact⟨_,rfl,am.own ho',KU.below hb' hG.size⟩
    ·refine ai.run rfl ?_;intro a' V hfr hG hdep;exact bR (v:=(⟨2020,1,1,0,0,0⟩:Tm).v) (by simp only[execOp];simp[go_sem,Tm.v]) (by simp) rfl
    ·refine ai.run rfl ?_;intro a' V hfr hG hdep;exact bR (v:=(⟨2060,1,1,0,0,0⟩:Tm).v) (by simp only[execOp];simp[go_sem,Tm.v]) (by simp) rfl
    ·refine ai.run rfl ?_;intro a' V hfr hG hdep;exact cT rfl (by simp) (hfr 3 (by decide +kernel)) (oG (HK.out V hG).2.2) rfl
    ·refine ai.run rfl ?_;intro a' V hfr hG hdep;exact cI rfl (by simp) (hfr 0 (by decide +kernel))
    ·refine ai.run rfl ?_;intro a' V hfr hG hdep;exact cI rfl (by simp) (hfr 6 (by decide +kernel))
    ·refine ai.run rfl ?_;intro a' V hfr hG hdep
     have d1:a'.eval (.tmp 44)=.slice (some ⟨b,o,none⟩) n c:=hdep 18 (by decide +kernel);have d2:a'.eval (.tmp 45)=.int .i64 (i:Int):=hdep 19 (by decide +kernel);exact bR (v:=.pointer (some ⟨b,o+i*6,none⟩)) (by simp only[execOp,d1,d2];simp[go_sem,Act.eval,hlt,qk]) (by simp) rfl
    ·refine ai.run rfl ?_;intro a' V hfr hG hdep
     have d:a'.eval (.tmp 46)=.pointer (some ⟨b,o+i*6,none⟩):=hdep 20 (by decide +kernel);exact bR (v:=.pointer (some ⟨b,o+i*6+2,none⟩)) (by simp only[execOp,d];simp[go_sem,Act.eval]) (by simp) rfl
    ·refine ai.run rfl ?_;intro a' V hfr hG hdep
     have d:a'.eval (.tmp 47)=.pointer (some ⟨b,o+i*6+2,none⟩):=hdep 21 (by decide +kernel);exact cT rfl (by simp) d (kR ((HK.out V hG).1 2 _ rfl)) rfl
    ·refine ai.run rfl ?_;intro a' V hfr hG hdep;exact cI rfl (by simp) (hfr 0 (by decide +kernel))
    ·refine ai.run rfl ?_;intro a' V hfr hG hdep;exact cI rfl (by simp) (hfr 6 (by decide +kernel))
    ·refine ai.run rfl ?_;intro a' V hfr hG hdep
     have d1:a'.eval (.tmp 49)=.slice (some ⟨b,o,none⟩) n c:=hdep 23 (by decide +kernel);have d2:a'.eval (.tmp 50)=.int .i64 (i:Int):=hdep 24 (by decide +kernel);exact bR (v:=.pointer (some ⟨b,o+i*6,none⟩)) (by simp only[execOp,d1,d2];simp[go_sem,Act.eval,hlt,qk]) (by simp) rfl
    ·refine ai.run rfl ?_;intro a' V hfr hG hdep
     have d:a'.eval (.tmp 51)=.pointer (some ⟨b,o+i*6,none⟩):=hdep 25 (by decide +kernel);exact bR (v:=.pointer (some ⟨b,o+i*6+4,none⟩)) (by simp only[execOp,d];simp[go_sem,Act.eval]) (by simp) rfl
    ·refine ai.run rfl ?_;intro a' V hfr hG hdep
     have d:a'.eval (.tmp 52)=.pointer (some ⟨b,o+i*6+4,none⟩):=hdep 26 (by decide +kernel);exact cT rfl (by simp) d (mx ((HK.out V hG).1 4 _ rfl)) rfl
    ·refine ai.run rfl ?_;intro a' V hfr hG hdep;exact cI rfl (by simp) (hfr 0 (by decide +kernel))
    ·refine ai.run rfl ?_;intro a' V hfr hG hdep;exact cI rfl (by simp) (hfr 6 (by decide +kernel))
    ·refine ai.run rfl ?_;intro a' V hfr hG hdep
     have d1:a'.eval (.tmp 54)=.slice (some ⟨b,o,none⟩) n c:=hdep 28 (by decide +kernel);have d2:a'.eval (.tmp 55)=.int .i64 (i:Int):=hdep 29 (by decide +kernel);exact bR (v:=.pointer (some ⟨b,o+i*6,none⟩)) (by simp only[execOp,d1,d2];simp[go_sem,Act.eval,hlt,qk]) (by simp) rfl
    ·refine ai.run rfl ?_;intro a' V hfr hG hdep
     have d:a'.eval (.tmp 56)=.pointer (some ⟨b,o+i*6,none⟩):=hdep 30 (by decide +kernel);exact bR (v:=.pointer (some ⟨b,o+i*6+5,none⟩)) (by simp only[execOp,d];simp[go_sem,Act.eval]) (by simp) rfl
    ·refine ai.run rfl ?_;intro a' V hfr hG hdep
     have d:a'.eval (.tmp 57)=.pointer (some ⟨b,o+i*6+5,none⟩):=hdep 31 (by decide +kernel);exact cT rfl (by simp) d (mx ((HK.out V hG).1 5 _ rfl)) rfl
    ·refine ai.run rfl ?_;intro a' V hfr hG hdep;exact cI rfl (by simp) (hfr 0 (by decide +kernel))
    ·refine ai.run rfl ?_;intro a' V hfr hG hdep;exact cI rfl (by simp) (hfr 6 (by decide +kernel))
    ·refine ai.run rfl ?_;intro a' V hfr hG hdep
     have d1:a'.eval (.tmp 59)=.slice (some ⟨b,o,none⟩) n c:=hdep 33 (by decide +kernel);have d2:a'.eval (.tmp 60)=.int .i64 (i:Int):=hdep 34 (by decide +kernel);exact bR (v:=.pointer (some ⟨b,o+i*6,none⟩)) (by simp only[execOp,d1,d2];simp[go_sem,Act.eval,hlt,qk]) (by simp) rfl
    ·refine ai.run rfl ?_;intro a' V hfr hG hdep
     have d:a'.eval (.tmp 61)=.pointer (some ⟨b,o+i*6,none⟩):=hdep 35 (by decide +kernel);exact bR (v:=.pointer (some ⟨b,o+i*6+3,none⟩)) (by simp only[execOp,d];simp[go_sem,Act.eval]) (by simp) rfl
    ·refine ai.run rfl ?_;intro a' V hfr hG hdep
     have d:a'.eval (.tmp 62)=.pointer (some ⟨b,o+i*6+3,none⟩):=hdep 36 (by decide +kernel);exact cT rfl (by simp) d (kR ((HK.out V hG).1 3 _ rfl)) rfl
    ·refine ai.run rfl ?_;intro a' V hfr hG hdep
     obtain⟨R0,x0,y0,e0,r0⟩:am V (a'.eval (.tmp 34)) (Ref.name iss):=hdep 8 (by decide +kernel);obtain⟨R1,x1,y1,e1,r1⟩:am V (a'.eval (.tmp 40)) (Ref.name sub):=hdep 14 (by decide +kernel);obtain⟨R2,x2,y2,e2,r2⟩:am V (a'.eval (.tmp 31)) [1,0]:=hdep 5 (by decide +kernel);have f1:a'.eval (.tmp 41)=(⟨2020,1,1,0,0,0⟩:Tm).v:=hdep 15 (by decide +kernel);have f2:a'.eval (.tmp 42)=(⟨2060,1,1,0,0,0⟩:Tm).v:=hdep 16 (by decide +kernel);have f3:a'.eval (.tmp 43)=.agg #[.slice An nn cn,.int .u64 (ke:Int)]:=hdep 17 (by decide +kernel);have f4:a'.eval (.tmp 48)=.bool true:=hdep 22 (by decide +kernel);have f5:a'.eval (.tmp 53)=.int .i64 (-1):=hdep 27 (by decide +kernel);have f6:a'.eval (.tmp 58)=.int .i64 (-1):=hdep 32 (by decide +kernel);have f7:a'.eval (.tmp 63)=.bool true:=hdep 37 (by decide +kernel);exact bR (by simp only[execOp,List.map_toArray,List.map_cons,List.map_nil,e0,e1,e2,f1,f2,f3,f4,f5,f6,f7];simp[vj];rfl) (by simp) ⟨_,_,_,rfl,⟨R0,x0,y0,rfl,r0⟩,⟨R1,x1,y1,rfl,r1⟩,⟨R2,x2,y2,rfl,r2⟩⟩
    ·refine ai.run rfl ?_;intro a' V hfr hG hdep
     exact zD rfl (by simp) hG.size (fun g w' h1 h2=>⟨g,rfl,h1,h2⟩)
    intro a' V hd hsz' hfr hG hJ;obtain⟨vi,vsu,vr,e64,r1,r2,r3⟩:∃vi vs vr,a'.eval (.tmp 64)=(⟨.slice none 0 0,.slice none 0 0,vi,vs,vr,⟨2020,1,1,0,0,0⟩,⟨2060,1,1,0,0,0⟩,.slice An nn cn,ke,.slice none 0 0,⟨true,-1,-1,true⟩⟩:CV).val∧am V vi (Ref.name iss)∧am V vs (Ref.name sub)∧am V vr [1,0]:=hJ 38 (by decide) (by decide);obtain⟨g,e8,hg8,hB8⟩:∃g,a'.eval (.tmp 8)=.pointer (some ⟨g,0,none⟩)∧w2.heap.size≤g∧Bc V g CV.zero:=hJ 39 (by decide) (by decide);obtain⟨R0,x0,y0,rfl,_⟩:=id r1;obtain⟨R1,x1,y1,rfl,_⟩:=id r2;obtain⟨R2,x2,y2,rfl,_⟩:=id r3;refine l6 _ _ rfl g CV.zero _ e8 e64 hB8 (CV.one rfl rfl rfl rfl rfl rfl rfl) ?_;intro w3 hB3 hg3;change Exit.then _ _ Exit.normal a' w3;obtain⟨sl,va,ha⟩:=ed (by show aH _ 94=true;decide +kernel) hd hsz' hfr;have v8:sl 39=.pointer (some ⟨g,0,none⟩):=(va 39).symm.trans e8;have k4:List.range 41=[0,1,2,3,4,5,6,7,8,9,10,11,12,13,14,15,16,17,18,19,20,21,22,23,24,25,26,27,28,29,30,31,32,33,34,35,36,37,38,39,40]:=rfl;simp only[dE,List.map_cons,List.map_nil,List.size_toArray,List.length_cons,List.length_nil,Nat.reduceAdd,k4,List.zip_cons_cons,List.zip_nil_left,List.foldl_cons,List.foldl_nil,Act.put,List.setIfInBounds_toArray,List.set_cons_zero,List.set_cons_succ,List.getD_cons_zero,List.getD_cons_succ,v8]at ha;subst ha;have m4:=hB8.lt;have m3:=hG.size;have m9:=hg3.size;have q0:∀v xs,am V v xs→am w3 v xs:=fun v xs hv=>qI hv hg3 hB8 (by decide)
    have kc:Below w2.heap.size w2 w3:=hG.grown hg3 hG.size (fun j hj=>by cases hj;exact hg8);have H3:=hd6 hB3 kc (q0 _ _ r1) (q0 _ _ r2) (q0 _ _ r3) (q0 _ _ (HX.2.2.2.2.2.1.below hG));clear k4 hd hsz' hfr hG hJ va v8 e8 e64 r1 r2 r3 hB8 hB3 hg3 q0 kc;apply_assumption;have li:=(bF H3.2.2.1).len;have ls:=(bF H3.2.2.2.1).len;have lr:=(bF H3.2.2.2.2.1).len;have ln:=(bF H3.2.2.2.2.2).len;have k2:=gj iss v3;have k3:=gj sub v4;have mb:=HX.1;obtain⟨TT,hT⟩:∃TT,Ref.tbs (Ref.name iss) (Ref.name sub) [1,0] kn ⟨2020,1,1,0,0,0⟩ ⟨2060,1,1,0,0,0⟩ ke ⟨true,-1,-1,true⟩=TT:=⟨_,rfl⟩
    have j0:=HX.2.2.1;have kv:∀sg,(Lad.kase0 iss sub kn ke sg).tbs=TT:=fun sg=>(Lad.k_tbs iss sub kn sg ke (by omega) HX.2.1 v3 v4 (by omega)).trans hT
    have kx:TT.length≤4000:=by rw[←hT];exact qP _ _ _ _ _ _ _ _ k2 k3 (by simp) (by omega)
    have q2:=sH (.slice none 0 0) (.slice none 0 0) (.slice none 0 0) R0 R1 R2 An x0 y0 x1 y1 x2 y2 nn cn (Ref.name iss) (Ref.name sub) [1,0] kn ⟨2020,1,1,0,0,0⟩ ⟨2060,1,1,0,0,0⟩ ke ⟨true,-1,-1,true⟩ w3 rfl rfl rfl (bF H3.2.2.1) (bF H3.2.2.2.1) (bF H3.2.2.2.2.1) (bF H3.2.2.2.2.2) (by omega) (by omega) (by simp at lr;omega) (by omega) ⟨by decide,by decide,by decide,by decide,by decide,by decide⟩ ⟨by decide,by decide,by decide,by decide,by decide,by decide⟩ (by omega) (by decide) (by decide) ⟨rfl,rfl,rfl,rfl⟩;rw[hT]at q2;have HC:=hd3 q2 kv kx;clear q2 kv kx hT li ls lr ln k2 k3 mb j0
    go_upto_region 7 with fail
    refine wp_region_lit ?_;refine dZ rfl (.tmp 8) rfl g (⟨.slice none 0 0,.slice none 0 0,.slice R0 x0 y0,.slice R1 x1 y1,.slice R2 x2 y2,⟨2020,1,1,0,0,0⟩,⟨2060,1,1,0,0,0⟩,.slice An nn cn,ke,.slice none 0 0,⟨true,-1,-1,true⟩⟩:CV) rfl H3.1 ?_;obtain⟨cval,hcv⟩:∃v,CV.val (⟨.slice none 0 0,.slice none 0 0,.slice R0 x0 y0,.slice R1 x1 y1,.slice R2 x2 y2,⟨2020,1,1,0,0,0⟩,⟨2060,1,1,0,0,0⟩,.slice An nn cn,ke,.slice none 0 0,⟨true,-1,-1,true⟩⟩:CV)=v:=⟨_,rfl⟩
    rw[hcv];have vt:=HC.1;rw[hcv]at vt;have pb:=hd1 vt;clear vt hcv
    go_wp2_with fail
    refine pb.out.mono ?_;rintro en w4 ⟨At_,nt,ct,rfl,ho4,hb4⟩;have ta:=hb4.size;have yy:=H3.1.below hb4 H3.1.lt;have lt_:TT.length=nt:=ax ho4;have ko:Bc (w4.setCell ⟨g,1,none⟩ (.slice At_ nt ct)) g ({(⟨.slice none 0 0,.slice none 0 0,.slice R0 x0 y0,.slice R1 x1 y1,.slice R2 x2 y2,⟨2020,1,1,0,0,0⟩,⟨2060,1,1,0,0,0⟩,.slice An nn cn,ke,.slice none 0 0,⟨true,-1,-1,true⟩⟩:CV) with tbs:=.slice At_ nt ct}:CV):=ac.set_ yy 1 (.slice At_ nt ct);have j7:∀v xs,am w4 v xs→am (w4.setCell ⟨g,1,none⟩ (.slice At_ nt ct)) v xs:=fun v xs hv=>dQ hv yy (by decide) _
    have kd:Below w2.heap.size w2 (w4.setCell ⟨g,1,none⟩ (.slice At_ nt ct)):=(H3.2.1.trans (hb4.mono H3.2.1.size)).setCell (by show w2.heap.size≤g;exact hg8) _;have H5:=hd5 ko kd (j7 _ _ (am.own ho4)) (And.intro (j7 _ _ (H3.2.2.1.below hb4)) (And.intro (j7 _ _ (H3.2.2.2.1.below hb4)) (And.intro (j7 _ _ (H3.2.2.2.2.1.below hb4)) (j7 _ _ (H3.2.2.2.2.2.below hb4))))) lt_;have k1:w4.cell? ⟨g,1,none⟩=some (.slice none 0 0):=ac.cell yy 1;have mz:=ac.frozen yy 1;clear ho4 hb4 yy ko j7 kd lt_
    go_upto_region 8 with fail
    obtain⟨w5,hw5⟩:∃W,W=w4.setCell ⟨g,1,none⟩ (.slice At_ nt ct):=⟨_,rfl⟩
    have ve:=H5.out;rw[←hw5]at ve ⊢;have H5:=hd1 ve;have k1:w5.cell? ⟨g,1,none⟩=some (.slice At_ nt ct):=ac.cell H5.1 1;clear ve hw5 mz
    go_wp2_with fail
    refine(xE At_ nt ct TT w5 (bF H5.2.2.1) (by have:=H5.2.2.2.2;have:=HC.2.2;omega)).mono ?_;rintro en w6 ⟨rfl,hb6⟩;rw[zh];obtain⟨D,hD⟩:∃D,Sha.sumB TT=D:=⟨_,rfl⟩
    have vn:D.length=32:=by rw[←hD];exact po TT
    rw[hD];have mv:=hb6.size;have HD:=hd3 hb6 hD vn;clear hb6 hD
    go_wp2_with fail
    refine(xe D vn w6).mono ?_;rintro en w7 ⟨p1,p2,rfl,hp1,hp2,hP1,hP2,hb7⟩;have tb:=hb7.size;have mm:w5.heap.size≤w7.heap.size:=by omega
    have q6:Below w5.heap.size w5 w7:=HD.1.trans (hb7.mono mv);have H7:=hd6 (H5.1.below q6 H5.1.lt) (H5.2.1.trans (q6.mono H5.2.1.size)) (H5.2.2.1.below q6) (And.intro (H5.2.2.2.1.1.below q6) (And.intro (H5.2.2.2.1.2.1.below q6) (And.intro (H5.2.2.2.1.2.2.1.below q6) (H5.2.2.2.1.2.2.2.below q6)))) hP1 hP2;clear hP1 hP2 hb7 q6 k1 vn
    go_upto_region 9 with fail
    obtain⟨w8,hw8⟩:∃W,W=w7.alloc (.cells #[.slice (some ⟨p1,0,none⟩) 256 256,.int .u64 3] 67):=⟨_,rfl⟩
    rw[←hw8];have qv:Below w7.heap.size w7 w8:=by rw[hw8];exact al w7 _
    have K8:ac w8 w7.heap.size 67 #[.slice (some ⟨p1,0,none⟩) 256 256,.int .u64 3]:=by rw[hw8];exact ac.new w7 _ _
    have tc:w8.heap.size=w7.heap.size+1:=by rw[hw8];simp
    have B8:=H7.1.below qv H7.1.lt;have z4:i+1<n→Lad.sig names k0 i=Lb.keyS D:=fun h=>by
     unfold Lad.sig Lad.dig;rw[H1.2.2.2.2.2.2,if_pos h,HX.2.2.2.1,HC.2.1,HD.2.1]
    have z3:¬i+1<n→Lad.sig names k0 i=[]:=fun h=>by
     unfold Lad.sig;rw[H1.2.2.2.2.2.2,if_neg h]
    have q3:Lad.key names k0 (i+1)=(Lb.keyN D,3):=by
     rw[Lad.key_succ];unfold Lad.dig;rw[HX.2.2.2.1,HC.2.1,HD.2.1]
    have y6:am w8 (.slice (some ⟨p1,0,none⟩) 256 256) (Lb.keyN D):=am.blk (H7.2.2.2.2.1.below qv H7.2.2.2.2.1.lt) (ie (H7.2.2.2.2.1.below qv H7.2.2.2.2.1.lt) (Lb.keyN_len D) (by omega));have y7:am w8 (.slice (some ⟨p2,0,none⟩) 256 256) (Lb.keyS D):=am.blk (H7.2.2.2.2.2.below qv H7.2.2.2.2.2.lt) (ie (H7.2.2.2.2.2.below qv H7.2.2.2.2.2.lt) (Lb.keyS_len D) (by omega));have kl:g≠w7.heap.size:=by have:=H7.1.lt;omega
    have H8:=hd10 B8 (H7.2.1.trans (qv.mono H7.2.1.size)) (H7.2.2.1.below qv) (And.intro (H7.2.2.2.1.1.below qv) (And.intro (H7.2.2.2.1.2.1.below qv) (And.intro (H7.2.2.2.1.2.2.1.below qv) (H7.2.2.2.1.2.2.2.below qv)))) K8 y6 y7 z4 z3 q3;have ps:w8.cell? ⟨g,19,none⟩=some (.slice none 0 0):=ac.cell B8 19;have m2:=ac.frozen B8 19;clear hw8 qv K8 B8 z4 z3 q3 y6 y7
    go_upto_if 79 with fail
    go_cut [] from 11 to 92 (fun wx=>∃A m c',Bc wx g (⟨.slice none 0 0,.slice At_ nt ct,.slice R0 x0 y0,.slice R1 x1 y1,.slice R2 x2 y2,⟨2020,1,1,0,0,0⟩,⟨2060,1,1,0,0,0⟩,.slice An nn cn,ke,.slice A m c',⟨true,-1,-1,true⟩⟩:CV)∧am wx (.slice A m c') (Lad.sig names k0 i)∧w8.grownBy wx (some g))
    case first=>
     by_cases hla:i+1<n
     ·have v2:(i:Int)+1<(n:Int):=by omega
      go_wp2_with fail
      go_meet
      case rel=>exact⟨some ⟨p2,0,none⟩,256,256,ac.set_ H8.1 19 (.slice (some ⟨p2,0,none⟩) 256 256),by rw[H8.2.2.2.2.2.2.2.1 hla];exact dQ H8.2.2.2.2.2.2.1 H8.1 (by decide) _,bq (World.grownBy.refl _ _) _ _⟩
     ·have v2:¬((i:Int)+1<(n:Int)):=by omega
      go_wp2_with fail
      go_meet
      case rel=>exact⟨none,0,0,H8.1,by rw[H8.2.2.2.2.2.2.2.2.1 hla];exact⟨none,0,0,rfl,Rd.none_,fun ad e=>(by cases e)⟩,World.grownBy.refl _ _⟩
    case rest=>
     obtain⟨Sg_,sm,sc,hB9,hS9,hgr⟩:=hcut;obtain⟨w9,hw9⟩:∃W,W=wc:=⟨_,rfl⟩
     subst hw9;have td:=hgr.size;have qg:∀v xs,am w8 v xs→am w9 v xs:=fun v xs hv=>qI hv hgr H8.1 (by decide)
     have kf:Below w2.heap.size w2 w9:=H8.2.1.grown hgr H8.2.1.size (fun j hj=>by cases hj;exact hg8);have K9:=H8.2.2.2.2.1.grown hgr (fun e=>by injection e with e;exact kl e.symm);have va:=Lad.sig_len names k0 i;obtain⟨sg,hsg⟩:∃sg,Lad.sig names k0 i=sg:=⟨_,rfl⟩
     rw[hsg]at hS9 va;have lS:=(bF hS9).len;have vo:=qg _ _ H8.2.2.1;have lT:=(bF vo).len;have f1:w9.cell? ⟨g,1,none⟩=some (.slice At_ nt ct):=ac.cell hB9 1;have p6:w9.cell? ⟨g,19,none⟩=some (.slice Sg_ sm sc):=ac.cell hB9 19;have H9:=hd8 hB9 kf vo (And.intro (qg _ _ H8.2.2.2.1.1) (And.intro (qg _ _ H8.2.2.2.1.2.1) (And.intro (qg _ _ H8.2.2.2.1.2.2.1) (qg _ _ H8.2.2.2.1.2.2.2)))) K9 (qg _ _ H8.2.2.2.2.2.1) hS9 hsg;clear hB9 hS9 hgr qg kf K9 vo ps m2 hsg
     go_wp2_with fail
     refine(uW At_ Sg_ nt ct sm sc TT sg w9 (bF H9.2.2.1) (bF H9.2.2.2.2.2.2.1) (by have:=HC.2.2;omega) (by omega)).mono ?_;rintro en w10 ⟨Aw,nw,cw,rfl,ho10,hb10⟩;have mj:=hb10.size;have q1:=H9.1.below hb10 H9.1.lt;have qd:∀v xs,am w10 v xs→am (w10.setCell ⟨g,0,none⟩ (.slice Aw nw cw)) v xs:=fun v xs hv=>dQ hv q1 (by decide) _
     have ys:Bc (w10.setCell ⟨g,0,none⟩ (.slice Aw nw cw)) g (⟨.slice Aw nw cw,.slice At_ nt ct,.slice R0 x0 y0,.slice R1 x1 y1,.slice R2 x2 y2,⟨2020,1,1,0,0,0⟩,⟨2060,1,1,0,0,0⟩,.slice An nn cn,ke,.slice Sg_ sm sc,⟨true,-1,-1,true⟩⟩:CV):=ac.set_ q1 0 (.slice Aw nw cw);have v9:ac (w10.setCell ⟨g,0,none⟩ (.slice Aw nw cw)) w7.heap.size 67 #[.slice (some ⟨p1,0,none⟩) 256 256,.int .u64 3]:=(H9.2.2.2.2.1.below hb10 (by omega)).far (by show w7.heap.size≠g;exact kl.symm) _;have yh:Below w2.heap.size w2 (w10.setCell ⟨g,0,none⟩ (.slice Aw nw cw)):=(H9.2.1.trans (hb10.mono H9.2.1.size)).setCell (by show w2.heap.size≤g;exact hg8) _;have R:=H9.2.2.2.1;have qs:=hd5 ys v9 yh (And.intro (qd _ _ (am.own ho10)) (And.intro (qd _ _ (H9.2.2.1.below hb10)) (And.intro (qd _ _ (R.1.below hb10)) (And.intro (qd _ _ (R.2.1.below hb10)) (And.intro (qd _ _ (R.2.2.1.below hb10)) (And.intro (qd _ _ (R.2.2.2.below hb10)) (qd _ _ (H9.2.2.2.2.2.2.1.below hb10)))))))) (qd _ _ (H9.2.2.2.2.2.1.below hb10));have f0:w10.cell? ⟨g,0,none⟩=some (.slice none 0 0):=ac.cell q1 0;have z0:=ac.frozen q1 0;clear ho10 hb10 q1 qd ys v9 yh R f1 p6
     go_upto_region 12 with fail
     obtain⟨w11,hw11⟩:∃W,W=w10.setCell ⟨g,0,none⟩ (.slice Aw nw cw):=⟨_,rfl⟩
     have j3:=qs.out;have v5:w11.heap.size=w10.heap.size:=by rw[hw11];simp
     rw[←hw11]at j3 ⊢;have qs:=hd1 j3;clear j3 hw11 f0 z0;have kB:=(HK.out w11 qs.2.2.1).2.2;have t0:=kB.cell 0;have t1:=kB.cell 1;have m0:=kB.frozen 0;have m1:=kB.frozen 1;have a0:=qs.2.1.cell 0;have a1:=qs.2.1.cell 1;have pa:w.heap.size≠g:=by omega
     have z5:=(kB.set_ 0 (.slice (some ⟨p1,0,none⟩) 256 256)).set_ 1 (.int .u64 3);have yv:Bc ((w11.setCell ⟨w.heap.size,0,none⟩ (.slice (some ⟨p1,0,none⟩) 256 256)).setCell ⟨w.heap.size,1,none⟩ (.int .u64 3)) g (⟨.slice Aw nw cw,.slice At_ nt ct,.slice R0 x0 y0,.slice R1 x1 y1,.slice R2 x2 y2,⟨2020,1,1,0,0,0⟩,⟨2060,1,1,0,0,0⟩,.slice An nn cn,ke,.slice Sg_ sm sc,⟨true,-1,-1,true⟩⟩:CV):=(ac.far qs.1 (by show g≠w.heap.size;exact pa.symm) _).far (by show g≠w.heap.size;exact pa.symm) _;have qc:∀v xs,am w11 v xs→am ((w11.setCell ⟨w.heap.size,0,none⟩ (.slice (some ⟨p1,0,none⟩) 256 256)).setCell ⟨w.heap.size,1,none⟩ (.int .u64 3)) v xs:=fun v xs hv=>dQ (dQ hv kB (by decide) _) (kB.set_ 0 (.slice (some ⟨p1,0,none⟩) 256 256)) (by decide) _
     have kb:Below w1.heap.size wr w11:=(HX.2.2.2.2.2.2.1.trans (qs.2.2.1.mono (by omega))).mono (by omega);have yd:Below w.heap.size w ((w11.setCell ⟨w.heap.size,0,none⟩ (.slice (some ⟨p1,0,none⟩) 256 256)).setCell ⟨w.heap.size,1,none⟩ (.int .u64 3)):=((HR.2.2.2.2.2.1.trans (kb.mono (by omega))).setCell (by show w.heap.size≤w.heap.size;exact Nat.le_refl _) _).setCell (by show w.heap.size≤w.heap.size;exact Nat.le_refl _) _;have j2:∀q,w1.heap.size≤q→q<wr.heap.size→((w11.setCell ⟨w.heap.size,0,none⟩ (.slice (some ⟨p1,0,none⟩) 256 256)).setCell ⟨w.heap.size,1,none⟩ (.int .u64 3)).heap[q]? = wr.heap[q]?:=fun q h1 h2=>by
      rw[Below.heap_setCell _ _ _ q (by show q≠w.heap.size;omega),Below.heap_setCell _ _ _ q (by show q≠w.heap.size;omega)];exact(HX.2.2.2.2.2.2.1.trans (qs.2.2.1.mono (by omega))).block q h2
     have T:=qs.2.2.2.1;have q4:=hd7 z5 yv yd j2 (And.intro (qc _ _ T.1) (And.intro (qc _ _ T.2.1) (And.intro (qc _ _ T.2.2.1) (And.intro (qc _ _ T.2.2.2.1) (And.intro (qc _ _ T.2.2.2.2.1) (And.intro (qc _ _ T.2.2.2.2.2.1) (qc _ _ T.2.2.2.2.2.2))))))) (qc _ _ qs.2.2.2.2) (fun v xs (hv:am wr v xs)=>qc v xs (hv.below (HX.2.2.2.2.2.2.1.trans (qs.2.2.1.mono (by omega)))));clear kB z5 yv qc kb yd j2 T
     go_upto_region 13 with fail
     obtain⟨w12,hw12⟩:∃W,W=(w11.setCell ⟨w.heap.size,0,none⟩ (.slice (some ⟨p1,0,none⟩) 256 256)).setCell ⟨w.heap.size,1,none⟩ (.int .u64 3):=⟨_,rfl⟩
     have j4:=q4.out;have v6:w12.heap.size=w11.heap.size:=by rw[hw12];simp
     rw[←hw12]at j4 ⊢;have q4:=hd1 j4;clear j4 hw12 t0 t1 m0 m1 a0 a1;have k5:=qs.2.2.1.size;have ky:=et w12 72 [.slice Aw nw cw,.slice At_ nt ct,.slice R0 x0 y0,.slice R1 x1 y1,.slice R2 x2 y2,.int .u16 2020,.int .u8 1,.int .u8 1,.int .u8 0,.int .u8 0,.int .u8 0,.int .u16 2060,.int .u8 1,.int .u8 1,.int .u8 0,.int .u8 0,.int .u8 0,.slice An nn cn,.int .u64 (ke:Int),.slice Sg_ sm sc,.bool true,.int .i64 (-1),.int .i64 (-1),.bool true];have y4:aP 72 24 KI.cells KI.rows (w12.alloc (.cells #[.slice Aw nw cw,.slice At_ nt ct,.slice R0 x0 y0,.slice R1 x1 y1,.slice R2 x2 y2,.int .u16 2020,.int .u8 1,.int .u8 1,.int .u8 0,.int .u8 0,.int .u8 0,.int .u16 2060,.int .u8 1,.int .u8 1,.int .u8 0,.int .u8 0,.int .u8 0,.slice An nn cn,.int .u64 (ke:Int),.slice Sg_ sm sc,.bool true,.int .i64 (-1),.int .i64 (-1),.bool true] 72)) w1.heap.size wr.heap.size (.slice Av i cv) L:=by
      have h0:=HR.1;rw[y3]at h0;refine⟨ar.alloc (ar.keep h0.1 q4.2.2.2.1) (by omega) _,fun p hp=>(q4.2.2.2.2.2.2 _ _ (h0.2 p hp)).alloc _⟩
     have HA:=hd2 ky y4;clear ky y4;have q5:=q4.2.1;obtain⟨wo,hwo⟩:∃W,W=wr:=⟨_,rfl⟩
     subst hwo;refine wp_region_lit ?_;refine pA rfl (.tmp 5) rfl ?_;refine dZ rfl (.tmp 8) rfl g (⟨.slice Aw nw cw,.slice At_ nt ct,.slice R0 x0 y0,.slice R1 x1 y1,.slice R2 x2 y2,⟨2020,1,1,0,0,0⟩,⟨2060,1,1,0,0,0⟩,.slice An nn cn,ke,.slice Sg_ sm sc,⟨true,-1,-1,true⟩⟩:CV) rfl q5 ?_;clear q5;unfold CV.val CV.cells;dsimp only
     go_wp2_with (first
      | (at_builtin
         go_loud (refine aN rfl (.tmp 89) (.tmp 91) 25 rfl 72 _ 24 224 jg Tryz.underlying25 rfl (by omega) w1.heap.size wo.heap.size (.slice Av i cv) i (L.flatMap KI.cells) rfl (by have:=HA.2.1;rwa [y3]at this) (by simp;omega) (w12.heap.size+1) (some ⟨w12.heap.size,0,none⟩) 1 1 [.slice Aw nw cw,.slice At_ nt ct,.slice R0 x0 y0,.slice R1 x1 y1,.slice R2 x2 y2,.int .u16 2020,.int .u8 1,.int .u8 1,.int .u8 0,.int .u8 0,.int .u8 0,.int .u16 2060,.int .u8 1,.int .u8 1,.int .u8 0,.int .u8 0,.int .u8 0,.slice An nn cn,.int .u64 (ke:Int),.slice Sg_ sm sc,.bool true,.int .i64 (-1),.int .i64 (-1),.bool true] (by rw[v6,v5];rfl) HA.1 (by simp[Value.oneCell']) (by omega) (by omega) ?_)
         intro v' w13 ho13 hg13 hat13 qh)
      | fail)
     have T:=q4.2.2.2.2.1;have ma:=HX.2.2.1;have v7:=H9.2.2.2.2.2.2.2;have ks:=HX.2.2.2.2.1;rw[v7]at ks;have kt:=HC.2.1 sg;have j5:=Lad.k_sg iss sub kn sg ke (by have:=HX.1;omega) HX.2.1 v3 v4 (by omega);rw[kt]at j5;have hd:Lad.d (Lad.kase names k0 i)=(Ref.wr TT sg,(⟨TT,Ref.name iss,Ref.name sub,[1,0],⟨2020,1,1,0,0,0⟩,⟨2060,1,1,0,0,0⟩,kn,ke,⟨true,-1,-1,true⟩⟩:Sg),sg):=by
      rw[ks];unfold Lad.d;rw[j5];unfold aM.raw;rw[kt];show(Ref.wr TT (sg.take 600),_,sg.take 600)=_;rw[List.take_of_length_le (by omega)]
     have y5:im w13 w1.heap.size w13.heap.size v' (L++[(⟨(⟨.slice Aw nw cw,.slice At_ nt ct,.slice R0 x0 y0,.slice R1 x1 y1,.slice R2 x2 y2,⟨2020,1,1,0,0,0⟩,⟨2060,1,1,0,0,0⟩,.slice An nn cn,ke,.slice Sg_ sm sc,⟨true,-1,-1,true⟩⟩:CV),Lad.d (Lad.kase names k0 i)⟩:KI)]):=by
      refine aP.snoc (x:=(⟨(⟨.slice Aw nw cw,.slice At_ nt ct,.slice R0 x0 y0,.slice R1 x1 y1,.slice R2 x2 y2,⟨2020,1,1,0,0,0⟩,⟨2060,1,1,0,0,0⟩,.slice An nn cn,ke,.slice Sg_ sm sc,⟨true,-1,-1,true⟩⟩:CV),Lad.d (Lad.kase names k0 i)⟩:KI)) HA.2 (fun p hp=>?_) (by rw[y3];exact ho13) hg13 (by decide);rw[hd]at hp;simp only[KI.rows,List.mem_cons,List.not_mem_nil,or_false]at hp;rcases hp with rfl|rfl|rfl|rfl|rfl|rfl|rfl
      ·exact T.1.alloc _
      ·exact T.2.1.alloc _
      ·exact T.2.2.1.alloc _
      ·exact T.2.2.2.1.alloc _
      ·exact T.2.2.2.2.1.alloc _
      ·exact T.2.2.2.2.2.1.alloc _
      ·exact T.2.2.2.2.2.2.alloc _
     have j8:Below w.heap.size w w13:=(q4.2.2.1.alloc q4.2.2.1.size _).trans (qh.mono (by omega));have ml:=qh.size;have k6:ac w13 w.heap.size 67 #[.slice (some ⟨p1,0,none⟩) 256 256,.int .u64 3]:=(ac.alloc q4.1 _).below qh (by omega);have z6:am w13 (.slice (some ⟨p1,0,none⟩) 256 256) (Lb.keyN D):=by
      have h1:=q4.2.2.2.2.2.1.alloc (.cells #[.slice Aw nw cw,.slice At_ nt ct,.slice R0 x0 y0,.slice R1 x1 y1,.slice R2 x2 y2,.int .u16 2020,.int .u8 1,.int .u8 1,.int .u8 0,.int .u8 0,.int .u8 0,.int .u16 2060,.int .u8 1,.int .u8 1,.int .u8 0,.int .u8 0,.int .u8 0,.slice An nn cn,.int .u64 (ke:Int),.slice Sg_ sm sc,.bool true,.int .i64 (-1),.int .i64 (-1),.bool true] 72);refine h1.keep hg13.size fun q cs fr hq=>hg13.block q (Array.getElem?_eq_some_iff.1 hq).1 fun e2=>?_
      rcases HA.2.1.1.2 with⟨e3,_⟩|⟨g2,cap2,cur2,e3,hb2,hg2,_⟩
      ·injection e3 with e3 _ _
       subst e3;simp[Value.ownBlock]at e2
      ·injection e3 with e3 _ _
       subst e3;simp only[Value.ownBlock,Option.some.injEq]at e2;subst e2;rw[hg2]at hq;injection hq with hq
       injection hq with _ ht
       exact absurd ht.symm (by decide)
     have HF:=hd6 y5 j8 k6 z6 hd j5;clear y5 j8 k6 z6 hd qh hg13 ho13 hat13 T
     go_wp2_with fail
     go_roundw
     case rel=>
      have q3:=H8.2.2.2.2.2.2.2.2.2;have zs:=HF.2.2.1;have j6:=HF.2.2.2.1;have qh:=HF.2.1;have v0:ac w13 w.heap.size 67 #[.slice (some ⟨p1,0,none⟩) 256 256,.int .u64 (((Lad.key names k0 (i+1)).2:Nat):Int)]∧am w13 (.slice (some ⟨p1,0,none⟩) 256 256) (Lad.key names k0 (i+1)).1:=by
       rw[q3];generalize Lb.keyN D=KN at j6;exact⟨zs,j6⟩
      clear q3 zs j6;refine⟨i+1,_,_,some ⟨p1,0,none⟩,256,256,by omega,by go_num,rfl,HF.1,?_,?_,v0.1,v0.2,qh,H0.out.up qh,by have:=v0.1.lt;omega⟩
      ·rw[List.map_append,HR.2.1,List.range_succ,List.map_append]
       rfl
      ·intro y hy
       rcases List.mem_append.1 hy with hy|hy
       ·exact HR.2.2.1 y hy
       ·rw[List.mem_singleton.1 hy]
        unfold KI.ok;rw[HF.2.2.2.2.1]
        rfl
     case measure=>first|(simp[intOf];done)|(simp[intOf];omega)
  ·obtain rfl:i=n:=by omega
   have qk:¬((i:Int)<(i:Int)):=by omega
   have HF:=hd4 hO hL hok hb;clear hO hL hok hb rv hKb hkr hR
   go_wp2_with fail
   go_ret
   refine⟨_,L,rfl,?_,by rw[H1.2.2.2.2.2.2];exact HF.2.1,HF.2.2.1,HF.2.2.2⟩;have h1:=HF.1;rw[y3]at h1;exact aP.mono h1 (by omega) nl_
theorem rY {w:World} {g:Nat} {v0 v1 v2 v3 v4 v5:Value} (h:ac w g 62 #[v0,v1,v2,v3,v4,v5]):(loadVar 62 ⟨g,0,none⟩).run Tryz.prog w=.ok (.agg #[v0,v1,v2,v3,v4,v5]) w:=by
 have hk:=h.cell;have h0:=run_loadVar_mid (P:=Tryz.prog) w g 0 62 [v0,v1,v2,v3,v4,v5] _ (fun j u hu=>by rw[Nat.zero_add,hk];simpa using hu) Tryz.underlying62 rfl rfl;exact h0
theorem sK (s:ByteArray) (w:World) :
 Calls Tryz.prog 34 #[.string s] w fun e w'=>e=.returned (.agg #[.string s,.int .u8 0,.bool true,.bool true,.int .i64 (-1),.int .i64 (-1)])∧Below w.heap.size w w':=by
 go_enter Tryz.func34,Tryz.ntmps34
 go_wp2_with (fail)
 exact bodyPost_ret (bT Tryz.results34 _ _ _ ⟨w.heap.size,0,none⟩ _ rfl (rY (ac.new w _ _))) rfl ⟨rfl,al w _⟩
noncomputable def uK:Code:=dD 5 (fA Tryz.f25)
def tI (B g p b o n c k:Nat) (vL vS:Value) (y:OI) (i:Nat) (v:Value) (w:World):Prop:=
 match i with
 | 0=>v=.pointer (some ⟨g,3,none⟩)
 | 1=>v=vS
 | 2=>v=.pointer (some ⟨p,3,none⟩)
 | 3=>v=vL
 | 4=>v=.int .i64 (k:Int)
 | 5=>v=.pointer (some ⟨b,o+k*6,none⟩)
 | 6=>v=.agg (y.x.row y.vk y.vs y.vd y.vg)
 | 7=>∃z:SI,v=.agg z.v.cells∧z.s=y.x.sr∧∀p∈z.rows,am w p.1 p.2
 | _=>∃(z:SI) (q:Nat),v=.slice (some ⟨q,0,none⟩) 1 1∧B≤q∧ac w q 54 z.v.cells∧z.s=y.x.sr∧∀p∈z.rows,am w p.1 p.2
theorem tI.up {B g p b o n c k:Nat} {vL vS:Value} {y:OI} (i:Nat) (v:Value) (w w':World) (hR:KU B w w') (h:tI B g p b o n c k vL vS y i v w):tI B g p b o n c k vL vS y i v w':=by
 match i,h with
 | 0,h|1,h|2,h|3,h|4,h|5,h|6,h=>exact h
 | 7,⟨z,h1,h2,h3⟩=>exact⟨z,h1,h2,fun p hp=>hR.rdt (h3 p hp)⟩
 | _+8,⟨z,q,h1,h2,h3,h4,h5⟩=>exact⟨z,q,h1,h2,hR.blk h3 (by decide),h4,fun p hp=>hR.rdt (h5 p hp)⟩
theorem xr:(Tryz.prog.info? 51).map (·.size)=some 6:=by kernel_rfl
theorem xi {w:World} {b p:Nat} (y:OI) (h:∀j v,(OI.cells y)[j]? = some v→w.cell? ⟨b,p+j,none⟩=some v):(loadVar 51 ⟨b,p,none⟩).run Tryz.prog w=.ok (.agg (y.x.row y.vk y.vs y.vd y.vg)) w:=by
 have:=iK (l:=OI.cells y) 51 _ Tryz.underlying51 rfl xr h
 simpa [OI.cells]using this
structure M9 (x:MK) (w:World) (g:Nat) (vk vc vs vK vC:Value) (Av:Option Addr) (m cv:Nat) (W:World):Prop where
 bel:Below w.heap.size w W
 big:w.heap.size+1<g
 lt:g<W.heap.size
 case_:ac W w.heap.size 43 #[vk,vc,.int .u8 (x.certs:Int),vs,.bool x.bare,.bool x.none]
 res:ac W (w.heap.size+1) 28 #[.slice none 0 0,.slice none 0 0,.slice none 0 0,.slice none 0 0]
 sd:ac W g 28 #[vK,vC,.slice none 0 0,.slice none 0 0]
 rk:am W vK (Zc.koid x.kind)
 rc:am W vC x.cont
 rg:nU W Av m cv x.names
theorem M9.mt {x:MK} {w W W8 W9:World} {g m cv c8:Nat} {vk vc vs vK vC:Value} {Av A8:Option Addr} {L:List KI} (h:M9 x w g vk vc vs vK vC Av m cv W) (hb:Below W.heap.size W W8) (ho:im W8 W.heap.size W8.heap.size (.slice A8 L.length c8) L)
 (he:W9=W8.setCell ⟨g,2,none⟩ (.slice A8 L.length c8)):gb x w g W9.heap.size vk vc vs vK vC (.slice A8 L.length c8) (.slice none 0 0) L W9:=by
 have qh:=hb.size;have qd:=h.sd.below hb h.lt;have qk:W9.heap.size=W8.heap.size:=by rw[he];simp
 have qc:W8.grownBy W9 (some g):=by
  rw[he];exact⟨rfl,rfl,rfl,by simp,fun k hk hne=>Below.heap_setCell _ _ _ k (fun e=>hne (by rw[e]))⟩
 have qg:=h.bel.trans (hb.mono h.bel.size);refine⟨qg.grown qc qg.size (fun j hj=>by cases hj;have:=h.big;omega),h.big,by have:=h.lt;omega,Nat.le_refl _,(h.case_.below hb h.case_.lt).grown qc (fun e=>by injection e with e;have:=h.big;omega),(h.res.below hb h.res.lt).grown qc (fun e=>by injection e with e;have:=h.big;omega),?_,
  dY (h.rk.below hb) qc qd (by decide),dY (h.rc.below hb) qc qd (by decide),?_⟩
 ·rw[he]
  have:=qd.set_ 2 (.slice A8 L.length c8)
  simpa using this
 ·exact aP.grow (aP.mono ho (by have:=h.lt;omega) nl_) qc (Nat.lt_succ_self _) qd (by decide)
set_option maxHeartbeats 16000000 in
theorem sa (N:Nat) (hN:ja N) (x:MK) (Ak Ac As:Option Addr) (nk ck nc cc ns cs:Nat) (w wr:World) (g:Nat) (A1 A5 Av:Option Addr) (n1 c1 n5 c5 m cv:Nat)
 (h:M9 x w g (.slice Ak nk ck) (.slice Ac nc cc) (.slice As ns cs) (.slice A1 n1 c1) (.slice A5 n5 c5) Av m cv wr) (hm:m≤3) (hs:tL w As ns cs x.ones) (hn:(x.ones.length≤N∨8≤N)∧1≤N) (u0 u3 u6 u7 u8 u9 u10 u11 u12 u13 u14 u15 u16 u17 u18 u19 u20 u21 u22 u23 u24 u25 u26 u27 u28 u29 u30 u31 u32 u33 u34 u35 u36 u37 u38 u39 u40 u41 u42 u43 u44 u45 u46 u47 u48 u49 u50 u51 u52 u53 u54 u55 u56 u57 u58 u59 u60 u61 u62 u63 u64 u65 u66 u67 u68 u69 u70 u71 u72 u73 u74 u75 u76 u77 u78 u79 u80 u81:Value) :
 uK.wp Tryz.prog (bodyPost Tryz.prog Tryz.f25 (dU x w)) {tmps:=(u0::Value.pointer (some ⟨w.heap.size,0,none⟩)::Value.pointer (some ⟨w.heap.size+1,0,none⟩)::u3::Value.pointer (some ⟨g,0,none⟩)::Value.slice Av m cv::u6::u7::u8::u9::u10::u11::u12::u13::u14::u15::u16::u17::u18::u19::u20::u21::u22::u23::u24::u25::u26::u27::u28::u29::u30::u31::u32::u33::u34::u35::u36::u37::u38::u39::u40::u41::u42::u43::u44::u45::u46::u47::u48::u49::u50::u51::u52::u53::u54::u55::u56::u57::u58::u59::u60::u61::u62::u63::u64::u65::u66::u67::u68::u69::u70::u71::u72::u73::u74::u75::u76::u77::u78::u79::u80::u81::[]).toArray,defers:=[]} wr:=by
 obtain⟨x0,x1⟩:=h.sd.facts;have yv:=h.lt;have y3:=h.big;have qk:=hs.row.len;generalize hQ:bodyPost Tryz.prog Tryz.f25 (dU x w)=Q;unfold uK fA;simp only[Tryz.f25,dD,Option.getD_some];have q0:=aj.lit wr [1] [.int .u8 1] 1 (by rfl) rfl (by omega);have r1:am (wr.alloc (.cells #[.int .u8 1] 5)) (.slice (some ⟨wr.heap.size,0,none⟩) 1 1) [1]:=am.own (by simpa using q0);have H:=hd6 h hs hn hQ r1 qk;clear h hs hn hQ r1 q0 qk;refine wp_seq_k fun K9 hK9=>?_
 have j2:=hd1 hK9;clear hK9
 go_wp2_with fail
 refine(pI x.names ([1],3) Av (some ⟨wr.heap.size,0,none⟩) m cv 1 1 _ (H.1.rg.up (al wr (.cells #[.int .u8 1] 5))) H.2.2.2.2.1 ⟨by decide,by decide,rfl⟩ (by omega) (by
  intro s hs;unfold MK.names at hs;obtain⟨j,_,rfl⟩:=List.mem_map.1 hs;simp)).mono ?_
 rintro e w8 ⟨v8,L,rfl,hO8,hL8,hok8,hb8⟩;obtain⟨A8,c8,rfl,_⟩:=id hO8.rd;have y4:wr.heap.size+1≤w8.heap.size:=by simpa using hb8.size
 have b8:Below wr.heap.size wr w8:=(al wr _).trans (hb8.mono (by simp));have qv:im w8 wr.heap.size w8.heap.size (.slice A8 L.length c8) L:=aP.mono hO8 (by simp) nl_;obtain⟨w9,hw9⟩:∃W,W=w8.setCell ⟨g,2,none⟩ (.slice A8 L.length c8):=⟨_,rfl⟩
 have j5:=H.1.mt b8 qv hw9;obtain⟨f0,f1⟩:=(H.1.sd.below b8 yv).facts;have y2:g<w8.heap.size:=by omega
 have H8:=hd3 j5 hL8 hok8;clear hO8 qv hL8 hok8 hb8 b8 j5 x0 x1
 go_wp2_with fail
 rw[←hw9];clear hw9 f0 f1;refine j2.out _ _ ?_;clear j2 K9;refine wp_seq_k fun K10 hK10=>?_
 have qs:=hd1 hK10;clear hK10
 go_upto_region 11 with fail
 obtain⟨B,hB⟩:∃B,w9.heap.size=B:=⟨_,rfl⟩
 have HB:=hd1 hB
 go_loopw [7] (fun kv wq=>∃(k:Nat) (vS:Value) (l:List SI),k≤ns∧k≤8∧kv=.int .i64 (k:Int)∧gb x w g B (.slice Ak nk ck) (.slice Ac nc cc) (.slice As ns cs) (.slice A1 n1 c1) (.slice A5 n5 c5) (.slice A8 L.length c8) vS L wq∧fF wq B wq.heap.size vS l∧l.map SI.s=(x.ones.take k).map (fun y=>y.x.sr)) (fun kv _=>9 - (intOf kv).toNat)
 case atStart=>exact⟨0,.slice none 0 0,[],Nat.zero_le _,Nat.zero_le _,rfl,by rw[←HB.out];exact H8.1,aP.nil_,rfl⟩
 case round=>
  obtain⟨k,vS,l,hk1,hk2,rfl,hM,hO,hl⟩:=hrel;obtain⟨wq,hwq⟩:∃W,W=wr:=⟨_,rfl⟩
  subst hwq;obtain⟨Av2,cv2,e,hRg⟩:=id hO.rd;have qc:l.length=k:=by have:=congrArg List.length hl;have:=H.2.2.2.2.2;simp only[List.length_map,List.length_take]at *;omega
  rw[qc]at e;subst e;have x3:=hM.case_.cell 3;have yd:=hM.gB;have yy:=hM.BW
  by_cases hlt:k<ns∧k<8
  ·obtain⟨hlt2,hlt8⟩:=hlt
   have qd:(k:Int)<(ns:Int):=by omega
   have q1:(k:Int)<8:=by omega
   have q4:=H.2.1.up hM.bel;obtain⟨b,o,y,rfl,hbl,hy,hcy,_⟩:=q4.row.at_ (fun _=>rfl) hlt2;have j8:=q4.each y (List.mem_of_getElem? hy);have q3:=q4.str y (List.mem_of_getElem? hy);have HK:=hd1 (fun V (hV:Below wq.heap.size wq V)=>And.intro (hM.up hV) (And.intro (fun j v (hv:(OI.cells y)[j]? = some v)=>(hV.cell (p:=⟨b,o+k*6+j,none⟩) hbl).trans (hcy j v hv)) (j8.up hV)));have HO:=hd5 hO hl qc hy q3;clear hM hO hl qc hRg q4 hcy j8 hy q3
   go_upto_region 13 with fail
   refine fj 9 (tI wq.heap.size g w.heap.size b o ns cs k (.slice (some ⟨b,o,none⟩) ns cs) (.slice Av2 k cv2) y) (fun V=>Below wq.heap.size wq V) (KU wq.heap.size) rfl (KU.refl _) tI.up (fun _ _ h h'=>h.trans h'.1) (by show aH _ 82=true;decide +kernel) (by decide +kernel) (by decide) (by decide +kernel) br_.drew ⟨?_,?_,?_,?_,?_,?_,?_,?_,?_,trivial⟩ ?_
   ·refine ai.run rfl ?_;intro a' V hfr hG hdep
    have d:a'.eval (.tmp 4)=.pointer (some ⟨g,0,none⟩):=hfr 4 (by decide +kernel);exact bR (v:=.pointer (some ⟨g,3,none⟩)) (by simp only[execOp,d];simp[go_sem,Act.eval]) (by simp) rfl
   ·refine ai.run rfl ?_;intro a' V hfr hG hdep
    have d:a'.eval (.tmp 53)=.pointer (some ⟨g,3,none⟩):=hdep 0 (by decide +kernel);have hc:V.cell? ⟨g,3,none⟩=some (.slice Av2 k cv2):=(HK.out V hG).1.sd.cell 3;exact cT (v:=.slice Av2 k cv2) rfl (by simp) d (by simp[go_sem,hc]) rfl
   ·refine ai.run rfl ?_;intro a' V hfr hG hdep
    have d:a'.eval (.tmp 1)=.pointer (some ⟨w.heap.size,0,none⟩):=hfr 1 (by decide +kernel);exact bR (v:=.pointer (some ⟨w.heap.size,3,none⟩)) (by simp only[execOp,d];simp[go_sem,Act.eval]) (by simp) rfl
   ·refine ai.run rfl ?_;intro a' V hfr hG hdep
    have d:a'.eval (.tmp 55)=.pointer (some ⟨w.heap.size,3,none⟩):=hdep 2 (by decide +kernel);have hc:V.cell? ⟨w.heap.size,3,none⟩=some (.slice (some ⟨b,o,none⟩) ns cs):=(HK.out V hG).1.case_.cell 3;exact cT (v:=.slice (some ⟨b,o,none⟩) ns cs) rfl (by simp) d (by simp[go_sem,hc]) rfl
   ·refine ai.run rfl ?_;intro a' V hfr hG hdep
    exact cI rfl (by simp) (hfr 7 (by decide +kernel))
   ·refine ai.run rfl ?_;intro a' V hfr hG hdep
    have d1:a'.eval (.tmp 56)=.slice (some ⟨b,o,none⟩) ns cs:=hdep 3 (by decide +kernel);have d2:a'.eval (.tmp 57)=.int .i64 (k:Int):=hdep 4 (by decide +kernel);exact bR (v:=.pointer (some ⟨b,o+k*6,none⟩)) (by simp only[execOp,d1,d2];simp[go_sem,Act.eval,hlt2,qd]) (by simp) rfl
   ·refine ai.run rfl ?_;intro a' V hfr hG hdep
    have d:a'.eval (.tmp 58)=.pointer (some ⟨b,o+k*6,none⟩):=hdep 5 (by decide +kernel);exact cT rfl (by simp) d (xi y (HK.out V hG).2.1) rfl
   ·refine ai.run rfl ?_;intro a' V hfr hG hdep
    have d:a'.eval (.tmp 59)=.agg (y.x.row y.vk y.vs y.vd y.vg):=hdep 6 (by decide +kernel);refine bH (by simp) rfl Tryz.func28 rfl (by decide) (args:=#[.agg (y.x.row y.vk y.vs y.vd y.vg)]) (by simp only[List.map_toArray,List.map_cons,List.map_nil,d]) (jJ y.x y.vk y.vs y.vd y.vg V (HK.out V hG).2.2 HO.2.2.2.2) ?_;intro e w' hp;obtain⟨hb',z,rfl,hz,hzr⟩:=hp.si;exact⟨_,rfl,⟨z,rfl,hz,hzr⟩,KU.below hb' hG.size⟩
   ·refine ai.run rfl ?_;intro a' V hfr hG hdep
    obtain⟨z,d,hz,hzr⟩:∃z:SI,a'.eval (.tmp 60)=.agg z.v.cells∧z.s=y.x.sr∧∀p∈z.rows,am V p.1 p.2:=hdep 7 (by decide +kernel);obtain⟨i0,hi0,hz0,hz1,hz2⟩:=info_parts fx;refine wp_buildSlice 26 54 1 _ rfl z.v.cells i0 _ Tryz.underlying26 hi0 hz0 (by rw[hz1];omega) (by rw[hz1];omega) ?_ ⟨_,rfl,fun h=>by simp at h,⟨z,_,rfl,hG.size,ac.new _ _ _,hz,fun p hp=>(hzr p hp).alloc _⟩,KU.below (al V _) hG.size⟩;rw[hz1];simp only[List.map_toArray,List.map_cons,List.map_nil,d];exact(Great.fill_whole (s:=6) (by omega) [.agg z.v.cells] _ (fun v hv=>by rw[List.mem_singleton.1 hv];rfl) (by simp)).trans (by simp[Value.cells])
   intro a' V hd hsz' hfr hG hJ;have j3:a'.eval (.tmp 54)=.slice Av2 k cv2:=hJ 1 (by decide);obtain⟨z,q,e61,hq,hBq,hz,hzr⟩:∃(z:SI) (q:Nat),a'.eval (.tmp 61)=.slice (some ⟨q,0,none⟩) 1 1∧wq.heap.size≤q∧ac V q 54 z.v.cells∧z.s=y.x.sr∧∀p∈z.rows,am V p.1 p.2:=hJ 8 (by decide);obtain⟨a0,m0,d0,a1,m1,d1,a2,m2,d2,a3,m3,d3,a4,m4,d4,a5,m5,d5,hvx⟩:=ii hzr;have j0:SI.cells z=[.slice a0 m0 d0,.slice a1 m1 d1,.slice a2 m2 d2,.slice a3 m3 d3,.slice a4 m4 d4,.slice a5 m5 d5]:=by unfold SI.cells SV.cells;rw[hvx]
   have q9:an V V.heap.size 6 (some ⟨q,0,none⟩) 1 (SI.cells z):=mH (l:=SI.cells z) (by simpa [SI.cells]using hBq);rw[j0]at q9;obtain⟨sl,qk,ha⟩:=ed (by show aH _ 82=true;decide +kernel) hd hsz' hfr;have v1:sl 1=.slice Av2 k cv2:=(qk 1).symm.trans j3;have v8:sl 8=.slice (some ⟨q,0,none⟩) 1 1:=(qk 8).symm.trans e61;have j7:List.range 12=[0,1,2,3,4,5,6,7,8,9,10,11]:=rfl;simp only[dE,List.map_cons,List.map_nil,List.size_toArray,List.length_cons,List.length_nil,Nat.reduceAdd,j7,List.zip_cons_cons,List.zip_nil_left,List.foldl_cons,List.foldl_nil,Act.put,List.setIfInBounds_toArray,List.set_cons_zero,List.set_cons_succ,List.getD_cons_zero,List.getD_cons_succ,v1,v8]at ha;subst ha;have q6:fF V B V.heap.size (.slice Av2 k cv2) l:=aP.up HO.1 hG;have j1:=(HK.out V hG).1;have yh:=j1.BW;have q2:ar 54 6 V B V.heap.size (.slice Av2 k cv2) k (l.flatMap SI.cells):=by have:=q6.1;rwa [HO.2.2.1]at this
   have HE:=hd7 q6 j1 q2 q9 hz hzr j0;clear hd hsz' hfr hG hJ qk j7 v1 v8 j3 e61 q6 j1 q2 q9 hz hzr j0 hvx hBq x3;refine aN rfl (.tmp 54) (.tmp 61) 26 rfl 54 _ 6 144 fx Tryz.underlying26 rfl (by omega) B V.heap.size (.slice Av2 k cv2) k (l.flatMap SI.cells) rfl HE.2.2.1 yh V.heap.size (some ⟨q,0,none⟩) 1 1 [.slice a0 m0 d0,.slice a1 m1 d1,.slice a2 m2 d2,.slice a3 m3 d3,.slice a4 m4 d4,.slice a5 m5 d5] rfl HE.2.2.2.1 (by simp[Value.oneCell']) (by omega) (by omega) ?_;intro v' w2 ho2 hg2 hat2 hb2;have qh:=HE.2.1.own HE.2.2.1 hg2 hb2 (by decide);have q5:fF w2 B w2.heap.size v' (l++[z]):=aP.snoc (x:=z) (l:=l) HE.1 HE.2.2.2.2.2.1 (by rw[HO.2.2.1,HE.2.2.2.2.2.2];exact ho2) hg2 (by decide);obtain⟨A2,c2,e2,_⟩:=id q5.rd;rw[List.length_append,HO.2.2.1,List.length_singleton]at e2;subst e2;obtain⟨y0,y1⟩:=qh.sd.facts;have ys:=qh.sd.lt;obtain⟨w3,hw3⟩:∃W,W=w2.setCell ⟨g,3,none⟩ (.slice A2 (k+1) c2):=⟨_,rfl⟩
   have qg:w2.grownBy w3 (some g):=by
    rw[hw3];exact⟨rfl,rfl,rfl,by simp,fun k hk hne=>Below.heap_setCell _ _ _ k (fun e=>hne (by rw[e]))⟩
   have j4:ac w3 g 28 #[.slice A1 n1 c1,.slice A5 n5 c5,.slice A8 L.length c8,.slice A2 (k+1) c2]:=by
    rw[hw3];have:=qh.sd.set_ 3 (.slice A2 (k+1) c2)
    simpa using this
   have H3:=hd2 (qh.grow qg j4) (aP.grow q5 qg yd qh.sd (by decide):fF w3 B w3.heap.size (.slice A2 (k+1) c2) (l++[z]));clear qh q5 qg j4 ho2 hg2 hat2 hb2
   go_wp2_with fail
   rw[←hw3];clear hw3;go_roundw
   case rel=>exact⟨k+1,_,l++[z],by omega,by omega,by go_num,H3.1,H3.2,by
    rw[List.take_add_one,HO.2.2.2.1,List.map_append,List.map_append,HO.2.1];simp[HE.2.2.2.2.1]⟩
   case measure=>first|(simp[intOf];done)|(simp[intOf];omega)
  ·have j6:l.map SI.s=(x.ones.take 8).map fun y=>y.x.sr:=by
    rw[hl];have:=H.2.2.2.2.2;rcases Nat.lt_or_ge k 8 with h|h
    ·rw[List.take_of_length_le (i:=k) (by omega),List.take_of_length_le (i:=8) (by omega)]
    ·rw[show k=8 by omega]
   have HE:=hd3 hM hO j6;clear hM hO hl j6 hRg qc
   by_cases hlt2:k<ns
   ·have qd:(k:Int)<(ns:Int):=by omega
    have q1:¬((k:Int)<8):=by omega
    go_wp2_with fail
    refine qs.out _ _ ?_;rw[←H.2.2.2.1];exact kT N hN x Ak Ac As nk ck nc cc ns cs w wq g B _ _ _ _ L l HE.1 H8.2.1 H8.2.2 HE.2.1 HE.2.2 H.2.2.1 _ _ _ _ _ _ _ _ _ _ _ _ _ _ _ _ _ _ _ _ _ _ _ _ _ _ _ _ _ _ _ _ _ _ _ _ _ _ _ _ _ _ _ _ _ _ _ _ _ _ _ _ _ _ _ _ _ _ _ _ _ _ _ _ _ _ _ _ _ _ _ _ _ _ _ _ _ _ _
   ·have qd:¬((k:Int)<(ns:Int)):=by omega
    go_wp2_with fail
    refine qs.out _ _ ?_;rw[←H.2.2.2.1];exact kT N hN x Ak Ac As nk ck nc cc ns cs w wq g B _ _ _ _ L l HE.1 H8.2.1 H8.2.2 HE.2.1 HE.2.2 H.2.2.1 _ _ _ _ _ _ _ _ _ _ _ _ _ _ _ _ _ _ _ _ _ _ _ _ _ _ _ _ _ _ _ _ _ _ _ _ _ _ _ _ _ _ _ _ _ _ _ _ _ _ _ _ _ _ _ _ _ _ _ _ _ _ _ _ _ _ _ _ _ _ _ _ _ _ _ _ _ _ _
set_option maxHeartbeats 1000000 in
theorem sN (k:Nat) (A:Option Addr) (n c:Nat) (xs:List UInt8) (w:World) (h:Rd w w.heap.size A n c xs) (hk:k≤100000) (hn:n≤9223372036854775807) :
 Calls Tryz.prog 58 #[.slice A n c,.int .i64 (k:Int)] w (aA (xs.take k) w):=by
 have hc:=h.cap;have qg:=h.capm;have qd:=h.nil;have HL:=hd1 h.len;rcases Nat.lt_or_ge k n with hlt|hge
 ·have qc:min (n:Int) (k:Int)=(k:Int):=by omega
  have hp:=h.pre k (by omega);obtain⟨b0,o0,rfl,_⟩:=h.spot (by omega);have HP:=hd1 hp;clear hp h qd
  go_enter Tryz.func58,Tryz.ntmps58
  go_wp2_with fail
  refine(du _ _ _ _ _ HP.out (by omega)).mono ?_;rintro en w1 ⟨A1,n1,c1,rfl,ho1,hb1⟩;have H1:=hd2 ho1 hb1;clear ho1 hb1
  go_wp2
  go_ret
  exact⟨A1,n1,c1,rfl,H1.1,H1.2⟩
 ·have qc:min (n:Int) (k:Int)=(n:Int):=by omega
  have ht:xs.take k=xs:=List.take_of_length_le (by have:=h.len;omega);rw[ht];have HP:=hd1 h;clear ht h
  cases A with
  | none=>
   obtain rfl:=qd rfl;obtain rfl:n=0:=by omega
   go_enter Tryz.func58,Tryz.ntmps58
   go_wp2_with fail
   refine(du _ _ _ _ _ HP.out (by omega)).mono ?_;rintro en w1 ⟨A1,n1,c1,rfl,ho1,hb1⟩;have H1:=hd2 ho1 hb1;clear ho1 hb1
   go_wp2
   go_ret
   exact⟨A1,n1,c1,rfl,H1.1,H1.2⟩
  | some ad=>
   go_enter Tryz.func58,Tryz.ntmps58
   go_wp2_with fail
   refine(du _ _ _ _ _ HP.out (by omega)).mono ?_;rintro en w1 ⟨A1,n1,c1,rfl,ho1,hb1⟩;have H1:=hd2 ho1 hb1;clear ho1 hb1
   go_wp2
   go_ret
   exact⟨A1,n1,c1,rfl,H1.1,H1.2⟩
end Go.Proofs.YtmpkpphfoidbeaaGreatDoor
