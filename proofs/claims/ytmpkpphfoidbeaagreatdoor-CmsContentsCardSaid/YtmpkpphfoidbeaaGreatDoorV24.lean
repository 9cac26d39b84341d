import Derived.Test.YtmpkpphfoidbeaaGreatDoorV23
set_option linter.unusedVariables false
set_option linter.unusedSimpArgs false
set_option maxRecDepth 100000
namespace Go.Proofs.YtmpkpphfoidbeaaGreatDoor
open Go.RowKit
theorem BS (x0 x1 x2 x3:UInt8):Sha.word [x0,x1,x2,x3]=((((x0.toNat*256+x1.toNat)*256+x2.toNat)*256+x3.toNat:Nat):Int):=by
 have h0:=x0.toNat_lt;have h1:=x1.toNat_lt;have h2:=x2.toNat_lt;have h3:=x3.toNat_lt;have e:Sha.word [x0,x1,x2,x3]=Sha.beW (Sha.beW (Sha.beW (Sha.beW 0 x0) x1) x2) x3:=rfl;have st:∀(a:Nat) (x:UInt8),a*256+x.toNat<4294967296→Sha.beW (a:Int) x=((a*256+x.toNat:Nat):Int):=fun a x h=>by
  have hx:=x.toNat_lt;unfold Sha.beW;rw[show IntKind.u32.wrap ((a:Int)*256)=((a*2 ^ 8:Nat):Int) from by rw[IntKind.wrap_u32'];omega];exact gz a 8 x.toNat ab ab
 have e0:Sha.beW 0 x0=((x0.toNat:Nat):Int):=by
  have:=st 0 x0 ab
  simpa using this
 rw[e,e0,st _ _ ab,st _ _ ab,st _ _ ab]
set_option maxHeartbeats 8000000 in
theorem oJ (A:Option Addr) (c:Nat) (bs:List UInt8) (w:World) (h:Rd w w.heap.size A 64 c bs) :
 Calls Tryz.prog 129 #[.slice A 64 c] w (iX (Sha.sched bs) w):=by
 have j3:=h.len;obtain⟨b0,o,rfl,hb0,hcell⟩:=h.at_ ab;have H:=hd2 hcell h;clear hcell h
 go_enter Tryz.func129,Tryz.ntmps129
 go_wp2_with fail
 go_loopw [3,4] (fun s3 ix wr=>∃(i c:Nat) (A:Option Addr),i≤16∧ix=.int .i64 (i:Int)∧s3=.slice A i c∧aW wr w.heap.size wr.heap.size (.slice A i c) (Sha.w16 bs i)∧Below w.heap.size w wr) (fun _ ix _=>16 - (intOf ix).toNat)
 case atStart=>exact⟨0,0,none,ab,rfl,rfl,aW.nil_,Below.refl _ _⟩
 case round=>
  obtain⟨i,cw,Aw,hi,rfl,rfl,ho,hb⟩:=hrel
  by_cases hlt:i<16
  ·have qh:(i:Int)<16:=ab
   obtain⟨q,hq⟩:∃q,4*i=q:=⟨_,rfl⟩
   obtain⟨q1,hq1⟩:∃x,q+1=x:=⟨_,rfl⟩
   obtain⟨q2,hq2⟩:∃x,q+2=x:=⟨_,rfl⟩
   obtain⟨q3,hq3⟩:∃x,q+3=x:=⟨_,rfl⟩
   obtain⟨x0,hx0⟩:∃x,bs[q]? = some x:=⟨_,List.getElem?_eq_getElem ab⟩
   obtain⟨x1,hx1⟩:∃x,bs[q1]? = some x:=⟨_,List.getElem?_eq_getElem ab⟩
   obtain⟨x2,hx2⟩:∃x,bs[q2]? = some x:=⟨_,List.getElem?_eq_getElem ab⟩
   obtain⟨x3,hx3⟩:∃x,bs[q3]? = some x:=⟨_,List.getElem?_eq_getElem ab⟩
   have c0:=(hb.cell (p:=⟨b0,o+q,none⟩) hb0).trans (H.1 q x0 hx0);have c1:=(hb.cell (p:=⟨b0,o+q1,none⟩) hb0).trans (H.1 q1 x1 hx1);have c2:=(hb.cell (p:=⟨b0,o+q2,none⟩) hb0).trans (H.1 q2 x2 hx2);have c3:=(hb.cell (p:=⟨b0,o+q3,none⟩) hb0).trans (H.1 q3 x3 hx3);have q7:(bs.drop q).take 4=[x0,x1,x2,x3]:=by
    apply List.ext_getElem?
    intro j;rcases j with _|_|_|_|j
    ·simpa using hx0
    ·subst hq1;simpa using hx1
    ·subst hq2;simpa using hx2
    ·subst hq3;simpa using hx3
    ·simp;omega
   have qs:Sha.w16 bs (i+1)=Sha.w16 bs i++[((((x0.toNat*256+x1.toNat)*256+x2.toNat)*256+x3.toNat:Nat):Int)]:=by rw[Sha.w16_succ,hq,q7,BS]
   have l0:=x0.toNat_lt;have l1:=x1.toNat_lt;have l2:=x2.toNat_lt;have l3:=x3.toNat_lt;obtain⟨y0,hy0⟩:∃y,x0.toNat=y:=⟨_,rfl⟩
   obtain⟨y1,hy1⟩:∃y,x1.toNat=y:=⟨_,rfl⟩
   obtain⟨y2,hy2⟩:∃y,x2.toNat=y:=⟨_,rfl⟩
   obtain⟨y3,hy3⟩:∃y,x3.toNat=y:=⟨_,rfl⟩
   rw[hy0,hy1,hy2,hy3]at qs;rw[hy0]at c0 l0;rw[hy1]at c1 l1;rw[hy2]at c2 l2;rw[hy3]at c3 l3;obtain⟨s0,hs0⟩:∃s,y0*16777216=s:=⟨_,rfl⟩
   obtain⟨s1,hs1⟩:∃s,y1*65536=s:=⟨_,rfl⟩
   obtain⟨s2,hs2⟩:∃s,y2*256=s:=⟨_,rfl⟩
   obtain⟨t1,ht1⟩:∃t,(y0*256+y1)*65536=t:=⟨_,rfl⟩
   obtain⟨t2,ht2⟩:∃t,((y0*256+y1)*256+y2)*256=t:=⟨_,rfl⟩
   obtain⟨t3,ht3⟩:∃t,((y0*256+y1)*256+y2)*256+y3=t:=⟨_,rfl⟩
   rw[ht3]at qs;have m0:IntKind.u32.wrap ((y0:Int)*16777216)=(s0:Int):=by rw[IntKind.wrap_u32'];omega
   have m1:IntKind.u32.wrap ((y1:Int)*65536)=(s1:Int):=by rw[IntKind.wrap_u32'];omega
   have m2:IntKind.u32.wrap ((y2:Int)*256)=(s2:Int):=by rw[IntKind.wrap_u32'];omega
   have v0:IntKind.u32.wrap (y0:Int)=(y0:Int):=by rw[IntKind.wrap_u32'];omega
   have v1:IntKind.u32.wrap (y1:Int)=(y1:Int):=by rw[IntKind.wrap_u32'];omega
   have v2:IntKind.u32.wrap (y2:Int)=(y2:Int):=by rw[IntKind.wrap_u32'];omega
   have v3:IntKind.u32.wrap (y3:Int)=(y3:Int):=by rw[IntKind.wrap_u32'];omega
   have r1:bits .or .u32 (s0:Int) (s1:Int)=(t1:Int):=by
    have:=gz y0 24 (y1*65536) ab ab;rw[show y0*2 ^ 24=s0 from hs0,hs1]at this;rw[this];omega
   have r2:bits .or .u32 (t1:Int) (s2:Int)=(t2:Int):=by
    have:=gz (y0*256+y1) 16 (y2*256) ab ab;rw[show(y0*256+y1)*2 ^ 16=t1 from ht1,hs2]at this;rw[this];omega
   have r3:bits .or .u32 (t2:Int) (y3:Int)=(t3:Int):=by
    have:=gz ((y0*256+y1)*256+y2) 8 y3 ab ab;rw[show((y0*256+y1)*256+y2)*2 ^ 8=t2 from ht2]at this;rw[this];omega
   have i0:IntKind.i64.wrap (4*(i:Int))=(q:Int):=by rw[IntKind.wrap_i64];omega
   have i1:IntKind.i64.wrap ((q:Int)+1)=(q1:Int):=by rw[IntKind.wrap_i64];omega
   have i2:IntKind.i64.wrap ((q:Int)+2)=(q2:Int):=by rw[IntKind.wrap_i64];omega
   have i3:IntKind.i64.wrap ((q:Int)+3)=(q3:Int):=by rw[IntKind.wrap_i64];omega
   have n0:q<64:=ab
   have n1:q1<64:=ab
   have n2:q2<64:=ab
   have n3:q3<64:=ab
   have ys:(q:Int)<64:=ab
   have yv:(q1:Int)<64:=ab
   have yy:(q2:Int)<64:=ab
   have y4:(q3:Int)<64:=ab
   have q9:=Sha.w16_len bs i;have HS:=hd4 ho hb qs q9;clear ho hb qs q9 q7 hx0 hx1 hx2 hx3 hy0 hy1 hy2 hy3 hs0 hs1 hs2 ht1 ht2 ht3 hq hq1 hq2 hq3;have j5:w.heap.size≤wr.heap.size:=HS.2.1.size;have qd:b0<wr.heap.size:=ab
   go_upto_region 5 with fail
   go_region_held3 (fun w'=>w'.cell? ⟨b0,o+q,none⟩=some (.int .u8 (y0:Int))∧w'.cell? ⟨b0,o+q1,none⟩=some (.int .u8 (y1:Int))∧w'.cell? ⟨b0,o+q2,none⟩=some (.int .u8 (y2:Int))∧w'.cell? ⟨b0,o+q3,none⟩=some (.int .u8 (y3:Int))) (go_keep)
    (first|((refine uh aq (.tmp 12) (.tmp 46) aq w.heap.size wr.heap.size _ (Sha.w16 bs i) aq (by exact aW.keep HS.1 (fun k _ hk=>Below.heap_alloc _ _ k hk)) ai (wr.heap.size+1) (some ⟨wr.heap.size,0,none⟩) 1 1 [(t3:Int)] aq (by have h:=aV wr.drew 88 [.int .u32 (t3:Int)] _ rfl;rw[World.size_alloc]at h;exact h) (by rw[HS.2.2.2];omega) ?_);intro v6 w6 ho6 hg6 hb6;have z0:=(hb6.cell (p:=⟨b0,o+q,none⟩) hb0).trans ((World.cell?_alloc_lt wr.drew _ ⟨b0,o+q,none⟩ qd).trans c0);have z1:=(hb6.cell (p:=⟨b0,o+q1,none⟩) hb0).trans ((World.cell?_alloc_lt wr.drew _ ⟨b0,o+q1,none⟩ qd).trans c1);have z2:=(hb6.cell (p:=⟨b0,o+q2,none⟩) hb0).trans ((World.cell?_alloc_lt wr.drew _ ⟨b0,o+q2,none⟩ qd).trans c2);have z3:=(hb6.cell (p:=⟨b0,o+q3,none⟩) hb0).trans ((World.cell?_alloc_lt wr.drew _ ⟨b0,o+q3,none⟩ qd).trans c3);obtain⟨A6,c6,rfl,_⟩:=ho6.rd;have H6:=hd2 ho6 hb6;clear ho6 hg6 hb6)|fail)
   go_wp2_with fail
   go_roundw
   case rel=>exact⟨i+1,c6,A6,ab,by go_num,by rw[HS.2.2.2],by have h:=H6.1;rw[List.length_append,HS.2.2.2]at h;rw[HS.2.2.1];exact h,(HS.2.1.drew.alloc ai _).trans H6.2⟩
   case measure=>simp[intOf];omega
  ·obtain rfl:i=16:=ab
   have qh:¬(((16:Nat):Int)<16):=ab
   have HS:=hd2 ho hb;clear ho hb;obtain⟨V,rfl⟩:∃V,V=wr:=⟨_,rfl⟩
   go_wp2_with fail
   go_loopw [3,5] (fun s3 ix wr=>∃(k n c:Nat) (A:Option Addr),k≤48∧n=16+k∧ix=.int .i64 (n:Int)∧s3=.slice A n c∧aW wr w.heap.size wr.heap.size (.slice A n c) (Sha.schedN bs k)∧Below w.heap.size w wr) (fun _ ix _=>64 - (intOf ix).toNat)
   case atStart=>exact⟨0,16,cw,Aw,ab,rfl,rfl,rfl,HS.1,HS.2⟩
   case round=>
    obtain⟨k,n,cw,Aw,hk,hnk,rfl,rfl,ho,hb⟩:=hrel;have q0:=Sha.schedN_len bs k
    by_cases hlt:k<48
    ·have qh:(n:Int)<64:=ab
     obtain⟨g,cap,e,hlo,hhi⟩:=ho.form ab;injection e with e1 e2 e3
     subst e1 e3;clear e2;obtain⟨i15,h15⟩:∃x,n - 15=x:=⟨_,rfl⟩
     obtain⟨i2,h2⟩:∃x,n - 2=x:=⟨_,rfl⟩
     obtain⟨i16,h16⟩:∃x,n - 16=x:=⟨_,rfl⟩
     obtain⟨i7,h7⟩:∃x,n - 7=x:=⟨_,rfl⟩
     have gt:∀j,j<n→(Sha.schedN bs k)[j]? = some ((Sha.schedN bs k).getD j 0):=fun j hj=>by
      rw[List.getD_eq_getElem?_getD,List.getElem?_eq_getElem ab];rfl
     have j0:=ho.cellAt (gt i15 ab);have c2:=ho.cellAt (gt i2 ab);have j1:=ho.cellAt (gt i16 ab);have c7:=ho.cellAt (gt i7 ab);have qc:Sha.nextW (Sha.schedN bs k)=Sha.addw (Sha.addw (Sha.addw ((Sha.schedN bs k).getD i16 0) (Sha.sg0 ((Sha.schedN bs k).getD i15 0))) ((Sha.schedN bs k).getD i7 0)) (Sha.sg1 ((Sha.schedN bs k).getD i2 0)):=by
      unfold Sha.nextW;rw[q0,←hnk,h16,h15,h7,h2]
     have qk:=hd2 (gt i16 ab) (gt i7 ab);obtain⟨x,hx⟩:∃x,(Sha.schedN bs k).getD i15 0=x:=⟨_,rfl⟩
     obtain⟨y,hy⟩:∃x,(Sha.schedN bs k).getD i2 0=x:=⟨_,rfl⟩
     obtain⟨u,hu⟩:∃x,(Sha.schedN bs k).getD i16 0=x:=⟨_,rfl⟩
     obtain⟨v,hv⟩:∃x,(Sha.schedN bs k).getD i7 0=x:=⟨_,rfl⟩
     rw[hx]at j0 qc;rw[hy]at c2 qc;have qg:=qk.1;have qv:=qk.2;rw[hu]at j1 qc qg;rw[hv]at c7 qc qv;have qk:=hd2 qg qv;clear qg qv;have r7:=fun W=>qM x W
     have q5:=fun W=>qb x W
     have q4:=fun W=>qa y W
     have q6:=fun W=>qe y W
     obtain⟨a7,ha7⟩:∃a,Sha.rot x 33554432 128=a:=⟨_,rfl⟩
     obtain⟨a18,ha18⟩:∃a,Sha.rot x 16384 262144=a:=⟨_,rfl⟩
     obtain⟨a17,ha17⟩:∃a,Sha.rot y 32768 131072=a:=⟨_,rfl⟩
     obtain⟨a19,ha19⟩:∃a,Sha.rot y 8192 524288=a:=⟨_,rfl⟩
     unfold Sha.sg0 Sha.sg1 at qc;rw[ha7]at r7 qc;rw[ha18]at q5 qc;rw[ha17]at q4 qc;rw[ha19]at q6 qc;have j6:IntKind.i64.wrap ((n:Int) - 15)=(i15:Int):=by rw[IntKind.wrap_i64];omega
     have j2:IntKind.i64.wrap ((n:Int) - 2)=(i2:Int):=by rw[IntKind.wrap_i64];omega
     have j8:IntKind.i64.wrap ((n:Int) - 16)=(i16:Int):=by rw[IntKind.wrap_i64];omega
     have j7:IntKind.i64.wrap ((n:Int) - 7)=(i7:Int):=by rw[IntKind.wrap_i64];omega
     have yd:(i15:Int)<(n:Int):=ab
     have l2:(i2:Int)<(n:Int):=ab
     have yh:(i16:Int)<(n:Int):=ab
     have l7:(i7:Int)<(n:Int):=ab
     have HK:=hd9 ho hb qc q0 hnk r7 q5 q4 q6;have j5:w.heap.size≤wr.heap.size:=hb.size;have j4:n≤64:=ab
     clear ho hb qc q0 hnk r7 q5 q4 q6 gt hx hy hu hv ha7 ha18 ha17 ha19 h15 h2 h16 h7
     go_upto_region 11 with fail
     go_region_held3 (fun w'=>w'.cell? ⟨g,i16,none⟩=some (.int .u32 u)∧w'.cell? ⟨g,i7,none⟩=some (.int .u32 v)) (go_keep)
      (first
        | (go_at_call 130;first
            | ((with_reducible refine(HK.out.2.2.2.2.2.1 _).mono ?_);rintro e w9 ⟨rfl,hw9⟩;subst hw9)
            | ((with_reducible refine(HK.out.2.2.2.2.2.2.1 _).mono ?_);rintro e w9 ⟨rfl,hw9⟩;subst hw9)
            | ((with_reducible refine(HK.out.2.2.2.2.2.2.2.1 _).mono ?_);rintro e w9 ⟨rfl,hw9⟩;subst hw9)
            | ((with_reducible refine(HK.out.2.2.2.2.2.2.2.2 _).mono ?_);rintro e w9 ⟨rfl,hw9⟩;subst hw9))
        | ((refine qS aq (.tmp 62) (.tmp 92) aq w.heap.size wr.heap.size g n cw (Sha.schedN bs k) aq (by exact aW.keep HK.1 (fun k _ hk=>Below.heap_alloc _ _ k hk)) (by rw[HK.2.2.2.1];exact HK.2.2.2.2.1.symm) ai ⟨wr.heap.size,0,none⟩ 1 _ aq (by exact aw.cell (aw.new wr.drew _ _) 0) ab ?_);intro v6 w6 ho6 hb6 hk6;have z0:=hk6 _ _ qk.1;have z1:=hk6 _ _ qk.2;obtain⟨A6,c6,rfl,_⟩:=ho6.rd;have H6:=hd2 ho6 hb6;clear ho6 hb6 hk6)
        | fail)
     go_wp2_with fail
     go_roundw
     case rel=>exact⟨k+1,n+1,c6,A6,ab,by have:=HK.2.2.2.2.1;omega,by go_num,by rw[HK.2.2.2.1,←HK.2.2.2.2.1],by have h:=H6.1;rw[List.length_append,HK.2.2.2.1,←HK.2.2.2.2.1]at h;rw[show Sha.schedN bs (k+1)=Sha.schedN bs k++[Sha.nextW (Sha.schedN bs k)] from rfl,HK.2.2.1];exact h,(HK.2.1.drew.alloc ai _).trans H6.2⟩
     case measure=>simp[intOf];omega
    ·obtain rfl:k=48:=ab
     obtain rfl:n=64:=ab
     have qh:¬(((64:Nat):Int)<64):=ab
     have HF:=hd2 ho hb;clear ho hb
     go_wp2_with fail
     go_ret
     exact jo HF.1 HF.2
set_option maxHeartbeats 8000000 in
theorem tP (Ah Ak A:Option Addr) (ch ck c:Nat) (H K:List Int) (bs:List UInt8) (w:World) (hH:bX w w.heap.size Ah 8 ch H) (hK:bX w w.heap.size Ak 64 ck K) (h:Rd w w.heap.size A 64 c bs) :
 Calls Tryz.prog 101 #[.slice Ah 8 ch,.slice Ak 64 ck,.slice A 64 c] w (iX (Sha.comp K H bs) w):=by
 have j5:=hH.len;have v0:=hK.len;have h0:=hd3 hH hK h;clear hH hK h
 go_enter Tryz.func101,Tryz.ntmps101
 go_wp2_with fail
 refine(oJ A c bs w h0.2.2).mono ?_;rintro e w1 ⟨As,cs,rfl,ho1,hb1⟩;have y7:=Sha.sched_len bs;obtain⟨_,_,e1,r1⟩:=ho1.rd;injection e1 with q1 q2 q3
 subst q1 q3;rw[y7]at r1 ⊢;obtain⟨S,hS⟩:∃S,Sha.sched bs=S:=⟨_,rfl⟩
 rw[hS]at r1 y7;have H1:=hd5 r1 hb1 hS (h0.1.up hb1) (h0.2.1.up hb1);clear ho1 hb1 r1 hS q2
 go_wp2_with (first
  | (at_builtin
     refine eP rfl (.tmp 17) (.tmp 18) rfl w1.heap.size w1.heap.size (.slice none 0 0) [] rfl aW.nil_ nl_ w1.heap.size Ah 8 ch H rfl H1.2.2.2.1.rds ag ?_;intro v2 w2 q0 hg2 q4;have H2:=hd2 q0 q4;clear q0 hg2 q4)
  | fail)
 obtain⟨Av,cv,rfl,hrv⟩:=H2.1.rd;rw[List.nil_append,j5]at hrv ⊢;have H3:=hd1 hrv;clear hrv;have q7:Below w1.heap.size w1 w2:=H2.2;have HB:=hd1 q7;clear q7
 go_loopw [8,9] (fun vv iv wr=>∃(i c:Nat) (A:Option Addr),i≤64∧iv=.int .i64 (i:Int)∧vv=.slice A 8 c∧bX wr wr.heap.size A 8 c (Sha.rnds K S H i)∧Below w1.heap.size w1 wr) (fun _ iv _=>64 - (intOf iv).toNat)
 case atStart=>exact⟨0,cv,Av,ab,rfl,rfl,H3.out,HB.out⟩
 case round=>
  obtain⟨i,cv,Av,hi,rfl,rfl,hrv,hb⟩:=hrel
  by_cases hlt:i<64
  ·have q5:(i:Int)<64:=ab
   obtain⟨kb,ko,rfl,hkb,q1⟩:=H1.2.2.2.2.at_ ab;obtain⟨sb,so,rfl,hsb,q2⟩:=H1.1.at_ ab;obtain⟨vb,vo,rfl,hvb,q3⟩:=hrv.at_ ab;have qk:=(hb.cell (p:=⟨kb,ko+i,none⟩) hkb).trans (q1 i (K.getD i 0) (by rw[List.getD_eq_getElem?_getD,List.getElem?_eq_getElem ab];rfl));have qs:=(hb.cell (p:=⟨sb,so+i,none⟩) hsb).trans (q2 i (S.getD i 0) (by rw[List.getD_eq_getElem?_getD,List.getElem?_eq_getElem ab];rfl));obtain⟨kt,hkt⟩:∃x,K.getD i 0=x:=⟨_,rfl⟩
   obtain⟨st,q6⟩:∃x,S.getD i 0=x:=⟨_,rfl⟩
   rw[hkt]at qk;rw[q6]at qs;have qd:Sha.rnds K S H (i+1)=Sha.rnd (Sha.rnds K S H i) kt st:=by rw[←hkt,←q6];rfl
   obtain⟨a,b,cc,d,e,f,gg,hh,hv8⟩:=Sha.eight (Sha.rnds K S H i) (Sha.rnds_len K S H j5 i);rw[hv8]at q3 qd hrv;have p0:=q3 0 a rfl;have p1:=q3 1 b rfl;have p2:=q3 2 cc rfl;have p3:=q3 3 d rfl;have p4:=q3 4 e rfl;have p5:=q3 5 f rfl;have p6:=q3 6 gg rfl;have p7:=q3 7 hh rfl;rw[Nat.add_zero]at p0;have g6:=fun W=>qL e W
   have j7:=fun W=>p8 e W
   have yh:=fun W=>qi e W
   have g2:=fun W=>qK a W
   have j8:=fun W=>p9 a W
   have yd:=fun W=>qf a W
   obtain⟨a6,ha6⟩:∃x,Sha.rot e 67108864 64=x:=⟨_,rfl⟩
   obtain⟨a11,ha11⟩:∃x,Sha.rot e 2097152 2048=x:=⟨_,rfl⟩
   obtain⟨a25,ha25⟩:∃x,Sha.rot e 128 33554432=x:=⟨_,rfl⟩
   obtain⟨a2,ha2⟩:∃x,Sha.rot a 1073741824 4=x:=⟨_,rfl⟩
   obtain⟨a13,ha13⟩:∃x,Sha.rot a 524288 8192=x:=⟨_,rfl⟩
   obtain⟨a22,ha22⟩:∃x,Sha.rot a 1024 4194304=x:=⟨_,rfl⟩
   rw[ha6]at g6;rw[ha11]at j7;rw[ha25]at yh;rw[ha2]at g2;rw[ha13]at j8;rw[ha22]at yd;obtain⟨x1,hx1⟩:∃x,bits .xor .u32 a6 a11=x:=⟨_,rfl⟩
   obtain⟨x2,hx2⟩:∃x,bits .xor .u32 x1 a25=x:=⟨_,rfl⟩
   obtain⟨x3,hx3⟩:∃x,IntKind.u32.wrap (hh+x2)=x:=⟨_,rfl⟩
   obtain⟨x4,hx4⟩:∃x,bits .and .u32 e f=x:=⟨_,rfl⟩
   obtain⟨x5,hx5⟩:∃x,Sha.notw e=x:=⟨_,rfl⟩
   obtain⟨x6,hx6⟩:∃x,bits .and .u32 x5 gg=x:=⟨_,rfl⟩
   obtain⟨x7,hx7⟩:∃x,bits .xor .u32 x4 x6=x:=⟨_,rfl⟩
   obtain⟨x8,hx8⟩:∃x,IntKind.u32.wrap (x3+x7)=x:=⟨_,rfl⟩
   obtain⟨x9,hx9⟩:∃x,IntKind.u32.wrap (x8+kt)=x:=⟨_,rfl⟩
   obtain⟨o1,ho1⟩:∃x,IntKind.u32.wrap (x9+st)=x:=⟨_,rfl⟩
   have j0:Sha.one e f gg hh kt st=o1:=by unfold Sha.one Sha.addw Sha.bs1 Sha.chw;rw[ha6,ha11,ha25,hx1,hx2,hx3,hx4,hx5,hx6,hx7,hx8,hx9,ho1]
   obtain⟨z1,hz1⟩:∃x,bits .xor .u32 a2 a13=x:=⟨_,rfl⟩
   obtain⟨z2,hz2⟩:∃x,bits .xor .u32 z1 a22=x:=⟨_,rfl⟩
   obtain⟨z3,hz3⟩:∃x,bits .and .u32 a b=x:=⟨_,rfl⟩
   obtain⟨z4,hz4⟩:∃x,bits .and .u32 a cc=x:=⟨_,rfl⟩
   obtain⟨z5,hz5⟩:∃x,bits .xor .u32 z3 z4=x:=⟨_,rfl⟩
   obtain⟨z6,hz6⟩:∃x,bits .and .u32 b cc=x:=⟨_,rfl⟩
   obtain⟨z7,hz7⟩:∃x,bits .xor .u32 z5 z6=x:=⟨_,rfl⟩
   obtain⟨o2,q0⟩:∃x,IntKind.u32.wrap (z2+z7)=x:=⟨_,rfl⟩
   have j2:Sha.two a b cc=o2:=by unfold Sha.two Sha.addw Sha.bs0 Sha.maj;rw[ha2,ha13,ha22,hz1,hz2,hz3,hz4,hz5,hz6,hz7,q0]
   obtain⟨n0,hn0⟩:∃x,IntKind.u32.wrap (o1+o2)=x:=⟨_,rfl⟩
   obtain⟨n4,hn4⟩:∃x,IntKind.u32.wrap (d+o1)=x:=⟨_,rfl⟩
   have q9:Sha.rnds K S H (i+1)=[n0,a,b,cc,n4,e,f,gg]:=by
    rw[qd];unfold Sha.rnd Sha.addw;simp only[j0,j2,hn0,hn4]
   have y2:bits .xor .u32 (if IntKind.u32.signed=true then -1 else IntKind.u32.max) e=x5:=hx5;have HR:=hd9 q9 hb g6 j7 yh g2 j8 yd hx5;clear q9 hb g6 j7 yh g2 j8 yd qd j0 j2 ha6 ha11 ha25 ha2 ha13 ha22 q1 q2 q3 hv8 hrv hkt q6 hx5
   go_upto_region 7 with fail
   go_quiet ((go_at_call 130;first
    | (with_reducible exact Calls.quiet_of_same (HR.out.2.2.1 _))
    | (with_reducible exact Calls.quiet_of_same (HR.out.2.2.2.1 _))
    | (with_reducible exact Calls.quiet_of_same (HR.out.2.2.2.2.1 _))))
   obtain⟨k1,rfl⟩:∃k,k=nq:=⟨_,rfl⟩
   go_upto_region 8 with fail
   go_quiet ((go_at_call 130;first
    | (with_reducible exact Calls.mono (HR.out.2.2.2.2.2.1 (wr.drewN _)) fun _ _ h=>⟨h.1,_,h.2⟩)
    | (with_reducible exact Calls.mono (HR.out.2.2.2.2.2.2.1 (wr.drewN _)) fun _ _ h=>⟨h.1,_,h.2⟩)
    | (with_reducible exact Calls.mono (HR.out.2.2.2.2.2.2.2.1 (wr.drewN _)) fun _ _ h=>⟨h.1,_,h.2⟩)))
   go_upto_region 9 with fail
   have zs:((wr.drewN k1).drewN nq).cell? ⟨vb,vo,none⟩=some (.int .u32 a):=p0;have zz:((wr.drewN k1).drewN nq).cell? ⟨vb,vo+1,none⟩=some (.int .u32 b):=p1;have z0:((wr.drewN k1).drewN nq).cell? ⟨vb,vo+2,none⟩=some (.int .u32 cc):=p2;have va:((wr.drewN k1).drewN nq).cell? ⟨vb,vo+3,none⟩=some (.int .u32 d):=p3;have ve:((wr.drewN k1).drewN nq).cell? ⟨vb,vo+4,none⟩=some (.int .u32 e):=p4;have vi:((wr.drewN k1).drewN nq).cell? ⟨vb,vo+5,none⟩=some (.int .u32 f):=p5;have vn:((wr.drewN k1).drewN nq).cell? ⟨vb,vo+6,none⟩=some (.int .u32 gg):=p6;have yv:Below w1.heap.size w1 ((wr.drewN k1).drewN nq):=ar (ar HR.2.1 k1) nq;obtain⟨wq,hwq⟩:∃V,(wr.drewN k1).drewN nq=V:=⟨_,rfl⟩
   rw[hwq]at zs zz z0 va ve vi vn yv ⊢;have v1:vb<wq.heap.size:=by rw[←hwq];exact hvb
   have HQ:=hd1 yv;clear hwq yv p0 p1 p2 p3 p4 p5 p6 p7 qk qs
   go_region_held3 (fun w'=>w'.cell? ⟨vb,vo,none⟩=some (.int .u32 a)∧w'.cell? ⟨vb,vo+1,none⟩=some (.int .u32 b)∧w'.cell? ⟨vb,vo+2,none⟩=some (.int .u32 cc)∧w'.cell? ⟨vb,vo+3,none⟩=some (.int .u32 d)∧w'.cell? ⟨vb,vo+4,none⟩=some (.int .u32 e)∧w'.cell? ⟨vb,vo+5,none⟩=some (.int .u32 f)∧w'.cell? ⟨vb,vo+6,none⟩=some (.int .u32 gg)) (go_keep) (fail)
   have y6:bX (wq.alloc (.cells #[.int .u32 n0,.int .u32 a,.int .u32 b,.int .u32 cc,.int .u32 n4,.int .u32 e,.int .u32 f,.int .u32 gg] 88)).drew (wq.alloc (.cells #[.int .u32 n0,.int .u32 a,.int .u32 b,.int .u32 cc,.int .u32 n4,.int .u32 e,.int .u32 f,.int .u32 gg] 88)).drew.heap.size (some ⟨wq.heap.size,0,none⟩) 8 8 [n0,a,b,cc,n4,e,f,gg]:=
    ⟨rfl,Nat.le_refl _,ab,fun _=>⟨_,_,rfl,ag⟩,aV wq 88 [.int .u32 n0,.int .u32 a,.int .u32 b,.int .u32 cc,.int .u32 n4,.int .u32 e,.int .u32 f,.int .u32 gg] _ rfl⟩
   have y4:=(HQ.out.alloc HQ.out.size (.cells #[.int .u32 n0,.int .u32 a,.int .u32 b,.int .u32 cc,.int .u32 n4,.int .u32 e,.int .u32 f,.int .u32 gg] 88)).drew;have HN:=hd2 y6 y4;clear y6 y4 zs zz z0 va ve vi vn hx1 hx2 hx3 hx4 hx6 hx7 hx8 hx9 ho1 hz1 hz2 hz3 hz4 hz5 hz6 hz7 q0 hn0 hn4 y2
   go_wp2_with fail
   refine⟨⟨i+1,8,_,ab,ag,rfl,by rw[HR.1];exact HN.1,HN.2⟩,?_⟩;simp[intOf];omega
  ·obtain rfl:i=64:=ab
   have q5:¬(((64:Nat):Int)<64):=ab
   have HF:=hd2 hrv hb;clear hrv hb;obtain⟨wo,rfl⟩:∃V,V=wr:=⟨_,rfl⟩
   go_wp2_with (first
    | (at_make;refine dP rfl _ _ rfl 8 rfl rfl ab ?_;intro w3 ho3 hg3 hb3;have HM:=hd3 ho3 hb3 (ho3.1.lt _ rfl).2;clear ho3 hg3 hb3)
    | fail)
   have q4:=HM.2.1;have q0:=HM.1;have vw:=HM.2.2;have zn:=HF.2.size;have j3:=H1.2.1.size;obtain⟨R,hR⟩:∃R,Sha.rnds K S H 64=R:=⟨_,rfl⟩
   have vp:R.length=8:=by rw[←hR];exact Sha.rnds_len K S H j5 64
   have j6:=HF.1;rw[hR]at j6;have qc:Sha.comp K H bs=List.zipWith Sha.addw H R:=by unfold Sha.comp;rw[H1.2.2.1,hR]
   have vt:(List.zipWith Sha.addw H R).length=8:=by rw[List.length_zipWith,j5,vp];rfl
   have y5:Below w.heap.size w w3:=H1.2.1.trans ((HF.2.trans (q4.mono zn)).mono j3);have y3:bX wo wo.heap.size Ah 8 ch H:=(h0.1.up (H1.2.1.trans (HF.2.mono j3)))
   obtain⟨Z,hZ⟩:∃Z,List.zipWith Sha.addw H R=Z:=⟨_,rfl⟩
   rw[hZ]at qc vt;obtain⟨g,hg⟩:∃g,wo.heap.size=g:=⟨_,rfl⟩
   rw[hg]at q4 q0 vw zn y3 j6 ⊢;have H5:=hd7 q4 q0 y3 j6 qc y5 hZ;clear q4 q0 y3 j6 qc y5 hZ hR
   go_loopw [14] (fun iv wr=>∃i:Nat,i≤8∧iv=.int .i64 (i:Int)∧aW wr g wr.heap.size (.slice (some ⟨g,0,none⟩) 8 8) (Z.take i++List.replicate (8 - i) 0)∧w3.heap.size≤wr.heap.size∧Below g w3 wr) (fun iv _=>8 - (intOf iv).toNat)
   case atStart=>exact⟨0,ab,rfl,by have:=H5.2.1;rw[rL]at this;simpa using this,Nat.le_refl _,Below.refl _ _⟩
   case round=>
    obtain⟨i,hi,rfl,ho,hsz,hb⟩:=hrel;have yy:(Z.take i++List.replicate (8 - i) (0:Int)).length=8:=ai
    by_cases hlt:i<8
    ·have q5:(i:Int)<8:=ab
     have ys:=H5.1.trans (hb.mono ab);obtain⟨hb',ho',rfl,hhb,q1⟩:=H5.2.2.1.at_ ab;obtain⟨vb,vo,rfl,hvb,q2⟩:=H5.2.2.2.1.at_ ab;have qh:=(ys.cell (p:=⟨hb',ho'+i,none⟩) hhb).trans (q1 i (H.getD i 0) (by rw[List.getD_eq_getElem?_getD,List.getElem?_eq_getElem ab];rfl));have qv:=(ys.cell (p:=⟨vb,vo+i,none⟩) hvb).trans (q2 i (R.getD i 0) (by rw[List.getD_eq_getElem?_getD,List.getElem?_eq_getElem ab];rfl));obtain⟨y,hy⟩:∃y,(Z.take i++List.replicate (8 - i) (0:Int))[i]? = some y:=⟨_,List.getElem?_eq_getElem ab⟩
     have qg:=ho.cellAt hy;have fg:=ho.frozenAt yy i;have j4:Z[i]? = some (IntKind.u32.wrap (H.getD i 0+R.getD i 0)):=by
      rw[←H5.2.2.2.2.2.2,List.getElem?_zipWith,List.getD_eq_getElem?_getD,List.getD_eq_getElem?_getD,List.getElem?_eq_getElem (by omega:i<H.length),List.getElem?_eq_getElem (by omega:i<R.length)]
      rfl
     obtain⟨x1,hx1⟩:∃x,H.getD i 0=x:=⟨_,rfl⟩
     obtain⟨x2,hx2⟩:∃x,R.getD i 0=x:=⟨_,rfl⟩
     rw[hx1]at qh j4;rw[hx2]at qv j4;obtain⟨z,hz⟩:∃z,IntKind.u32.wrap (x1+x2)=z:=⟨_,rfl⟩
     rw[hz]at j4;have q6:=ho.stored yy i z;have j1:(Z.take i++List.replicate (8 - i) (0:Int)).set i z=Z.take (i+1)++List.replicate (8 - (i+1)) 0:=by
      rw[df j4,List.set_append_right _ _ ai];obtain⟨d,hd⟩:∃d,8 - i=d+1:=⟨7 - i,ab⟩
      rw[hd,show 8 - (i+1)=d by omega,List.replicate_succ];simp[show i - min i Z.length=0 by omega]
     rw[j1]at q6;have y0:hb'≠g:=ab
     have y1:vb≠g:=ab
     have s1:(wr.setCell ⟨g,i,none⟩ (.int .u32 z)).drew.cell? ⟨hb',ho'+i,none⟩=some (.int .u32 x1):=(World.cell?_of_block (a:=⟨hb',ho'+i,none⟩) (Below.heap_setCell wr ⟨g,i,none⟩ _ hb' y0)).trans qh;have s2:(wr.setCell ⟨g,i,none⟩ (.int .u32 z)).drew.cell? ⟨vb,vo+i,none⟩=some (.int .u32 x2):=(World.cell?_of_block (a:=⟨vb,vo+i,none⟩) (Below.heap_setCell wr ⟨g,i,none⟩ _ vb y1)).trans qv;have HS:=hd3 q6 hb hsz;clear q6 hb hsz ho j1 j4 hy hx1 hx2 q1 q2 ys yy
     go_upto_region 15 with fail
     go_region_held3 (fun w'=>w'.cell? ⟨hb',ho'+i,none⟩=some (.int .u32 x1)∧w'.cell? ⟨vb,vo+i,none⟩=some (.int .u32 x2)) (go_keep) (fail)
     go_wp2_with fail
     refine⟨⟨i+1,ab,ag,?_,?_,?_⟩,?_⟩
     ·exact aW.mono (HS.1.keep fun k _ _=>rfl) nl_ ag
     ·have:=HS.2.2;simp;exact this
     ·exact(HS.2.1.grown (iB wr ⟨g,i,none⟩ _) (by have:=HS.2.2;omega) (fun k e=>by cases e;exact Nat.le_refl _)).drew
     ·simp[intOf];omega
    ·obtain rfl:i=8:=ab
     have q5:¬(((8:Nat):Int)<8):=ab
     have vy:w.heap.size≤g:=ab
     have HE:=hd2 ho hb;clear ho hb
     go_wp2_with fail
     go_ret
     rw[H5.2.2.2.2.1];have h1:=HE.1;rw[List.take_of_length_le ab,show 8 - 8=0 from rfl,List.replicate_zero,List.append_nil]at h1;refine jo (h1.mono vy nl_) (H5.2.2.2.2.2.1.trans (HE.2.mono ab))
theorem zK:nl ((Sha.P64.take 8).map fun p=>Rs.root p 2)=Sha.htab:=by unfold nl Sha.htab;rw[List.map_map];rfl
theorem zL:nl ((Sha.P64.take 64).map fun p=>Rs.root p 3)=Sha.ktab:=by unfold nl Sha.ktab;rw[List.map_map,List.take_of_length_le (Nat.le_of_eq Sha.P64_len)];rfl
theorem qO {w:World} {B n c:Nat} {A:Option Addr} {xs:List UInt8} (h:Rd w B A n c xs) (lo:Nat) (h2:lo+64≤n) :
 ∃A1 c1,Rd w B A1 64 c1 ((xs.drop lo).take 64)∧(∀W,(Instr.sliceAt 22 (.slice A n c) (some (.int .i64 (lo:Int))) (some (.int .i64 ((lo+64:Nat):Int))) none).run Tryz.prog W=.ok (.slice A1 64 c1) W)∧
  ∀W,(Instr.slice 22 (.slice A n c) (some (.int .i64 (lo:Int))) (some (.int .i64 ((lo+64:Nat):Int))) none).run Tryz.prog W=.ok (.slice A1 64 c1) W:=by
 have hc:=h.cap;have hx:=h.cut (Nat.le_add_right lo 64) h2;have e:(xs.take (lo+64)).drop lo=(xs.drop lo).take 64:=by rw[List.drop_take,Nat.add_sub_cancel_left]
 rw[e,Nat.add_sub_cancel_left]at hx;refine⟨_,_,hx,fun W=>?_,fun W=>?_⟩<;>(simp[go_sem,Tryz.underlying22,show(lo:Int)≤(lo:Int)+64 by omega,show(lo:Int)+64≤c by omega];omega)
set_option maxHeartbeats 4000000 in
theorem yC (A:Option Addr) (n c:Nat) (xs:List UInt8) (w:World) (h:Rd w w.heap.size A n c xs) (hn:n≤1099511627) :
 Calls Tryz.prog 67 #[.slice A n c] w fun e w'=>e=.returned (.agg ((Sha.sum xs).map dV).toArray)∧Below w.heap.size w w':=by
 have hl:=h.len;have j6:aw (w.alloc (.cells ((List.replicate 32 0).map dV).toArray 47)) w.heap.size 47 ((List.replicate 32 0).map dV).toArray:=aw.new _ _ _;have yv:Below w.heap.size w (w.alloc (.cells ((List.replicate 32 0).map dV).toArray 47)):=br_.alloc nl_ _;have H:=hd4 h hl j6 yv;clear h hl j6 yv
 go_enter Tryz.func67,Tryz.ntmps67
 go_upto_region 1 with fail
 obtain⟨w1,hw1⟩:∃W,w.alloc (.cells ((List.replicate 32 0).map dV).toArray 47)=W:=⟨_,rfl⟩
 have hX:=H.2.2;rw[hw1]at hX;have q6:w.alloc (.cells #[.int .u8 0,.int .u8 0,.int .u8 0,.int .u8 0,.int .u8 0,.int .u8 0,.int .u8 0,.int .u8 0,.int .u8 0,.int .u8 0,.int .u8 0,.int .u8 0,.int .u8 0,.int .u8 0,.int .u8 0,.int .u8 0,.int .u8 0,.int .u8 0,.int .u8 0,.int .u8 0,.int .u8 0,.int .u8 0,.int .u8 0,.int .u8 0,.int .u8 0,.int .u8 0,.int .u8 0,.int .u8 0,.int .u8 0,.int .u8 0,.int .u8 0,.int .u8 0] 47)=w1:=hw1;rw[q6];clear hw1 q6;have H1:=hd1 hX;clear hX
 go_wp2_with fail
 refine(mr 8 2 ab (.inl rfl) w1).mono ?_;rw[zK];rintro e w2 ⟨A2,c2,rfl,ho2,hb2⟩;obtain⟨_,_,e2,r2⟩:=ho2.rd;injection e2 with q1 q2 q3
 subst q1 q3;rw[Sha.htab_len]at r2 ⊢;have j5:w.heap.size≤w1.heap.size:=H1.2.size;have qk:=H1.2.trans (hb2.mono j5);have H2:=hd2 r2 qk;have j0:=hb2;clear ho2 qk r2 q2
 go_wp2_with fail
 refine(mr 64 3 ab (.inr rfl) w2).mono ?_;rw[zL];rintro e w3 ⟨A3,c3,rfl,ho3,hb3⟩;obtain⟨_,_,e3,r3⟩:=ho3.rd;injection e3 with q1 q2 q3
 subst q1 q3;rw[Sha.ktab_len]at r3 ⊢;have qs:=H2.2.trans (hb3.mono H2.2.size);have q0:=j0.trans (hb3.mono j0.size);have H3:=hd4 r3 qs (H2.1.up hb3) q0;clear ho3 hb3 qs r3 j0 q0 q2
 go_wp2_with fail
 refine(qI A n c xs w3 (H.1.up H3.2.1) hn).mono ?_;rintro e w4 ⟨A4,n4,c4,rfl,ho4,hb4⟩;obtain⟨_,_,_,e4,r4⟩:=ho4.rd;injection e4 with q1 q2 q3
 subst q1 q2 q3;have qg:=r4.len;have qh:∃m,n4=64*m∧m≤100000000:=by
  rw[List.length_append,H.2.1]at qg;unfold Sha.padOf Sha.zerosOf at qg;simp at qg;refine⟨n4 / 64,ab,ab⟩
 obtain⟨m,hm,hmb⟩:=qh;obtain⟨T,hT⟩:∃T,xs++Sha.padOf n=T:=⟨_,rfl⟩
 rw[hT]at r4 qg;have qd:Sha.sum xs=(List.range 32).map (Sha.outByte (Sha.absorb Sha.htab m T)):=by
  unfold Sha.sum Sha.hsN;rw[H.2.1,hT,qg,hm,Nat.mul_div_cancel_left _ ab]
 have z1:n4≤64*m:=Nat.le_of_eq hm;have z2:64*m≤n4:=Nat.le_of_eq hm.symm;clear hm;have qv:=H3.2.1.trans (hb4.mono H3.2.1.size);have q4:=H3.2.2.2.trans (hb4.mono H3.2.2.2.size);have H4:=hd7 r4 qv (H3.2.2.1.up hb4) (H3.1.up hb4) q4 qd qg;clear ho4 hb4 qv q4 r4 qd qg hT
 go_wp2_with fail
 go_loopw [3,6] (fun hv iv wr=>∃(k q c:Nat) (A:Option Addr),k≤m∧q=64*k∧iv=.int .i64 (q:Int)∧hv=.slice A 8 c∧bX wr wr.heap.size A 8 c (Sha.absorb Sha.htab k T)∧Below w4.heap.size w4 wr) (fun _ iv _=>n4 - (intOf iv).toNat)
 case atStart=>exact⟨0,0,c2,A2,Nat.zero_le _,rfl,rfl,rfl,H4.2.2.1,Below.refl _ _⟩
 case round=>
  obtain⟨k,q,ch,Ah,hk,hq,rfl,rfl,hr,hb⟩:=hrel
  by_cases hlt:k<m
  ·have j3:(q:Int)<(n4:Int):=ab
   obtain⟨A5,c5,r5,s1,s2⟩:=qO (H4.1.up hb) q ab;obtain⟨q2,hq2⟩:∃x,q+64=x:=⟨_,rfl⟩
   rw[hq2]at s1 s2;have j1:IntKind.i64.wrap ((q:Int)+64)=(q2:Int):=by rw[IntKind.wrap_i64];omega
   have q9:=tP Ah A3 A5 ch c3 c5 (Sha.absorb Sha.htab k T) Sha.ktab ((T.drop q).take 64) wr hr (H4.2.2.2.1.up hb) r5;have ys:Sha.comp Sha.ktab (Sha.absorb Sha.htab k T) ((T.drop q).take 64)=Sha.absorb Sha.htab (k+1) T:=by rw[Sha.absorb,hq]
   have y2:(Sha.absorb Sha.htab (k+1) T).length=8:=Sha.absorb_len _ Sha.htab_len _ _;rw[ys]at q9;have HB:=hd5 q9 hb y2 hq hq2;clear q9 hb y2 hq ys hr r5 hq2
   go_wp2_with fail
   refine HB.1.mono ?_;rintro e w6 ⟨A6,c6,rfl,ho6,hb6⟩;obtain⟨_,_,e6,r6⟩:=ho6.rd;injection e6 with a1 a2 a3
   subst a1 a3;rw[HB.2.2.1]at r6 ⊢;have H6:=hd2 r6 (HB.2.1.trans (hb6.mono HB.2.1.size));clear ho6 hb6 r6 a2
   go_wp2_with fail
   refine⟨⟨k+1,q2,c6,A6,ab,by have:=HB.2.2.2;omega,rfl,rfl,H6.1,H6.2⟩,?_⟩;have:=HB.2.2.2;simp[intOf];omega
  ·obtain rfl:k=m:=ab
   have j3:¬((q:Int)<(n4:Int)):=ab
   obtain⟨HH,hHH⟩:∃HH,Sha.absorb Sha.htab k T=HH:=⟨_,rfl⟩
   have yd:HH.length=8:=by rw[←hHH];exact Sha.absorb_len _ Sha.htab_len _ _
   rw[hHH]at hr;have qd:=H4.2.2.2.2.2.1;rw[hHH]at qd;have y0:=H4.2.1.trans (hb.mono H4.2.1.size);have j7:=H1.1.below (H4.2.2.2.2.1.trans (hb.mono H4.2.2.2.2.1.size)) H1.1.lt;have yh:aw (wr.alloc (.cells ((List.replicate 32 0).map dV).toArray 47)) wr.heap.size 47 ((List.replicate 32 0).map dV).toArray:=aw.new _ _ _;have yy:Below wr.heap.size wr (wr.alloc (.cells ((List.replicate 32 0).map dV).toArray 47)):=br_.alloc nl_ _;have HF:=hd7 hr y0 j7 qd yd yh yy;clear hr hb y0 j7 qd yd hHH yh yy hq
   go_upto_region 9 with fail
   obtain⟨w7,hw7⟩:∃W,wr.alloc (.cells ((List.replicate 32 0).map dV).toArray 47)=W:=⟨_,rfl⟩
   have hX:=HF.2.2.2.2.2;rw[hw7]at hX;have q7:wr.alloc (.cells #[.int .u8 0,.int .u8 0,.int .u8 0,.int .u8 0,.int .u8 0,.int .u8 0,.int .u8 0,.int .u8 0,.int .u8 0,.int .u8 0,.int .u8 0,.int .u8 0,.int .u8 0,.int .u8 0,.int .u8 0,.int .u8 0,.int .u8 0,.int .u8 0,.int .u8 0,.int .u8 0,.int .u8 0,.int .u8 0,.int .u8 0,.int .u8 0,.int .u8 0,.int .u8 0,.int .u8 0,.int .u8 0,.int .u8 0,.int .u8 0,.int .u8 0,.int .u8 0] 47)=w7:=hw7;rw[q7];clear hw7 q7;obtain⟨g,hg⟩:∃g,wr.heap.size=g:=⟨_,rfl⟩
   have y3:=HF.2.1.size;have j4:=HF.1;rw[hg]at hX y3 j4 ⊢;have H7:=hd3 hX j4 hg;clear hX j4 hg;obtain⟨wo,rfl⟩:∃V,V=wr:=⟨_,rfl⟩
   go_wp2_with fail
   go_loopw [8] (fun ix wr=>∃(i:Nat),i≤32∧ix=.int .i64 (i:Int)∧aw wr g 47 (List.map dV ((List.range i).map (Sha.outByte HH)++List.replicate (32 - i) 0)).toArray∧w7.grownBy wr (some g)) (fun ix _=>32 - (intOf ix).toNat)
   case atStart=>exact⟨0,ab,rfl,by simpa using H7.1.1,fJ _ _⟩
   case round=>
    obtain⟨i,hi,rfl,hO,hgr⟩:=hrel
    by_cases hil:i<32
    ·have j2:(i:Int)<32:=ab
     obtain⟨q,hq⟩:∃k,i / 4=k:=⟨_,rfl⟩
     obtain⟨m',hm'⟩:∃k,i % 4=k:=⟨_,rfl⟩
     have z5:Int.tdiv (i:Int) 4=(q:Int):=by rw[←hq];rfl
     have z3:Int.tmod (i:Int) 4=(m':Int):=by rw[←hm'];rfl
     have z6:q<8:=ab
     have zs:(q:Int)<8:=ab
     have z4:m'<4:=ab
     obtain⟨sh,hsh⟩:∃k,24 - 8*m'=k:=⟨_,rfl⟩
     have zz:(24:Int) - 8*(m':Int)=(sh:Int):=ab
     have y5:sh≤24:=ab
     obtain⟨hb',ho',rfl,hhb,qc⟩:=H7.2.1.at_ ab;obtain⟨y,hy⟩:∃y,HH[q]? = some y:=⟨HH[q]'(by rw[HF.2.2.2.2.1];omega),ag⟩
     have y7:HH.getD q 0=y:=by rw[List.getD_eq_getElem?_getD,hy];rfl
     have cq:wr.cell? ⟨hb',ho'+q,none⟩=some (.int .u32 y):=by
      have h1:=qc q y hy;have h2:=(H7.1.2.cell (p:=⟨hb',ho'+q,none⟩) hhb).trans h1;exact(World.cell?_of_block (a:=⟨hb',ho'+q,none⟩) (hgr.block hb' (by have:=H7.1.2.size;have:=H7.1.1.lt;show hb'<_;omega) (fun e=>by injection e with e;omega))).trans h2
     have q5:Sha.outByte HH i=y / 2 ^ sh % 256:=by
      unfold Sha.outByte;rw[hq,hm',hsh,y7,IntKind.wrap_u8']
     have z0:=hO.frozen i;have y4:(List.map dV ((List.range i).map (Sha.outByte HH)++List.replicate (32 - i) 0)).toArray.setIfInBounds i (dV (y / 2 ^ sh % 256))=(List.map dV ((List.range (i+1)).map (Sha.outByte HH)++List.replicate (32 - (i+1)) 0)).toArray:=by
      rw[List.setIfInBounds_toArray,←q5];exact congrArg _ (Sha.out_set hil)
     have co:∃u,wr.cell? ⟨g,i,none⟩=some u:=⟨_,(hO.cell i).trans (by rw[List.getElem?_toArray];exact Sha.out_get hil)⟩
     have HI:=hd3 hO hgr y4;clear hO hgr y4 q5 hq hm' hsh hy y7 qc;obtain⟨u0,hu0⟩:=co
     go_wp2_with fail
     exact⟨⟨i+1,ab,ag,by rw[←HI.2.2];exact HI.1.set_ i _,bM HI.2.1 _ _⟩,by simp only[intOf];omega⟩
    ·obtain rfl:i=32:=ab
     have j2:¬(((32:Nat):Int)<32):=ab
     have zn:(List.range 32).map (Sha.outByte HH)++List.replicate (32 - 32) 0=Sha.sum xs:=by
      rw[HF.2.2.2.1];exact List.append_nil _
     rw[zn]at hO;have y6:(Sha.sum xs).length=32:=by unfold Sha.sum;rw[List.length_map,List.length_range]
     have j8:aw wr w.heap.size 47 ((List.replicate 32 0).map dV).toArray:=(HF.2.2.1.below H7.1.2 (by have:=HF.2.2.1.lt;have:=H7.2.2;omega)).grown hgr (fun e=>by injection e with e;have:=HF.2.2.1.lt;have:=H7.2.2;omega);have y1:Below w.heap.size w wr:=(HF.2.1.trans (H7.1.2.mono y3)).grown hgr (by have:=H7.1.2.size;have:=H7.2.2;omega) (fun k e=>by injection e with e;omega);have HE:=hd4 hO y1 y6 j8;clear hO hgr y1 y6 zn j8
     go_wp2_with (first
      | ((with_reducible refine nG 47 ?_);refine iu rfl 47 _ rfl ⟨g,0,none⟩ (.agg ((Sha.sum xs).map dV).toArray) rfl (pB HE.out.2.2.1 HE.out.1) ?_)
      | ((with_reducible refine sA 47 ?_);refine lp rfl 47 _ _ rfl ⟨w.heap.size,0,none⟩ (.agg ((Sha.sum xs).map dV).toArray) (wr.setRow w.heap.size ((Sha.sum xs).map dV).toArray) rfl rfl (wL rfl HE.out.2.2.1 HE.out.2.2.2) ?_)
      | fail)
     have hS:=setRow_blk (ds:=((Sha.sum xs).map dV).toArray) HE.2.2.2;exact bodyPost_ret (pX Tryz.results67 _ _ _ _ _ rfl (pB HE.2.2.1 hS.1)) rfl ⟨rfl,HE.2.1.grown hS.2 HE.2.1.size (fun j e=>by injection e with e;omega)⟩
namespace Lb
def trimN (l:List Nat):Nat→Nat
 | 0=>0
 | n+1=>if l.getD n 0=0 then trimN l n else n+1
def trim (l:List Nat):List Nat:=l.take (trimN l l.length)
def right (l:List Nat):Bool:=decide (l.length≤256)&&(decide (l.length=0)||decide (l.getD (l.length - 1) 0≠0))
theorem trimN_le (l:List Nat):∀n,trimN l n≤n
 | 0=>Nat.le_refl _
 | n+1=>by rw[trimN];split;have:=trimN_le l n;omega;omega
theorem trim_top {l:List Nat} {n:Nat} (h:l.length=n+1) (h0:l.getD n 0≠0):trim l=l:=by
 unfold trim;rw[h,trimN,if_neg h0,←h,List.take_length]
def ofN (b:List UInt8):Nat→List Nat
 | 0=>List.replicate ((b.length+3) / 4) 0
 | i+1=>(ofN b i).set (i / 4) ((ofN b i).getD (i / 4) 0||| (b.getD (b.length - 1 - i) 0).toNat*2 ^ (8*(i % 4)))
theorem byte_shift (x:UInt8) (i:Nat):x.toNat*2 ^ (8*(i % 4))<4294967296:=by
 have hx:=x.toNat_lt;have h4:i % 4<4:=Nat.mod_lt _ ab;have:i % 4=0∨i % 4=1∨i % 4=2∨i % 4=3:=ab
 rcases this with h|h|h|h<;>rw[h]<;>omega
theorem ofN_lim (b:List UInt8):∀i,Rs.Lim (ofN b i)∧(ofN b i).length=(b.length+3) / 4
 | 0=>⟨Rs.lim_zero _,by simp[ofN]⟩
 | i+1=>by
  obtain⟨h1,h2⟩:=ofN_lim b i;exact⟨Rs.lim_set h1 _ _ (Nat.or_lt_two_pow (n:=32) (Rs.lim_get h1 _) (byte_shift _ _)),by simp only[ofN,List.length_set,h2]⟩
theorem ofN_succ (b:List UInt8) (i:Nat):ofN b (i+1)=(ofN b i).set (i / 4) ((ofN b i).getD (i / 4) 0||| (b.getD (b.length - 1 - i) 0).toNat*2 ^ (8*(i % 4))):=rfl
def of (b:List UInt8):List Nat:=trim (ofN b b.length)
def octN (x:List Nat) (n:Nat):Nat→List UInt8
 | 0=>List.replicate n 0
 | i+1=>(octN x n i).set (n - 1 - i) (UInt8.ofNat (x.getD (i / 4) 0 / 2 ^ (8*(i % 4))))
def octets (x:List Nat) (n:Nat):List UInt8:=octN x n (min n (4*x.length))
theorem octN_succ (x:List Nat) (n i:Nat):octN x n (i+1)=(octN x n i).set (n - 1 - i) (UInt8.ofNat (x.getD (i / 4) 0 / 2 ^ (8*(i % 4)))):=rfl
theorem octN_len (x:List Nat) (n:Nat):∀i,(octN x n i).length=n
 | 0=>by simp[octN]
 | i+1=>by rw[octN,List.length_set,octN_len x n i]
theorem octets_len (x:List Nat) (n:Nat):(octets x n).length=n:=octN_len _ _ _
def subN (x y:List Nat):Nat→List Nat×Nat
 | 0=>([],0)
 | i+1=>((subN x y i).1++[(x.getD i 0+4294967296 - y.getD i 0 - (subN x y i).2) % 4294967296],1 - (x.getD i 0+4294967296 - y.getD i 0 - (subN x y i).2) / 4294967296)
theorem subN_succ (x y:List Nat) (i:Nat):subN x y (i+1)=((subN x y i).1++[(x.getD i 0+4294967296 - y.getD i 0 - (subN x y i).2) % 4294967296],1 - (x.getD i 0+4294967296 - y.getD i 0 - (subN x y i).2) / 4294967296):=rfl
theorem subN_lim (x y:List Nat):∀i,Rs.Lim (subN x y i).1∧(subN x y i).2≤1∧(subN x y i).1.length=i
 | 0=>⟨fun _ h=>(by cases h),by simp[subN],rfl⟩
 | i+1=>by
  obtain⟨h1,h2,h3⟩:=subN_lim x y i;refine⟨fun z hz=>?_,by simp only[subN];omega,by simp only[subN,List.length_append,h3,List.length_singleton]⟩;rcases List.mem_append.1 hz with hz|hz
  ·exact h1 z hz
  ·rw[List.mem_singleton]at hz;rw[hz];exact Nat.mod_lt _ ab
def sub (x y:List Nat):List Nat:=trim (subN x y x.length).1
def mul (x y:List Nat):List Nat:=trim (Rs.times x y)
theorem trim_lim {l:List Nat} (h:Rs.Lim l):Rs.Lim (trim l):=fun x hx=>h x (List.mem_of_mem_take hx)
def root (even:Bool):List Nat:=(if even then 1 else 0)::(List.replicate 20 0++[1536])
def enc (d:List UInt8):List UInt8:=[0,1]++List.replicate 202 255++[0]++[48,49,48,13,6,9,96,134,72,1,101,3,4,2,1,5,0,4,32]++d
def even (d:List UInt8):Bool:=decide ((d.getD 31 0).toNat % 2=0)
def cube (e:Bool):List Nat:=mul (mul (root e) (root e)) (root e)
def keyN (d:List UInt8):List UInt8:=octets (sub (cube (even d)) (of (enc d))) 256
def keyS (d:List UInt8):List UInt8:=octets (root (even d)) 256
def val:List Nat→Nat
 | []=>0
 | x::l=>x+4294967296*val l
theorem val_append:∀a b:List Nat,val (a++b)=val a+4294967296 ^ a.length*val b
 | [],b=>by simp[val]
 | x::a,b=>by
  have:=val_append a b;simp only[List.cons_append,val,List.length_cons,Nat.pow_succ]
  grind
theorem val_zero:∀n,val (List.replicate n 0)=0
 | 0=>rfl
 | n+1=>by rw[List.replicate_succ,val,val_zero n]
theorem val_lt:∀{l:List Nat},Rs.Lim l→val l<4294967296 ^ l.length
 | [],_=>by simp[val]
 | x::l,h=>by
  have h1:=val_lt (l:=l) fun y hy=>h y (List.mem_cons_of_mem _ hy)
  have h2:=h x List.mem_cons_self;simp only[val,List.length_cons,Nat.pow_succ];omega
theorem val_set:∀(l:List Nat) (j x:Nat),j<l.length→val (l.set j x)+l.getD j 0*4294967296 ^ j=val l+x*4294967296 ^ j
 | y::l,0,x,_=>by simp[val];omega
 | y::l,j+1,x,h=>by
  have:=val_set l j x (by simpa using h);simp only[List.set_cons_succ,val,List.getD_cons_succ,Nat.pow_succ]
  grind
theorem take_val (b:List Nat) (k:Nat):val (b.take (k+1))=val (b.take k)+b.getD k 0*4294967296 ^ k:=by
 rcases Nat.lt_or_ge k b.length with h|h
 ·rw[List.take_add_one,List.getElem?_eq_getElem h,val_append,List.length_take,List.getD_eq_getElem?_getD,List.getElem?_eq_getElem h]
  simp only[Option.toList_some,Option.getD_some,val];rw[show min k b.length=k by omega]
  grind
 ·rw[List.take_of_length_le h,List.take_of_length_le ab,List.getD_eq_getElem?_getD,List.getElem?_eq_none h]
  simp
theorem tIn_val (a i:Nat) (b o:List Nat):∀k,i+k≤o.length→(Rs.tIn a i b o k).1.length=o.length∧val (Rs.tIn a i b o k).1+(Rs.tIn a i b o k).2*4294967296 ^ (i+k)=val o+a*4294967296 ^ i*val (b.take k)∧∀j,i+k≤j→(Rs.tIn a i b o k).1.getD j 0=o.getD j 0
 | 0,_=>by simp[Rs.tIn,val]
 | k+1,h=>by
  obtain⟨h1,h2,h3⟩:=tIn_val a i b o k ab;have hs:=val_set (Rs.tIn a i b o k).1 (i+k) ((a*b.getD k 0+(Rs.tIn a i b o k).1.getD (i+k) 0+(Rs.tIn a i b o k).2) % 4294967296) ab;have ht:=take_val b k;have hm:=Nat.mod_add_div (a*b.getD k 0+(Rs.tIn a i b o k).1.getD (i+k) 0+(Rs.tIn a i b o k).2) 4294967296;refine⟨by rw[Rs.tIn,List.length_set,h1],?_,fun j hj=>?_⟩
  ·simp only[Rs.tIn]
   rw[show i+(k+1)=(i+k)+1 by omega,Nat.pow_succ,ht];have hp:4294967296 ^ (i+k)=4294967296 ^ i*4294967296 ^ k:=Nat.pow_add _ _ _;generalize (Rs.tIn a i b o k).1.getD (i+k) 0=ov at *;generalize (Rs.tIn a i b o k).2=c at *;generalize b.getD k 0=bk at *;generalize val (Rs.tIn a i b o k).1=vo at *;generalize val (List.take k b)=vb at *;generalize val ((Rs.tIn a i b o k).1.set (i+k) ((a*bk+ov+c) % 4294967296))=v' at *;generalize 4294967296 ^ (i+k)=P at *;generalize 4294967296 ^ i=Pi at *;generalize 4294967296 ^ k=Pk at *;generalize (a*bk+ov+c) % 4294967296=m at *;generalize (a*bk+ov+c) / 4294967296=q at *;subst hp
   grind
  ·rw[Rs.tIn]
   simp only;rw[List.getD_eq_getElem?_getD,List.getElem?_set_ne ab,←List.getD_eq_getElem?_getD];exact h3 j ab
theorem tOut_val (a b:List Nat) (ha:Rs.Lim a) (hb:Rs.Lim b):∀i,i≤a.length→(Rs.tOut a b i).length=a.length+b.length∧val (Rs.tOut a b i)=val (a.take i)*val b∧∀j,i+b.length≤j→(Rs.tOut a b i).getD j 0=0
 | 0,_=>by
  refine⟨by simp[Rs.tOut],by simp[Rs.tOut,val_zero,val],fun j hj=>?_⟩;rw[Rs.tOut,List.getD_eq_getElem?_getD,List.getElem?_replicate]
  split<;>rfl
 | i+1,h=>by
  obtain⟨h1,h2,h3⟩:=tOut_val a b ha hb i ab;obtain⟨g1,g2,g3⟩:=tIn_val (a.getD i 0) i b (Rs.tOut a b i) b.length ab;have g4:=g3 (i+b.length) nl_;rw[h3 _ nl_]at g4;rw[List.take_length]at g2;have hc:=(Rs.tIn_lim (i:=i) (Rs.lim_get ha i) hb (Rs.tOut_lim ha hb i).1 b.length).2.1;have hs:=val_set (Rs.tIn (a.getD i 0) i b (Rs.tOut a b i) b.length).1 (i+b.length) ((Rs.tIn (a.getD i 0) i b (Rs.tOut a b i) b.length).2 % 4294967296) ab;rw[g4,Nat.mod_eq_of_lt hc,Nat.zero_mul,Nat.add_zero,g2,h2]at hs;refine⟨by rw[Rs.tOut,List.length_set,g1,h1],?_,fun j hj=>?_⟩
  ·rw[Rs.tOut,Nat.mod_eq_of_lt hc,hs,take_val]
   grind
  ·rw[Rs.tOut,List.getD_eq_getElem?_getD,List.getElem?_set_ne ab,←List.getD_eq_getElem?_getD,g3 j ab]
   exact h3 j ab
theorem times_val (a b:List Nat) (ha:Rs.Lim a) (hb:Rs.Lim b):val (Rs.times a b)=val a*val b:=by
 have:=(tOut_val a b ha hb a.length nl_).2.1
 rwa [List.take_length]at this
theorem len_of_val {l:List Nat} (h:Rs.Lim l) (ht:l.length=0∨l.getD (l.length - 1) 0≠0) {n:Nat} (h1:4294967296 ^ n≤val l) (h2:val l<4294967296 ^ (n+1)):l.length=n+1:=by
 have hv:=val_lt h;have hn:n<l.length:=(Nat.pow_lt_pow_iff_right (a:=4294967296) ab).1 (Nat.lt_of_le_of_lt h1 hv);rcases ht with h0|h0
 ·omega
 obtain⟨m,hm⟩:∃m,l.length=m+1:=⟨l.length - 1,ab⟩
 rw[hm,Nat.add_sub_cancel]at h0;have ht:=take_val l m;rw[List.take_of_length_le ab]at ht;have qc:4294967296 ^ m≤l.getD m 0*4294967296 ^ m:=Nat.le_mul_of_pos_left _ ab;have:m<n+1:=(Nat.pow_lt_pow_iff_right (a:=4294967296) ab).1 ab;omega
theorem top_of_val {l:List Nat} (h:Rs.Lim l) {n T:Nat} (hl:l.length=n+1) (h1:T*4294967296 ^ n≤val l):T≤l.getD n 0:=by
 have ht:=take_val l n;rw[List.take_of_length_le ab]at ht;have h2:=val_lt (l:=l.take n) fun x hx=>h x (List.mem_of_mem_take hx)
 rw[List.length_take,show min n l.length=n by omega]at h2;rcases Nat.lt_or_ge (l.getD n 0) T with h3|h3
 ·have:=Nat.mul_le_mul_right (4294967296 ^ n) (show l.getD n 0+1≤T by omega)
  rw[Nat.succ_mul]at this;omega
 ·exact h3
theorem trimN_top (l:List Nat):∀n,trimN l n=0∨l.getD (trimN l n - 1) 0≠0
 | 0=>.inl rfl
 | n+1=>by
  rw[trimN]
  split
  ·exact trimN_top l n
  ·rename_i h;exact .inr (by simpa using h)
theorem trimN_val (l:List Nat):∀n,val (l.take (trimN l n))=val (l.take n)
 | 0=>rfl
 | n+1=>by
  rw[trimN]
  split
  ·rename_i h;rw[trimN_val l n,take_val,h];simp
  ·rfl
theorem trim_val (l:List Nat):val (trim l)=val l:=by unfold trim;rw[trimN_val,List.take_length]
theorem trim_len (l:List Nat):(trim l).length=trimN l l.length:=by
 unfold trim;rw[List.length_take];have:=trimN_le l l.length;omega
theorem trim_end (l:List Nat):(trim l).length=0∨(trim l).getD ((trim l).length - 1) 0≠0:=by
 rw[trim_len];rcases trimN_top l l.length with h|h
 ·exact .inl h
 ·by_cases h0:trimN l l.length=0
  ·exact .inl h0
  ·right
   unfold trim;rw[List.getD_eq_getElem?_getD,List.getElem?_take_of_lt ab,←List.getD_eq_getElem?_getD];exact h
theorem trim_right {l:List Nat} (h:l.length≤256):right (trim l)=true:=by
 unfold right;have h1:=trim_len l;have h2:=trimN_le l l.length;have h3:=trim_end l;simp only[Bool.and_eq_true,Bool.or_eq_true,decide_eq_true_eq];exact⟨ab,h3⟩
theorem root_lim (e:Bool):Rs.Lim (root e)∧(root e).length=22∧right (root e)=true:=by
 refine⟨fun x hx=>?_,rfl,by cases e<;>decide +kernel⟩;have:x≤1536:=by
  cases e<;>simp only[root,List.mem_cons,List.mem_append,List.mem_replicate,List.mem_singleton]at hx<;>simp at hx<;>omega
 omega
theorem cube_lim (e:Bool):Rs.Lim (cube e):=trim_lim (Rs.times_lim (trim_lim (Rs.times_lim (root_lim e).1 (root_lim e).1).1) (root_lim e).1).1
theorem root_val (e:Bool):val (root e)=(if e then 1 else 0)+1536*4294967296 ^ 21:=by
 unfold root;rw[val,val_append,val_zero,List.length_replicate,val,val]
theorem cube_val (e:Bool):val (cube e)=val (root e)*val (root e)*val (root e):=by
 have h:=(root_lim e).1;unfold cube mul;rw[trim_val,times_val _ _ (trim_lim (Rs.times_lim h h).1) h,trim_val,times_val _ _ h h]
theorem sq_len (e:Bool):(mul (root e) (root e)).length≤44∧0<(mul (root e) (root e)).length∧right (mul (root e) (root e))=true∧Rs.Lim (mul (root e) (root e)):=by
 obtain⟨h1,h2,h3⟩:=root_lim e;obtain⟨h4,h5⟩:=Rs.times_lim h1 h1;have hv:val (mul (root e) (root e))=val (root e)*val (root e):=by unfold mul;rw[trim_val,times_val _ _ h1 h1]
 refine⟨?_,?_,trim_right ab,trim_lim h4⟩
 ·unfold mul
  have:=trimN_le (Rs.times (root e) (root e)) (Rs.times (root e) (root e)).length;rw[trim_len];omega
 ·rcases Nat.eq_zero_or_pos (mul (root e) (root e)).length with h0|h0
  ·rw[List.length_eq_zero_iff.1 h0,root_val]at hv
   cases e<;>exact absurd hv ac
  ·exact h0
theorem cube_top (e:Bool):(cube e).length=64∧right (cube e)=true∧2147483648+131072≤(cube e).getD 63 0:=by
 have hv:=cube_val e;rw[root_val]at hv;have hl:(cube e).length=64:=len_of_val (n:=63) (cube_lim e) (trim_end _) (by rw[hv];cases e<;>decide +kernel) (by rw[hv];cases e<;>decide +kernel);have hs:=(sq_len e).1;refine⟨hl,?_,top_of_val (cube_lim e) hl (by rw[hv];cases e<;>decide +kernel)⟩;unfold cube;refine trim_right ?_;rw[(Rs.times_lim (sq_len e).2.2.2 (root_lim e).1).2,(root_lim e).2.1];omega
theorem enc_len (d:List UInt8) (h:d.length=32):(enc d).length=256:=by simp[enc,h]
theorem of_top (d:List UInt8) (h:d.length=32):(of (enc d)).length=64∧(of (enc d)).getD 63 0=131071∧right (of (enc d))=true∧Rs.Lim (of (enc d)):=by
 have hl:=enc_len d h;obtain⟨h1,h2⟩:=ofN_lim (enc d) 256;have qg:(ofN (enc d) 256).length=64:=by rw[h2,hl]
 have qc:∀(l:List Nat) (v:Nat),l.length=64→(l.set 63 v).getD 63 0=v:=fun l v hv=>by rw[List.getD_eq_getElem?_getD,List.getElem?_set_self ab];rfl
 have qd:∀i,i≤252→(ofN (enc d) i).getD 63 0=0:=by
  intro i
  induction i with
  | zero=>intro _;rw[ofN,hl];rfl
  | succ i ih=>
   intro hi;rw[ofN_succ,List.getD_eq_getElem?_getD,List.getElem?_set_ne ab,←List.getD_eq_getElem?_getD,ih ab]
 have g3:(enc d).getD 3 0=255:=rfl;have g2:(enc d).getD 2 0=255:=rfl;have g1:(enc d).getD 1 0=1:=rfl;have g0:(enc d).getD 0 0=0:=rfl;have hn:∀i,(ofN (enc d) i).length=64:=fun i=>by rw[(ofN_lim (enc d) i).2,hl]
 have e1:(ofN (enc d) (252+1)).getD 63 0=255:=by rw[ofN_succ,hl];rw[show 252 / 4=63 from rfl,qc _ _ (hn _),qd 252 ab,g3];decide
 have e2:(ofN (enc d) (253+1)).getD 63 0=65535:=by rw[ofN_succ,hl];rw[show 253 / 4=63 from rfl,qc _ _ (hn _),e1,g2];decide
 have e3:(ofN (enc d) (254+1)).getD 63 0=131071:=by rw[ofN_succ,hl];rw[show 254 / 4=63 from rfl,qc _ _ (hn _),e2,g1];decide
 have e4:(ofN (enc d) (255+1)).getD 63 0=131071:=by rw[ofN_succ,hl];rw[show 255 / 4=63 from rfl,qc _ _ (hn _),e3,g0];decide
 have ht:of (enc d)=ofN (enc d) 256:=by unfold of;rw[hl];exact trim_top (qg) (by rw[e4];decide)
 rw[ht];refine⟨qg,e4,?_,h1⟩;unfold right;rw[qg,e4];decide
theorem sub_high (x bw:Nat) (h1:2147483648+131072≤x) (h2:x<4294967296) (h3:bw≤1):2147483648≤(x+4294967296 - 131071 - bw) % 4294967296:=ab
theorem diff_pure {y o bw:Nat} {P Q:List Nat} (hP:P=Q++[(y+4294967296 - o - bw) % 4294967296]) (hQ:Q.length=63) (h1:2147483648+131072≤y) (h2:y<4294967296) (h3:bw≤1) (ho:o=131071):P.length=63+1∧2147483648≤P.getD 63 0:=by
 subst hP ho;refine⟨by rw[List.length_append,hQ];rfl,?_⟩;rw[List.getD_eq_getElem?_getD,List.getElem?_append_right (Nat.le_of_eq hQ),hQ,Nat.sub_self,List.getElem?_cons_zero,Option.getD_some];have:=sub_high y bw h1 h2 h3;exact this
theorem top_right {P:List Nat} (h1:P.length=63+1) (h2:2147483648≤P.getD 63 0):trim P=P∧right P=true:=by
 have h3:P.getD 63 0≠0:=ab
 refine⟨trim_top h1 h3,?_⟩;unfold right;rw[h1];simp only[Nat.add_sub_cancel,Bool.and_eq_true,Bool.or_eq_true,decide_eq_true_eq];exact⟨aj,.inr h3⟩
theorem diff_gen {A O:List Nat} (c1:A.length=63+1) (c3:2147483648+131072≤A.getD 63 0) (cl:A.getD 63 0<4294967296) (o2:O.getD 63 0=131071):(sub A O).length=63+1∧2147483648≤(sub A O).getD 63 0∧right (sub A O)=true∧Rs.Lim (sub A O):=by
 have hA:sub A O=trim (subN A O (63+1)).1:=congrArg (fun n=>trim (subN A O n).1) c1;have hd:=diff_pure (congrArg Prod.fst (subN_succ A O 63)) (subN_lim A O 63).2.2 c3 cl (subN_lim A O 63).2.1 o2;have hl:=(subN_lim A O (63+1)).1;generalize (subN A O (63+1)).1=P at hA hd hl;obtain⟨ht,hr⟩:=top_right hd.1 hd.2;rw[hA,ht];exact⟨hd.1,hd.2,hr,hl⟩
theorem diff_top (d:List UInt8) (h:d.length=32):(sub (cube (even d)) (of (enc d))).length=63+1∧2147483648≤(sub (cube (even d)) (of (enc d))).getD 63 0∧right (sub (cube (even d)) (of (enc d)))=true∧Rs.Lim (sub (cube (even d)) (of (enc d))):=
 diff_gen (cube_top (even d)).1 (cube_top (even d)).2.2 (Rs.lim_get (cube_lim (even d)) 63) (of_top d h).2.1
theorem keyN_len (d:List UInt8):(keyN d).length=256:=octets_len _ _
theorem keyS_len (d:List UInt8):(keyS d).length=256:=octets_len _ _
theorem keyN_head (d:List UInt8) (h:d.length=32):128≤((keyN d).headD 0).toNat:=by
 obtain⟨h1,h2,_,h4⟩:=diff_top d h;unfold keyN octets;generalize sub (cube (even d)) (of (enc d))=X at h1 h2 h4;rw[h1,show min 256 (4*(63+1))=255+1 from rfl,octN_succ,show 256 - 1 - 255=0 from rfl,show 255 / 4=63 from rfl,show 8*(255 % 4)=24 from rfl];have hl:=octN_len X 256 255;have qc:=Rs.lim_get h4 63;generalize octN X 256 255=l at hl
 cases l with
 | nil=>cases hl
 | cons a r=>
  rw[List.set_cons_zero,List.headD_cons,UInt8.toNat_ofNat'];rw[Nat.mod_eq_of_lt ab];omega
end Lb
theorem aW.lit (w:World) (l:List Int) (cs:List Value) (n:Nat) (hc:cs=l.map dG) (hl:l.length=n) (hn:n≤1000000) :
 aW (w.alloc (.cells cs.toArray 88)) w.heap.size (w.heap.size+1) (.slice (some ⟨w.heap.size,0,none⟩) n n) l:=by
 subst hc hl;exact⟨⟨ag,.inr ⟨w.heap.size,_,_,rfl,Nat.le_refl _,heap_alloc_new w _,Nat.le_refl _,by simp only[maxLen];omega,ag,by simp only[Nat.mul_one];rw[List.take_of_length_le ag]⟩⟩,fun k hk=>by simp[Value.ownBlock]at hk;omega⟩
theorem zM (l:List Nat) (k:Nat):nl (l.take k)=(nl l).take k:=by unfold nl;rw[List.map_take]
theorem bX.first {w:World} {B n c:Nat} {A:Option Addr} {l:List Int} (h:bX w B A n c l) {k:Nat} (hk:k≤n):bX w B A k c (l.take k):=by
 have hl:=h.len;refine⟨by rw[List.length_take];omega,by have:=h.cap;omega,h.capm,fun h0=>h.spot ab,⟨by rw[List.length_map,List.length_take];omega,fun h0=>?_⟩⟩;obtain⟨ad,e,hlt,hc⟩:=h.rds.2 ab;refine⟨ad,e,hlt,fun j v hv=>hc j v ?_⟩;rw[List.map_take]at hv;exact(List.getElem?_take_of_lt (by have:=(List.getElem?_eq_some_iff.1 hv).1;simp at this;omega)).symm.trans hv
set_option maxHeartbeats 2000000 in
theorem jP (A:Option Addr) (n c:Nat) (l:List Nat) (w:World) (h:bX w w.heap.size A n c (nl l)) (hn:n≤1000) (hn0:0<n) :
 Calls Tryz.prog 120 #[.slice A n c] w (iX (nl (Lb.trim l)) w):=by
 have hl:=h.len;rw[bz]at hl;obtain⟨b,o,rfl,hb⟩:=h.spot hn0;have H:=hd2 h hl;have qg:=h.cap;clear h hl
 go_enter Tryz.func120,Tryz.ntmps120
 go_wp2_with fail
 go_loopw [3] (fun i wr=>∃k:Nat,k≤n∧i=.int .i64 (k:Int)∧Lb.trimN l n=Lb.trimN l k∧wr=w) (fun i _=>(intOf i).toNat)
 case atStart=>exact⟨n,Nat.le_refl _,rfl,rfl,rfl⟩
 case round=>
  obtain⟨k,hk,rfl,he,rfl⟩:=hrel;have HE:=hd1 he;clear he;have fin:Lb.trimN l k=k→bX wr wr.heap.size (some ⟨b,o,none⟩) k c (nl (Lb.trim l)):=fun e=>by
   unfold Lb.trim;rw[H.2,HE.out,e,zM];exact H.1.first hk
  have HF:=hd1 fin;clear fin;rcases k with _|k
  ·have hh:=HF.out rfl
   have HH:=hd1 hh;clear hh
   go_wp2_with (first
    | (at_builtin
       refine eP rfl (.tmp 18) (.tmp 21) rfl wr.heap.size (wr.heap.size+1) _ [] rfl (aW.lit wr [] [] 0 rfl rfl ab) ag wr.heap.size (some ⟨b,o,none⟩) 0 c (nl (Lb.trim l)) rfl ((HH.out.below (aB wr _)).rds) ag ?_;intro v2 w2 ho2 hg2 hb2;have H2:=hd2 ho2 hb2;clear ho2 hg2 hb2)
    | fail)
   go_ret
   exact jo (by simpa using H2.1) ((aB wr _).trans H2.2)
  ·obtain⟨b1,o1,e1,_,q1⟩:=H.1.getN (k:=k) ab
   injection e1 with e1
   injection e1 with e1 e2
   subst e1 e2;have qv:k<n:=ab
   have qk:(k:Int)<(n:Int):=ab
   have qh:(0:Int)<((k+1:Nat):Int):=ab
   have j1:IntKind.i64.wrap (((k+1:Nat):Int) - 1)=(k:Int):=by rw[IntKind.wrap_i64];omega
   obtain⟨x,hx⟩:∃x,l.getD k 0=x:=⟨_,rfl⟩
   rw[hx]at q1
   by_cases h0:x=0
   ·subst h0
    have qc:Lb.trimN l n=Lb.trimN l k:=by rw[HE.out,Lb.trimN,if_pos hx]
    have qd:=hd1 qc;clear qc hx
    go_wp2_with fail
    go_roundw
    case rel=>exact⟨k,ab,rfl,qd.out,by first|rfl|trivial⟩
    case measure=>first|(simp[intOf];done)|(simp[intOf];omega)
   ·have q0:((x:Int)==0)=false:=ai
    have hh:=HF.out (by rw[Lb.trimN,if_neg (by rw[hx];exact h0)]);have HH:=hd1 hh;have qs:((k+1:Nat):Int)≤(c:Int):=ab
    clear hh hx
    go_wp2_with (first
     | (at_builtin
        refine eP rfl (.tmp 18) (.tmp 21) rfl wr.heap.size (wr.heap.size+1) _ [] rfl (aW.lit wr [] [] 0 rfl rfl ab) ag wr.heap.size (some ⟨b,o,none⟩) (k+1) c (nl (Lb.trim l)) rfl ((HH.out.below (aB wr _)).rds) ai ?_;intro v2 w2 ho2 hg2 hb2;have H2:=hd2 ho2 hb2;clear ho2 hg2 hb2)
     | fail)
    go_ret
    exact jo (by simpa using H2.1) ((aB wr _).trans H2.2)
theorem eR (A:Option Addr) (n c:Nat) (l:List Nat) (w:World) (h:bX w w.heap.size A n c (nl l)) (hn:n≤256) (hn0:0<n) (hr:Lb.right l=true) :
 Calls Tryz.prog 121 #[.slice A n c] w fun e w'=>e=.returned (.bool true)∧w'=w:=by
 have hl:=h.len;rw[bz]at hl;obtain⟨b,o,rfl,hb,q1⟩:=h.getN (k:=n - 1) ab;obtain⟨x,hx⟩:∃x,l.getD (n - 1) 0=x:=⟨_,rfl⟩
 have qd:x≠0:=by
  unfold Lb.right at hr;rw[hl,hx]at hr;simp only[Bool.and_eq_true,Bool.or_eq_true,decide_eq_true_eq]at hr;omega
 rw[hx]at q1;obtain⟨m,rfl⟩:∃m,n=m+1:=⟨n - 1,ab⟩
 rw[Nat.add_sub_cancel]at q1;have qc:((x:Int) != 0)=true:=ai
 have j1:IntKind.i64.wrap (((m+1:Nat):Int) - 1)=(m:Int):=by rw[IntKind.wrap_i64];omega
 have j2:((((m+1:Nat):Int))==0)=false:=ai
 have j3:((m+1:Nat):Int)≤256:=ab
 have j4:(m:Int)<((m+1:Nat):Int):=ab
 have j5:m<m+1:=ab
 clear h hr hl hx hb
 go_enter Tryz.func121,Tryz.ntmps121
 go_wp2_with fail
 go_ret
 exact⟨rfl,rfl⟩
theorem vX (A:Option Addr) (n c:Nat) (w:World) (hn:n≤256) :
 Calls Tryz.prog 122 #[.slice A n c] w fun e w'=>e=.returned (.tuple #[.slice A n c,.int .i64 0])∧w'=w:=by
 have j1:¬(256<(n:Int)):=ab
 go_enter Tryz.func122,Tryz.ntmps122
 go_wp2_with fail
 go_ret2
 exact⟨rfl,rfl⟩
theorem vQ (A:Option Addr) (n c i:Nat) (l:List Nat) (w:World) (h:bX w w.heap.size A n c (nl l)) (hi:i<n) (hl:Rs.Lim l) :
 Calls Tryz.prog 144 #[.slice A n c,.int .i64 (i:Int)] w fun e w'=>e=.returned (.int .u64 ((l.getD i 0:Nat):Int))∧w'=w:=by
 obtain⟨b,o,rfl,hb,q1⟩:=h.getN hi;have hx:=Rs.lim_get hl i;obtain⟨x,hxe⟩:∃x,l.getD i 0=x:=⟨_,rfl⟩
 rw[hxe]at q1 hx ⊢;have hI:(i:Int)<(n:Int):=ab
 have j1:IntKind.u64.wrap (x:Int)=(x:Int):=by rw[IntKind.wrap_u64];omega
 clear h hl hxe hb
 go_enter Tryz.func144,Tryz.ntmps144
 go_wp2_with fail
 go_ret
 exact⟨rfl,rfl⟩
theorem tA (A A':Option Addr) (n c c':Nat) (a b:List Nat) (w:World) (ha:bX w w.heap.size A (n+1) c (nl a)) (hb:bX w w.heap.size A' (n+1) c' (nl b)) (hn:n≤256) (hlt:b.getD n 0<a.getD n 0) :
 Calls Tryz.prog 124 #[.slice A (n+1:Nat) c,.slice A' (n+1:Nat) c'] w fun e w'=>e=.returned (.int .i64 1)∧∃k j,w'=(w.drewN k).drewN j:=by
 obtain⟨b1,o1,rfl,_,q1⟩:=ha.getN (k:=n) ab;obtain⟨b2,o2,rfl,_,q2⟩:=hb.getN (k:=n) ab;obtain⟨x,hx⟩:∃x,a.getD n 0=x:=⟨_,rfl⟩
 obtain⟨y,hy⟩:∃x,b.getD n 0=x:=⟨_,rfl⟩
 rw[hx]at q1 hlt;rw[hy]at q2 hlt;have j1:IntKind.i64.wrap (((n+1:Nat):Int) - 1)=(n:Int):=by rw[IntKind.wrap_i64];omega
 have j2:(n:Int)<((n+1:Nat):Int):=ab
 have j3:n<n+1:=ab
 have j4:¬((x:Int)<(y:Int)):=ab
 have j5:(y:Int)<(x:Int):=ab
 have j6:(0:Int)≤(n:Int):=ab
 clear ha hb hx hy
 go_enter Tryz.func124,Tryz.ntmps124
 go_wp2_with fail
 go_loopw [5] (fun i wr=>i=.int .i64 (n:Int)∧wr=w) (fun _ _=>0)
 case atStart=>exact⟨by first|rfl|(congr 1),rfl⟩
 case round=>
  obtain⟨rfl,rfl⟩:=hrel
  go_upto_region 8 with fail
  go_quiet (fail)
  go_upto_region 10 with fail
  go_quiet (fail)
  go_wp2_with fail
  go_ret
  exact⟨rfl,_,_,rfl⟩
theorem vT (A:Option Addr) (n c:Nat) (l:List Nat) (w:World) (h:bX w w.heap.size A n c (nl l)) (hn:n≤256) (hn0:0<n) (hr:Lb.right l=true) (hl:Rs.Lim l) :
 Calls Tryz.prog 126 #[.slice A n c] w fun e w'=>(∃k:Nat,k≤32*n∧e=.returned (.int .i64 (k:Int)))∧w'=w:=by
 have qc:=h.len;rw[bz]at qc;have hR:=eR A n c l w h hn hn0 hr;obtain⟨m,rfl⟩:∃m,n=m+1:=⟨n - 1,ab⟩
 obtain⟨b,o,rfl,_,q1⟩:=h.getN (k:=m) ab;have hx:=Rs.lim_get hl m;obtain⟨x,hxe⟩:∃x,l.getD m 0=x:=⟨_,rfl⟩
 rw[hxe]at q1 hx;have HR:=hd1 hR;have j1:IntKind.i64.wrap (((m+1:Nat):Int) - 1)=(m:Int):=by rw[IntKind.wrap_i64];omega
 have j2:((((m+1:Nat):Int))==0)=false:=ai
 have j4:(m:Int)<((m+1:Nat):Int):=ab
 have j5:m<m+1:=ab
 obtain⟨s,hs⟩:∃s,32*m=s:=⟨_,rfl⟩
 have j6:IntKind.i64.wrap (32*(m:Int))=(s:Int):=by rw[IntKind.wrap_i64];omega
 clear h hr hl hxe qc hR
 go_enter Tryz.func126,Tryz.ntmps126
 go_wp2_with fail
 refine HR.out.mono ?_;rintro e w1 ⟨rfl,rfl⟩
 go_wp2_with fail
 go_loopw [3,4] (fun nv tv wr=>∃(k t:Nat),k≤32∧nv=.int .i64 ((s+k:Nat):Int)∧tv=.int .u32 (t:Int)∧t<2 ^ (32 - k)∧wr=w1) (fun _ tv _=>(intOf tv).toNat)
 case atStart=>exact⟨0,x,ab,rfl,rfl,by simpa using hx,rfl⟩
 case round=>
  obtain⟨k,t,hk,rfl,rfl,ht,rfl⟩:=hrel
  by_cases h0:0<t
  ·have qh:(0:Int)<(t:Int):=ab
   have qg:k<32:=by
    rcases Nat.lt_or_ge k 32 with h'|h'
    ·exact h'
    ·rw[show 32 - k=0 by omega]at ht;omega
   have qd:t / 2<2 ^ (32 - (k+1)):=by
    rw[show 32 - k=(32 - (k+1))+1 by omega,Nat.pow_succ]at ht;omega
   have HT:=hd1 qd;have j7:IntKind.i64.wrap (((s+k:Nat):Int)+1)=((s+(k+1):Nat):Int):=by rw[IntKind.wrap_i64];omega
   clear ht qd
   go_wp2_with fail
   go_roundw
   case rel=>exact⟨k+1,t / 2,ab,by first|rfl|(simp;done),by first|rfl|(simp;done)|(congr 1;omega),HT.out,by first|rfl|trivial⟩
   case measure=>first|(simp[intOf];done)|(simp[intOf];omega)
  ·obtain rfl:t=0:=ab
   clear ht
   go_wp2_with fail
   go_ret
   exact⟨⟨s+k,ab,rfl⟩,rfl⟩
end Go.Proofs.YtmpkpphfoidbeaaGreatDoor
