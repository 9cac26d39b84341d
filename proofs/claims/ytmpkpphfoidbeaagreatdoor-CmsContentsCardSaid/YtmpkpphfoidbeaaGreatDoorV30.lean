import Derived.Test.YtmpkpphfoidbeaaGreatDoorV29
set_option linter.unusedVariables false
set_option linter.unusedSimpArgs false
set_option maxRecDepth 100000
namespace Go.Proofs.YtmpkpphfoidbeaaGreatDoor
open Go.RowKit
structure su (w:World) (x:MK) (vk vc vs:Value):Prop where
 k:∃A n c,vk=.slice A n c∧eT w w.heap.size A n c x.kind∧n≤17592186044416
 c:aJ w w.heap.size vc x.content
 u:x.certs<256
 s:∃A n c,vs=.slice A n c∧uJ w A n c x.ones
theorem wI:(Tryz.prog.info? 62).map (fun i=>(i.zero,i.size,i.bytes))=some (some (.agg #[.string ⟨#[]⟩,.int .u8 0,.bool false,.bool false,.int .i64 0,.int .i64 0]),6,40):=by kernel_rfl
set_option maxHeartbeats 16000000 in
theorem pG (N:Nat) (hN:jA N) (x:MK) (vk vc vs:Value) (w:World) (h:su w x vk vc vs) (hn:(x.ones.length≤N∨8≤N)∧1≤N) :
 Calls Tryz.prog 25 #[.agg #[vk,vc,.int .u8 (x.certs:Int),vs,.bool x.bare,.bool x.none]] w (dY x w):=by
 obtain⟨⟨Ak,nk,ck,rfl,hk,hnk⟩,hc,hu,⟨As,ns,cs,rfl,hs⟩⟩:=h;obtain⟨Ac,nc,cc,rfl,hc⟩:=hc;have y3:=hc.cap;have y4:=hc.capm;have z0:=hs.row.len;have H0:=hd5 hk hnk hc hs hn;clear hk hnk hc hs;obtain⟨wz,qg⟩:∃W,W=(w.alloc (.cells #[.slice Ak nk ck,.slice Ac nc cc,.int .u8 (x.certs:Int),.slice As ns cs,.bool x.bare,.bool x.none] 43)).alloc (.cells #[.slice none 0 0,.slice none 0 0,.slice none 0 0,.slice none 0 0] 28):=⟨_,rfl⟩
 have y1:wz.heap.size=w.heap.size+1+1:=by rw[qg];simp
 have j4:=aB w (.cells #[.slice Ak nk ck,.slice Ac nc cc,.int .u8 (x.certs:Int),.slice As ns cs,.bool x.bare,.bool x.none] 43);have q3:aw wz w.heap.size 43 #[.slice Ak nk ck,.slice Ac nc cc,.int .u8 (x.certs:Int),.slice As ns cs,.bool x.bare,.bool x.none]:=by rw[qg];exact(aw.new w _ _).alloc _
 have j0:aw wz (w.heap.size+1) 28 #[.slice none 0 0,.slice none 0 0,.slice none 0 0,.slice none 0 0]:=by
  have:=aw.new (w.alloc (.cells #[.slice Ak nk ck,.slice Ac nc cc,.int .u8 (x.certs:Int),.slice As ns cs,.bool x.bare,.bool x.none] 43)) 28 #[.slice none 0 0,.slice none 0 0,.slice none 0 0,.slice none 0 0];rw[qg]
  simpa using this
 have q1:Below w.heap.size w wz:=by rw[qg];exact j4.alloc ag _
 have H1:=hd4 q3 j0 q1 y1;have x0:=q3.cell 0;clear q3 j0 q1 j4
 go_enter Tryz.func25,Tryz.ntmps25
 go_upto_region 1 with fail
 rw[←qg];clear qg
 go_wp2_with fail
 refine(pF Ak nk ck x.kind wz ⟨H0.1.1.up H1.2.2.1,H0.1.2⟩ H0.2.1).mono ?_;rintro e w1 ⟨A1,n1,c1,rfl,ho1,hb1⟩;have ys:=hb1.size;obtain⟨w2,hw2⟩:∃W,W=w1.alloc (.cells #[.slice A1 n1 c1,.slice none 0 0,.slice none 0 0,.slice none 0 0] 28):=⟨_,rfl⟩
 have qh:Below w1.heap.size w1 w2:=by rw[hw2];exact aB w1 _
 have qs:aw w2 w1.heap.size 28 #[.slice A1 n1 c1,.slice none 0 0,.slice none 0 0,.slice none 0 0]:=by rw[hw2];exact aw.new w1 _ _
 have yv:w2.heap.size=w1.heap.size+1:=by rw[hw2];simp
 obtain⟨g,hg⟩:∃g,w1.heap.size=g:=⟨_,rfl⟩
 have H2:=hd3 (fN ho1 qh) (hb1.trans (qh.mono ys)) qs;clear ho1 hb1 qh qs x0;have q5:=H1.1.below H2.2.1 ab;have x5:=q5.cell 5;have x1:=q5.cell 1;clear q5
 go_upto_region 2 with fail
 rw[←hw2];rw[hg]at yv H2;have j8:wz.heap.size≤g:=ab
 clear hw2;obtain⟨nb,hnb⟩:∃b,(!x.none)=b:=⟨_,rfl⟩
 go_upto_if 14 with fail
 go_cut [] from 12 to 19 (fun wx=>∃A m c',aw wx g 28 #[.slice A1 n1 c1,.slice A m c',.slice none 0 0,.slice none 0 0]∧aE wx (.slice A m c') x.cont∧aE wx (.slice A1 n1 c1) (Zc.koid x.kind)∧Below wz.heap.size wz wx∧g<wx.heap.size)
 case first=>
  cases nb with
  | false=>
   have ha:x.none=true:=by simpa using hnb
   have HA:=hd1 ha;clear ha hnb
   go_wp2_with fail
   go_meet
   case rel=>exact⟨none,0,0,H2.2.2,by unfold MK.cont;rw[if_pos HA.out];exact⟨none,0,0,rfl,Rd.none_,fun ad e=>(by cases e)⟩,aE.own H2.1,H2.2.1,ab⟩
  | true=>
   have ha:x.none=false:=by simpa using hnb
   have HA:=hd1 ha;clear ha hnb;have RC:=(H0.2.2.1.up H1.2.2.1).up H2.2.1;have HR:=hd1 RC;clear RC
   go_wp2_with fail
   refine(ud 2000 Ac nc cc x.content w2 HR.out ab ab).mono ?_;rintro e w3 ⟨A3,n3,c3,rfl,ho3,hb3⟩;have j5:=hb3.size;have y5:n3≤2000:=by have:=aM ho3;rw[List.length_take]at this;omega
   have H3:=hd3 ho3.rdx hb3 (H2.2.2.below hb3 ab);clear ho3 hb3
   go_wp2_with fail
   refine(cZ 4 A3 n3 c3 (x.content.take 2000) w3 H3.1 ab).mono ?_;rintro e w4 ⟨A4,n4,c4,rfl,ho4,hb4⟩;have zs:=hb4.size;have qs:=H3.2.2.below hb4 ab;have b4:=H2.2.1.trans ((H3.2.1.trans (hb4.mono j5)).mono ab);obtain⟨g1,g2⟩:=qs.facts;have H4:=hd4 ho4 qs b4 (aE.own H2.1 |>.below (H3.2.1.trans (hb4.mono j5)));clear ho4 hb4 qs b4
   go_wp2_with fail
   go_meet
   case rel=>
    refine⟨A4,n4,c4,?_,?_,?_,?_,?_⟩
    ·have:=H4.2.1.set_ 1 (.slice A4 n4 c4)
     simpa using this
    ·unfold MK.cont
     rw[HA.out];exact em (aE.own H4.1) H4.2.1 aj _
    ·exact em H4.2.2.2 H4.2.1 aj _
    ·exact H4.2.2.1.setCell j8 _
    ·simp;omega
 case rest=>
  obtain⟨A5,n5,c5,hB5,r5,k5,b5,hg5⟩:=hcut;obtain⟨w5,hw5⟩:∃W,W=wc:=⟨_,rfl⟩
  subst hw5;have zz:=b5.size;have H5:=hd6 hB5 r5 k5 (H1.2.2.1.trans (b5.mono ab)) b5 hg5;have j3:=H1.1.below b5 ab;have HX:=hd1 j3;clear hB5 r5 k5 b5 j3 x5 x1;obtain⟨m,hm⟩:∃m,x.certs % 4=m:=⟨_,rfl⟩
  have y6:m<4:=ab
  have zn:x.names.length=m:=by unfold MK.names;rw[List.length_map,List.length_range,hm]
  apply_assumption;refine wp_seq_k fun K4 hK4=>?_
  have q9:=hd1 hK4;clear hK4
  go_wp2_with fail
  refine q9.out _ _ ?_;refine wp_seq_k fun K5 hK5=>?_
  have j6:=hd1 hK5;clear hK5 q9
  go_upto_region 6 with fail
  go_loopw [5,6] (fun ov iv wr=>∃i:Nat,i≤m∧iv=.int .i64 (i:Int)∧bA 62 6 dU (fun _=>[]) wr w5.heap.size wr.heap.size ov (x.names.take i)∧Below w5.heap.size w5 wr) (fun _ iv _=>m - (intOf iv).toNat)
  case atStart=>exact⟨0,Nat.zero_le _,rfl,by rw[List.take_zero];exact bA.nil_,Below.refl _ _⟩
  case round=>
   obtain⟨i,hi,rfl,ho,hb⟩:=hrel;obtain⟨Av,cv,e,hRd⟩:=ho.rd;have qd:(x.names.take i).length=i:=by rw[List.length_take];omega
   rw[qd]at e;subst e;have j7:=hb.size;have x2:=(HX.out.below hb ab).cell 2;rw[qd]at hRd;have HR:=hd3 ho hb hRd;clear ho hb hRd;have y7:(x.certs:Int) % 4=(m:Int):=ab
   by_cases hlt:i<m
   ·have q6:(i:Int)<(m:Int):=ab
    obtain⟨ch,hch⟩:∃c,UInt8.ofNat (97+i)=c:=⟨_,rfl⟩
    have yd:x.names[i]? = some [ch]:=by
     unfold MK.names;rw[List.getElem?_map,List.getElem?_range ab,←hch]
     rfl
    have q2:=az.lit wr [ch] [.int .u8 (97+(i:Int))] 1 (by
     show _=[Value.int .u8 (ch.toNat:Int)];rw[←hch,UInt8.toNat_ofNat',show(97+i) % 2 ^ 8=97+i by omega];simp) rfl ab
    have y2:(convert 22 9 (.slice (some ⟨wr.heap.size,0,none⟩) 1 1)).run Tryz.prog (wr.alloc (.cells #[.int .u8 (97+(i:Int))] 5))=.ok (.string ⟨[ch].toArray⟩) (wr.alloc (.cells #[.int .u8 (97+(i:Int))] 5)):=dp (az.rdx (by simpa using q2)) 9 Tryz.underlying9;clear q2 hch
    go_wp2_with fail
    refine(t8 _ _).mono ?_;rintro e w6 ⟨rfl,hb6⟩;have yy:=hb6.size;have qc:Below wr.heap.size wr w6:=(aB wr _).trans (hb6.mono ag);have j2:=eO w6 62 (dU [ch]);have j1:aI 62 6 w6 w5.heap.size w6.heap.size (.slice Av i cv) i ((x.names.take i).flatMap dU):=by have:=(bA.up HR.1 qc).1;rwa [qd]at this
    have H6:=hd3 qc j2 j1;have y0:=qc.size;clear y2 hb6 qc j2 yy x2 j1
    go_upto_region 7 with(first
     | (at_builtin
        go_loud (refine bn rfl (.tmp 28) (.tmp 35) 64 rfl 62 _ 6 40 wI Tryz.underlying64 rfl ab w5.heap.size w6.heap.size _ i ((x.names.take i).flatMap dU) rfl (aI.alloc H6.2.2 nl_ _) ai (w6.heap.size+1) (some ⟨w6.heap.size,0,none⟩) 1 1 (dU [ch]) rfl H6.2.1 (by simp[dU,Value.oneCell']) ab ab ?_)
        intro v' w7 ho7 hg7 hat7 hb7)
     | fail)
    have q4:bA 62 6 dU (fun _=>[]) w7 w5.heap.size w7.heap.size v' (x.names.take (i+1)):=by
     rw[List.take_add_one,yd];refine bA.snoc (x:=[ch]) ((bA.up HR.1 H6.1).up (aB w6 _)) (fun p hp=>by simp at hp) ?_ hg7 aj;rw[qd];exact ho7
    have q0:Below w5.heap.size w5 w7:=(HR.2.1.trans (H6.1.mono j7)).trans (((aB w6 _).mono ab).trans hb7);obtain⟨A7,c7,rfl,_⟩:=q4.rd;have H7:=hd2 q4 q0;clear q4 q0 ho7 hg7 hat7 hb7
    go_wp2_with fail
    go_roundw
    case rel=>exact⟨i+1,ab,by go_num,H7.1,H7.2⟩
    case measure=>first|(simp[intOf];done)|(simp[intOf];omega)
   ·obtain rfl:i=m:=ab
    have q6:¬((i:Int)<(i:Int)):=ab
    have yh:x.names.take i=x.names:=List.take_of_length_le ab;have qg:=H1.1;have q1:=H5.2.2.2.2.1;have qv:=HR.2.1;have qk:=q1.trans (qv.mono ab);have q7:=HR.2.2;rw[yh]at q7;have h9:M9 x w g (.slice Ak nk ck) (.slice Ac nc cc) (.slice As ns cs) (.slice A1 n1 c1) (.slice A5 n5 c5) Av i cv wr:=
     ⟨H5.2.2.2.1.trans (qv.mono ab),ab,ab,H1.1.below qk ab,H1.2.1.below qk ab,H5.1.below qv ab,H5.2.2.1.below qv,H5.2.1.below qv,q7⟩
    have H9:=hd1 h9;clear h9 qg q1 qv qk q7
    go_wp2_with fail
    refine j6.out _ _ ?_;exact tF N hN x Ak Ac As nk ck nc cc ns cs w wr g A1 A5 Av n1 c1 n5 c5 i cv H9.out ab H0.2.2.2.1 H0.2.2.2.2 _ _ _ _ _ _ _ _ _ _ _ _ _ _ _ _ _ _ _ _ _ _ _ _ _ _ _ _ _ _ _ _ _ _ _ _ _ _ _ _ _ _ _ _ _ _ _ _ _ _ _ _ _ _ _ _ _ _ _ _ _ _ _ _ _ _ _ _ _ _ _ _ _ _ _ _ _ _
def BV (b:List UInt8) (w:World) (e:Ending) (w':World):Prop:=Below w.heap.size w w'∧
 ((∃k,Zc.indirect b=.error k∧k≠0∧e=.returned (.tuple #[.slice none 0 0,.int .i64 (k:Int)]))∨∃d A n c,Zc.indirect b=.ok d∧e=.returned (.tuple #[.slice A n c,.int .i64 0])∧az w' w.heap.size w'.heap.size (.slice A n c) d)
def fo (r lo m e2:Nat) (p:Except Nat (List El)) (v:Value) (W:World):Prop:=
 ∃g c hi L,v=.slice (some ⟨g,0,none⟩) 2 c∧aU W lo hi (.slice (some ⟨g,0,none⟩) 2 c) L∧hi≤W.heap.size∧2=L.length∧(∀y∈L.map EI.dat,y.2.1.length≤m∧y.2.2.length≤m)∧(e2=0→p=.ok (L.map EI.dat))∧((∃k,p=.error k)→Rr W r e2)
theorem fo.up {r lo m er e2:Nat} {p:Except Nat (List El)} {v:Value} {w w':World} (h:fo r lo m e2 p v w) (hR:RR r er e2 w w') (hr:r<lo):fo r lo m e2 p v w':=by
 obtain⟨g,c,hi,L,h1,h2,h3,h4,h5,h6,h7⟩:=h;exact⟨g,c,hi,L,h1,h2.keepRows (au.grown hR.1 hr),Nat.le_trans h3 hR.1.size,h4,h5,h6,fun hk=>hR.last (h7 hk)⟩
def fT (r g n c lo m e2:Nat) (p0 p1:Except Nat (List El)) (v0 v1:Value) (i:Nat) (v:Value) (w:World):Prop:=
 match i with
 | 0=>v=.slice (some ⟨g,0,none⟩) n c
 | 1=>v=.pointer (some ⟨g,0,none⟩)
 | 2=>v=v0
 | 3=>fo r lo m e2 p0 v w
 | 4=>v=.slice (some ⟨g,0,none⟩) n c
 | 5=>v=.pointer (some ⟨g,3,none⟩)
 | 6=>v=v1
 | 7=>fo r lo m e2 p1 v w
 | 8=>fo r lo m e2 p0 v w
 | _=>fo r lo m e2 p1 v w
theorem fT.up {r g n c lo m er e2:Nat} {p0 p1:Except Nat (List El)} {v0 v1:Value} (hr:r<lo) (i:Nat) (v:Value) (w w':World) (hR:RR r er e2 w w') (h:fT r g n c lo m e2 p0 p1 v0 v1 i v w):fT r g n c lo m e2 p0 p1 v0 v1 i v w':=by
 match i,h with
 | 0,h|1,h|2,h|4,h|5,h|6,h=>exact h
 | 3,h|7,h|8,h=>exact fo.up h hR hr
 | _+9,h=>exact fo.up h hR hr
def ki {α:Type}:Except Nat α→Bool
 | .ok _=>false
 | .error _=>true
def fe (e:Nat) (b:Bool):Nat:=if e=0 then(if b then 9 else 0) else e
theorem pL {α:Type} {p:Except Nat α} (h:∀k,p=.error k→k=9) (e:Nat):Zc.next e p=fe e (ki p):=by
 unfold Zc.next fe
 cases p with
 | ok a=>simp[ki]
 | error k=>obtain rfl:=h k rfl;simp[ki]
theorem pK (b0 b1 b:Bool) (e0 e2 e:Nat) (hb:b=b0∨b=b1) (he:e2=fe (fe e0 b0) b1) (hE:e=e0∨e=e2):(fe e b=e∨fe e b=e2)∧(b=true→fe e b=e2)∧(e2=0→fe e b=0):=by
 by_cases hz:e0=0
 ·subst hz
  cases b0<;>cases b1<;>simp[fe]at he<;>subst he<;>rcases hb with rfl|rfl<;>rcases hE with rfl|rfl<;>simp[fe]
 ·have h2:e2=e0:=by rw[he];simp[fe,hz]
  have h1:e=e0:=by rcases hE with h|h<;>omega
  subst h2 h1;simp[fe,hz]
theorem us {α:Type} {p0 p1:Except Nat α} {e0 e2:Nat} (h0:∀k,p0=.error k→k=9) (h1:∀k,p1=.error k→k=9) (he:e2=Zc.next (Zc.next e0 p0) p1) (p:Except Nat α) (hp:p=p0∨p=p1) (e:Nat) (hE:e=e0∨e=e2) :
 (Zc.next e p=e∨Zc.next e p=e2)∧((∃k,p=.error k)→Zc.next e p=e2)∧(e2=0→Zc.next e p=0):=by
 have qc:∀k,p=.error k→k=9:=fun k hk=>by rcases hp with rfl|rfl;exact h0 k hk;exact h1 k hk
 have:=pK (ki p0) (ki p1) (ki p) e0 e2 e (by rcases hp with rfl|rfl;exact .inl rfl;exact .inr rfl) (by rw[he,pL h1,pL h0]) hE;rw[pL qc];exact⟨this.1,fun⟨k,hk⟩=>this.2.1 (by rw[hk];rfl),this.2.2⟩
theorem BA {α:Type} {p0 p1:Except Nat α} {e0 e2:Nat} (he:e2=Zc.next (Zc.next e0 p0) p1) (h0:∀k,p0≠.error k) (h1:∀k,p1≠.error k):e2=e0:=by
 cases p0 with
 | error k=>exact absurd rfl (h0 k)
 | ok x=>cases p1 with
  | error k=>exact absurd rfl (h1 k)
  | ok y=>rw[he,Zc.next_ok,Zc.next_ok]
theorem mf {u lo hi:Int} {x:El} (k:Nat) (h:Zc.parts u lo hi x=.error k):k=9:=by
 unfold Zc.parts at h
 split at h
 ·cases h
 ·injection h with h;exact h.symm
structure nB (w:World) (r e:Nat) (W:World):Prop where
 bel:Below w.heap.size w W
 rr:Rr W r e
 gl:dr W
theorem nB.grown {w W W':World} {r e e':Nat} (h:nB w r e W) (hg:W.grownBy W' (some r)) (hr:Rr W' r e') (hrw:w.heap.size≤r) (h6:6≤r):nB w r e' W':=
 ⟨h.bel.grown hg h.bel.size (fun j hj=>by cases hj;omega),hr,h.gl.grown hg h6⟩
theorem nB.below {w W W':World} {r e:Nat} (h:nB w r e W) (hb:Below W.heap.size W W'):nB w r e W':=
 ⟨h.bel.trans (hb.mono h.bel.size),h.rr.below hb,h.gl.below hb⟩
theorem RR.two {r e0 e2:Nat} {W W':World} {p:Except Nat (List El)} (hg:W.grownBy W' (some r)) (hr:∀e,Rr W r e→Rr W' r (Zc.next e p)) (hs:∀e,(e=e0∨e=e2)→Zc.next e p=e∨Zc.next e p=e2):RR r e0 e2 W W':=
 ⟨hg,fun e he h=>⟨_,hs e he,hr e h⟩⟩
theorem Zc.At.step2 {α β γ:Type} {er0 er er':Nat} {whole:Except Nat β} {o1:Except Nat α} {o2:Except Nat γ} {f:α→γ→Except Nat β} {a:α} {c:γ} (h:Zc.At er0 whole er (o1.bind fun x=>o2.bind fun y=>f x y)) (n1:Zc.No o1) (n2:Zc.No o2)
 (he:er'=Zc.next (Zc.next er o1) o2) (h1:er'=0→o1=.ok a) (h2:er'=0→o2=.ok c):Zc.At er0 whole er' (f a c):=by
 constructor
 ·intro h0
  obtain⟨g1,_⟩:=Zc.next_zero n2 (he▸h0);obtain⟨g2,_⟩:=Zc.next_zero n1 g1;obtain⟨g3,g4⟩:=h.1 g2;exact⟨g3,by rw[g4,h1 h0,h2 h0];rfl⟩
 ·intro h0
  by_cases e:er=0
  ·obtain⟨g3,g4⟩:=h.1 e
   rw[g4,g3];subst e
   cases o1 with
   | error k=>
    have hk:=n1 k rfl;rw[he];show Zc.next k o2=k;unfold Zc.next;rw[if_neg hk]
   | ok x=>
    have e1:er'=Zc.next 0 o2:=he
    cases o2 with
    | ok y=>exact absurd e1 h0
    | error k=>exact e1
  ·have e1:Zc.next er o1=er:=Zc.next_ne e
   rw[he,e1,Zc.next_ne e];exact h.2 e
set_option maxHeartbeats 8000000 in
theorem pl (A:Option Addr) (n c:Nat) (b:List UInt8) (w:World) (hG:dr w) (h:Rd w w.heap.size A n c b) (hn:n≤1099511627) :
 Calls Tryz.prog 21 #[.slice A n c] w (BV b w):=by
 have j7:=h.len;have z5:=hG.1;have H0:=hd3 hG h j7;clear hG h j7
 go_enter Tryz.func21,Tryz.ntmps21
 go_wp2_with fail
 refine(jK A n c b _ H0.2.1).mono ?_;rintro e w1 ⟨rfl,hb1⟩;have q9:=H0.1.below hb1;have R1:=H0.2.1.up hb1;have qh:w.heap.size≤w1.heap.size:=hb1.size;obtain⟨V,hV⟩:∃V,Der.check b=V:=⟨_,rfl⟩
 rw[hV];have H1:=hd4 hb1 q9 R1 hV;clear hb1 q9 R1 hV
 by_cases hv:V=0
 ·subst hv
  have y5:((0:Int) != 0)=false:=rfl;obtain⟨t,d,rw_,hel⟩:=lH H1.2.2.2;have y0:Zc.whole b=.ok (t,d,rw_):=by
   unfold Zc.whole;rw[if_neg (by rw[H1.2.2.2];simp),hel]
  have qv:=(fp hel).1;have HW:=hd3 hel y0 qv;clear hel y0 qv;have q4:Below w1.heap.size w1 (w1.alloc (.cells #[.int .i64 0] 94)):=br_.alloc nl_ _;have yd:Rr (w1.alloc (.cells #[.int .i64 0] 94)) w1.heap.size 0:=aw.new _ _ _;have R2:=H1.2.2.1.up q4;have j0:=H1.2.1.below q4;have H2:=hd4 q4 yd R2 j0;clear q4 yd R2 j0
  go_wp2_with fail
  refine(jR A n c b _ H2.2.2.1 ab).mono ?_;rintro e w3 ⟨hb3,⟨hno,rfl⟩|⟨t',d',r',rest',A1,n1,c1,A2,n2,c2,A3,n3,c3,hel',rfl,hO3⟩⟩
  ·exact absurd hno (by rw[HW.1];simp)
  rw[HW.1]at hel';injection hel' with hel'
  obtain⟨rfl,rfl,rfl,rfl⟩:=hel';have yv:w1.heap.size<w3.heap.size:=by have:=hb3.size;simp at this;omega
  have q7:Below w3.heap.size w3 (w3.alloc (.cells #[.int .u8 (t.toNat:Int),.slice A1 n1 c1,.slice A2 n2 c2] 84)):=br_.alloc nl_ _;have q6:az w3 w1.heap.size w3.heap.size (.slice A1 n1 c1) d:=(hO3.rd ag).mono ag nl_;have j2:nB w w1.heap.size 0 (w3.alloc (.cells #[.int .u8 (t.toNat:Int),.slice A1 n1 c1,.slice A2 n2 c2] 84)):=
   (⟨H1.1.trans ((H2.1.mono qh).trans (hb3.mono ai)),H2.2.1.below hb3,H2.2.2.2.below hb3⟩:nB w w1.heap.size 0 w3).below q7
  have R3:=(q6.rdx).up q7;have y1:n1≤1099511627:=by have h1:=q6.rdx.len;have h2:=HW.2.2;rw[H0.2.2]at h2;omega
  have H3:=hd2 j2 R3;obtain⟨r,hr⟩:∃r,w1.heap.size=r:=⟨_,rfl⟩
  rw[hr]at H3 qh yv;have h6:6≤r:=ab
  rw[hr];clear j2 R3 hO3 q6 hb3 q7
  go_wp2_with fail
  refine(bL r 0 t A1 A2 n1 c1 n2 c2 48 2 2 d rw_ _ H3.1.rr H3.2 y1 (.inr (.inr (.inl rfl))) ab).mono ?_;rintro e w4 ⟨A4,n4,c4,L4,e4,rfl,hg4,hr4,he4,hE4,hnl4,hlo4,hhi4,_,hm4,hok4⟩;obtain rfl:n4=2:=ab
  have zz:w3.heap.size+1≤w4.heap.size:=by have:=hg4.size;simpa using this
  obtain⟨g4,rfl,hg4h,hg4l⟩:=hE4.spot_ ab;have qk:Zc.indirect b=(Zc.parts 48 2 2 (t,d,rw_)).bind fun l=>(Zc.parts 48 2 2 (l.getD 0 El.none_)).bind fun what=>(Zc.parts 48 2 2 (l.getD 1 El.none_)).bind fun sum=>
   (Zc.form (Zc.is (what.getD 0 El.none_) Zc.pe)).bind fun _=>(Zc.hash (sum.getD 0 El.none_)).bind fun _=>(Zc.body 4 (sum.getD 1 El.none_)).bind fun d=>(Zc.form (decide (d.length=32))).bind fun _=>.ok d:=by
   unfold Zc.indirect;rw[HW.2.1];rfl
  have a3:=Zc.At.start 0 (Zc.indirect b);rw[qk]at a3;have a4:=a3.step (er':=e4) (a:=L4.map EI.dat) .parts he4 hok4;rw[←qk]at a4;have qc:=hE4.mono (lo':=w3.heap.size) ag nl_;obtain⟨ta,Aa,na,ca,ba,Ab,nb,cb,ra,hxa,_,_,_,Ra,_,hLa⟩:=qc.el rfl (Below.refl w4.heap.size w4) nl_ 0 0 ab rfl;obtain⟨tb,Ac,nc,cc,bb,Ad,nd,cd,rb,hxb,_,_,_,Rb,_,hLb⟩:=qc.el rfl (Below.refl w4.heap.size w4) nl_ 1 3 ab rfl;have zn:na≤n1:=by have:=(cG hm4 hxa (show 0<2 by omega) hnl4).1;have:=Ra.len;omega
  have zs:nc≤n1:=by have:=(cG hm4 hxb (show 1<2 by omega) hnl4).1;have:=Rb.len;omega
  obtain⟨e6,he6⟩:∃e,e=Zc.next (Zc.next e4 (Zc.parts 48 2 2 (ta,ba,ra))) (Zc.parts 48 2 2 (tb,bb,rb)):=⟨_,rfl⟩
  have yy:=us mf mf he6;have qs:=BA he6;rw[hxa,hxb]at a4;have H4:=hd8 (H3.1.grown hg4 hr4 qh h6) qc hLa hLb a4 he6 yy qs;clear hg4 hr4 he4 hE4 hnl4 hhi4 hm4 hok4 a3 a4 qk qc hxa hxb Ra Rb hLa hLb he6 yy qs
  go_upto_region 7 with fail
  have hk:∀V,RG r e4 e6 w4 V→aU V w3.heap.size w4.heap.size (.slice (some ⟨g4,0,none⟩) 2 c4) L4∧Rd V V.heap.size Aa na ca ba∧Rd V V.heap.size Ac nc cc bb:=fun V hV=>by
   have hE:=H4.2.1.keepRows (au.grown hV.1 yv);exact⟨hE,(hE.own1 H4.2.2.1).rdx.more hV.1.size,(hE.own1 H4.2.2.2.1).rdx.more hV.1.size⟩
  refine bK (fT r g4 2 c4 w4.heap.size n1 e6 (Zc.parts 48 2 2 (ta,ba,ra)) (Zc.parts 48 2 2 (tb,bb,rb)) (.agg #[.int .u8 (ta.toNat:Int),.slice Aa na ca,.slice Ab nb cb]) (.agg #[.int .u8 (tb.toNat:Int),.slice Ac nc cc,.slice Ad nd cd])) (RG r e4 e6 w4) (RR r e4 e6) rfl RR.refl (fT.up ab) (fun _ _ h h'=>h.next h') (by show bp _ 58=true;decide +kernel) ac ⟨aH br_.drew _,e4,.inl rfl,H4.1.rr⟩ ⟨?_,?_,?_,?_,?_,?_,?_,?_,?_,?_,trivial⟩ ?_
  ·refine aA.run rfl ?_;intro a' V hfr hG hdep;exact cP ag rfl (hfr 9 ac) (show fT _ _ _ _ _ _ _ _ _ _ _ 0 _ _ from rfl) (RR.refl _)
  ·refine aA.run rfl ?_;intro a' V hfr hG hdep;have d:a'.eval (.tmp 26)=_:=hdep 0 ac;refine bU ag ?_ (show fT _ _ _ _ _ _ _ _ _ _ _ 1 _ _ from rfl) (RR.refl _);simp only[execOp,d];simp[go_sem,Act.eval]
  ·refine aA.run rfl ?_;intro a' V hfr hG hdep;have d:a'.eval (.tmp 27)=_:=hdep 1 ac;exact dq ag rfl d ((hk V hG).1.load H4.2.2.1 rfl) (show fT _ _ _ _ _ _ _ _ _ _ _ 2 _ _ from rfl) (RR.refl _)
  ·refine aA.run rfl ?_;intro a' V hfr hG hdep;have d:a'.eval (.tmp 28)=_:=hdep 2 ac
   obtain⟨e0,he0,hre⟩:=hG.2;refine bV ag rfl Tryz.func46 rfl aj (args:=#[.pointer (some ⟨r,0,none⟩),.agg #[.int .u8 (ta.toNat:Int),.slice Aa na ca,.slice Ab nb cb],.int .u8 48,.int .i64 2,.int .i64 2]) (by simp only[List.map_toArray,List.map_cons,List.map_nil,d,hfr 5 ac];rfl) (bL r e0 ta Aa Ab na ca nb cb 48 2 2 ba ra V hre (hk V hG).2.1 ab (.inr (.inr (.inl rfl))) ab) ?_;rintro e w'' ⟨A7,n7,c7,L7,e7,rfl,hg7,hr7,he7,qg,hnl7,hlo7,hhi7,_,hm7,hok7⟩;obtain rfl:n7=2:=ab
   obtain⟨g7,rfl,_,_⟩:=qg.spot_ ab;have hs:=H4.2.2.2.2.2.2.1 (Zc.parts 48 2 2 (ta,ba,ra)) (.inl rfl) e0 he0;exact⟨_,rfl,⟨g7,c7,w''.heap.size,L7,rfl,qg.mono hG.1.size nl_,Nat.le_refl _,hnl7,fun y hy=>by have:=hm7 y hy;omega,fun h=>hok7 (by rw[he7];exact hs.2.2 h),fun h=>by rw[←hs.2.1 h];exact he7▸hr7⟩,RR.two (p:=Zc.parts 48 2 2 (ta,ba,ra)) hg7 (fun e he=>by rw[he.uniq hre];exact he7▸hr7) (fun e he=>(H4.2.2.2.2.2.2.1 _ (.inl rfl) e he).1)⟩
  ·refine aA.run rfl ?_;intro a' V hfr hG hdep;exact cP ag rfl (hfr 9 ac) (show fT _ _ _ _ _ _ _ _ _ _ _ 4 _ _ from rfl) (RR.refl _)
  ·refine aA.run rfl ?_;intro a' V hfr hG hdep;have d:a'.eval (.tmp 30)=_:=hdep 4 ac;refine bU ag ?_ (show fT _ _ _ _ _ _ _ _ _ _ _ 5 _ _ from rfl) (RR.refl _);simp only[execOp,d];simp[go_sem,Act.eval]
  ·refine aA.run rfl ?_;intro a' V hfr hG hdep;have d:a'.eval (.tmp 31)=_:=hdep 5 ac;exact dq ag rfl d ((hk V hG).1.load H4.2.2.2.1 rfl) (show fT _ _ _ _ _ _ _ _ _ _ _ 6 _ _ from rfl) (RR.refl _)
  ·refine aA.run rfl ?_;intro a' V hfr hG hdep;have d:a'.eval (.tmp 32)=_:=hdep 6 ac
   obtain⟨e0,he0,hre⟩:=hG.2;refine bV ag rfl Tryz.func46 rfl aj (args:=#[.pointer (some ⟨r,0,none⟩),.agg #[.int .u8 (tb.toNat:Int),.slice Ac nc cc,.slice Ad nd cd],.int .u8 48,.int .i64 2,.int .i64 2]) (by simp only[List.map_toArray,List.map_cons,List.map_nil,d,hfr 5 ac];rfl) (bL r e0 tb Ac Ad nc cc nd cd 48 2 2 bb rb V hre (hk V hG).2.2 ab (.inr (.inr (.inl rfl))) ab) ?_;rintro e w'' ⟨A7,n7,c7,L7,e7,rfl,hg7,hr7,he7,qg,hnl7,hlo7,hhi7,_,hm7,hok7⟩;obtain rfl:n7=2:=ab
   obtain⟨g7,rfl,_,_⟩:=qg.spot_ ab;have hs:=H4.2.2.2.2.2.2.1 (Zc.parts 48 2 2 (tb,bb,rb)) (.inr rfl) e0 he0;exact⟨_,rfl,⟨g7,c7,w''.heap.size,L7,rfl,qg.mono hG.1.size nl_,Nat.le_refl _,hnl7,fun y hy=>by have:=hm7 y hy;omega,fun h=>hok7 (by rw[he7];exact hs.2.2 h),fun h=>by rw[←hs.2.1 h];exact he7▸hr7⟩,RR.two (p:=Zc.parts 48 2 2 (tb,bb,rb)) hg7 (fun e he=>by rw[he.uniq hre];exact he7▸hr7) (fun e he=>(H4.2.2.2.2.2.2.1 _ (.inr rfl) e he).1)⟩
  ·refine aA.run rfl ?_;intro a' V hfr hG hdep;have d:fo _ _ _ _ _ (a'.eval (.tmp 29)) _:=hdep 3 ac;exact gI ag rfl rfl (show fT _ _ _ _ _ _ _ _ _ _ _ 8 _ _ from d) (RR.refl _)
  ·refine aA.run rfl ?_;intro a' V hfr hG hdep;have d:fo _ _ _ _ _ (a'.eval (.tmp 33)) _:=hdep 7 ac;exact gI ag rfl rfl (show fT _ _ _ _ _ _ _ _ _ _ _ 9 _ _ from d) (RR.refl _)
  intro a' w5 hd hsz hfr hG hJ;obtain⟨g5,c5,hi5,L5,hv5,hE5,hh5,hl5,hm5,hok5,herr5⟩:fo _ _ _ _ _ (bJ _ a' 8) w5:=hJ 8 aj;obtain⟨g6,c6,hi6,L6,hv6,qd,hh6,hl6,hm6,hok6,herr6⟩:fo _ _ _ _ _ (bJ _ a' 9) w5:=hJ 9 aj;obtain⟨g7,c7,_,_,hv7,-⟩:fo _ _ _ _ _ (bJ _ a' 3) w5:=hJ 3 aj;obtain⟨g8,c8,_,_,hv8,-⟩:fo _ _ _ _ _ (bJ _ a' 7) w5:=hJ 7 aj;have yh:Rr w5 r e6:=by
   by_cases k0:∃k,Zc.parts 48 2 2 (ta,ba,ra)=.error k
   ·exact herr5 k0
   ·by_cases k1:∃k,Zc.parts 48 2 2 (tb,bb,rb)=.error k
    ·exact herr6 k1
    ·have y6:e6=e4:=H4.2.2.2.2.2.2.2 (fun k hk=>k0 ⟨k,hk⟩) (fun k hk=>k1 ⟨k,hk⟩)
     obtain⟨e,he,hre⟩:=hG.2;have:e=e6:=ab
     exact this▸hre
  have ha:=dL (fun i=>([.slice (some ⟨g4,0,none⟩) 2 c4,.pointer (some ⟨g4,0,none⟩),.agg #[.int .u8 (ta.toNat:Int),.slice Aa na ca,.slice Ab nb cb],.slice (some ⟨g7,0,none⟩) 2 c7,.slice (some ⟨g4,0,none⟩) 2 c4,.pointer (some ⟨g4,3,none⟩),.agg #[.int .u8 (tb.toNat:Int),.slice Ac nc cc,.slice Ad nd cd],.slice (some ⟨g8,0,none⟩) 2 c8,.slice (some ⟨g5,0,none⟩) 2 c5,.slice (some ⟨g6,0,none⟩) 2 c6]:List Value).getD i undef) (by show bp _ 58=true;decide +kernel) hd hsz hfr (fun i hi=>by
   have hi:i<10:=hi
   match i,hi with
   | 0,_=>exact hJ 0 aj
   | 1,_=>exact hJ 1 aj
   | 2,_=>exact hJ 2 aj
   | 3,_=>exact hv7
   | 4,_=>exact hJ 4 aj
   | 5,_=>exact hJ 5 aj
   | 6,_=>exact hJ 6 aj
   | 7,_=>exact hv8
   | 8,_=>exact hv5
   | 9,_=>exact hv6)
  have a5:=Zc.At.step2 (a:=L5.map EI.dat) (c:=L6.map EI.dat) (f:=fun what sum=>(Zc.form (Zc.is (what.getD 0 El.none_) Zc.pe)).bind fun _=>(Zc.hash (sum.getD 0 El.none_)).bind fun _=>(Zc.body 4 (sum.getD 1 El.none_)).bind fun d=>(Zc.form (decide (d.length=32))).bind fun _=>.ok d) H4.2.2.2.2.1 .parts .parts H4.2.2.2.2.2.1 hok5 hok6;obtain⟨tc,Ae,ne,ce,bc,Af,nf,cf,rc,hxc,_,_,_,Rc,_,hLc⟩:=hE5.el rfl (Below.refl w5.heap.size w5) hh5 0 0 ab rfl;obtain⟨td,Ag,ng,cg,bd,Ah,nh,ch,rd,hxd,_,_,_,Rdd,_,hLd⟩:=qd.el rfl (Below.refl w5.heap.size w5) hh6 0 0 ab rfl;obtain⟨te,Am,nm,cm,be,An,nn,cn,re,hxe,_,_,_,Ree,_,hLe⟩:=qd.el rfl (Below.refl w5.heap.size w5) hh6 1 3 ab rfl;have y3:ng≤1099511627:=by have:=(cG hm6 hxd (show 0<2 by omega) hl6).1;have:=Rdd.len;omega
  rw[hxc,hxd,hxe]at a5;have z0:w4.heap.size≤w5.heap.size:=hG.1.size;obtain⟨q,hq⟩:∃q,Zc.is (tc,bc,rc) Zc.pe=q:=⟨_,rfl⟩
  obtain⟨e7,he7⟩:∃e,e=Zc.next e6 (Zc.form q):=⟨_,rfl⟩
  have a6:=a5.step (er':=e7) (a:=()) .form (by rw[hq];exact he7) (by rw[hq];exact Zc.form_zero he7);have H5:=hd9 (H4.1.grown hG.1 yh qh h6) hE5 qd hLc hLd hLe hq he7 a6;clear hd hsz hfr hG hJ hv5 hv6 hv7 hv8 hE5 qd hl5 hl6 hm5 hm6 hok5 hok6 herr5 herr6 yh a5 a6 hxc hxd hxe Rc Rdd Ree hLc hLd hLe hq he7 hk;have q3:List.range 10=[0,1,2,3,4,5,6,7,8,9]:=rfl;simp only[dT,List.map_cons,List.map_nil,List.size_toArray,List.length_cons,List.length_nil,Nat.reduceAdd,q3,List.zip_cons_cons,List.zip_nil_left,List.foldl_cons,List.foldl_nil,Act.put,List.setIfInBounds_toArray,List.set_cons_zero,List.set_cons_succ,List.getD_cons_zero,List.getD_cons_succ]at ha;subst ha;clear q3;apply_assumption
  go_upto_region 8 with fail
  have hk:∀V,RG r e6 e7 w5 V→aU V w4.heap.size hi5 (.slice (some ⟨g5,0,none⟩) 2 c5) L5∧Rd V V.heap.size Ae ne ce bc∧dr V:=fun V hV=>by
   have hE:=H5.2.1.keepRows (au.grown hV.1 ab);exact⟨hE,(hE.own1 H5.2.2.2.1).rdx.more (by have:=hV.1.size;omega),H5.1.gl.grown hV.1 h6⟩
  refine bK (fk r g5 2 c5 e7 (.agg #[.int .u8 (tc.toNat:Int),.slice Ae ne ce,.slice Af nf cf]) 1 10 q) (RG r e6 e7 w5) (RR r e6 e7) rfl RR.refl fk.up (fun _ _ h h'=>h.next h') (by show bp _ 58=true;decide +kernel) ac ⟨aH br_.drew _,e6,.inl rfl,H5.1.rr⟩ ⟨?_,?_,?_,?_,?_,?_,trivial⟩ ?_
  ·refine aA.run rfl ?_;intro a' V hfr hG hdep;exact cP ag rfl (hfr 10 ac) (show fk _ _ _ _ _ _ _ _ _ 0 _ _ from rfl) (RR.refl _)
  ·refine aA.run rfl ?_;intro a' V hfr hG hdep;have d:a'.eval (.tmp 34)=_:=hdep 0 ac;refine bU ag ?_ (show fk _ _ _ _ _ _ _ _ _ 1 _ _ from rfl) (RR.refl _);simp only[execOp,d];simp[go_sem,Act.eval]
  ·refine aA.run rfl ?_;intro a' V hfr hG hdep;have d:a'.eval (.tmp 35)=_:=hdep 1 ac;exact dq ag rfl d ((hk V hG).1.load H5.2.2.2.1 rfl) (show fk _ _ _ _ _ _ _ _ _ 2 _ _ from rfl) (RR.refl _)
  ·refine aA.run rfl ?_;intro a' V hfr hG hdep;refine bU ag ?_ (show fk _ _ _ _ _ _ _ _ _ 3 _ _ from rfl) (RR.refl _);simp only[execOp];simp[go_sem,Act.eval,Tryz.underlying106]
  ·refine aA.run rfl ?_;intro a' V hfr hG hdep;have d:a'.eval (.tmp 36)=_:=hdep 2 ac;have d2:a'.eval (.tmp 37)=_:=hdep 3 ac
   refine bV ag rfl Tryz.func48 rfl aj (args:=#[.agg #[.int .u8 (tc.toNat:Int),.slice Ae ne ce,.slice Af nf cf],.slice (some ⟨1,0,none⟩) 10 10]) (by simp only[List.map_toArray,List.map_cons,List.map_nil,d,d2]) (gD tc Ae _ ne ce 10 10 (.slice Af nf cf) bc rc [1,3,6,1,4,1,311,2,1,15] V (hk V hG).2.1 ((hk V hG).2.2.rdu (by simp[Zc.table]) rfl) ab) ?_;rintro e w'' ⟨rfl,hb⟩;exact⟨_,rfl,by rw[Br,H5.2.2.2.2.2.2.1];rfl,RR.below hb⟩
  ·refine aA.run rfl ?_;intro a' V hfr hG hdep;have d:a'.eval (.tmp 38)=_:=hdep 4 ac
   obtain⟨e0,he0,hre⟩:=hG.2;refine bV ag rfl Tryz.func47 rfl aj (args:=#[.pointer (some ⟨r,0,none⟩),.bool q]) (by simp only[List.map_toArray,List.map_cons,List.map_nil,d,hfr 5 ac];rfl) (cB r e0 q V hre) ?_;rintro e w'' ⟨rfl,hg,hr⟩;obtain⟨k1,k2⟩:=RR.form hg hG H5.2.2.2.2.2.2.2.1 (fun e he=>by rw[he.uniq hre];exact hr);exact⟨_,rfl,⟨rfl,k1⟩,k2⟩
  intro a' w6 hd hsz hfr hG hJ;have ha:=dL (fun i=>([.slice (some ⟨g5,0,none⟩) 2 c5,.pointer (some ⟨g5,0,none⟩),.agg #[.int .u8 (tc.toNat:Int),.slice Ae ne ce,.slice Af nf cf],.slice (some ⟨1,0,none⟩) 10 10,.bool q,.tuple #[]]:List Value).getD i undef) (by show bp _ 58=true;decide +kernel) hd hsz hfr (fun i hi=>by
   have hi:i<6:=hi
   match i,hi with
   | 0,_=>exact hJ 0 aj
   | 1,_=>exact hJ 1 aj
   | 2,_=>exact hJ 2 aj
   | 3,_=>exact hJ 3 aj
   | 4,_=>exact hJ 4 aj
   | 5,_=>exact(show _∧_ from hJ 5 aj).1)
  have ys:Rr w6 r e7:=(show _∧Rr w6 r e7 from hJ 5 aj).2;have j3:=H5.1.grown hG.1 ys qh h6;have qd:=H5.2.2.1.keepRows (au.grown hG.1 ab);have z1:w5.heap.size≤w6.heap.size:=hG.1.size;obtain⟨q0,q1,q2⟩:=qd.cells3 H5.2.2.2.2.1 0 1 2 ⟨rfl,rfl,rfl⟩;have R6:=(qd.own1 H5.2.2.2.2.1).rdx.more (B':=w6.heap.size) ab;have H6:=hd3 j3 qd R6;clear hd hsz hfr hG hJ ys j3 qd R6 hk;have q3:List.range 6=[0,1,2,3,4,5]:=rfl;simp only[dT,List.map_cons,List.map_nil,List.size_toArray,List.length_cons,List.length_nil,Nat.reduceAdd,q3,List.zip_cons_cons,List.zip_nil_left,List.foldl_cons,List.foldl_nil,Act.put,List.setIfInBounds_toArray,List.set_cons_zero,List.set_cons_succ,List.getD_cons_zero,List.getD_cons_succ]at ha;subst ha;clear q3;apply_assumption
  go_wp2_with fail
  refine(k7 r e7 td Ag Ah ng cg nh ch bd rd _ H6.1.rr h6 H6.1.gl H6.2.2 y3).mono ?_;rintro e w7 ⟨rfl,hg7,hr7⟩;obtain⟨e8,he8⟩:∃e,e=Zc.next e7 (Zc.hash (td,bd,rd)):=⟨_,rfl⟩
  rw[←he8]at hr7;have a7:=H5.2.2.2.2.2.2.2.2.step (er':=e8) (a:=()) .hash he8 (fun h=>Zc.unit_zero .hash he8 h);have j4:=H6.1.grown hg7 hr7 qh h6;have qg:=H6.2.1.keepRows (au.grown hg7 ab);have z2:w6.heap.size≤w7.heap.size:=hg7.size;obtain⟨u0,u1,u2⟩:=qg.cells3 H5.2.2.2.2.2.1 3 4 5 ⟨rfl,rfl,rfl⟩;have H7:=hd3 j4 qg a7;clear hg7 hr7 j4 qg a7 he8 q0 q1 q2
  go_wp2_with fail
  refine(eI r e8 te (.slice Am nm cm) (.slice An nn cn) 4 be re _ H7.1.rr).mono ?_;rintro e w8 ⟨rfl,hg8,hr8⟩;obtain⟨e9,he9⟩:∃e,e=Zc.next e8 (Zc.body 4 (te,be,re)):=⟨_,rfl⟩
  rw[←he9]at hr8;have a8:=H7.2.2.step (er':=e9) (a:=be) .body he9 (fun h=>Zc.body_zero he9 h);have j5:=H7.1.grown hg8 hr8 qh h6;have q5:=H7.2.1.keepRows (au.grown hg8 ab);have z3:w7.heap.size≤w8.heap.size:=hg8.size;have j8:be.length=nm:=(q5.own1 H5.2.2.2.2.2.1).rdx.len;have H8:=hd4 j5 q5 a8 j8;clear hg8 hr8 j5 q5 a8 he9 u0 u1 u2 j8
  go_wp2_with fail
  refine(cB r e9 _ _ H8.1.rr).mono ?_;rintro e w9 ⟨rfl,hg9,hr9⟩;obtain⟨ea,hea⟩:∃e,e=Zc.next e9 (Zc.form (decide (be.length=32))):=⟨_,rfl⟩
  replace hr9:Rr w9 r ea:=by
   rw[hea,show decide (be.length=32)=((nm:Int)==32) by rw[H8.2.2.2,Bool.eq_iff_iff];simp;omega];exact hr9
  have a9:=(H8.2.2.1.step (er':=ea) (a:=()) .form hea (Zc.form_zero hea)).fin;have j6:=H8.1.grown hg9 hr9 qh h6;have j1:=(H8.2.1.keepRows (au.grown hg9 ab)).own1 H5.2.2.2.2.2.1;have z4:w8.heap.size≤w9.heap.size:=hg9.size;have y7:=hr9.cell;have y4:=hr9.lt;have H9:=hd3 j6 j1 a9;clear hg9 hr9 j6 j1 a9 hea
  by_cases h0:ea=0
  ·subst h0
   have y2:((0:Int) != 0)=false:=rfl
   go_wp2
   go_ret2
   exact⟨H9.1.bel,.inr ⟨be,Am,nm,cm,H9.2.2.2 trivial,rfl,H9.2.1.mono ab ab⟩⟩
  ·have y2:((ea:Int) != 0)=true:=ai
   have HN:=hd1 h0;clear h0
   go_upto_region 13 with fail
   go_region
   apply_assumption
   go_wp2
   go_ret2
   exact⟨H9.1.bel.drew,.inl ⟨ea,Zc.next_err H9.2.2.1 HN.out,HN.out,rfl⟩⟩
 ·have y5:((V:Int) != 0)=true:=ai
  have HV:=hd1 hv;clear hv
  go_wp2
  go_ret2
  exact⟨H1.1,.inl ⟨V,by unfold Zc.indirect Zc.whole;rw[if_pos (by rw[H1.2.2.2];exact HV.out),H1.2.2.2];rfl,HV.out,rfl⟩⟩
def E.peW:El:=El.mk 48 (ax [El.mk 6 Zc.pe,El.mk 48 []])
def E.peS (d:List UInt8):El:=El.mk 48 (ax [E.sha,El.mk 4 d])
def E.pe (d:List UInt8):El:=El.mk 48 (ax [E.peW,E.peS d])
theorem pR (d:List UInt8):(E.pe d).2.2=Zc.peB d:=by
 unfold E.pe E.peW E.peS Zc.peB Ref.seq;rw[aR,bH,aR,aR,bH,bH,aR,aR,aR,mZ];simp
theorem wn:El.wf E.peW:=El.mk_wf aj ac
theorem pS {d:List UInt8} (hd:d.length=32):El.wf (El.mk 4 d)∧El.wf (E.peS d)∧El.wf (E.pe d)∧(E.pe d).2.2.length≤200:=by
 have h1:=dH 4 d 32 ab ab;have e1:E.sha.2.2.length=15:=ac
 have h2:(ax [E.sha,El.mk 4 d]).length≤60:=by rw[bH,List.length_append,aR];omega
 have h3:=dH 48 (ax [E.sha,El.mk 4 d]) 60 h2 ab;have e2:E.peW.2.2.length=16:=ac
 have h4:(ax [E.peW,E.peS d]).length≤90:=by rw[bH,List.length_append];unfold E.peS;rw[aR];omega
 have h5:=dH 48 (ax [E.peW,E.peS d]) 90 h4 ab;exact⟨El.mk_wf aj ab,El.mk_wf aj ab,El.mk_wf aj ab,by unfold E.pe;rw[aR];omega⟩
theorem eL {P:El→Prop} {a b:El} (ha:P a) (hb:P b):∀y∈[a,b],P y:=fun y hy=>by
 simp only[List.mem_cons,List.not_mem_nil,or_false]at hy;rcases hy with rfl|rfl
 ·exact ha
 ·exact hb
theorem yu {d:List UInt8} (hd:d.length=32):Der.check (Zc.peB d)=0:=by
 obtain⟨w4,wS,w,_⟩:=pS hd;rw[←pR,jd w];exact aQ (k:=14) (eL wn wS) (eL ac (aQ (k:=13) (eL hU w4) (eL ac (bq _ rfl))))
theorem kF {d:List UInt8} (hd:d.length=32):Zc.indirect (Zc.peB d)=.ok d:=by
 obtain⟨w4,wS,w,_⟩:=pS hd;have hc:=yu hd;rw[←pR]at hc ⊢;have wv:∀y∈[El.mk 6 Zc.pe,El.mk 48 []],El.wf y:=eL (El.mk_wf aj aj) (El.mk_wf aj aj);unfold Zc.indirect;rw[jL w hc,aG,bD (u:=48) (x:=E.pe d) (L:=[E.peW,E.peS d]) rfl rfl (eL wn wS) ag ag,aG];simp only[List.getD_cons_zero,List.getD_cons_succ];rw[bD (u:=48) (x:=E.peW) (L:=[El.mk 6 Zc.pe,El.mk 48 []]) rfl rfl wv ag ag,aG,
  bD (u:=48) (x:=E.peS d) (L:=[E.sha,El.mk 4 d]) rfl rfl (eL hU w4) ag ag,aG]
 simp only[List.getD_cons_zero,List.getD_cons_succ];rw[cO ac,aG,fX,aG,eu (u:=4) (x:=El.mk 4 d) rfl,aG];show(Zc.form (decide (d.length=32))).bind _=_;rw[cO (by simpa using hd)]
 rfl
def xk (p:Nat):OI:=⟨⟨[97],[],[],[7],[],true⟩,.slice none 0 0,.slice none 0 0,.slice (some ⟨p,0,none⟩) 1 1,.slice none 0 0⟩
def ol (p:Nat):MK:=⟨[],[],1,[xk p],false,false⟩
theorem yM (p:Nat):(ol p).Fits:=⟨fun z hz=>(by cases hz),fun y hy=>(by
 rw[List.mem_singleton.1 (show y∈[xk p] from hy)];exact⟨fun z hz=>(by cases hz)⟩)⟩
theorem iO (w:World):eT w w.heap.size none 0 0 []:=⟨⟨rfl,Nat.le_refl _,ab,fun _=>rfl,fun h=>absurd h ab,aF.none_⟩,fun z hz=>by cases hz⟩
theorem BD {w:World} {p q:Nat} (hp:aw w p 5 #[.int .u8 7]) (hq:aw w q 51 #[.string ⟨#[97]⟩,.slice none 0 0,.slice none 0 0,.slice (some ⟨p,0,none⟩) 1 1,.slice none 0 0,.bool true]) :
 su w (ol p) (.slice none 0 0) (.slice none 0 0) (.slice (some ⟨q,0,none⟩) 1 1):=by
 refine⟨⟨none,0,0,rfl,iO w,ab⟩,⟨none,0,0,rfl,Rd.none_⟩,(by show 1<256;omega),⟨_,1,1,rfl,⟨⟨rfl,Nat.le_refl _,ab,fun _=>⟨q,0,rfl,hq.lt⟩,jT (l:=(xk p).cells) hq,fun p hp=>by simp at hp⟩,fun y hy=>?_,fun y hy=>?_⟩⟩⟩
 ·rw[List.mem_singleton.1 (show y∈[xk p] from hy)]
  exact⟨⟨none,0,0,rfl,iO w,ab⟩,⟨none,0,0,rfl,Rd.none_⟩,⟨_,1,1,rfl,km (xs:=[7]) hp rfl ab⟩,⟨none,0,0,rfl,Rd.none_⟩⟩
 ·rw[List.mem_singleton.1 (show y∈[xk p] from hy)]
  show 1≤_;omega
theorem rq:Zc.parse []=.error 9:=qD ag aj
theorem xm {p:Nat} {d:DI} {S:List (List UInt8)} (h:kN (ol p) d S):d.cs.length=1∧d.ss.length=1:=by
 have h1:=congrArg List.length h.cs;have h2:=h.ss.length_eq;rw[List.length_map]at h1 h2;refine⟨h1.trans ?_,h2.trans ?_⟩
 ·unfold MK.rungs MK.names ol
  simp
 ·rw[List.length_map]
  unfold MK.sgs ol;simp
set_option maxHeartbeats 8000000 in
theorem kM (w:World) (hG:dr w):Calls Tryz.prog 14 #[] w fun e w'=>e=.returned (.bool true)∧Below w.heap.size w w':=by
 obtain⟨w2,hw2⟩:∃W,W=(w.alloc (.cells #[.int .u8 7] 5)).alloc (.cells #[.string ⟨#[97]⟩,.slice none 0 0,.slice none 0 0,.slice (some ⟨w.heap.size,0,none⟩) 1 1,.slice none 0 0,.bool true] 51):=⟨_,rfl⟩
 have y6:w2.heap.size=w.heap.size+1+1:=by rw[hw2];simp
 have j8:Below w.heap.size w w2:=by rw[hw2];exact(aB w _).alloc ag _
 have yd:Calls Tryz.prog 25 #[.agg #[.slice none 0 0,.slice none 0 0,.int .u8 1,.slice (some ⟨w.heap.size+1,0,none⟩) 1 1,.bool false,.bool false]] w2 (dY (ol w.heap.size) w2):=
  pG 1 rR (ol w.heap.size) _ _ _ w2 (BD (by rw[hw2];exact(aw.new w 5 #[.int .u8 7]).alloc _) (by
   have:=aw.new (w.alloc (.cells #[.int .u8 7] 5)) 51 #[.string ⟨#[97]⟩,.slice none 0 0,.slice none 0 0,.slice (some ⟨w.heap.size,0,none⟩) 1 1,.slice none 0 0,.bool true];rw[hw2]
   simpa using this)) ⟨.inl nl_,Nat.le_refl _⟩
 have H0:=hd3 hG j8 yd;clear hG j8 yd
 go_enter Tryz.func14,Tryz.ntmps14
 go_upto_region 1 with fail
 go_wp2_with fail
 rw[←hw2];clear hw2;refine H0.2.2.mono ?_;rintro e w3 ⟨d,S,v,rfl,hD,hb3,hmade,hOv⟩;have ys:=hmade.read (yM _) (!(ol w.heap.size).bare);have q5:=xm hmade;have y2:=hb3.size;obtain⟨A0,n0,c0,e0,_⟩:=id (hD.rows (d.vk,d.kind) (by simp[DI.rows]));obtain⟨A1,n1,c1,e1,_⟩:=id (hD.rows (d.vc,d.content) (by simp[DI.rows]));obtain⟨A2,c2,e2,_⟩:=id hD.cs;obtain⟨A3,c3,e3,_⟩:=id hD.ss;obtain⟨Av,nv,cv,rfl,_⟩:=hOv.rd;have q9:d.val=.agg #[.slice A0 n0 c0,.slice A1 n1 c1,.slice A2 d.cs.length c2,.slice A3 d.ss.length c3]:=by unfold DI.val;rw[←e0,←e1,←e2,←e3]
 rw[q9,q5.1,q5.2];obtain⟨w4,hw4⟩:∃W,W=w3.alloc (.cells #[.slice A0 n0 c0,.slice A1 n1 c1,.slice A2 1 c2,.slice A3 1 c3] 28):=⟨_,rfl⟩
 have qd:Below w3.heap.size w3 w4:=by rw[hw4];exact aB w3 _
 have q3:=hb3.trans (qd.mono y2);have j4:aw w4 w3.heap.size 28 #[.slice A0 n0 c0,.slice A1 n1 c1,.slice A2 1 c2,.slice A3 1 c3]:=by rw[hw4];exact aw.new w3 _ _
 have qv:=H0.2.1.trans (q3.mono ab);have y7:w4.heap.size=w3.heap.size+1:=by rw[hw4];simp
 have H4:=hd7 qv j4 (hOv.rdx.up qd) (hD.up qd) ys q5 q9;clear hD hb3 hmade hOv ys q5 e0 e1 e2 e3 q9 qd q3 j4 qv
 go_upto_region 2 with fail
 rw[←hw4];clear hw4
 go_wp2_with fail
 refine(gh Av nv cv _ w4 (H0.1.below H4.1) H4.2.2.1).mono ?_;rintro e w5 ⟨hb5,⟨k,hk,_,_⟩|⟨y,hy,rfl,hO5⟩⟩
 ·exfalso
  have:=H4.2.2.2.2.1.1.symm.trans hk
  cases this
 have q6:y.sd=d.sd:=(Except.ok.inj (H4.2.2.2.2.1.1.symm.trans hy)).symm;have y3:=hb5.size;have hY:=hO5.rd;obtain⟨B0,m0,d0,e0,_⟩:=id (hY.rows (y.vk,y.kind) (by simp[DI.rows]));obtain⟨B1,m1,d1,e1,_⟩:=id (hY.rows (y.vc,y.content) (by simp[DI.rows]));obtain⟨B2,d2,e2,_⟩:=id hY.cs;obtain⟨B3,d3,e3,_⟩:=id hY.ss;have j1:y.cs.length=1:=by
  have:=congrArg (fun s:Sd=>s.certs.length) q6;simp only[DI.sd,List.length_map]at this;rw[this,H4.2.2.2.2.2.1.1]
 have j2:y.ss.length=1:=by
  have:=congrArg (fun s:Sd=>s.signers.length) q6;simp only[DI.sd,List.length_map]at this;rw[this,H4.2.2.2.2.2.1.2]
 have j3:y.val=.agg #[.slice B0 m0 d0,.slice B1 m1 d1,.slice B2 1 d2,.slice B3 1 d3]:=by unfold DI.val;dsimp only at e0 e1;rw[e0,e1,e2,e3,j1,j2]
 rw[j3];obtain⟨w6,hw6⟩:∃W,W=w5.alloc (.cells #[.slice B0 m0 d0,.slice B1 m1 d1,.slice B2 1 d2,.slice B3 1 d3] 28):=⟨_,rfl⟩
 have qs:Below w5.heap.size w5 w6:=by rw[hw6];exact aB w5 _
 have qg:=hb5.trans (qs.mono y3);have j5:aw w6 w5.heap.size 28 #[.slice B0 m0 d0,.slice B1 m1 d1,.slice B2 1 d2,.slice B3 1 d3]:=by rw[hw6];exact aw.new w5 _ _
 have q0:=H4.1.trans (qg.mono ab);have zn:w6.heap.size=w5.heap.size+1:=by rw[hw6];simp
 have H6:=hd9 q0 (H4.2.1.below qg ab) j5 (H4.2.2.2.1.up qg) (hY.up qs) q6 j1 j2 j3;clear hb5 hO5 hY j1 j2 q6 j3 hy e0 e1 e2 e3 qs qg j5 q0
 go_upto_region 3 with fail
 rw[←hw6];clear hw6
 go_wp2_with fail
 refine(gh none 0 0 [] w6 (H0.1.below H6.1) Rd.none_).mono ?_;intro e w7 hP;obtain⟨hb7,rfl⟩:Below w6.heap.size w6 w7∧e=.returned (.tuple #[DI.zero.val,.int .i64 9]):=by
  obtain⟨h1,⟨k,hk,_,h2⟩|⟨y,hy,_,_⟩⟩:=hP
  ·rw[rq]at hk
   injection hk with hk
   subst hk;exact⟨h1,h2⟩
  ·rw[rq]at hy
   cases hy
 clear hP;have y4:=hb7.size;unfold DI.val DI.zero;dsimp only;obtain⟨w8,hw8⟩:∃W,W=w7.alloc (.cells #[.slice none 0 0,.slice none 0 0,.slice none 0 0,.slice none 0 0] 28):=⟨_,rfl⟩
 have q4:Below w7.heap.size w7 w8:=by rw[hw8];exact aB w7 _
 have qc:=hb7.trans (q4.mono y4);have q1:=H6.1.trans (qc.mono ab);have zs:w8.heap.size=w7.heap.size+1:=by rw[hw8];simp
 have yh:Calls Tryz.prog 26 #[.agg #[.int .u8 7,.int .u8 0,.int .u8 0,.int .u8 0,.int .u8 0,.int .u8 0,.int .u8 0,.int .u8 0,.int .u8 0,.int .u8 0,.int .u8 0,.int .u8 0,.int .u8 0,.int .u8 0,.int .u8 0,.int .u8 0,.int .u8 0,.int .u8 0,.int .u8 0,.int .u8 0,.int .u8 0,.int .u8 0,.int .u8 0,.int .u8 0,.int .u8 0,.int .u8 0,.int .u8 0,.int .u8 0,.int .u8 0,.int .u8 0,.int .u8 0,.int .u8 0]] w8 (aO (Zc.peB (7::List.replicate 31 0)) w8):=zT (7::List.replicate 31 0) rfl w8;have H8:=hd6 q1 (H6.2.1.below qc ab) (H6.2.2.1.below qc ab) (H6.2.2.2.1.up qc) (H6.2.2.2.2.1.up qc) yh;clear hb7 q4 qc q1 yh
 go_upto_region 4 with fail
 rw[←hw8];clear hw8
 go_wp2_with fail
 refine H8.2.2.2.2.2.mono ?_;rintro e w9 ⟨A9,n9,c9,rfl,hO9,hb9⟩;have zz:=hb9.size;have y5:n9≤200:=by
  have h1:=aM hO9;have h2:=(pS (d:=7::List.replicate 31 0) rfl).2.2.2;rw[pR]at h2;omega
 have q2:=H8.1.trans (hb9.mono ab);have H9:=hd6 q2 hO9.rdx (H8.2.1.below hb9 ab) (H8.2.2.1.below hb9 ab) (H8.2.2.2.1.up hb9) (H8.2.2.2.2.1.up hb9);clear hb9 hO9 q2
 go_wp2_with fail
 refine(pl A9 n9 c9 _ w9 (H0.1.below H9.1) H9.2.1 ab).mono ?_;rintro e w10 ⟨hb10,⟨k,hk,_,rfl⟩|⟨dg,A10,n10,c10,hdg,rfl,hO10⟩⟩
 ·exfalso
  rw[kF rfl]at hk
  cases hk
 obtain rfl:dg=7::List.replicate 31 0:=by rw[kF rfl]at hdg;injection hdg with hdg;exact hdg.symm
 have yv:=hb10.size;obtain rfl:n10=32:=(aM hO10).symm;have qk:=H9.1.trans (hb10.mono ab);have hX:=H9.2.2.1.below hb10 ab;have hZ:=H9.2.2.2.1.below hb10 ab;have j6:=H9.2.2.2.2.1.up hb10;have j7:=H9.2.2.2.2.2.up hb10;have j0:=wD d y w10 j6 j7 H6.2.2.2.2.2.1.symm (by rw[H4.2.2.2.2.2.1.1];omega) (by rw[H4.2.2.2.2.2.1.2];omega);rw[H4.2.2.2.2.2.2,H6.2.2.2.2.2.2.2.2,H4.2.2.2.2.2.1.1,H4.2.2.2.2.2.1.2]at j0;have HS:=hd3 j0 hX hZ;have qh:=hO10.rdx;have q7:∃g o,A10=some ⟨g,o,none⟩∧g<w10.heap.size∧w10.cell? ⟨g,o,none⟩=some (.int .u8 7):=by
  obtain⟨g,o,e,hlt⟩:=qh.spot (by have:=qh.cap;omega);obtain⟨ad,e2,_,hcell⟩:=qh.rds.2 ab;rw[e]at e2;injection e2 with e2
  subst e2;refine⟨g,o,e,hlt,?_⟩;have:=hcell 0 (.int .u8 7) aq
  rwa [Addr.add_lit,Nat.add_zero]at this
 obtain⟨g10,o10,rfl,hgl,q10⟩:=q7;have HB:=hd1 qk;obtain⟨k0,k1⟩:=hX.facts;obtain⟨z0,z1⟩:=hZ.facts;clear hb10 hdg j6 j7 qk j0 hX hZ qh hO10
 go_upto_region 5 with fail
 go_wp2_with fail
 refine HS.1.mono ?_;rintro e w11 ⟨rfl,hb11⟩;have yy:=hb11.size;have HT:=hd1 hb11;have z2:w11.cell? ⟨g10,o10,none⟩=some (.int .u8 7):=(hb11.cell (p:=⟨g10,o10,none⟩) hgl).trans q10;obtain⟨y0,y1⟩:=(HS.2.2.below hb11 (HS.2.2.lt)).facts;clear hb11 q10 k0 k1 z0 z1
 go_wp2_with fail
 go_ret
 exact⟨rfl,HB.out.trans (HT.out.mono ab)⟩
def o9 (xss:List (List UInt8)) (w:World) (e:Ending) (w':World):Prop:=∃v l,e=.returned v∧XS w' w.heap.size v l∧l.map (·.2)=xss∧Below w.heap.size w w'
theorem pH {α:Type} {a b:List α} (h:a.map some=b.map some):a=b:=(List.map_inj_right (fun _ _ e=>Option.some.inj e)).1 h
set_option maxHeartbeats 4000000 in
theorem kE (A:Option Addr) (n c:Nat) (X:El) (L:List El) (w:World) (h:Rd w w.heap.size A n c X.2.2) (hX:El.wf X) (hb:X.2.1=ax L) (hL:∀y∈L,El.wf y) (hn:n≤1000000) (hLc:L.length≤100) :
 Calls Tryz.prog 41 #[.slice A n c] w (o9 (L.map (·.2.2)) w):=by
 have j4:=h.len;have qs:=fC hX [];rw[List.append_nil]at qs;have j6:X.2.1.length≤n:=by
  rw[←j4,hX.1];exact cD _ _
 have H:=hd5 h hX hb hL qs;clear h hX hb hL qs
 go_enter Tryz.func41,Tryz.ntmps41
 go_wp2_with fail
 refine(gW A n c X.2.2 w H.1 ab).mono ?_;rintro e w1 ⟨hb1,⟨hno,_⟩|⟨t,body,raw,rest,A1,n1,c1,A2,n2,c2,A3,n3,c3,he,rfl,hO⟩⟩
 ·exfalso
  rw[H.2.2.2.2]at hno
  cases hno
 have q7:=he.symm.trans H.2.2.2.2;simp only[Option.some.injEq,Prod.mk.injEq]at q7;obtain⟨h1,h2,_,_⟩:=q7;have j5:=hb1.size;have qk:az w1 w.heap.size w1.heap.size (.slice A1 n1 c1) body:=hO.rd ag;have j8:n1≤n:=by have:=aM qk;rw[h2]at this;omega
 obtain⟨w2,hw2⟩:∃W,W=w1.alloc (.cells #[.int .u8 (t.toNat:Int),.slice A1 n1 c1,.slice A2 n2 c2] 84):=⟨_,rfl⟩
 have qc:Below w1.heap.size w1 w2:=by rw[hw2];exact aB w1 _
 have q3:aw w2 w1.heap.size 84 #[.int .u8 (t.toNat:Int),.slice A1 n1 c1,.slice A2 n2 c2]:=by rw[hw2];exact aw.new w1 _ _
 have yd:w2.heap.size=w1.heap.size+1:=by rw[hw2];simp
 have qd:=hb1.trans (qc.mono j5);obtain⟨g,hg⟩:∃g,w1.heap.size=g:=⟨_,rfl⟩
 have k1:w2.cell? ⟨g,1,none⟩=some (.slice A1 n1 c1):=by rw[←hg];exact q3.cell 1
 have j7:g<w2.heap.size:=ab
 have j0:Rd w2 w2.heap.size A1 n1 c1 (ax L):=by
  have:=qk.rdx.up qc
  rwa [h2,H.2.2.1]at this
 have H2:=hd2 qd j0;clear hO qk he hb1 qc q3 qd j0 h1 h2
 go_upto_region 2 with fail
 rw[←hw2]
 try rw[hg]
 clear hw2
 go_wp2_with fail
 refine(tS A1 n1 c1 (ax L) w2 H2.2 ab).mono ?_;rintro e w3 ⟨hb3,⟨hany,_⟩|⟨Le,A4,n4,c4,hs,rfl,hE⟩⟩
 ·exfalso
  rw[jX H.2.2.2.1]at hany;simp at hany
 have qh:L=Le.map EI.dat:=by
  rw[jX H.2.2.2.1]at hs;refine pH ?_;rw[hs,List.map_map]
  rfl
 have yh:=hb3.size;have q9:Le.length=n4:=by
  obtain⟨A',c',e',_⟩:=aI.shape hE.1;injection e' with _ e2 _
  exact e2.symm
 have q4:L.length=n4:=by rw[qh,List.length_map,q9]
 have j3:n4≤100:=ab
 have H3:=hd4 (H2.1.trans (hb3.mono ab)) hE qh q4;clear hb3 hs hE qh q4 q9 k1
 go_upto_region 5 with fail
 go_loopw [8,9] (fun ov iv wr=>∃(i:Nat) (l:List (Value×List UInt8)),i≤n4∧iv=.int .i64 (i:Int)∧XS wr w3.heap.size ov l∧l.map (·.2)=(L.take i).map (·.2.2)∧Below w3.heap.size w3 wr) (fun _ iv _=>n4 - (intOf iv).toNat)
 case atStart=>exact⟨0,[],Nat.zero_le _,rfl,XS.nil_,rfl,Below.refl _ _⟩
 case round=>
  obtain⟨i,l,hi,rfl,hx,hl,hb⟩:=hrel;obtain⟨wq,hwq⟩:∃W,W=wr:=⟨_,rfl⟩
  subst hwq;have q6:=hb.size;have j2:l.length=i:=by have:=congrArg List.length hl;have:=H3.2.2.2;simp only[List.length_map,List.length_take]at *;omega
  obtain⟨Av,cv,rfl,_⟩:=id hx.rdl
  by_cases hlt:i<n4
  ·have qv:(i:Int)<(n4:Int):=ab
   obtain⟨g4,t',B1,m1,d1,b',B2,m2,d2,r',rfl,hg4,hLi,q0,q1,q2,r1,r2⟩:=aU.at_ (H3.2.1) hb nl_ hlt;have qg:=aU.own2 H3.2.1 hLi;have j1:aE wq (.slice B2 m2 d2) r':=aE.ownx (qg.below hb nl_) q6;have q5:L[i]? = some (t',b',r'):=by
    rw[H3.2.2.1,List.getElem?_map,hLi]
    rfl
   have HX:=hd5 hx hl hb j1 q5;clear hx hl hb qg j1 q5 hLi r1 r2
   go_wp2_with (first
    | (at_builtin
       go_loud (refine fF rfl (.tmp 28) (.tmp 34) rfl w3.heap.size _ l aq (HX.1.alloc _) ai _ _ _ aq (fA _ _ _) ag (HX.2.2.2.1.alloc _) ab ?_)
       intro v5 w5 hx5 hb5)
    | fail)
   go_roundw
   case rel=>exact⟨i+1,_,ab,by go_num,hx5,by rw[List.map_append,HX.2.1,List.take_add_one,HX.2.2.2.2,List.map_append];rfl,HX.2.2.1.trans (Below.trans (br_.alloc q6 _) hb5)⟩
   case measure=>first|(simp[intOf];done)|(simp[intOf];omega)
  ·obtain rfl:i=n4:=ab
   have qv:¬((i:Int)<(i:Int)):=ab
   have HX:=hd3 hx hl hb;clear hx hl hb
   go_wp2_with fail
   go_ret
   refine⟨.slice Av i cv,l,rfl,?_,?_,H3.1.trans (HX.2.2.mono ab)⟩
   ·have:=HX.1.lower (lo':=w.heap.size) (by have:=H3.1.size;have:=H2.1.size;omega)
    rwa [j2]at this
   ·rw[HX.2.1,List.take_of_length_le (by have:=H3.2.2.2;omega)]
def MK.els (x:MK):List El:=E.all (Zc.koid x.kind) x.C [] (x.sgs.map LS.el)
theorem MK.els_one {x:MK} (hf:x.Fits) (hn:x.ones.length≤1):(∀y∈x.els,El.wf y)∧x.els.length=4∧El.wf (E.bare x.els)∧(E.bare x.els).2.2=Zc.outB (Zc.koid x.kind) x.cont [] ((x.sgs.map LS.el).map (·.2.2))∧(E.bare x.els).2.2.length≤9000∧x.sgs.length=1:=by
 obtain⟨o1,o2,o3⟩:=eQ x.kind hf.kind;obtain⟨c1,c2,c3,c4,c5⟩:=x.C_all;have qc:x.sgs.length=1:=by
  unfold MK.sgs
  split
  ·rfl
  ·rw[List.length_map,List.length_take];omega
 obtain⟨y,hy⟩:=List.length_eq_one_iff.1 qc;have hb:=y.bounds (MK.sgs_fits hf y (by rw[hy];exact List.mem_singleton.2 rfl));have ha:E.algs.2.2.length=17:=ac
 have e1:E.cOne.2.2.length=3:=ac
 have h6:=bG (t:=6) 1000 o3 ab;have qg:(ax (E.inn x.C)).length≤2106:=by
  unfold E.inn;generalize x.C=C at *
  match C,c1,c5 with
  | [],_,_=>simp[bP]
  | [y],_,hl=>
   rw[List.map_cons,List.map_nil,aX];exact Nat.le_trans (bG (t:=160) 2006 hl ab) ab
 have h7:=bG (t:=48) (b:=ax (El.mk 6 (Zc.koid x.kind)::E.inn x.C)) 3200 (by rw[aN,List.length_append];omega) ab;have qd:x.sgs.map LS.el=[y.el]:=by rw[hy];rfl
 have h8:=bG (t:=49) (b:=ax [y.el]) 3200 (by rw[aX];exact hb.2.2.2.2.2.2.1) ab;have he:x.els=[E.cOne,E.algs,E.what (Zc.koid x.kind) x.C,El.mk 49 (ax [y.el])]:=by unfold MK.els E.all E.crt;rw[qd];rfl
 have hW:El.wf (E.what (Zc.koid x.kind) x.C):=El.mk_wf aj (by rw[aN,List.length_append];omega);have hS:El.wf (El.mk 49 (ax [y.el])):=El.mk_wf aj (by rw[aX];omega);have hl:(ax x.els).length≤7000:=by
  rw[he,aN,aN,bH];simp only[List.length_append];unfold E.what;omega
 have h9:=bG (t:=48) (b:=ax x.els) 7000 hl ab;refine⟨?_,by rw[he];rfl,El.mk_wf aj ab,?_,by unfold E.bare;omega,qc⟩
 ·rw[he]
  intro z hz;simp only[List.mem_cons,List.not_mem_nil,or_false]at hz;rcases hz with rfl|rfl|rfl|rfl
  ·exact iK
  ·exact j9
  ·exact hW
  ·exact hS
 ·unfold MK.els
  rw[gN c1 c2 (fun y hy=>by cases hy),c4]
  rfl
set_option maxHeartbeats 4000000 in
theorem sD (x:MK) (vk vc vs:Value) (w:World) (h:su w x vk vc vs) (hf:x.Fits) (hn:x.ones.length≤1) :
 Calls Tryz.prog 29 #[.agg #[vk,vc,.int .u8 (x.certs:Int),vs,.bool x.bare,.bool x.none]] w (o9 (x.els.map (·.2.2)) w):=by
 have hx:=MK.els_one hf hn;obtain⟨⟨Ak,nk,ck,rfl,hk,hnk⟩,⟨Ac,nc,cc,rfl,hc⟩,hu,⟨As,ns,cs,rfl,hs⟩⟩:=h;obtain⟨w1,hw1⟩:∃V,V=w.alloc (.cells #[.slice Ak nk ck,.slice Ac nc cc,.int .u8 0,.slice As ns cs,.bool true,.bool x.none] 43):=⟨_,rfl⟩
 have qg:Below w.heap.size w w1:=by rw[hw1];exact aB _ _
 have q2:w1.heap.size=w.heap.size+1:=by rw[hw1];simp
 have hM:Calls Tryz.prog 25 #[.agg #[.slice Ak nk ck,.slice Ac nc cc,.int .u8 0,.slice As ns cs,.bool true,.bool x.none]] w1 (dY {x with certs:=0,bare:=true} w1):=
  pG 1 rR {x with certs:=0,bare:=true} _ _ _ w1 ⟨⟨_,_,_,rfl,hk.up qg,hnk⟩,⟨_,_,_,rfl,hc.up qg⟩,(by show 0<256;omega),⟨_,_,_,rfl,hs.up qg⟩⟩ ⟨.inl hn,Nat.le_refl _⟩
 have qv:MK.Fits {x with certs:=0,bare:=true}:=⟨hf.kind,hf.ones⟩
 have H0:=hd4 qg hM qv hx;clear hk hnk hc hs hf hn hu qg hM qv hx
 go_enter Tryz.func29,Tryz.ntmps29
 go_upto_region 1 with fail
 go_upto_region 2 with fail
 go_upto_region 3 with fail
 go_wp2_with fail
 rw[←hw1];clear hw1;refine H0.2.1.mono ?_;rintro e w3 ⟨d,S,v,rfl,hD,hb3,hmade,hOv⟩;have q0:=hb3.size;obtain⟨L,p1,p2,p3⟩:=hmade.sgs H0.2.2.1;have hL:L=x.sgs:=by
  have h1:MK.sgs {x with certs:=0,bare:=true} = x.sgs:=rfl;rw[h1]at p1;have h2:=H0.2.2.2.2.2.2.2.2;obtain⟨y,hy⟩:=List.length_eq_one_iff.1 h2;rw[hy]at p1 ⊢;exact List.perm_singleton.1 p1
 have qc:d.bytes false S=(E.bare x.els).2.2:=by
  rw[H0.2.2.2.2.2.2.1];unfold DI.bytes Zc.wrapB;have e1:d.cs=[]:=by
   have:=hmade.cs;have h2:MK.rungs {x with certs:=0,bare:=true} = []:=rfl;rw[h2]at this;exact List.map_eq_nil_iff.1 this
  rw[e1,hmade.kind,hmade.content,p3,hL]
  rfl
 obtain⟨Av,nv,cv,rfl,_⟩:=hOv.rd;have qk:az w3 w1.heap.size w3.heap.size (.slice Av nv cv) (E.bare x.els).2.2:=by rw[←qc];exact hOv
 obtain⟨A0,n0,c0,e0,_⟩:=id (hD.rows (d.vk,d.kind) (by simp[DI.rows]));obtain⟨A1,n1,c1,e1,_⟩:=id (hD.rows (d.vc,d.content) (by simp[DI.rows]));obtain⟨A2,c2,e2,_⟩:=id hD.cs;obtain⟨A3,c3,e3,_⟩:=id hD.ss;have qs:d.val=.agg #[.slice A0 n0 c0,.slice A1 n1 c1,.slice A2 d.cs.length c2,.slice A3 d.ss.length c3]:=by unfold DI.val;rw[←e0,←e1,←e2,←e3]
 rw[qs];have q1:=aM qk;obtain⟨w4,hw4⟩:∃W,W=w3.alloc (.cells #[.slice A0 n0 c0,.slice A1 n1 c1,.slice A2 d.cs.length c2,.slice A3 d.ss.length c3] 28):=⟨_,rfl⟩
 have qd:Below w3.heap.size w3 w4:=by rw[hw4];exact aB w3 _
 have qh:=H0.1.trans ((hb3.trans (qd.mono q0)).mono ab);have H4:=hd2 (qk.rdx.up qd) qh;have q3:=qh.size;clear hD hb3 hmade hOv e0 e1 e2 e3 qs qd qh p1 p2 p3 hL qc qk
 go_upto_region 4 with fail
 rw[←hw4];clear hw4
 go_wp2_with fail
 refine(kE Av nv cv (E.bare x.els) x.els w4 H4.1 H0.2.2.2.2.2.1 rfl H0.2.2.2.1 (by have:=H0.2.2.2.2.2.2.2.1;omega) (by have:=H0.2.2.2.2.1;omega)).mono ?_;rintro e w5 ⟨v,l,rfl,hx,hl,hb5⟩;have HX:=hd3 hx hl (H4.2.trans (hb5.mono ab));clear hx hl hb5
 go_wp2_with fail
 go_ret
 exact⟨_,l,rfl,HX.1.lower ab,HX.2.1,HX.2.2⟩
def RC.parts (u:Int) (x:El):Option (List El):=if (x.1.toNat:Int)=u then Der.all x.2.1 else none
def RC.value (b:List UInt8):Option Nat:=if b.length≤5∧Der.be b<8589934592 then some (Der.be b) else none
def RC.key (x:El):Option (List UInt8×Nat):=(RC.parts 48 x).bind fun l=>(Cert.must (decide (l.length=2)&&((l.getD 0 El.none_).2.2==Ref.keyAlg))).bind fun _=>
 (Cert.whole (l.getD 1 El.none_)).bind fun b=>(Cert.only b).bind fun y=>(RC.parts 48 y).bind fun m=>(Cert.must (decide (m.length=2))).bind fun _=>
  (Cert.number (m.getD 0 El.none_)).bind fun n=>(Cert.number (m.getD 1 El.none_)).bind fun e=>(RC.value e).bind fun v=>some (n,v)
def RC.constraints (f:Fl) (x:El):Option Fl:=(RC.parts 48 x).bind fun l=>(Cert.must (decide (l.length≤2)&&(decide (l.length=0)||(l.getD 0 El.none_).2.2==[1,1,255]))).bind fun _=>
 if l.length=2 then(Cert.number (l.getD 1 El.none_)).bind fun n=>(RC.value n).bind fun v=>(Cert.must (decide (v≤255))).bind fun _=>some {f with ca:=true,path:=(v:Int)}
 else some {f with ca:=decide (0<l.length)}
def RC.forCode:List UInt8:=[43,6,1,5,5,7,3,3]
def RC.mean (p:Bool×Bool) (l:List El):Bool×Bool:=l.foldl (fun p y=>(p.1||y.2.1==RC.forCode,p.2&&((Der.oid y.2.1).isSome&&decide ((y.1.toNat:Int)=6)))) p
def RC.meant (f:Fl) (x:El):Option Fl:=(RC.parts 48 x).bind fun l=>(Cert.must ((RC.mean (false,true) l).2&&decide (0<l.length))).bind fun _=>some {f with code:=(RC.mean (false,true) l).1}
def RC.basic:List UInt8:=[85,29,19]
def RC.usage:List UInt8:=[85,29,15]
def RC.purposes:List UInt8:=[85,29,37]
def RC.known (nm:List UInt8):Bool:=nm==RC.basic||nm==RC.usage||nm==RC.purposes
def RC.told (f:Fl) (nm:List UInt8) (y:El):Option Fl:=if nm=RC.basic then RC.constraints f y else if nm=RC.usage then Cert.usage f y else RC.meant f y
def RC.shape (l:List El) (j:Nat):Bool:=((((l.getD 0 El.none_).1.toNat:Int)==6)&&(((l.getD j El.none_).1.toNat:Int)==4))&&(decide (j=1)||(l.getD 1 El.none_).2.2==[1,1,255])
def RC.extension (f:Fl) (x:El):Option (Fl×List UInt8):=(RC.parts 48 x).bind fun l=>(Cert.must (decide (2≤l.length)&&decide (l.length≤3))).bind fun _=>
 (Cert.must (RC.shape l (l.length - 1))).bind fun _=>(Der.oid (l.getD 0 El.none_).2.1).bind fun _=>
  if RC.known (l.getD 0 El.none_).2.1=true then(Cert.only (l.getD (l.length - 1) El.none_).2.1).bind fun y=>(RC.told f (l.getD 0 El.none_).2.1 y).bind fun g=>some (g,(l.getD 0 El.none_).2.1)
  else (Cert.must (decide (l.length=2))).bind fun _=>some (f,(l.getD 0 El.none_).2.1)
def RC.exts (f:Fl) (names:List (List UInt8)):List El→Option Fl
 | []=>some f
 | y::l=>(RC.extension f y).bind fun p=>if names.contains p.2=true then none else RC.exts p.1 (names++[p.2]) l
def RC.extensions (f:Fl) (x:El):Option Fl:=(RC.parts 163 x).bind fun o=>(Cert.must (decide (o.length=1))).bind fun _=>(RC.parts 48 (o.getD 0 El.none_)).bind fun l=>
 (Cert.must (decide (0<l.length))).bind fun _=>RC.exts f [] l
def RC.first (t:List El):Bool:=decide (7≤t.length)&&decide (t.length≤8)&&((t.getD 0 El.none_).2.2==Ref.version)&&((t.getD 2 El.none_).2.2==Ref.signAlg)&&(((t.getD 3 El.none_).1.toNat:Int)==48)&&(((t.getD 5 El.none_).1.toNat:Int)==48)
theorem BC {x y:El} (hx:El.wf x) (hy:El.wf y) (h:x.2.2=y.2.2):x=y:=by
 have e1:=fC hx [];rw[h,fC hy []]at e1;simp only[Option.some.injEq,Prod.mk.injEq]at e1;obtain⟨a,b,c⟩:=x;obtain⟨a',b',c'⟩:=y;simp only at e1;have hc:c=c':=h;rw[←e1.1,←e1.2.1,hc]
end Go.Proofs.YtmpkpphfoidbeaaGreatDoor
