import Derived.FnData
import Derived.LaidMore
import Derived.Test.YtmpkpphfoidbeaaGreatDoorRows
import Derived.Test.YtmpkpphfoidbeaaGreatDoorZ29
set_option linter.unusedVariables false
set_option linter.unusedSimpArgs false
set_option maxRecDepth 100000
namespace Go.Proofs.YtmpkpphfoidbeaaGreatDoor
open Go.RowKit
structure zx (w:World) (x:MK) (vk vc vs:Value):Prop where
 k:∃A n c,vk=.slice A n c∧ez w w.heap.size A n c x.kind∧n≤17592186044416
 c:au w w.heap.size vc x.content
 u:x.certs<256
 s:∃A n c,vs=.slice A n c∧tL w A n c x.ones
theorem vm:(Tryz.prog.info? 62).map (fun i=>(i.zero,i.size,i.bytes))=some (some (.agg #[.string ⟨#[]⟩,.int .u8 0,.bool false,.bool false,.int .i64 0,.int .i64 0]),6,40):=by kernel_rfl
set_option maxHeartbeats 16000000 in
theorem xn (N:Nat) (hN:ja N) (x:MK) (vk vc vs:Value) (w:World) (h:zx w x vk vc vs) (hn:(x.ones.length≤N∨8≤N)∧1≤N) :
 Calls Tryz.prog 25 #[.agg #[vk,vc,.int .u8 (x.certs:Int),vs,.bool x.bare,.bool x.none]] w (dU x w):=by
 obtain⟨⟨Ak,nk,ck,rfl,hk,hnk⟩,hc,hu,⟨As,ns,cs,rfl,hs⟩⟩:=h;obtain⟨Ac,nc,cc,rfl,hc⟩:=hc;have y4:=hc.cap;have y5:=hc.capm;have z1:=hs.row.len;have H0:=hd5 hk hnk hc hs hn;clear hk hnk hc hs;obtain⟨wz,qg⟩:∃W,W=(w.alloc (.cells #[.slice Ak nk ck,.slice Ac nc cc,.int .u8 (x.certs:Int),.slice As ns cs,.bool x.bare,.bool x.none] 43)).alloc (.cells #[.slice none 0 0,.slice none 0 0,.slice none 0 0,.slice none 0 0] 28):=⟨_,rfl⟩
 have y2:wz.heap.size=w.heap.size+1+1:=by rw[qg];simp
 have j5:=al w (.cells #[.slice Ak nk ck,.slice Ac nc cc,.int .u8 (x.certs:Int),.slice As ns cs,.bool x.bare,.bool x.none] 43);have q3:ac wz w.heap.size 43 #[.slice Ak nk ck,.slice Ac nc cc,.int .u8 (x.certs:Int),.slice As ns cs,.bool x.bare,.bool x.none]:=by rw[qg];exact(ac.new w _ _).alloc _
 have j1:ac wz (w.heap.size+1) 28 #[.slice none 0 0,.slice none 0 0,.slice none 0 0,.slice none 0 0]:=by
  have:=ac.new (w.alloc (.cells #[.slice Ak nk ck,.slice Ac nc cc,.int .u8 (x.certs:Int),.slice As ns cs,.bool x.bare,.bool x.none] 43)) 28 #[.slice none 0 0,.slice none 0 0,.slice none 0 0,.slice none 0 0];rw[qg]
  simpa using this
 have q1:Below w.heap.size w wz:=by rw[qg];exact j5.alloc (by simp) _
 have H1:=hd4 q3 j1 q1 y2;have x0:=q3.cell 0;clear q3 j1 q1 j5
 go_enter Tryz.func25,Tryz.ntmps25
 go_upto_region 1 with fail
 rw[←qg];clear qg
 go_wp2_with fail
 refine(oJ Ak nk ck x.kind wz ⟨H0.1.1.up H1.2.2.1,H0.1.2⟩ H0.2.1).mono ?_;rintro e w1 ⟨A1,n1,c1,rfl,ho1,hb1⟩;have yv:=hb1.size;obtain⟨w2,hw2⟩:∃W,W=w1.alloc (.cells #[.slice A1 n1 c1,.slice none 0 0,.slice none 0 0,.slice none 0 0] 28):=⟨_,rfl⟩
 have qh:Below w1.heap.size w1 w2:=by rw[hw2];exact al w1 _
 have qs:ac w2 w1.heap.size 28 #[.slice A1 n1 c1,.slice none 0 0,.slice none 0 0,.slice none 0 0]:=by rw[hw2];exact ac.new w1 _ _
 have yy:w2.heap.size=w1.heap.size+1:=by rw[hw2];simp
 obtain⟨g,hg⟩:∃g,w1.heap.size=g:=⟨_,rfl⟩
 have H2:=hd3 (ff ho1 qh) (hb1.trans (qh.mono yv)) qs;clear ho1 hb1 qh qs x0;have q5:=H1.1.below H2.2.1 (by omega);have x5:=q5.cell 5;have x1:=q5.cell 1;clear q5
 go_upto_region 2 with fail
 rw[←hw2];rw[hg]at yy H2;have yd:wz.heap.size≤g:=by omega
 clear hw2;obtain⟨nb,hnb⟩:∃b,(!x.none)=b:=⟨_,rfl⟩
 go_upto_if 14 with fail
 go_cut [] from 12 to 19 (fun wx=>∃A m c',ac wx g 28 #[.slice A1 n1 c1,.slice A m c',.slice none 0 0,.slice none 0 0]∧am wx (.slice A m c') x.cont∧am wx (.slice A1 n1 c1) (Zc.koid x.kind)∧Below wz.heap.size wz wx∧g<wx.heap.size)
 case first=>
  cases nb with
  | false=>
   have ha:x.none=true:=by simpa using hnb
   have HA:=hd1 ha;clear ha hnb
   go_wp2_with fail
   go_meet
   case rel=>exact⟨none,0,0,H2.2.2,by unfold MK.cont;rw[if_pos HA.out];exact⟨none,0,0,rfl,Rd.none_,fun ad e=>(by cases e)⟩,am.own H2.1,H2.2.1,by omega⟩
  | true=>
   have ha:x.none=false:=by simpa using hnb
   have HA:=hd1 ha;clear ha hnb;have RC:=(H0.2.2.1.up H1.2.2.1).up H2.2.1;have HR:=hd1 RC;clear RC
   go_wp2_with fail
   refine(sN 2000 Ac nc cc x.content w2 HR.out (by omega) (by omega)).mono ?_;rintro e w3 ⟨A3,n3,c3,rfl,ho3,hb3⟩;have j6:=hb3.size;have y6:n3≤2000:=by have:=ax ho3;rw[List.length_take]at this;omega
   have H3:=hd3 ho3.rdx hb3 (H2.2.2.below hb3 (by omega));clear ho3 hb3
   go_wp2_with fail
   refine(dy 4 A3 n3 c3 (x.content.take 2000) w3 H3.1 (by omega)).mono ?_;rintro e w4 ⟨A4,n4,c4,rfl,ho4,hb4⟩;have zz:=hb4.size;have qs:=H3.2.2.below hb4 (by omega);have b4:=H2.2.1.trans ((H3.2.1.trans (hb4.mono j6)).mono (by omega));obtain⟨g1,g2⟩:=qs.facts;have H4:=hd4 ho4 qs b4 (am.own H2.1 |>.below (H3.2.1.trans (hb4.mono j6)));clear ho4 hb4 qs b4
   go_wp2_with fail
   go_meet
   case rel=>
    refine⟨A4,n4,c4,?_,?_,?_,?_,?_⟩
    ·have:=H4.2.1.set_ 1 (.slice A4 n4 c4)
     simpa using this
    ·unfold MK.cont
     rw[HA.out];exact dQ (am.own H4.1) H4.2.1 (by decide) _
    ·exact dQ H4.2.2.2 H4.2.1 (by decide) _
    ·exact H4.2.2.1.setCell yd _
    ·simp;omega
 case rest=>
  obtain⟨A5,n5,c5,hB5,r5,k5,b5,hg5⟩:=hcut;obtain⟨w5,hw5⟩:∃W,W=wc:=⟨_,rfl⟩
  subst hw5;have z0:=b5.size;have H5:=hd6 hB5 r5 k5 (H1.2.2.1.trans (b5.mono (by omega))) b5 hg5;have j4:=H1.1.below b5 (by omega);have HX:=hd1 j4;clear hB5 r5 k5 b5 j4 x5 x1;obtain⟨m,hm⟩:∃m,x.certs % 4=m:=⟨_,rfl⟩
  have y7:m<4:=by omega
  have zs:x.names.length=m:=by unfold MK.names;rw[List.length_map,List.length_range,hm]
  apply_assumption;refine wp_seq_k fun K4 hK4=>?_
  have j0:=hd1 hK4;clear hK4
  go_wp2_with fail
  refine j0.out _ _ ?_;refine wp_seq_k fun K5 hK5=>?_
  have j7:=hd1 hK5;clear hK5 j0
  go_upto_region 6 with fail
  go_loopw [5,6] (fun ov iv wr=>∃i:Nat,i≤m∧iv=.int .i64 (i:Int)∧aP 62 6 dF (fun _=>[]) wr w5.heap.size wr.heap.size ov (x.names.take i)∧Below w5.heap.size w5 wr) (fun _ iv _=>m - (intOf iv).toNat)
  case atStart=>exact⟨0,Nat.zero_le _,rfl,by rw[List.take_zero];exact aP.nil_,Below.refl _ _⟩
  case round=>
   obtain⟨i,hi,rfl,ho,hb⟩:=hrel;obtain⟨Av,cv,e,hRd⟩:=ho.rd;have qd:(x.names.take i).length=i:=by rw[List.length_take];omega
   rw[qd]at e;subst e;have j8:=hb.size;have x2:=(HX.out.below hb (by omega)).cell 2;rw[qd]at hRd;have HR:=hd3 ho hb hRd;clear ho hb hRd;have zn:(x.certs:Int) % 4=(m:Int):=by omega
   by_cases hlt:i<m
   ·have q6:(i:Int)<(m:Int):=by omega
    obtain⟨ch,hch⟩:∃c,UInt8.ofNat (97+i)=c:=⟨_,rfl⟩
    have yh:x.names[i]? = some [ch]:=by
     unfold MK.names;rw[List.getElem?_map,List.getElem?_range (by omega),←hch]
     rfl
    have q2:=aj.lit wr [ch] [.int .u8 (97+(i:Int))] 1 (by
     show _=[Value.int .u8 (ch.toNat:Int)];rw[←hch,UInt8.toNat_ofNat',show(97+i) % 2 ^ 8=97+i by omega];simp) rfl (by omega)
    have y3:(convert 22 9 (.slice (some ⟨wr.heap.size,0,none⟩) 1 1)).run Tryz.prog (wr.alloc (.cells #[.int .u8 (97+(i:Int))] 5))=.ok (.string ⟨[ch].toArray⟩) (wr.alloc (.cells #[.int .u8 (97+(i:Int))] 5)):=cQ (aj.rdx (by simpa using q2)) 9 Tryz.underlying9;clear q2 hch
    go_wp2_with fail
    refine(sK _ _).mono ?_;rintro e w6 ⟨rfl,hb6⟩;have y0:=hb6.size;have qc:Below wr.heap.size wr w6:=(al wr _).trans (hb6.mono (by simp));have j3:=et w6 62 (dF [ch]);have j2:ar 62 6 w6 w5.heap.size w6.heap.size (.slice Av i cv) i ((x.names.take i).flatMap dF):=by have:=(aP.up HR.1 qc).1;rwa [qd]at this
    have H6:=hd3 qc j3 j2;have y1:=qc.size;clear y3 hb6 qc j3 y0 x2 j2
    go_upto_region 7 with(first
     | (at_builtin
        go_loud (refine aN rfl (.tmp 28) (.tmp 35) 64 rfl 62 _ 6 40 vm Tryz.underlying64 rfl (by omega) w5.heap.size w6.heap.size _ i ((x.names.take i).flatMap dF) rfl (ar.alloc H6.2.2 nl_ _) (by simp;omega) (w6.heap.size+1) (some ⟨w6.heap.size,0,none⟩) 1 1 (dF [ch]) rfl H6.2.1 (by simp[dF,Value.oneCell']) (by omega) (by omega) ?_)
        intro v' w7 ho7 hg7 hat7 hb7)
     | fail)
    have q4:aP 62 6 dF (fun _=>[]) w7 w5.heap.size w7.heap.size v' (x.names.take (i+1)):=by
     rw[List.take_add_one,yh];refine aP.snoc (x:=[ch]) ((aP.up HR.1 H6.1).up (al w6 _)) (fun p hp=>by simp at hp) ?_ hg7 (by decide);rw[qd];exact ho7
    have q0:Below w5.heap.size w5 w7:=(HR.2.1.trans (H6.1.mono j8)).trans (((al w6 _).mono (by omega)).trans hb7);obtain⟨A7,c7,rfl,_⟩:=q4.rd;have H7:=hd2 q4 q0;clear q4 q0 ho7 hg7 hat7 hb7
    go_wp2_with fail
    go_roundw
    case rel=>exact⟨i+1,by omega,by go_num,H7.1,H7.2⟩
    case measure=>first|(simp[intOf];done)|(simp[intOf];omega)
   ·obtain rfl:i=m:=by omega
    have q6:¬((i:Int)<(i:Int)):=by omega
    have ys:x.names.take i=x.names:=List.take_of_length_le (by omega);have qg:=H1.1;have q1:=H5.2.2.2.2.1;have qv:=HR.2.1;have qk:=q1.trans (qv.mono (by omega));have q9:=HR.2.2;rw[ys]at q9;have h9:M9 x w g (.slice Ak nk ck) (.slice Ac nc cc) (.slice As ns cs) (.slice A1 n1 c1) (.slice A5 n5 c5) Av i cv wr:=
     ⟨H5.2.2.2.1.trans (qv.mono (by omega)),by omega,by omega,H1.1.below qk (by omega),H1.2.1.below qk (by omega),H5.1.below qv (by omega),H5.2.2.1.below qv,H5.2.1.below qv,q9⟩
    have H9:=hd1 h9;clear h9 qg q1 qv qk q9
    go_wp2_with fail
    refine j7.out _ _ ?_;exact sa N hN x Ak Ac As nk ck nc cc ns cs w wr g A1 A5 Av n1 c1 n5 c5 i cv H9.out (by omega) H0.2.2.2.1 H0.2.2.2.2 _ _ _ _ _ _ _ _ _ _ _ _ _ _ _ _ _ _ _ _ _ _ _ _ _ _ _ _ _ _ _ _ _ _ _ _ _ _ _ _ _ _ _ _ _ _ _ _ _ _ _ _ _ _ _ _ _ _ _ _ _ _ _ _ _ _ _ _ _ _ _ _ _ _ _ _ _ _
def AU (b:List UInt8) (w:World) (e:Ending) (w':World):Prop:=Below w.heap.size w w'∧
 ((∃k,Zc.indirect b=.error k∧k≠0∧e=.returned (.tuple #[.slice none 0 0,.int .i64 (k:Int)]))∨∃d A n c,Zc.indirect b=.ok d∧e=.returned (.tuple #[.slice A n c,.int .i64 0])∧aj w' w.heap.size w'.heap.size (.slice A n c) d)
def eM (r lo m e2:Nat) (p:Except Nat (List El)) (v:Value) (W:World):Prop:=
 ∃g c hi L,v=.slice (some ⟨g,0,none⟩) 2 c∧aJ W lo hi (.slice (some ⟨g,0,none⟩) 2 c) L∧hi≤W.heap.size∧2=L.length∧(∀y∈L.map EI.dat,y.2.1.length≤m∧y.2.2.length≤m)∧(e2=0→p=.ok (L.map EI.dat))∧((∃k,p=.error k)→Rr W r e2)
theorem eM.up {r lo m er e2:Nat} {p:Except Nat (List El)} {v:Value} {w w':World} (h:eM r lo m e2 p v w) (hR:RR r er e2 w w') (hr:r<lo):eM r lo m e2 p v w':=by
 obtain⟨g,c,hi,L,h1,h2,h3,h4,h5,h6,h7⟩:=h;exact⟨g,c,hi,L,h1,h2.keepRows (ab.grown hR.1 hr),Nat.le_trans h3 hR.1.size,h4,h5,h6,fun hk=>hR.last (h7 hk)⟩
def fp (r g n c lo m e2:Nat) (p0 p1:Except Nat (List El)) (v0 v1:Value) (i:Nat) (v:Value) (w:World):Prop:=
 match i with
 | 0=>v=.slice (some ⟨g,0,none⟩) n c
 | 1=>v=.pointer (some ⟨g,0,none⟩)
 | 2=>v=v0
 | 3=>eM r lo m e2 p0 v w
 | 4=>v=.slice (some ⟨g,0,none⟩) n c
 | 5=>v=.pointer (some ⟨g,3,none⟩)
 | 6=>v=v1
 | 7=>eM r lo m e2 p1 v w
 | 8=>eM r lo m e2 p0 v w
 | _=>eM r lo m e2 p1 v w
theorem fp.up {r g n c lo m er e2:Nat} {p0 p1:Except Nat (List El)} {v0 v1:Value} (hr:r<lo) (i:Nat) (v:Value) (w w':World) (hR:RR r er e2 w w') (h:fp r g n c lo m e2 p0 p1 v0 v1 i v w):fp r g n c lo m e2 p0 p1 v0 v1 i v w':=by
 match i,h with
 | 0,h|1,h|2,h|4,h|5,h|6,h=>exact h
 | 3,h|7,h|8,h=>exact eM.up h hR hr
 | _+9,h=>exact eM.up h hR hr
def jA {α:Type}:Except Nat α→Bool
 | .ok _=>false
 | .error _=>true
def eH (e:Nat) (b:Bool):Nat:=if e=0 then(if b then 9 else 0) else e
theorem oO {α:Type} {p:Except Nat α} (h:∀k,p=.error k→k=9) (e:Nat):Zc.next e p=eH e (jA p):=by
 unfold Zc.next eH
 cases p with
 | ok a=>simp[jA]
 | error k=>obtain rfl:=h k rfl;simp[jA]
theorem oM (b0 b1 b:Bool) (e0 e2 e:Nat) (hb:b=b0∨b=b1) (he:e2=eH (eH e0 b0) b1) (hE:e=e0∨e=e2):(eH e b=e∨eH e b=e2)∧(b=true→eH e b=e2)∧(e2=0→eH e b=0):=by
 by_cases hz:e0=0
 ·subst hz
  cases b0<;>cases b1<;>simp[eH]at he<;>subst he<;>rcases hb with rfl|rfl<;>rcases hE with rfl|rfl<;>simp[eH]
 ·have h2:e2=e0:=by rw[he];simp[eH,hz]
  have h1:e=e0:=by rcases hE with h|h<;>omega
  subst h2 h1;simp[eH,hz]
theorem tp {α:Type} {p0 p1:Except Nat α} {e0 e2:Nat} (h0:∀k,p0=.error k→k=9) (h1:∀k,p1=.error k→k=9) (he:e2=Zc.next (Zc.next e0 p0) p1) (p:Except Nat α) (hp:p=p0∨p=p1) (e:Nat) (hE:e=e0∨e=e2) :
 (Zc.next e p=e∨Zc.next e p=e2)∧((∃k,p=.error k)→Zc.next e p=e2)∧(e2=0→Zc.next e p=0):=by
 have qc:∀k,p=.error k→k=9:=fun k hk=>by rcases hp with rfl|rfl;exact h0 k hk;exact h1 k hk
 have:=oM (jA p0) (jA p1) (jA p) e0 e2 e (by rcases hp with rfl|rfl;exact .inl rfl;exact .inr rfl) (by rw[he,oO h1,oO h0]) hE;rw[oO qc];exact⟨this.1,fun⟨k,hk⟩=>this.2.1 (by rw[hk];rfl),this.2.2⟩
theorem zZ {α:Type} {p0 p1:Except Nat α} {e0 e2:Nat} (he:e2=Zc.next (Zc.next e0 p0) p1) (h0:∀k,p0≠.error k) (h1:∀k,p1≠.error k):e2=e0:=by
 cases p0 with
 | error k=>exact absurd rfl (h0 k)
 | ok x=>cases p1 with
  | error k=>exact absurd rfl (h1 k)
  | ok y=>rw[he,Zc.next_ok,Zc.next_ok]
theorem kZ {u lo hi:Int} {x:El} (k:Nat) (h:Zc.parts u lo hi x=.error k):k=9:=by
 unfold Zc.parts at h
 split at h
 ·cases h
 ·injection h with h;exact h.symm
structure l8 (w:World) (r e:Nat) (W:World):Prop where
 bel:Below w.heap.size w W
 rr:Rr W r e
 gl:cO W
theorem l8.grown {w W W':World} {r e e':Nat} (h:l8 w r e W) (hg:W.grownBy W' (some r)) (hr:Rr W' r e') (hrw:w.heap.size≤r) (h6:6≤r):l8 w r e' W':=
 ⟨h.bel.grown hg h.bel.size (fun j hj=>by cases hj;omega),hr,h.gl.grown hg h6⟩
theorem l8.below {w W W':World} {r e:Nat} (h:l8 w r e W) (hb:Below W.heap.size W W'):l8 w r e W':=
 ⟨h.bel.trans (hb.mono h.bel.size),h.rr.below hb,h.gl.below hb⟩
theorem RR.two {r e0 e2:Nat} {W W':World} {p:Except Nat (List El)} (hg:W.grownBy W' (some r)) (hr:∀e,Rr W r e→Rr W' r (Zc.next e p)) (hs:∀e,(e=e0∨e=e2)→Zc.next e p=e∨Zc.next e p=e2):RR r e0 e2 W W':=
 ⟨hg,fun e he h=>⟨_,hs e he,hr e h⟩⟩
theorem Zc.At.step2 {α β γ:Type} {er0 er er':Nat} {whole:Except Nat β} {o1:Except Nat α} {o2:Except Nat γ} {f:α→γ→Except Nat β} {a:α} {c:γ} (h:Zc.At er0 whole er (o1.bind fun x=>o2.bind fun y=>f x y)) (n1:Zc.No o1) (n2:Zc.No o2)
 (he:er'=Zc.next (Zc.next er o1) o2) (h1:er'=0→o1=.ok a) (h2:er'=0→o2=.ok c):Zc.At er0 whole er' (f a c):=by
 constructor
 ·intro h0
  obtain⟨g1,_⟩:=Zc.next_zero n2 (he▸h0);obtain⟨g2,_⟩:=Zc.next_zero n1 g1;obtain⟨g3,g4⟩:=h.1 g2;exact⟨g3,by rw[g4,h1 h0,h2 h0];rfl⟩
 ·intro h0
  by_cases e:er=0
  ·obtain⟨g3,g4⟩:=h.1 e
   rw[g4,g3];subst e
   cases o1 with
   | error k=>
    have hk:=n1 k rfl;rw[he];show Zc.next k o2=k;unfold Zc.next;rw[if_neg hk]
   | ok x=>
    have e1:er'=Zc.next 0 o2:=he
    cases o2 with
    | ok y=>exact absurd e1 h0
    | error k=>exact e1
  ·have e1:Zc.next er o1=er:=Zc.next_ne e
   rw[he,e1,Zc.next_ne e];exact h.2 e
set_option maxHeartbeats 8000000 in
theorem eZ (A:Option Addr) (n c:Nat) (b:List UInt8) (w:World) (hG:cO w) (h:Rd w w.heap.size A n c b) (hn:n≤1099511627) :
 Calls Tryz.prog 21 #[.slice A n c] w (AU b w):=by
 have j8:=h.len;have z6:=hG.1;have H0:=hd3 hG h j8;clear hG h j8
 go_enter Tryz.func21,Tryz.ntmps21
 go_wp2_with fail
 refine(ji A n c b _ H0.2.1).mono ?_;rintro e w1 ⟨rfl,hb1⟩;have j0:=H0.1.below hb1;have R1:=H0.2.1.up hb1;have qh:w.heap.size≤w1.heap.size:=hb1.size;obtain⟨V,hV⟩:∃V,Der.check b=V:=⟨_,rfl⟩
 rw[hV];have H1:=hd4 hb1 j0 R1 hV;clear hb1 j0 R1 hV
 by_cases hv:V=0
 ·subst hv
  have y6:((0:Int) != 0)=false:=rfl;obtain⟨t,d,rw_,hel⟩:=kJ H1.2.2.2;have y1:Zc.whole b=.ok (t,d,rw_):=by
   unfold Zc.whole;rw[if_neg (by rw[H1.2.2.2];simp),hel]
  have qv:=(em hel).1;have HW:=hd3 hel y1 qv;clear hel y1 qv;have q4:Below w1.heap.size w1 (w1.alloc (.cells #[.int .i64 0] 94)):=br_.alloc nl_ _;have yh:Rr (w1.alloc (.cells #[.int .i64 0] 94)) w1.heap.size 0:=ac.new _ _ _;have R2:=H1.2.2.1.up q4;have j1:=H1.2.1.below q4;have H2:=hd4 q4 yh R2 j1;clear q4 yh R2 j1
  go_wp2_with fail
  refine(jq A n c b _ H2.2.2.1 (by omega)).mono ?_;rintro e w3 ⟨hb3,⟨hno,rfl⟩|⟨t',d',r',rest',A1,n1,c1,A2,n2,c2,A3,n3,c3,hel',rfl,hO3⟩⟩
  ·exact absurd hno (by rw[HW.1];simp)
  rw[HW.1]at hel';injection hel' with hel'
  obtain⟨rfl,rfl,rfl,rfl⟩:=hel';have yy:w1.heap.size<w3.heap.size:=by have:=hb3.size;simp at this;omega
  have q9:Below w3.heap.size w3 (w3.alloc (.cells #[.int .u8 (t.toNat:Int),.slice A1 n1 c1,.slice A2 n2 c2] 84)):=br_.alloc nl_ _;have q6:aj w3 w1.heap.size w3.heap.size (.slice A1 n1 c1) d:=(hO3.rd (by simp)).mono (by simp) nl_;have j3:l8 w w1.heap.size 0 (w3.alloc (.cells #[.int .u8 (t.toNat:Int),.slice A1 n1 c1,.slice A2 n2 c2] 84)):=
   (⟨H1.1.trans ((H2.1.mono qh).trans (hb3.mono (by simp;omega))),H2.2.1.below hb3,H2.2.2.2.below hb3⟩:l8 w w1.heap.size 0 w3).below q9
  have R3:=(q6.rdx).up q9;have y2:n1≤1099511627:=by have h1:=q6.rdx.len;have h2:=HW.2.2;rw[H0.2.2]at h2;omega
  have H3:=hd2 j3 R3;obtain⟨r,hr⟩:∃r,w1.heap.size=r:=⟨_,rfl⟩
  rw[hr]at H3 qh yy;have h6:6≤r:=by omega
  rw[hr];clear j3 R3 hO3 q6 hb3 q9
  go_wp2_with fail
  refine(bp r 0 t A1 A2 n1 c1 n2 c2 48 2 2 d rw_ _ H3.1.rr H3.2 y2 (.inr (.inr (.inl rfl))) (by omega)).mono ?_;rintro e w4 ⟨A4,n4,c4,L4,e4,rfl,hg4,hr4,he4,hE4,hnl4,hlo4,hhi4,_,hm4,hok4⟩;obtain rfl:n4=2:=by omega
  have z0:w3.heap.size+1≤w4.heap.size:=by have:=hg4.size;simpa using this
  obtain⟨g4,rfl,hg4h,hg4l⟩:=hE4.spot_ (by omega);have qk:Zc.indirect b=(Zc.parts 48 2 2 (t,d,rw_)).bind fun l=>(Zc.parts 48 2 2 (l.getD 0 El.none_)).bind fun what=>(Zc.parts 48 2 2 (l.getD 1 El.none_)).bind fun sum=>
   (Zc.form (Zc.is (what.getD 0 El.none_) Zc.pe)).bind fun _=>(Zc.hash (sum.getD 0 El.none_)).bind fun _=>(Zc.body 4 (sum.getD 1 El.none_)).bind fun d=>(Zc.form (decide (d.length=32))).bind fun _=>.ok d:=by
   unfold Zc.indirect;rw[HW.2.1];rfl
  have a3:=Zc.At.start 0 (Zc.indirect b);rw[qk]at a3;have a4:=a3.step (er':=e4) (a:=L4.map EI.dat) .parts he4 hok4;rw[←qk]at a4;have qc:=hE4.mono (lo':=w3.heap.size) (by simp) nl_;obtain⟨ta,Aa,na,ca,ba,Ab,nb,cb,ra,hxa,_,_,_,Ra,_,hLa⟩:=qc.el rfl (Below.refl w4.heap.size w4) nl_ 0 0 (by omega) rfl;obtain⟨tb,Ac,nc,cc,bb,Ad,nd,cd,rb,hxb,_,_,_,Rb,_,hLb⟩:=qc.el rfl (Below.refl w4.heap.size w4) nl_ 1 3 (by omega) rfl;have zs:na≤n1:=by have:=(bQ hm4 hxa (show 0<2 by omega) hnl4).1;have:=Ra.len;omega
  have zz:nc≤n1:=by have:=(bQ hm4 hxb (show 1<2 by omega) hnl4).1;have:=Rb.len;omega
  obtain⟨e6,he6⟩:∃e,e=Zc.next (Zc.next e4 (Zc.parts 48 2 2 (ta,ba,ra))) (Zc.parts 48 2 2 (tb,bb,rb)):=⟨_,rfl⟩
  have y0:=tp kZ kZ he6;have qs:=zZ he6;rw[hxa,hxb]at a4;have H4:=hd8 (H3.1.grown hg4 hr4 qh h6) qc hLa hLb a4 he6 y0 qs;clear hg4 hr4 he4 hE4 hnl4 hhi4 hm4 hok4 a3 a4 qk qc hxa hxb Ra Rb hLa hLb he6 y0 qs
  go_upto_region 7 with fail
  have hk:∀V,RG r e4 e6 w4 V→aJ V w3.heap.size w4.heap.size (.slice (some ⟨g4,0,none⟩) 2 c4) L4∧Rd V V.heap.size Aa na ca ba∧Rd V V.heap.size Ac nc cc bb:=fun V hV=>by
   have hE:=H4.2.1.keepRows (ab.grown hV.1 yy);exact⟨hE,(hE.own1 H4.2.2.1).rdx.more hV.1.size,(hE.own1 H4.2.2.2.1).rdx.more hV.1.size⟩
  refine bn (fp r g4 2 c4 w4.heap.size n1 e6 (Zc.parts 48 2 2 (ta,ba,ra)) (Zc.parts 48 2 2 (tb,bb,rb)) (.agg #[.int .u8 (ta.toNat:Int),.slice Aa na ca,.slice Ab nb cb]) (.agg #[.int .u8 (tb.toNat:Int),.slice Ac nc cc,.slice Ad nd cd])) (RG r e4 e6 w4) (RR r e4 e6) rfl RR.refl (fp.up (by omega)) (fun _ _ h h'=>h.next h') (by show aH _ 58=true;decide +kernel) (by decide +kernel) ⟨ao br_.drew _,e4,.inl rfl,H4.1.rr⟩ ⟨?_,?_,?_,?_,?_,?_,?_,?_,?_,?_,trivial⟩ ?_
  ·refine ai.run rfl ?_;intro a' V hfr hG hdep;exact bX (by simp) rfl (hfr 9 (by decide +kernel)) (show fp _ _ _ _ _ _ _ _ _ _ _ 0 _ _ from rfl) (RR.refl _)
  ·refine ai.run rfl ?_;intro a' V hfr hG hdep;have d:a'.eval (.tmp 26)=_:=hdep 0 (by decide +kernel);refine bG (by simp) ?_ (show fp _ _ _ _ _ _ _ _ _ _ _ 1 _ _ from rfl) (RR.refl _);simp only[execOp,d];simp[go_sem,Act.eval]
  ·refine ai.run rfl ?_;intro a' V hfr hG hdep;have d:a'.eval (.tmp 27)=_:=hdep 1 (by decide +kernel);exact cR (by simp) rfl d ((hk V hG).1.load H4.2.2.1 rfl) (show fp _ _ _ _ _ _ _ _ _ _ _ 2 _ _ from rfl) (RR.refl _)
  ·refine ai.run rfl ?_;intro a' V hfr hG hdep;have d:a'.eval (.tmp 28)=_:=hdep 2 (by decide +kernel)
   obtain⟨e0,he0,hre⟩:=hG.2;refine bH (by simp) rfl Tryz.func46 rfl (by decide) (args:=#[.pointer (some ⟨r,0,none⟩),.agg #[.int .u8 (ta.toNat:Int),.slice Aa na ca,.slice Ab nb cb],.int .u8 48,.int .i64 2,.int .i64 2]) (by simp only[List.map_toArray,List.map_cons,List.map_nil,d,hfr 5 (by decide +kernel)];rfl) (bp r e0 ta Aa Ab na ca nb cb 48 2 2 ba ra V hre (hk V hG).2.1 (by omega) (.inr (.inr (.inl rfl))) (by omega)) ?_;rintro e w'' ⟨A7,n7,c7,L7,e7,rfl,hg7,hr7,he7,qg,hnl7,hlo7,hhi7,_,hm7,hok7⟩;obtain rfl:n7=2:=by omega
   obtain⟨g7,rfl,_,_⟩:=qg.spot_ (by omega);have hs:=H4.2.2.2.2.2.2.1 (Zc.parts 48 2 2 (ta,ba,ra)) (.inl rfl) e0 he0;exact⟨_,rfl,⟨g7,c7,w''.heap.size,L7,rfl,qg.mono hG.1.size nl_,Nat.le_refl _,hnl7,fun y hy=>by have:=hm7 y hy;omega,fun h=>hok7 (by rw[he7];exact hs.2.2 h),fun h=>by rw[←hs.2.1 h];exact he7▸hr7⟩,RR.two (p:=Zc.parts 48 2 2 (ta,ba,ra)) hg7 (fun e he=>by rw[he.uniq hre];exact he7▸hr7) (fun e he=>(H4.2.2.2.2.2.2.1 _ (.inl rfl) e he).1)⟩
  ·refine ai.run rfl ?_;intro a' V hfr hG hdep;exact bX (by simp) rfl (hfr 9 (by decide +kernel)) (show fp _ _ _ _ _ _ _ _ _ _ _ 4 _ _ from rfl) (RR.refl _)
  ·refine ai.run rfl ?_;intro a' V hfr hG hdep;have d:a'.eval (.tmp 30)=_:=hdep 4 (by decide +kernel);refine bG (by simp) ?_ (show fp _ _ _ _ _ _ _ _ _ _ _ 5 _ _ from rfl) (RR.refl _);simp only[execOp,d];simp[go_sem,Act.eval]
  ·refine ai.run rfl ?_;intro a' V hfr hG hdep;have d:a'.eval (.tmp 31)=_:=hdep 5 (by decide +kernel);exact cR (by simp) rfl d ((hk V hG).1.load H4.2.2.2.1 rfl) (show fp _ _ _ _ _ _ _ _ _ _ _ 6 _ _ from rfl) (RR.refl _)
  ·refine ai.run rfl ?_;intro a' V hfr hG hdep;have d:a'.eval (.tmp 32)=_:=hdep 6 (by decide +kernel)
   obtain⟨e0,he0,hre⟩:=hG.2;refine bH (by simp) rfl Tryz.func46 rfl (by decide) (args:=#[.pointer (some ⟨r,0,none⟩),.agg #[.int .u8 (tb.toNat:Int),.slice Ac nc cc,.slice Ad nd cd],.int .u8 48,.int .i64 2,.int .i64 2]) (by simp only[List.map_toArray,List.map_cons,List.map_nil,d,hfr 5 (by decide +kernel)];rfl) (bp r e0 tb Ac Ad nc cc nd cd 48 2 2 bb rb V hre (hk V hG).2.2 (by omega) (.inr (.inr (.inl rfl))) (by omega)) ?_;rintro e w'' ⟨A7,n7,c7,L7,e7,rfl,hg7,hr7,he7,qg,hnl7,hlo7,hhi7,_,hm7,hok7⟩;obtain rfl:n7=2:=by omega
   obtain⟨g7,rfl,_,_⟩:=qg.spot_ (by omega);have hs:=H4.2.2.2.2.2.2.1 (Zc.parts 48 2 2 (tb,bb,rb)) (.inr rfl) e0 he0;exact⟨_,rfl,⟨g7,c7,w''.heap.size,L7,rfl,qg.mono hG.1.size nl_,Nat.le_refl _,hnl7,fun y hy=>by have:=hm7 y hy;omega,fun h=>hok7 (by rw[he7];exact hs.2.2 h),fun h=>by rw[←hs.2.1 h];exact he7▸hr7⟩,RR.two (p:=Zc.parts 48 2 2 (tb,bb,rb)) hg7 (fun e he=>by rw[he.uniq hre];exact he7▸hr7) (fun e he=>(H4.2.2.2.2.2.2.1 _ (.inr rfl) e he).1)⟩
  ·refine ai.run rfl ?_;intro a' V hfr hG hdep;have d:eM _ _ _ _ _ (a'.eval (.tmp 29)) _:=hdep 3 (by decide +kernel);exact f9 (by simp) rfl rfl (show fp _ _ _ _ _ _ _ _ _ _ _ 8 _ _ from d) (RR.refl _)
  ·refine ai.run rfl ?_;intro a' V hfr hG hdep;have d:eM _ _ _ _ _ (a'.eval (.tmp 33)) _:=hdep 7 (by decide +kernel);exact f9 (by simp) rfl rfl (show fp _ _ _ _ _ _ _ _ _ _ _ 9 _ _ from d) (RR.refl _)
  intro a' w5 hd hsz hfr hG hJ;obtain⟨g5,c5,hi5,L5,hv5,hE5,hh5,hl5,hm5,hok5,herr5⟩:eM _ _ _ _ _ (aZ _ a' 8) w5:=hJ 8 (by decide);obtain⟨g6,c6,hi6,L6,hv6,qd,hh6,hl6,hm6,hok6,herr6⟩:eM _ _ _ _ _ (aZ _ a' 9) w5:=hJ 9 (by decide);obtain⟨g7,c7,_,_,hv7,-⟩:eM _ _ _ _ _ (aZ _ a' 3) w5:=hJ 3 (by decide);obtain⟨g8,c8,_,_,hv8,-⟩:eM _ _ _ _ _ (aZ _ a' 7) w5:=hJ 7 (by decide);have ys:Rr w5 r e6:=by
   by_cases k0:∃k,Zc.parts 48 2 2 (ta,ba,ra)=.error k
   ·exact herr5 k0
   ·by_cases k1:∃k,Zc.parts 48 2 2 (tb,bb,rb)=.error k
    ·exact herr6 k1
    ·have y7:e6=e4:=H4.2.2.2.2.2.2.2 (fun k hk=>k0 ⟨k,hk⟩) (fun k hk=>k1 ⟨k,hk⟩)
     obtain⟨e,he,hre⟩:=hG.2;have:e=e6:=by omega
     exact this▸hre
  have ha:=dt (fun i=>([.slice (some ⟨g4,0,none⟩) 2 c4,.pointer (some ⟨g4,0,none⟩),.agg #[.int .u8 (ta.toNat:Int),.slice Aa na ca,.slice Ab nb cb],.slice (some ⟨g7,0,none⟩) 2 c7,.slice (some ⟨g4,0,none⟩) 2 c4,.pointer (some ⟨g4,3,none⟩),.agg #[.int .u8 (tb.toNat:Int),.slice Ac nc cc,.slice Ad nd cd],.slice (some ⟨g8,0,none⟩) 2 c8,.slice (some ⟨g5,0,none⟩) 2 c5,.slice (some ⟨g6,0,none⟩) 2 c6]:List Value).getD i undef) (by show aH _ 58=true;decide +kernel) hd hsz hfr (fun i hi=>by
   have hi:i<10:=hi
   match i,hi with
   | 0,_=>exact hJ 0 (by decide)
   | 1,_=>exact hJ 1 (by decide)
   | 2,_=>exact hJ 2 (by decide)
   | 3,_=>exact hv7
   | 4,_=>exact hJ 4 (by decide)
   | 5,_=>exact hJ 5 (by decide)
   | 6,_=>exact hJ 6 (by decide)
   | 7,_=>exact hv8
   | 8,_=>exact hv5
   | 9,_=>exact hv6)
  have a5:=Zc.At.step2 (a:=L5.map EI.dat) (c:=L6.map EI.dat) (f:=fun what sum=>(Zc.form (Zc.is (what.getD 0 El.none_) Zc.pe)).bind fun _=>(Zc.hash (sum.getD 0 El.none_)).bind fun _=>(Zc.body 4 (sum.getD 1 El.none_)).bind fun d=>(Zc.form (decide (d.length=32))).bind fun _=>.ok d) H4.2.2.2.2.1 .parts .parts H4.2.2.2.2.2.1 hok5 hok6;obtain⟨tc,Ae,ne,ce,bc,Af,nf,cf,rc,hxc,_,_,_,Rc,_,hLc⟩:=hE5.el rfl (Below.refl w5.heap.size w5) hh5 0 0 (by omega) rfl;obtain⟨td,Ag,ng,cg,bd,Ah,nh,ch,rd,hxd,_,_,_,Rdd,_,hLd⟩:=qd.el rfl (Below.refl w5.heap.size w5) hh6 0 0 (by omega) rfl;obtain⟨te,Am,nm,cm,be,An,nn,cn,re,hxe,_,_,_,Ree,_,hLe⟩:=qd.el rfl (Below.refl w5.heap.size w5) hh6 1 3 (by omega) rfl;have y4:ng≤1099511627:=by have:=(bQ hm6 hxd (show 0<2 by omega) hl6).1;have:=Rdd.len;omega
  rw[hxc,hxd,hxe]at a5;have z1:w4.heap.size≤w5.heap.size:=hG.1.size;obtain⟨q,hq⟩:∃q,Zc.is (tc,bc,rc) Zc.pe=q:=⟨_,rfl⟩
  obtain⟨e7,he7⟩:∃e,e=Zc.next e6 (Zc.form q):=⟨_,rfl⟩
  have a6:=a5.step (er':=e7) (a:=()) .form (by rw[hq];exact he7) (by rw[hq];exact Zc.form_zero he7);have H5:=hd9 (H4.1.grown hG.1 ys qh h6) hE5 qd hLc hLd hLe hq he7 a6;clear hd hsz hfr hG hJ hv5 hv6 hv7 hv8 hE5 qd hl5 hl6 hm5 hm6 hok5 hok6 herr5 herr6 ys a5 a6 hxc hxd hxe Rc Rdd Ree hLc hLd hLe hq he7 hk;have q3:List.range 10=[0,1,2,3,4,5,6,7,8,9]:=rfl;simp only[dE,List.map_cons,List.map_nil,List.size_toArray,List.length_cons,List.length_nil,Nat.reduceAdd,q3,List.zip_cons_cons,List.zip_nil_left,List.foldl_cons,List.foldl_nil,Act.put,List.setIfInBounds_toArray,List.set_cons_zero,List.set_cons_succ,List.getD_cons_zero,List.getD_cons_succ]at ha;subst ha;clear q3;apply_assumption
  go_upto_region 8 with fail
  have hk:∀V,RG r e6 e7 w5 V→aJ V w4.heap.size hi5 (.slice (some ⟨g5,0,none⟩) 2 c5) L5∧Rd V V.heap.size Ae ne ce bc∧cO V:=fun V hV=>by
   have hE:=H5.2.1.keepRows (ab.grown hV.1 (by omega));exact⟨hE,(hE.own1 H5.2.2.2.1).rdx.more (by have:=hV.1.size;omega),H5.1.gl.grown hV.1 h6⟩
  refine bn (eL r g5 2 c5 e7 (.agg #[.int .u8 (tc.toNat:Int),.slice Ae ne ce,.slice Af nf cf]) 1 10 q) (RG r e6 e7 w5) (RR r e6 e7) rfl RR.refl eL.up (fun _ _ h h'=>h.next h') (by show aH _ 58=true;decide +kernel) (by decide +kernel) ⟨ao br_.drew _,e6,.inl rfl,H5.1.rr⟩ ⟨?_,?_,?_,?_,?_,?_,trivial⟩ ?_
  ·refine ai.run rfl ?_;intro a' V hfr hG hdep;exact bX (by simp) rfl (hfr 10 (by decide +kernel)) (show eL _ _ _ _ _ _ _ _ _ 0 _ _ from rfl) (RR.refl _)
  ·refine ai.run rfl ?_;intro a' V hfr hG hdep;have d:a'.eval (.tmp 34)=_:=hdep 0 (by decide +kernel);refine bG (by simp) ?_ (show eL _ _ _ _ _ _ _ _ _ 1 _ _ from rfl) (RR.refl _);simp only[execOp,d];simp[go_sem,Act.eval]
  ·refine ai.run rfl ?_;intro a' V hfr hG hdep;have d:a'.eval (.tmp 35)=_:=hdep 1 (by decide +kernel);exact cR (by simp) rfl d ((hk V hG).1.load H5.2.2.2.1 rfl) (show eL _ _ _ _ _ _ _ _ _ 2 _ _ from rfl) (RR.refl _)
  ·refine ai.run rfl ?_;intro a' V hfr hG hdep;refine bG (by simp) ?_ (show eL _ _ _ _ _ _ _ _ _ 3 _ _ from rfl) (RR.refl _);simp only[execOp];simp[go_sem,Act.eval,Tryz.underlying106]
  ·refine ai.run rfl ?_;intro a' V hfr hG hdep;have d:a'.eval (.tmp 36)=_:=hdep 2 (by decide +kernel);have d2:a'.eval (.tmp 37)=_:=hdep 3 (by decide +kernel)
   refine bH (by simp) rfl Tryz.func48 rfl (by decide) (args:=#[.agg #[.int .u8 (tc.toNat:Int),.slice Ae ne ce,.slice Af nf cf],.slice (some ⟨1,0,none⟩) 10 10]) (by simp only[List.map_toArray,List.map_cons,List.map_nil,d,d2]) (fV tc Ae _ ne ce 10 10 (.slice Af nf cf) bc rc [1,3,6,1,4,1,311,2,1,15] V (hk V hG).2.1 ((hk V hG).2.2.rdu (by simp[Zc.table]) rfl) (by omega)) ?_;rintro e w'' ⟨rfl,hb⟩;exact⟨_,rfl,by rw[zS,H5.2.2.2.2.2.2.1];rfl,RR.below hb⟩
  ·refine ai.run rfl ?_;intro a' V hfr hG hdep;have d:a'.eval (.tmp 38)=_:=hdep 4 (by decide +kernel)
   obtain⟨e0,he0,hre⟩:=hG.2;refine bH (by simp) rfl Tryz.func47 rfl (by decide) (args:=#[.pointer (some ⟨r,0,none⟩),.bool q]) (by simp only[List.map_toArray,List.map_cons,List.map_nil,d,hfr 5 (by decide +kernel)];rfl) (bM r e0 q V hre) ?_;rintro e w'' ⟨rfl,hg,hr⟩;obtain⟨k1,k2⟩:=RR.form hg hG H5.2.2.2.2.2.2.2.1 (fun e he=>by rw[he.uniq hre];exact hr);exact⟨_,rfl,⟨rfl,k1⟩,k2⟩
  intro a' w6 hd hsz hfr hG hJ;have ha:=dt (fun i=>([.slice (some ⟨g5,0,none⟩) 2 c5,.pointer (some ⟨g5,0,none⟩),.agg #[.int .u8 (tc.toNat:Int),.slice Ae ne ce,.slice Af nf cf],.slice (some ⟨1,0,none⟩) 10 10,.bool q,.tuple #[]]:List Value).getD i undef) (by show aH _ 58=true;decide +kernel) hd hsz hfr (fun i hi=>by
   have hi:i<6:=hi
   match i,hi with
   | 0,_=>exact hJ 0 (by decide)
   | 1,_=>exact hJ 1 (by decide)
   | 2,_=>exact hJ 2 (by decide)
   | 3,_=>exact hJ 3 (by decide)
   | 4,_=>exact hJ 4 (by decide)
   | 5,_=>exact(show _∧_ from hJ 5 (by decide)).1)
  have yv:Rr w6 r e7:=(show _∧Rr w6 r e7 from hJ 5 (by decide)).2;have j4:=H5.1.grown hG.1 yv qh h6;have qd:=H5.2.2.1.keepRows (ab.grown hG.1 (by omega));have z2:w5.heap.size≤w6.heap.size:=hG.1.size;obtain⟨q0,q1,q2⟩:=qd.cells3 H5.2.2.2.2.1 0 1 2 ⟨rfl,rfl,rfl⟩;have R6:=(qd.own1 H5.2.2.2.2.1).rdx.more (B':=w6.heap.size) (by omega);have H6:=hd3 j4 qd R6;clear hd hsz hfr hG hJ yv j4 qd R6 hk;have q3:List.range 6=[0,1,2,3,4,5]:=rfl;simp only[dE,List.map_cons,List.map_nil,List.size_toArray,List.length_cons,List.length_nil,Nat.reduceAdd,q3,List.zip_cons_cons,List.zip_nil_left,List.foldl_cons,List.foldl_nil,Act.put,List.setIfInBounds_toArray,List.set_cons_zero,List.set_cons_succ,List.getD_cons_zero,List.getD_cons_succ]at ha;subst ha;clear q3;apply_assumption
  go_wp2_with fail
  refine(ka r e7 td Ag Ah ng cg nh ch bd rd _ H6.1.rr h6 H6.1.gl H6.2.2 y4).mono ?_;rintro e w7 ⟨rfl,hg7,hr7⟩;obtain⟨e8,he8⟩:∃e,e=Zc.next e7 (Zc.hash (td,bd,rd)):=⟨_,rfl⟩
  rw[←he8]at hr7;have a7:=H5.2.2.2.2.2.2.2.2.step (er':=e8) (a:=()) .hash he8 (fun h=>Zc.unit_zero .hash he8 h);have j5:=H6.1.grown hg7 hr7 qh h6;have qg:=H6.2.1.keepRows (ab.grown hg7 (by omega));have z3:w6.heap.size≤w7.heap.size:=hg7.size;obtain⟨u0,u1,u2⟩:=qg.cells3 H5.2.2.2.2.2.1 3 4 5 ⟨rfl,rfl,rfl⟩;have H7:=hd3 j5 qg a7;clear hg7 hr7 j5 qg a7 he8 q0 q1 q2
  go_wp2_with fail
  refine(ej r e8 te (.slice Am nm cm) (.slice An nn cn) 4 be re _ H7.1.rr).mono ?_;rintro e w8 ⟨rfl,hg8,hr8⟩;obtain⟨e9,he9⟩:∃e,e=Zc.next e8 (Zc.body 4 (te,be,re)):=⟨_,rfl⟩
  rw[←he9]at hr8;have a8:=H7.2.2.step (er':=e9) (a:=be) .body he9 (fun h=>Zc.body_zero he9 h);have j6:=H7.1.grown hg8 hr8 qh h6;have q5:=H7.2.1.keepRows (ab.grown hg8 (by omega));have z4:w7.heap.size≤w8.heap.size:=hg8.size;have yd:be.length=nm:=(q5.own1 H5.2.2.2.2.2.1).rdx.len;have H8:=hd4 j6 q5 a8 yd;clear hg8 hr8 j6 q5 a8 he9 u0 u1 u2 yd
  go_wp2_with fail
  refine(bM r e9 _ _ H8.1.rr).mono ?_;rintro e w9 ⟨rfl,hg9,hr9⟩;obtain⟨ea,hea⟩:∃e,e=Zc.next e9 (Zc.form (decide (be.length=32))):=⟨_,rfl⟩
  replace hr9:Rr w9 r ea:=by
   rw[hea,show decide (be.length=32)=((nm:Int)==32) by rw[H8.2.2.2,Bool.eq_iff_iff];simp;omega];exact hr9
  have a9:=(H8.2.2.1.step (er':=ea) (a:=()) .form hea (Zc.form_zero hea)).fin;have j7:=H8.1.grown hg9 hr9 qh h6;have j2:=(H8.2.1.keepRows (ab.grown hg9 (by omega))).own1 H5.2.2.2.2.2.1;have z5:w8.heap.size≤w9.heap.size:=hg9.size;have zn:=hr9.cell;have y5:=hr9.lt;have H9:=hd3 j7 j2 a9;clear hg9 hr9 j7 j2 a9 hea
  by_cases h0:ea=0
  ·subst h0
   have y3:((0:Int) != 0)=false:=rfl
   go_wp2
   go_ret2
   exact⟨H9.1.bel,.inr ⟨be,Am,nm,cm,H9.2.2.2 trivial,rfl,H9.2.1.mono (by omega) (by omega)⟩⟩
  ·have y3:((ea:Int) != 0)=true:=by simp;omega
   have HN:=hd1 h0;clear h0
   go_upto_region 13 with fail
   go_region
   apply_assumption
   go_wp2
   go_ret2
   exact⟨H9.1.bel.drew,.inl ⟨ea,Zc.next_err H9.2.2.1 HN.out,HN.out,rfl⟩⟩
 ·have y6:((V:Int) != 0)=true:=by simp;omega
  have HV:=hd1 hv;clear hv
  go_wp2
  go_ret2
  exact⟨H1.1,.inl ⟨V,by unfold Zc.indirect Zc.whole;rw[if_pos (by rw[H1.2.2.2];exact HV.out),H1.2.2.2];rfl,HV.out,rfl⟩⟩
def E.peW:El:=El.mk 48 (ag [El.mk 6 Zc.pe,El.mk 48 []])
def E.peS (d:List UInt8):El:=El.mk 48 (ag [E.sha,El.mk 4 d])
def E.pe (d:List UInt8):El:=El.mk 48 (ag [E.peW,E.peS d])
theorem gq (d:List UInt8):(E.pe d).2.2=Zc.peB d:=by
 unfold E.pe E.peW E.peS Zc.peB Ref.seq;rw[aB,bE,aB,aB,bE,bE,aB,aB,aB,lW];simp
theorem uR:El.wf E.peW:=El.mk_wf (by decide) (by decide +kernel)
theorem gu {d:List UInt8} (hd:d.length=32):El.wf (El.mk 4 d)∧El.wf (E.peS d)∧El.wf (E.pe d)∧(E.pe d).2.2.length≤200:=by
 have h1:=dn 4 d 32 (by omega) (by omega);have e1:E.sha.2.2.length=15:=by decide +kernel
 have h2:(ag [E.sha,El.mk 4 d]).length≤60:=by rw[bE,List.length_append,aB];omega
 have h3:=dn 48 (ag [E.sha,El.mk 4 d]) 60 h2 (by omega);have e2:E.peW.2.2.length=16:=by decide +kernel
 have h4:(ag [E.peW,E.peS d]).length≤90:=by rw[bE,List.length_append];unfold E.peS;rw[aB];omega
 have h5:=dn 48 (ag [E.peW,E.peS d]) 90 h4 (by omega);exact⟨El.mk_wf (by decide) (by omega),El.mk_wf (by decide) (by omega),El.mk_wf (by decide) (by omega),by unfold E.pe;rw[aB];omega⟩
theorem ep {P:El→Prop} {a b:El} (ha:P a) (hb:P b):∀y∈[a,b],P y:=fun y hy=>by
 simp only[List.mem_cons,List.not_mem_nil,or_false]at hy;rcases hy with rfl|rfl
 ·exact ha
 ·exact hb
theorem xw {d:List UInt8} (hd:d.length=32):Der.check (Zc.peB d)=0:=by
 obtain⟨w4,wS,w,_⟩:=gu hd;rw[←gq,iD w];exact aI (k:=14) (ep uR wS) (ep (by decide +kernel) (aI (k:=13) (ep lf w4) (ep (by decide +kernel) (bA _ rfl))))
theorem eC {d:List UInt8} (hd:d.length=32):Zc.indirect (Zc.peB d)=.ok d:=by
 obtain⟨w4,wS,w,_⟩:=gu hd;have hc:=xw hd;rw[←gq]at hc ⊢;have wv:∀y∈[El.mk 6 Zc.pe,El.mk 48 []],El.wf y:=ep (El.mk_wf (by decide) (by decide)) (El.mk_wf (by decide) (by decide));unfold Zc.indirect;rw[jj w hc,aq,aX (u:=48) (x:=E.pe d) (L:=[E.peW,E.peS d]) rfl rfl (ep uR wS) (by simp) (by simp),aq];simp only[List.getD_cons_zero,List.getD_cons_succ];rw[aX (u:=48) (x:=E.peW) (L:=[El.mk 6 Zc.pe,El.mk 48 []]) rfl rfl wv (by simp) (by simp),aq,
  aX (u:=48) (x:=E.peS d) (L:=[E.sha,El.mk 4 d]) rfl rfl (ep lf w4) (by simp) (by simp),aq]
 simp only[List.getD_cons_zero,List.getD_cons_succ];rw[bW (by decide +kernel),aq,kp,aq,dV (u:=4) (x:=El.mk 4 d) rfl,aq];show(Zc.form (decide (d.length=32))).bind _=_;rw[bW (by simpa using hd)]
 rfl
theorem zR {d:List UInt8} (hd:d.length=32) {k:Nat} (hk:k<(Zc.peB d).length):Zc.indirect ((Zc.peB d).take k)=.error 9:=by
 obtain⟨_,_,w,_⟩:=gu hd;rw[←gq]at hk ⊢;unfold Zc.indirect;rw[iE (ul w hk) (by decide)]
 rfl
theorem qF {d:List UInt8} (hd:d.length=32) {more:List UInt8} (hm:more≠[]):Zc.indirect (Zc.peB d++more)=.error 9:=by
 obtain⟨_,_,w,_⟩:=gu hd;rw[←gq];unfold Zc.indirect;rw[iE (rG w hm) (by decide)]
 rfl
def vV (p:Nat):OI:=⟨⟨[97],[],[],[7],[],true⟩,.slice none 0 0,.slice none 0 0,.slice (some ⟨p,0,none⟩) 1 1,.slice none 0 0⟩
def mO (p:Nat):MK:=⟨[],[],1,[vV p],false,false⟩
theorem xO (p:Nat):(mO p).Fits:=⟨fun z hz=>(by cases hz),fun y hy=>(by
 rw[List.mem_singleton.1 (show y∈[vV p] from hy)];exact⟨fun z hz=>(by cases hz)⟩)⟩
theorem qJ (w:World):ez w w.heap.size none 0 0 []:=⟨⟨rfl,Nat.le_refl _,by omega,fun _=>rfl,fun h=>absurd h (by omega),an.none_⟩,fun z hz=>by cases hz⟩
theorem z9 {w:World} {p q:Nat} (hp:ac w p 5 #[.int .u8 7]) (hq:ac w q 51 #[.string ⟨#[97]⟩,.slice none 0 0,.slice none 0 0,.slice (some ⟨p,0,none⟩) 1 1,.slice none 0 0,.bool true]) :
 zx w (mO p) (.slice none 0 0) (.slice none 0 0) (.slice (some ⟨q,0,none⟩) 1 1):=by
 refine⟨⟨none,0,0,rfl,qJ w,by omega⟩,⟨none,0,0,rfl,Rd.none_⟩,(by show 1<256;omega),⟨_,1,1,rfl,⟨⟨rfl,Nat.le_refl _,by omega,fun _=>⟨q,0,rfl,hq.lt⟩,mH (l:=(vV p).cells) hq,fun p hp=>by simp at hp⟩,fun y hy=>?_,fun y hy=>?_⟩⟩⟩
 ·rw[List.mem_singleton.1 (show y∈[vV p] from hy)]
  exact⟨⟨none,0,0,rfl,qJ w,by omega⟩,⟨none,0,0,rfl,Rd.none_⟩,⟨_,1,1,rfl,ie (xs:=[7]) hp rfl (by omega)⟩,⟨none,0,0,rfl,Rd.none_⟩⟩
 ·rw[List.mem_singleton.1 (show y∈[vV p] from hy)]
  show 1≤_;omega
theorem qn:Zc.parse []=.error 9:=pF (by simp) (by decide)
theorem vW {p:Nat} {d:DI} {S:List (List UInt8)} (h:jP (mO p) d S):d.cs.length=1∧d.ss.length=1:=by
 have h1:=congrArg List.length h.cs;have h2:=h.ss.length_eq;rw[List.length_map]at h1 h2;refine⟨h1.trans ?_,h2.trans ?_⟩
 ·unfold MK.rungs MK.names mO
  simp
 ·rw[List.length_map]
  unfold MK.sgs mO;simp
set_option maxHeartbeats 8000000 in
theorem gX (w:World) (hG:cO w):Calls Tryz.prog 14 #[] w fun e w'=>e=.returned (.bool true)∧Below w.heap.size w w':=by
 obtain⟨w2,hw2⟩:∃W,W=(w.alloc (.cells #[.int .u8 7] 5)).alloc (.cells #[.string ⟨#[97]⟩,.slice none 0 0,.slice none 0 0,.slice (some ⟨w.heap.size,0,none⟩) 1 1,.slice none 0 0,.bool true] 51):=⟨_,rfl⟩
 have y7:w2.heap.size=w.heap.size+1+1:=by rw[hw2];simp
 have yd:Below w.heap.size w w2:=by rw[hw2];exact(al w _).alloc (by simp) _
 have yh:Calls Tryz.prog 25 #[.agg #[.slice none 0 0,.slice none 0 0,.int .u8 1,.slice (some ⟨w.heap.size+1,0,none⟩) 1 1,.bool false,.bool false]] w2 (dU (mO w.heap.size) w2):=
  xn 1 yW (mO w.heap.size) _ _ _ w2 (z9 (by rw[hw2];exact(ac.new w 5 #[.int .u8 7]).alloc _) (by
   have:=ac.new (w.alloc (.cells #[.int .u8 7] 5)) 51 #[.string ⟨#[97]⟩,.slice none 0 0,.slice none 0 0,.slice (some ⟨w.heap.size,0,none⟩) 1 1,.slice none 0 0,.bool true];rw[hw2]
   simpa using this)) ⟨.inl nl_,Nat.le_refl _⟩
 have H0:=hd3 hG yd yh;clear hG yd yh
 go_enter Tryz.func14,Tryz.ntmps14
 go_upto_region 1 with fail
 go_wp2_with fail
 rw[←hw2];clear hw2;refine H0.2.2.mono ?_;rintro e w3 ⟨d,S,v,rfl,hD,hb3,hmade,hOv⟩;have yv:=hmade.read (xO _) (!(mO w.heap.size).bare);have q5:=vW hmade;have y3:=hb3.size;obtain⟨A0,n0,c0,e0,_⟩:=id (hD.rows (d.vk,d.kind) (by simp[DI.rows]));obtain⟨A1,n1,c1,e1,_⟩:=id (hD.rows (d.vc,d.content) (by simp[DI.rows]));obtain⟨A2,c2,e2,_⟩:=id hD.cs;obtain⟨A3,c3,e3,_⟩:=id hD.ss;obtain⟨Av,nv,cv,rfl,_⟩:=hOv.rd;have j0:d.val=.agg #[.slice A0 n0 c0,.slice A1 n1 c1,.slice A2 d.cs.length c2,.slice A3 d.ss.length c3]:=by unfold DI.val;rw[←e0,←e1,←e2,←e3]
 rw[j0,q5.1,q5.2];obtain⟨w4,hw4⟩:∃W,W=w3.alloc (.cells #[.slice A0 n0 c0,.slice A1 n1 c1,.slice A2 1 c2,.slice A3 1 c3] 28):=⟨_,rfl⟩
 have qd:Below w3.heap.size w3 w4:=by rw[hw4];exact al w3 _
 have q3:=hb3.trans (qd.mono y3);have j5:ac w4 w3.heap.size 28 #[.slice A0 n0 c0,.slice A1 n1 c1,.slice A2 1 c2,.slice A3 1 c3]:=by rw[hw4];exact ac.new w3 _ _
 have qv:=H0.2.1.trans (q3.mono (by omega));have zn:w4.heap.size=w3.heap.size+1:=by rw[hw4];simp
 have H4:=hd7 qv j5 (hOv.rdx.up qd) (hD.up qd) yv q5 j0;clear hD hb3 hmade hOv yv q5 e0 e1 e2 e3 j0 qd q3 j5 qv
 go_upto_region 2 with fail
 rw[←hw4];clear hw4
 go_wp2_with fail
 refine(i5 Av nv cv _ w4 (H0.1.below H4.1) H4.2.2.1).mono ?_;rintro e w5 ⟨hb5,⟨k,hk,_,_⟩|⟨y,hy,rfl,hO5⟩⟩
 ·exfalso
  have:=H4.2.2.2.2.1.1.symm.trans hk
  cases this
 have q6:y.sd=d.sd:=(Except.ok.inj (H4.2.2.2.2.1.1.symm.trans hy)).symm;have y4:=hb5.size;have hY:=hO5.rd;obtain⟨B0,m0,d0,e0,_⟩:=id (hY.rows (y.vk,y.kind) (by simp[DI.rows]));obtain⟨B1,m1,d1,e1,_⟩:=id (hY.rows (y.vc,y.content) (by simp[DI.rows]));obtain⟨B2,d2,e2,_⟩:=id hY.cs;obtain⟨B3,d3,e3,_⟩:=id hY.ss;have j2:y.cs.length=1:=by
  have:=congrArg (fun s:Sd=>s.certs.length) q6;simp only[DI.sd,List.length_map]at this;rw[this,H4.2.2.2.2.2.1.1]
 have j3:y.ss.length=1:=by
  have:=congrArg (fun s:Sd=>s.signers.length) q6;simp only[DI.sd,List.length_map]at this;rw[this,H4.2.2.2.2.2.1.2]
 have j4:y.val=.agg #[.slice B0 m0 d0,.slice B1 m1 d1,.slice B2 1 d2,.slice B3 1 d3]:=by unfold DI.val;dsimp only at e0 e1;rw[e0,e1,e2,e3,j2,j3]
 rw[j4];obtain⟨w6,hw6⟩:∃W,W=w5.alloc (.cells #[.slice B0 m0 d0,.slice B1 m1 d1,.slice B2 1 d2,.slice B3 1 d3] 28):=⟨_,rfl⟩
 have qs:Below w5.heap.size w5 w6:=by rw[hw6];exact al w5 _
 have qg:=hb5.trans (qs.mono y4);have j6:ac w6 w5.heap.size 28 #[.slice B0 m0 d0,.slice B1 m1 d1,.slice B2 1 d2,.slice B3 1 d3]:=by rw[hw6];exact ac.new w5 _ _
 have q0:=H4.1.trans (qg.mono (by omega));have zs:w6.heap.size=w5.heap.size+1:=by rw[hw6];simp
 have H6:=hd9 q0 (H4.2.1.below qg (by omega)) j6 (H4.2.2.2.1.up qg) (hY.up qs) q6 j2 j3 j4;clear hb5 hO5 hY j2 j3 q6 j4 hy e0 e1 e2 e3 qs qg j6 q0
 go_upto_region 3 with fail
 rw[←hw6];clear hw6
 go_wp2_with fail
 refine(i5 none 0 0 [] w6 (H0.1.below H6.1) Rd.none_).mono ?_;intro e w7 hP;obtain⟨hb7,rfl⟩:Below w6.heap.size w6 w7∧e=.returned (.tuple #[DI.zero.val,.int .i64 9]):=by
  obtain⟨h1,⟨k,hk,_,h2⟩|⟨y,hy,_,_⟩⟩:=hP
  ·rw[qn]at hk
   injection hk with hk
   subst hk;exact⟨h1,h2⟩
  ·rw[qn]at hy
   cases hy
 clear hP;have y5:=hb7.size;unfold DI.val DI.zero;dsimp only;obtain⟨w8,hw8⟩:∃W,W=w7.alloc (.cells #[.slice none 0 0,.slice none 0 0,.slice none 0 0,.slice none 0 0] 28):=⟨_,rfl⟩
 have q4:Below w7.heap.size w7 w8:=by rw[hw8];exact al w7 _
 have qc:=hb7.trans (q4.mono y5);have q1:=H6.1.trans (qc.mono (by omega));have zz:w8.heap.size=w7.heap.size+1:=by rw[hw8];simp
 have ys:Calls Tryz.prog 26 #[.agg #[.int .u8 7,.int .u8 0,.int .u8 0,.int .u8 0,.int .u8 0,.int .u8 0,.int .u8 0,.int .u8 0,.int .u8 0,.int .u8 0,.int .u8 0,.int .u8 0,.int .u8 0,.int .u8 0,.int .u8 0,.int .u8 0,.int .u8 0,.int .u8 0,.int .u8 0,.int .u8 0,.int .u8 0,.int .u8 0,.int .u8 0,.int .u8 0,.int .u8 0,.int .u8 0,.int .u8 0,.int .u8 0,.int .u8 0,.int .u8 0,.int .u8 0,.int .u8 0]] w8 (aA (Zc.peB (7::List.replicate 31 0)) w8):=qK (7::List.replicate 31 0) rfl w8;have H8:=hd6 q1 (H6.2.1.below qc (by omega)) (H6.2.2.1.below qc (by omega)) (H6.2.2.2.1.up qc) (H6.2.2.2.2.1.up qc) ys;clear hb7 q4 qc q1 ys
 go_upto_region 4 with fail
 rw[←hw8];clear hw8
 go_wp2_with fail
 refine H8.2.2.2.2.2.mono ?_;rintro e w9 ⟨A9,n9,c9,rfl,hO9,hb9⟩;have z2:=hb9.size;have y6:n9≤200:=by
  have h1:=ax hO9;have h2:=(gu (d:=7::List.replicate 31 0) rfl).2.2.2;rw[gq]at h2;omega
 have q2:=H8.1.trans (hb9.mono (by omega));have H9:=hd6 q2 hO9.rdx (H8.2.1.below hb9 (by omega)) (H8.2.2.1.below hb9 (by omega)) (H8.2.2.2.1.up hb9) (H8.2.2.2.2.1.up hb9);clear hb9 hO9 q2
 go_wp2_with fail
 refine(eZ A9 n9 c9 _ w9 (H0.1.below H9.1) H9.2.1 (by omega)).mono ?_;rintro e w10 ⟨hb10,⟨k,hk,_,rfl⟩|⟨dg,A10,n10,c10,hdg,rfl,hO10⟩⟩
 ·exfalso
  rw[eC rfl]at hk
  cases hk
 obtain rfl:dg=7::List.replicate 31 0:=by rw[eC rfl]at hdg;injection hdg with hdg;exact hdg.symm
 have yy:=hb10.size;obtain rfl:n10=32:=(ax hO10).symm;have qk:=H9.1.trans (hb10.mono (by omega));have hX:=H9.2.2.1.below hb10 (by omega);have hZ:=H9.2.2.2.1.below hb10 (by omega);have j7:=H9.2.2.2.2.1.up hb10;have j8:=H9.2.2.2.2.2.up hb10;have j1:=uZ d y w10 j7 j8 H6.2.2.2.2.2.1.symm (by rw[H4.2.2.2.2.2.1.1];omega) (by rw[H4.2.2.2.2.2.1.2];omega);rw[H4.2.2.2.2.2.2,H6.2.2.2.2.2.2.2.2,H4.2.2.2.2.2.1.1,H4.2.2.2.2.2.1.2]at j1;have HS:=hd3 j1 hX hZ;have qh:=hO10.rdx;have q9:∃g o,A10=some ⟨g,o,none⟩∧g<w10.heap.size∧w10.cell? ⟨g,o,none⟩=some (.int .u8 7):=by
  obtain⟨g,o,e,hlt⟩:=qh.spot (by have:=qh.cap;omega);obtain⟨ad,e2,_,hcell⟩:=qh.rds.2 (by omega);rw[e]at e2;injection e2 with e2
  subst e2;refine⟨g,o,e,hlt,?_⟩;have:=hcell 0 (.int .u8 7) (by rfl)
  rwa [Addr.add_lit,Nat.add_zero]at this
 obtain⟨g10,o10,rfl,hgl,q10⟩:=q9;have HB:=hd1 qk;obtain⟨k0,k1⟩:=hX.facts;obtain⟨z0,z1⟩:=hZ.facts;clear hb10 hdg j7 j8 qk j1 hX hZ qh hO10
 go_upto_region 5 with fail
 go_wp2_with fail
 refine HS.1.mono ?_;rintro e w11 ⟨rfl,hb11⟩;have y2:=hb11.size;have HT:=hd1 hb11;have z3:w11.cell? ⟨g10,o10,none⟩=some (.int .u8 7):=(hb11.cell (p:=⟨g10,o10,none⟩) hgl).trans q10;obtain⟨y0,y1⟩:=(HS.2.2.below hb11 (HS.2.2.lt)).facts;clear hb11 q10 k0 k1 z0 z1
 go_wp2_with fail
 go_ret
 exact⟨rfl,HB.out.trans (HT.out.mono (by omega))⟩
noncomputable def xY:Code:=dD 5 (fA Tryz.f6)
def nM (W:World) (e:Ending) (W':World):Prop:=e=.returned (.bool true)∧Below W.heap.size W W'
theorem rU {w:World} {g:Nat} {xs:List UInt8} (hx:xs.length=32) (hB:ac w g 47 (xs.map bv).toArray):(loadVar 47 ⟨g,0,none⟩).run Tryz.prog w=.ok (.agg (xs.map bv).toArray) w:=
 iK (l:=xs.map bv) 47 _ Tryz.underlying47 rfl (by rw[List.length_map,hx];kernel_rfl) (fun j v hv=>by rw[Nat.zero_add,hB.cell];simpa using hv)
theorem lq {ops:Array Oper} {rest:List Oper} {op:Oper} {a:Act} {w:World} {Q:Exit→Act→World→Prop} (hgd:op.guard=none) (x:Operand) (ho:op.op=.load 47 x) (g:Nat) (xs:List UInt8) (hl:xs.length=32) (hx:a.eval x=.pointer (some ⟨g,0,none⟩)) (hB:ac w g 47 (xs.map bv).toArray)
 (h:wpList Tryz.prog ops Q rest (a.put op.dst (.agg (xs.map bv).toArray)) w):wpList Tryz.prog ops Q (op::rest) a w:=
 wpList_plain hgd fun K hK=>lY ho hx (rU hl hB) (hK _ _ h)
set_option maxHeartbeats 8000000 in
theorem jY (W w:World) (hG:cO W) (hb:Below W.heap.size W w) (xs more:List UInt8) (hx:xs.length=32) (A A2:Option Addr) (n c n2 c2:Nat) (ho:aj w W.heap.size w.heap.size (.slice A2 n2 c2) (Zc.peB xs)) (h:Rd w W.heap.size A n c more) (hn:n≤100) (u0 u1 u3 u4 u5 u6 u8 u9 u10 u11 u12 u13 u14 u15 u16 u17 u18 u19 u20 u21 u22 u23 u24 u25 u26 u27 u28 u29 u30 u31 u32 u33 u34 u35 u36 u37 u38 u39 u40 u41 u42 u43 u44 u45 u46 u47 u48 u49 u50 u51 u52 u53 u54 u55 u56 u57 u58 u59 u60 u61 u62 u63 u64 u65 u66 u67 u68 u69 u70 u71 u72 u73 u74 u75 u76 u77 u78 u79 u80:Value) :
 xY.wp Tryz.prog (bodyPost Tryz.prog Tryz.f6 (nM W)) {tmps:=(u0::u1::Value.slice A n c::u3::u4::u5::u6::Value.slice A2 n2 c2::u8::u9::u10::u11::u12::u13::u14::u15::u16::u17::u18::u19::u20::u21::u22::u23::u24::u25::u26::u27::u28::u29::u30::u31::u32::u33::u34::u35::u36::u37::u38::u39::u40::u41::u42::u43::u44::u45::u46::u47::u48::u49::u50::u51::u52::u53::u54::u55::u56::u57::u58::u59::u60::u61::u62::u63::u64::u65::u66::u67::u68::u69::u70::u71::u72::u73::u74::u75::u76::u77::u78::u79::u80::[]).toArray,defers:=[]} w:=by
 have q0:(Zc.peB xs).length≤200:=by
  have h2:=(gu hx).2.2.2
  rwa [gq]at h2
 have hl:=h.len;have qv:=hb.size;generalize hQ:bodyPost Tryz.prog Tryz.f6 (nM W)=Q;unfold xY fA;simp only[Tryz.f6,dD,Option.getD_some];have H:=hd7 hG hb hx ho h hQ hl;clear hG hb hx ho h hQ hl
 go_upto_region 10 with(first
  | (at_builtin
     refine az rfl (.tmp 64) (.tmp 65) rfl W.heap.size w.heap.size (.slice A2 n2 c2) (Zc.peB xs) rfl H.2.2.2.1 qv W.heap.size A n c more rfl H.2.2.2.2.1.rds (by omega) ?_;intro v3 w3 ho3 hg3 hat3 hb3)
  | fail)
 obtain⟨A3,n3,c3,rfl,hr3⟩:=ho3.rd;have qc:=H.2.1.trans hb3;have q1:n3≤300:=by have:=ax ho3;rw[List.length_append]at this;have:=H.2.2.2.2.2.2;omega
 have H3:=hd3 qc ho3.rdx (H.1.below qc);have qs:=qc.size;clear qc ho3 hg3 hat3 hb3 hr3
 go_wp2_with fail
 refine(eZ A3 n3 c3 (Zc.peB xs++more) w3 H3.2.2 H3.2.1 (by omega)).mono ?_;intro e w4 hI;have qh:=hI.1;have q3:=qh.size;have qd:=H3.1.trans (qh.mono qs);have H4:=hd2 qd (H.1.below qd);have qk:=H.2.2.2.2.2.2
 by_cases hm:n=0
 ·subst hm
  have qg:more=[]:=List.eq_nil_of_length_eq_zero qk;obtain⟨A5,n5,c5,rfl⟩:∃A n c,e=.returned (.tuple #[.slice A n c,.int .i64 0]):=by
   rcases hI.2 with⟨k,hk,_,_⟩|⟨d,A,n,c,hd,he,_⟩
   ·rw[qg,List.append_nil,eC H.2.2.1]at hk
    cases hk
   ·exact⟨A,n,c,he⟩
  clear hI qh qd qk qg
  go_wp2_with fail
  refine(gX w4 H4.2).mono ?_;rintro e w5 ⟨rfl,hb5⟩;have H5:=hd1 hb5;clear hb5
  go_wp2_with fail
  rw[←H.2.2.2.2.2.1];go_ret
  exact⟨rfl,H4.1.trans (H5.out.mono (by omega))⟩
 ·have qg:more≠[]:=fun e=>hm (by rw[←qk,e];rfl)
  obtain rfl:e=.returned (.tuple #[.slice none 0 0,.int .i64 9]):=by
   rcases hI.2 with⟨k,hk,_,he⟩|⟨d,A,n,c,hd,he,_⟩
   ·rw[qF H.2.2.1 qg]at hk
    injection hk with hk
    subst hk;exact he
   ·rw[qF H.2.2.1 qg]at hd
    cases hd
  have q2:((n:Int)==0)=false:=by simpa using hm
  clear hI qh qd qk qg
  go_wp2_with fail
  refine(gX w4 H4.2).mono ?_;rintro e w5 ⟨rfl,hb5⟩;have H5:=hd1 hb5;clear hb5
  go_wp2_with fail
  rw[←H.2.2.2.2.2.1];go_ret
  exact⟨rfl,H4.1.trans (H5.out.mono (by omega))⟩
set_option maxHeartbeats 8000000 in
theorem lI (W:World) (hG:cO W) (xs:List UInt8) (hx:xs.length=32) (z:Int) (wz:(Lit.int .i64 z).wf=true) (A:Option Addr) (n c:Nat) (more:List UInt8) (h:Rd W W.heap.size A n c more) :
 Calls Tryz.prog 6 #[.agg (xs.map bv).toArray,.int .i64 z,.slice A n c] W (nM W):=by
 obtain⟨w1,hw1⟩:∃V,V=W.alloc (.cells (xs.map bv).toArray 47):=⟨_,rfl⟩
 have q2:ac w1 W.heap.size 47 (xs.map bv).toArray:=by rw[hw1];exact ac.new _ _ _
 have q3:Below W.heap.size W w1:=by rw[hw1];exact al _ _
 have j4:w1.heap.size=W.heap.size+1:=by rw[hw1];simp
 have H0:=hd5 hG hx h q2 q3;clear hG hx h q2 q3
 go_enter Tryz.func6,Tryz.ntmps6
 refine wp_seq_k fun K0 hK0=>?_
 have qs:=hd1 hK0;clear hK0
 go_wp2_with fail
 rw[←hw1];clear hw1;refine qs.out _ _ ?_;clear qs K0;refine wp_seq_k fun K1 hK1=>?_
 have qv:=hd1 hK1;clear hK1;refine wp_region_lit ?_;refine lq rfl (.tmp 3) rfl W.heap.size xs H0.2.1 rfl H0.2.2.2.1 ?_
 go_wp2_with fail
 refine(qK xs H0.2.1 w1).mono ?_;rintro e w2 ⟨A2,n2,c2,rfl,ho2,hb2⟩;have j5:=hb2.size;have j3:n2≤200:=by
  have h2:=(gu H0.2.1).2.2.2;rw[gq]at h2;have:=ax ho2;omega
 have qd:=H0.2.2.2.2.trans (hb2.mono (by omega));have H2:=hd4 qd ho2 (H0.1.below qd) (H0.2.2.2.1.below hb2 (by omega));clear ho2 hb2 qd
 go_wp2_with fail
 refine qv.out _ _ ?_;clear qv K1;refine wp_seq_k fun K2 hK2=>?_
 have q0:=hd1 hK2;clear hK2
 go_wp2_with fail
 refine(eZ A2 n2 c2 (Zc.peB xs) w2 H2.2.2.1 H2.2.1.rdx (by omega)).mono ?_;intro e w3 hI;obtain⟨hb3,A3,c3,rfl,ho3⟩:Below w2.heap.size w2 w3∧∃A c,e=.returned (.tuple #[.slice A 32 c,.int .i64 0])∧aj w3 w2.heap.size w3.heap.size (.slice A 32 c) xs:=by
  refine⟨hI.1,?_⟩;rcases hI.2 with⟨k,hk,_,_⟩|⟨d,A,n,c,hd,he,ho⟩
  ·rw[eC H0.2.1]at hk
   cases hk
  ·rw[eC H0.2.1]at hd
   obtain rfl:=Except.ok.inj hd;have hl:=ax ho;rw[H0.2.1]at hl;subst hl;exact⟨A,c,he,ho⟩
 clear hI;have j0:=hb3.size;have qc:=H2.1.trans (hb3.mono (by omega));have H3:=hd6 qc ho3.rdx (H2.2.2.2.below hb3 (by omega)) (H0.1.below qc) ((H2.2.1.below hb3 nl_).mono (by omega) j0:aj w3 W.heap.size w3.heap.size (.slice A2 n2 c2) (Zc.peB xs)) (H0.2.2.1.keep (fun p hp=>qc.cell hp):Rd w3 W.heap.size A n c more);clear hb3 ho3 qc
 go_wp2_with fail
 refine q0.out _ _ ?_;clear q0 K2;refine wp_seq_k fun K3 hK3=>?_
 have q1:=hd1 hK3;clear hK3;have q4:=ie (xs:=xs) H3.2.2.1 H0.2.1 (by omega);have HE:=hd1 q4;clear q4
 by_cases hm:100<n
 ·have q9:(100:Int)<(n:Int):=by omega
  go_wp2_with fail
  refine(dP A3 _ 32 c3 32 32 xs _ _ w3 H3.2.1 HE.out).mono ?_;rintro e w4 ⟨rfl,rfl⟩
  go_wp2_with fail
  refine(gX w4 H3.2.2.2.1).mono ?_;rintro e w5 ⟨rfl,hb5⟩;have H5:=hd1 hb5;clear hb5
  go_wp2_with fail
  go_ret
  exact⟨rfl,H3.1.trans (H5.out.mono (by omega))⟩
 ·have q9:¬((100:Int)<(n:Int)):=by omega
  go_wp2_with fail
  refine(dP A3 _ 32 c3 32 32 xs _ _ w3 H3.2.1 HE.out).mono ?_;rintro e w4 ⟨rfl,rfl⟩
  go_wp2_with fail
  refine q1.out _ _ ?_;clear q1 K3;refine wp_seq_k fun K4 hK4=>?_
  have qh:=hd1 hK4;clear hK4;have qg:(Zc.peB xs).length=n2:=ax H3.2.2.2.2.1;have HL:=hd1 qg;clear qg
  by_cases hz0:0≤z
  ·by_cases hz1:z<(n2:Int)
   ·obtain⟨k,rfl⟩:∃k:Nat,z=(k:Int):=⟨z.toNat,by omega⟩
    have j2:k<n2:=by omega
    have qk:k≤n2:=by omega
    have q6:(k:Int)≤(n2:Int):=by omega
    have q5:=H3.2.2.2.2.1.rdx.cap
    go_upto_region 6 with fail
    go_wp2_with fail
    refine(eZ A2 k c2 ((Zc.peB xs).take k) w4 H3.2.2.2.1 (H3.2.2.2.2.1.rdx.upto k qk) (by omega)).mono ?_;intro e w5 hI;obtain⟨hb5,rfl⟩:Below w4.heap.size w4 w5∧e=.returned (.tuple #[.slice none 0 0,.int .i64 9]):=by
     refine⟨hI.1,?_⟩;have hcut:=zR H0.2.1 (k:=k) (by have:=HL.out;omega);rcases hI.2 with⟨k',hk,_,he⟩|⟨d,A,n,c,hd,he,ho⟩
     ·rw[hcut]at hk
      injection hk with hk
      subst hk;exact he
     ·rw[hcut]at hd
      cases hd
    clear hI;have j1:=hb5.size;have H5:=hd3 (H3.1.trans (hb5.mono (by omega))) ((H3.2.2.2.2.1.below hb5 nl_).mono nl_ j1) (H3.2.2.2.2.2.keep (fun p hp=>hb5.cell (by omega)):Rd w5 W.heap.size A n c more);clear hb5
    go_wp2_with fail
    refine qh.out _ _ ?_;exact jY W w5 H0.1 H5.1 xs more H0.2.1 A A2 n c n2 c2 H5.2.1 H5.2.2 (by omega) _ _ _ _ _ _ _ _ _ _ _ _ _ _ _ _ _ _ _ _ _ _ _ _ _ _ _ _ _ _ _ _ _ _ _ _ _ _ _ _ _ _ _ _ _ _ _ _ _ _ _ _ _ _ _ _ _ _ _ _ _ _ _ _ _ _ _ _ _ _ _ _ _ _ _ _ _ _ _
   ·have j6:¬(z<(n2:Int)):=hz1
    go_wp2_with fail
    refine qh.out _ _ ?_;exact jY W w4 H0.1 H3.1 xs more H0.2.1 A A2 n c n2 c2 H3.2.2.2.2.1 H3.2.2.2.2.2 (by omega) _ _ _ _ _ _ _ _ _ _ _ _ _ _ _ _ _ _ _ _ _ _ _ _ _ _ _ _ _ _ _ _ _ _ _ _ _ _ _ _ _ _ _ _ _ _ _ _ _ _ _ _ _ _ _ _ _ _ _ _ _ _ _ _ _ _ _ _ _ _ _ _ _ _ _ _ _ _ _
  ·go_wp2_with fail
   refine qh.out _ _ ?_;exact jY W w4 H0.1 H3.1 xs more H0.2.1 A A2 n c n2 c2 H3.2.2.2.2.1 H3.2.2.2.2.2 (by omega) _ _ _ _ _ _ _ _ _ _ _ _ _ _ _ _ _ _ _ _ _ _ _ _ _ _ _ _ _ _ _ _ _ _ _ _ _ _ _ _ _ _ _ _ _ _ _ _ _ _ _ _ _ _ _ _ _ _ _ _ _ _ _ _ _ _ _ _ _ _ _ _ _ _ _ _ _ _ _
section
open Go.RowKit Go.ChangeShapes Go.WideShapes
theorem uj:Tryz.prog.cellsOf 65=1:=by kernel_rfl
theorem ij {W:World} {n:String} {g len fuel:Nat} {T:TypeId} {zs:List Nat} {cs:Array Value} {p:List MemPlace} (hg:Tryz.prog.globalNamed n=some g) (hv:W.var? Tryz.prog n=some cs) (hu:Tryz.prog.underlying T=some (.array len 65))
 (hd:DataW.trod (fun _=>()) Tryz.prog W 0 (fun _=>true) false fuel T cs.toList=some (.agg (zs.map fun(z:Nat)=>DataW.lit (.int .u64 (z:Int))),p)):∀i z,zs[i]? = some z→W.cell? ⟨g,i,none⟩=some (uv z):=by
 obtain⟨xs,m,rfl,hx,hlen,hn,hel⟩:=DataW.trod_array hu hd;simp only[Prod.mk.injEq,DataW.agg.injEq]at hx;intro i z hi;have h1:(xs.map (·.1))[i]? = some (.lit (.int .u64 (z:Int))):=by rw[←hx.1,List.getElem?_map,hi];rfl
 rw[List.getElem?_map,Option.map_eq_some_iff]at h1;obtain⟨x,hxi,hx1⟩:=h1;have qc:i<len:=by rw[←hn];exact(List.getElem?_eq_some_iff.1 hxi).1
 have h2:=hel i qc;rw[hxi,uj,Nat.mul_one]at h2;obtain⟨k,e1,e2,_⟩:=DataW.trod_int Tryz.underlying65 h2;rw[e2]at hx1;have hk:k=(z:Int):=by simpa using hx1
 subst hk;rw[World.var?_cell hg hv,←Array.getElem?_toList];have h3:((cs.toList.drop i).take 1)[0]? = some (.int .u64 (z:Int)):=by rw[e1];rfl
 rw[List.getElem?_take,List.getElem?_drop]at h3
 simpa [uv]using h3
theorem zM {W:World} {laid:List (String×DataW Unit)} (he:laid=Rows.cmsDigestRow.laid) (h:laidMet Tryz.prog laid W):cO W:=by
 subst he;obtain⟨ps,⟨g0,t0,c0,f0,p0,q0,hg0,ht0,hv0,hd0,⟨g1,t1,c1,f1,p1,q1,hg1,ht1,hv1,hq_1,⟨g2,t2,c2,f2,p2,q2,hg2,ht2,hv2,hq_2,⟨g3,t3,c3,f3,p3,q3,hg3,ht3,hv3,hq_3,⟨g4,t4,c4,f4,p4,q4,hg4,ht4,hv4,hq_4,⟨g5,t5,c5,f5,p5,q5,hg5,ht5,hv5,hq_5,_,_⟩,_⟩,_⟩,_⟩,_⟩,_⟩,_,_⟩:=h
 obtain rfl:=Option.some.inj ((show Tryz.prog.globalNamed "lintel/cms.hashes" = some 2 by kernel_rfl).symm.trans hg0)
 obtain rfl:=Option.some.inj ((show Tryz.prog.globalNamed "lintel/cms.ciphers" = some 5 by kernel_rfl).symm.trans hg1)
 obtain rfl:=Option.some.inj ((show Tryz.prog.globalNamed "lintel/cms.wrapped" = some 0 by kernel_rfl).symm.trans hg2)
 obtain rfl:=Option.some.inj ((show Tryz.prog.globalNamed "lintel/cms.kinds" = some 3 by kernel_rfl).symm.trans hg3)
 obtain rfl:=Option.some.inj ((show Tryz.prog.globalNamed "lintel/cms.digests" = some 4 by kernel_rfl).symm.trans hg4)
 obtain rfl:=Option.some.inj ((show Tryz.prog.globalNamed "lintel/cms.peImages" = some 1 by kernel_rfl).symm.trans hg5)
 obtain rfl:=Option.some.inj ((show(Tryz.prog.globals[2]?).map (·.type)=some 136 by kernel_rfl).symm.trans ht0);obtain rfl:=Option.some.inj ((show(Tryz.prog.globals[5]?).map (·.type)=some 100 by kernel_rfl).symm.trans ht1);obtain rfl:=Option.some.inj ((show(Tryz.prog.globals[0]?).map (·.type)=some 100 by kernel_rfl).symm.trans ht2);obtain rfl:=Option.some.inj ((show(Tryz.prog.globals[3]?).map (·.type)=some 100 by kernel_rfl).symm.trans ht3);obtain rfl:=Option.some.inj ((show(Tryz.prog.globals[4]?).map (·.type)=some 100 by kernel_rfl).symm.trans ht4);obtain rfl:=Option.some.inj ((show(Tryz.prog.globals[1]?).map (·.type)=some 106 by kernel_rfl).symm.trans ht5);have k0:=ij (zs:=[2,16,840,1,101,3,4,2,1]) hg0 hv0 Tryz.underlying136 hd0;have k1:=ij (zs:=[1,2,840,113549,1,1,1]) hg1 hv1 Tryz.underlying100 hq_1;have k2:=ij (zs:=[1,2,840,113549,1,7,2]) hg2 hv2 Tryz.underlying100 hq_2;have k3:=ij (zs:=[1,2,840,113549,1,9,3]) hg3 hv3 Tryz.underlying100 hq_3;have k4:=ij (zs:=[1,2,840,113549,1,9,4]) hg4 hv4 Tryz.underlying100 hq_4;have k5:=ij (zs:=[1,3,6,1,4,1,311,2,1,15]) hg5 hv5 Tryz.underlying106 hq_5;refine⟨?_,fun p hp=>?_⟩
 ·have big:∀g v,W.cell? ⟨g,0,none⟩=some v→g<W.heap.size:=fun g v h=>by
   unfold World.cell? at h
   split at h
   ·rename_i hb;exact(Array.getElem?_eq_some_iff.1 hb).1
   ·cases h
  have b0:=big _ _ (k0 0 _ rfl);have b1:=big _ _ (k1 0 _ rfl);have b2:=big _ _ (k2 0 _ rfl);have b3:=big _ _ (k3 0 _ rfl);have b4:=big _ _ (k4 0 _ rfl);have b5:=big _ _ (k5 0 _ rfl);omega
 ·unfold Zc.table at hp
  simp only[List.mem_cons,List.not_mem_nil,or_false]at hp;rcases hp with rfl|rfl|rfl|rfl|rfl|rfl
  ·exact k0
  ·exact k1
  ·exact k2
  ·exact k3
  ·exact k4
  ·exact k5
end
section
open Go.ChangeShapes Go.WideShapes Go.ChangeAt Go.RowKit
theorem oV {P:Program} {w:World} {r:Reach} {base:Nat} {t:TypeId} {v:Value} {n:Nat} {e:TypeId} (ht:P.underlying t=some (.array n e)) (h:Value.okWide P w r base t v):∃cs,v=.agg cs∧cs.size=P.cellsOf t:=by
 simp only[Value.okWide,ht]at h;obtain⟨cs,h1,h2,_⟩:=h;exact⟨cs,h1,h2⟩
theorem mq:Tryz.prog.cellsOf 47=32∧Tryz.prog.cellsOf 5=1:=⟨by kernel_rfl,by kernel_rfl⟩
theorem xt {H:Type} {enc:TypeId×Value→H} {W:World} {v:Value} {base:Nat} {d:DataW H} {p:List MemPlace} (hval:Value.okWide Tryz.prog W .any base 47 v) (h:DataW.Trod enc Tryz.prog W 0 (fun _=>true) true 47 v d p) :
 ∃xs:List UInt8,xs.length=32∧v=.agg (xs.map bv).toArray:=by
 obtain⟨cs,rfl,hs⟩:=oV Tryz.underlying47 hval;rw[mq.1]at hs;obtain⟨fuel,hf⟩:=h;have hc:(Value.agg cs).cells.toList=cs.toList:=rfl;rw[hc]at hf;obtain⟨ys,m,rfl,_,_,hn,hel⟩:=DataW.trod_array Tryz.underlying47 hf;have key:∀i,i<32→∃y:UInt8,cs.toList[i]? = some (bv y):=fun i hi=>by
  have h1:=hel i hi;rw[mq.2,Nat.mul_one]at h1;obtain⟨y,hy⟩:∃y,ys[i]? = some y:=⟨_,List.getElem?_eq_getElem (by omega)⟩
  rw[hy]at h1;obtain⟨z,e1,_,e2⟩:=DataW.trod_int Tryz.underlying5 h1;have h3:((cs.toList.drop i).take 1)[0]? = some (.int .u8 z):=by rw[e1];rfl
  rw[List.getElem?_take,List.getElem?_drop]at h3;refine⟨UInt8.ofNat z.toNat,?_⟩;have h4:cs.toList[i]? = some (.int .u8 z):=by simpa using h3
  rw[h4];unfold bv;rw[pw e2]
 refine⟨cs.toList.map fun v=>match v with|.int _ n=>UInt8.ofNat n.toNat|_=>0,by simp[hs],?_⟩;have:cs.toList=(cs.toList.map fun v=>match v with|.int _ n=>UInt8.ofNat n.toNat|_=>0).map bv:=by
  apply List.ext_getElem?
  intro i
  by_cases hi:i<32
  ·obtain⟨y,hy⟩:=key i hi
   rw[List.getElem?_map,List.getElem?_map,hy];simp[bv]
  ·rw[List.getElem?_eq_none (by simp[hs];omega),List.getElem?_eq_none (by simp[hs];omega)]
 rw[←this]
end
end Go.Proofs.YtmpkpphfoidbeaaGreatDoor
