import Derived.Test.YtmpkpphfoidbeaaGreatDoorV25
set_option linter.unusedVariables false
set_option linter.unusedSimpArgs false
set_option maxRecDepth 100000
namespace Go.Proofs.YtmpkpphfoidbeaaGreatDoor
open Go.RowKit
structure DI where
 vk:Value
 kind:List UInt8
 vc:Value
 content:List UInt8
 vcs:Value
 cs:List KI
 vss:Value
 ss:List SI
def DI.val (x:DI):Value:=.agg #[x.vk,x.vc,x.vcs,x.vss]
def DI.sd (x:DI):Sd:=⟨x.kind,x.content,x.cs.map KI.d,x.ss.map SI.s⟩
def DI.rows (x:DI):List (Value×List UInt8):=[(x.vk,x.kind)]++([(x.vc,x.content)]++(x.cs.flatMap KI.rows++x.ss.flatMap SI.rows))
structure gL (w:World) (lo hi:Nat) (x:DI):Prop where
 rows:∀p∈x.rows,az w lo hi p.1 p.2
 ap:bQ x.rows
 cs:aI 72 24 w lo hi x.vcs x.cs.length (x.cs.flatMap KI.cells)
 ss:aI 54 6 w lo hi x.vss x.ss.length (x.ss.flatMap SI.cells)
 ok:∀y∈x.cs,y.ok
def DQ (r er:Nat) (w:World) (l:List El) (e:Ending) (w':World):Prop:=
 ∃(x:DI) (er':Nat),e=.returned x.val∧w.grownBy w' (some r)∧Rr w' r er'∧er'=Zc.next er (Zc.data l)∧gL w' w.heap.size w'.heap.size x∧(er'=0→Zc.data l=.ok x.sd)
structure gM (w:World) (r er:Nat) (cs:Array Value) (g n c lo hi:Nat) (L:List EI) (W:World):Prop where
 gr:w.grownBy W (some r)
 rr:Rr W r er
 sb:aw W w.heap.size 28 cs
 ow:aU W lo hi (.slice (some ⟨g,0,none⟩) n c) L
 gl:dr W
section
variable {w W W' : World} {r er er' g n c lo hi : Nat} {cs cs' : Array Value} {L : List EI}
theorem gM.grown (h:gM w r er cs g n c lo hi L W) (hg:W.grownBy W' (some r)) (hr:Rr W' r er') (hrl:r<lo) (hrw:r<w.heap.size) (h6:6≤r):gM w r er' cs g n c lo hi L W':=
 ⟨h.gr.trans hg,hr,h.sb.grown hg (fun e=>by injection e with e;omega),h.ow.keepRows (au.grown hg hrl),h.gl.grown hg h6⟩
theorem gM.below (h:gM w r er cs g n c lo hi L W) (hb:Below W.heap.size W W'):gM w r er cs g n c lo hi L W':=
 ⟨h.gr.trans (aH hb _),h.rr.below hb,h.sb.below hb h.sb.lt,h.ow.keepRows (au.below hb nl_),h.gl.below hb⟩
theorem gM.set (h:gM w r er cs g n c lo hi L W) (i:Nat) (u:Value) (hhi:hi≤w.heap.size) (hw:6≤w.heap.size) (hrw:r<w.heap.size):gM w r er (cs.setIfInBounds i u) g n c lo hi L (W.setCell ⟨w.heap.size,i,none⟩ u):=
 ⟨⟨h.gr.os,h.gr.tape,h.gr.output,by have:=h.gr.size;simpa using this,fun k hk hne=>(Below.heap_setCell W ⟨w.heap.size,i,none⟩ u k ak).trans (h.gr.block k hk hne)⟩,h.rr.far ak _,h.sb.set_ i u,
   ⟨h.ow.1.setCell (.inr hhi) _,fun p hp=>(h.ow.2.1 p hp).setCell (.inr hhi) _,h.ow.2.2⟩,⟨by have:=h.gl.1;simpa using this,fun p hp j z hz=>(World.cell?_setCell_other W _ _ u (fun e=>by have:=(eF p hp).1;injection e with e;omega)).trans (h.gl.2 p hp j z hz)⟩⟩
theorem gM.el (h:gM w r er cs g n c lo hi L W) (hhi:hi≤w.heap.size) (k o:Nat) (hk:k<n) (ho:o=k*3) :
 ∃t A1 n1 c1 body A2 n2 c2 raw,(L.map EI.dat).getD k El.none_=(t,body,raw)∧L[k]? = some ⟨t,.slice A1 n1 c1,body,.slice A2 n2 c2,raw⟩∧W.cell? ⟨g,o,none⟩=some (.int .u8 (t.toNat:Int))∧W.cell? ⟨g,o+1,none⟩=some (.slice A1 n1 c1)∧W.cell? ⟨g,o+2,none⟩=some (.slice A2 n2 c2)∧
  Rd W W.heap.size A1 n1 c1 body∧Rd W W.heap.size A2 n2 c2 raw:=by
 obtain⟨t,A1,n1,c1,body,A2,n2,c2,raw,hx,p0,p1,p2,R1,R2,hL⟩:=h.ow.el rfl (Below.refl hi W) nl_ k o hk ho;have:=h.gr.size;exact⟨t,A1,n1,c1,body,A2,n2,c2,raw,hx,hL,p0,p1,p2,R1.more ab,R2.more ab⟩
end
theorem cV {w:World} {g:Nat} {x:DI} (h:aw w g 28 #[x.vk,x.vc,x.vcs,x.vss]):(loadVar 28 ⟨g,0,none⟩).run Tryz.prog w=.ok x.val w:=by
 have hk:=h.cell;have h0:=run_loadVar_mid (P:=Tryz.prog) w g 0 28 [x.vk,x.vc,x.vcs,x.vss] _ (fun j u hu=>by rw[Nat.zero_add,hk];simpa using hu) Tryz.underlying28 rfl rfl;exact h0
def bC (W:World) (s:Nat) (x:DI):World:=(((W.setCell ⟨s,0,none⟩ x.vk).setCell ⟨s,1,none⟩ x.vc).setCell ⟨s,2,none⟩ x.vcs).setCell ⟨s,3,none⟩ x.vss
theorem kI {W:World} {s:Nat} {x:DI}:au (s+1) W (bC W s x):=
 (((au.setCell ak _).trans (au.setCell ak _)).trans (au.setCell ak _)).trans (au.setCell ak _)
theorem dZ {W:World} {s:Nat} {x:DI}:(bC W s x).heap.size=W.heap.size:=by simp[bC]
theorem wJ {w W:World} {r er e9 g n c lo hi M1 M2 M3 M4 M5:Nat} {L:List EI} {x:DI} {l:List El} {a0 a1 a2 a3:Value} (hS:gM w r e9 #[a0,a1,a2,a3] g n c lo hi L W) (hk:az W M1 M2 x.vk x.kind) (hc:az W M3 M4 x.vc x.content) (hcs:kO W M4 M5 x.vcs x.cs) (hok:∀y∈x.cs,y.ok)
 (hss:o7 W M5 W.heap.size x.vss x.ss) (h1:w.heap.size+1≤M1) (h12:M1≤M2) (h2:M2≤M3) (h3:M3≤M4) (h4:M4≤M5) (h5:M5≤W.heap.size) (hhi:hi≤w.heap.size) (hw6:6≤w.heap.size) (hrw:r<w.heap.size) (hf:e9=Zc.next er (Zc.data l)∧(e9=0→Zc.data l=.ok x.sd)) :
 DQ r er w l (.returned x.val) (bC W w.heap.size x)∧aw (bC W w.heap.size x) w.heap.size 28 #[x.vk,x.vc,x.vcs,x.vss]:=by
 have qd:=(((hS.set 0 x.vk hhi hw6 hrw).set 1 x.vc hhi hw6 hrw).set 2 x.vcs hhi hw6 hrw).set 3 x.vss hhi hw6 hrw;have qg:=kI (W:=W) (s:=w.heap.size) (x:=x);have hA:=ep (l:=[(x.vk,x.kind)]) (l':=[(x.vc,x.content)]++(x.cs.flatMap KI.rows++x.ss.flatMap SI.rows)) (W:=W) (lo:=M1) (mid:=M2) (hi:=W.heap.size) (fun p hp=>by obtain rfl:=List.mem_singleton.1 hp;exact hk)
  (fun p hp=>by
    rcases List.mem_append.1 hp with hp|hp
    ·obtain rfl:=List.mem_singleton.1 hp;exact hc.mono h2 ab
    ·rcases List.mem_append.1 hp with hp|hp
     ·exact(hcs.2.1 p hp).mono ab h5
     ·exact(hss.2.1 p hp).mono ab nl_) (.cons (fun y hy=>by simp at hy) .nil)
  (ep (W:=W) (lo:=M3) (mid:=M4) (hi:=W.heap.size) (fun p hp=>by obtain rfl:=List.mem_singleton.1 hp;exact hc) (fun p hp=>by
    rcases List.mem_append.1 hp with hp|hp
    ·exact(hcs.2.1 p hp).mono nl_ h5
    ·exact(hss.2.1 p hp).mono h4 nl_) (.cons (fun y hy=>by simp at hy) .nil)
    (ep (W:=W) (lo:=M4) (mid:=M5) (hi:=W.heap.size) hcs.2.1 hss.2.1 hcs.2.2 hss.2.2))
 have qc:∀{v:Value} {xs:List UInt8} {a b:Nat},az W a b v xs→w.heap.size+1≤a→b≤W.heap.size→az (bC W w.heap.size x) w.heap.size (bC W w.heap.size x).heap.size v xs:=fun h ha hb=>(h.keepRows (qg.mono ha)).mono ab (by rw[dZ];exact hb)
 refine⟨⟨x,e9,rfl,qd.gr,qd.rr,hf.1,⟨fun p hp=>?_,hA,?_,?_,hok⟩,hf.2⟩,?_⟩
 ·rcases List.mem_append.1 hp with hp|hp
  ·obtain rfl:=List.mem_singleton.1 hp;exact qc hk h1 ab
  ·rcases List.mem_append.1 hp with hp|hp
   ·obtain rfl:=List.mem_singleton.1 hp;exact qc hc ab ab
   ·rcases List.mem_append.1 hp with hp|hp
    ·exact qc (hcs.2.1 p hp) ab h5
    ·exact qc (hss.2.1 p hp) ab nl_
 ·exact(hcs.1.keepRows (qg.mono ab)).mono ab (by rw[dZ];exact h5)
 ·exact(hss.1.keepRows (qg.mono ab)).mono ab (by rw[dZ];exact Nat.le_refl _)
 ·unfold bC;simpa using qd.sb
theorem Zc.data_inner {what:List El} (h:what.length≠2):Zc.inner what=.ok []:=by unfold Zc.inner;rw[if_neg h]
set_option maxHeartbeats 8000000 in
theorem xH (r er lo hi g n c m:Nat) (L:List EI) (w:World) (h:Rr w r er) (h6:6≤r) (hG:dr w) (hE:aU w lo hi (.slice (some ⟨g,0,none⟩) n c) L) (hrl:r<lo) (hhi:hi≤w.heap.size) (hn:n=4∨n=5) (hm:∀y∈L.map EI.dat,y.2.1.length≤m∧y.2.2.length≤m) (hm2:m≤1099511627) :
 Calls Tryz.prog 49 #[.pointer (some ⟨r,0,none⟩),.slice (some ⟨g,0,none⟩) n c] w (DQ r er w (L.map EI.dat)):=by
 have qd:=h.lt;have yh:=hG.1;have kk:=eK hE;have zs:Below w.heap.size w (w.alloc (.cells #[.slice none 0 0,.slice none 0 0,.slice none 0 0,.slice none 0 0] 28)):=br_.alloc nl_ _;have vo:gM w r er #[.slice none 0 0,.slice none 0 0,.slice none 0 0,.slice none 0 0] g n c lo hi L (w.alloc (.cells #[.slice none 0 0,.slice none 0 0,.slice none 0 0,.slice none 0 0] 28)):=
  ⟨aH zs _,h.below zs,aw.new _ _ _,hE.keepRows (au.below zs nl_),hG.below zs⟩
 obtain⟨ta,Aa,na,ca,ba,Ab,nb,cb,ra,hxa,hLa,p0,p1,p2,Ra,Ra'⟩:=vo.el hhi 0 0 ab rfl;have HM:=hd2 hm kk;have H0:=hd3 vo hxa Ra';have k0:w.cell? ⟨g,0,none⟩=some (.int .u8 (ta.toNat:Int))∧w.cell? ⟨g,1,none⟩=some (.slice Aa na ca)∧w.cell? ⟨g,2,none⟩=some (.slice Ab nb cb):=hE.cells3 hLa 0 1 2 ⟨rfl,rfl,rfl⟩;obtain⟨q0,q1,q2⟩:=k0;have pa:g<w.heap.size:=by obtain⟨g',e,h1,_⟩:=hE.spot_ ab;injection e with e;injection e with e _;omega
 clear h hG hE hm kk zs vo hxa hLa Ra Ra' p0 p1 p2
 go_enter Tryz.func49,Tryz.ntmps49
 go_wp2_with fail
 refine(rQ r er ta (.slice Aa na ca) Ab nb cb ba ra _ H0.1.rr H0.2.2).mono ?_;rintro e w1 ⟨rfl,hg1,hr1⟩;obtain⟨e1,he1⟩:∃e,e=Zc.next er (Zc.one (ta,ba,ra)):=⟨_,rfl⟩
 rw[←he1]at hr1;have a1:=(Zc.At.start er (Zc.data (L.map EI.dat))).step (er':=e1) (a:=()) .form (by rw[H0.2.1];exact he1) (by rw[H0.2.1];exact Zc.form_zero he1);have vp:=H0.1.grown hg1 hr1 hrl qd h6;have p3:w.heap.size+1≤w1.heap.size:=by have:=hg1.size;simpa using this
 obtain⟨tb,Ac,nc,cc,bb,Ad,nd,cd,rb,hxb,hLb,p0,p1,p2,Rb,_⟩:=vp.el hhi 1 3 ab rfl;have pb:nc≤m:=by have:=(cG HM.1 hxb (show 1<n by omega) HM.2).1;have:=Rb.len;omega
 have H1:=hd4 vp a1 hxb Rb;clear hg1 hr1 he1 a1 vp hxb hLb Rb q0 q1 q2
 go_wp2_with fail
 refine(bL r e1 tb Ac Ad nc cc nd cd 49 1 1 bb rb _ H1.1.rr H1.2.2.2 ab (.inr (.inl rfl)) ab).mono ?_;rintro e w2 ⟨A2,n2,c2,L2,e2,rfl,hg2,hr2,he2,hE2,j7,hlo2,hhi2,_,hm2',hok2⟩;obtain rfl:n2=1:=ab
 have p4:w1.heap.size≤w2.heap.size:=hg2.size;obtain⟨g2,rfl,hg2h,hg2l⟩:=hE2.spot_ ab;have a2:=H1.2.1.step (er':=e2) (a:=L2.map EI.dat) .parts (by rw[H1.2.2.1];exact he2) (by rw[H1.2.2.1];exact hok2);have kb:=H1.1.grown hg2 hr2 hrl qd h6;obtain⟨tc,Ae,ne,ce,be,Af,nf,cf,re,hxc,q0,q1,q2,Rc,_,hLc⟩:=hE2.el rfl (Below.refl w2.heap.size w2) nl_ 0 0 ab rfl;have kt:ne≤m:=by have:=(cG hm2' hxc (show 0<1 by omega) j7).1;have:=Rc.len;omega
 have H2:=hd4 kb a2 hxc Rc;clear hg2 hr2 he2 hE2 j7 hlo2 hhi2 hm2' hok2 a2 kb hxc Rc hLc p0 p1 p2
 go_wp2_with fail
 refine(k7 r e2 tc Ae Af ne ce nf cf be re _ H2.1.rr h6 H2.1.gl H2.2.2.2 ab).mono ?_;rintro e w3 ⟨rfl,hg3,hr3⟩;obtain⟨e3,he3⟩:∃e,e=Zc.next e2 (Zc.hash (tc,be,re)):=⟨_,rfl⟩
 rw[←he3]at hr3;have a3:=H2.2.1.step (er':=e3) (a:=()) .hash (by rw[H2.2.2.1];exact he3) (by rw[H2.2.2.1];exact Zc.unit_zero .hash he3);have vt:=H2.1.grown hg3 hr3 hrl qd h6;have p5:w2.heap.size≤w3.heap.size:=hg3.size;obtain⟨td,Ag,ng,cg,bg,Ah,nh,ch,rg,hxd,hLd,p0,p1,p2,Rd_,_⟩:=vt.el hhi 2 6 ab rfl;have ps:ng≤m:=by have:=(cG HM.1 hxd (show 2<n by omega) HM.2).1;have:=Rd_.len;omega
 have H3:=hd4 vt a3 hxd Rd_;clear hg3 hr3 he3 a3 vt hxd hLd Rd_ q0 q1 q2
 go_wp2_with fail
 refine(bL r e3 td Ag Ah ng cg nh ch 48 1 2 bg rg _ H3.1.rr H3.2.2.2 ab (.inr (.inl rfl)) ab).mono ?_;rintro e w4 ⟨A4,n4,c4,L4,e4,rfl,hg4,hr4,he4,hE4,hnl4,hlo4,hhi4,_,hm4,hok4⟩;have hn4:n4≤2:=ab
 have p6:w3.heap.size≤w4.heap.size:=hg4.size;obtain⟨g4,rfl,hg4h,hg4l⟩:=hE4.spot_ ab;have a4:=H3.2.1.step (er':=e4) (a:=L4.map EI.dat) .parts (by rw[H3.2.2.1];exact he4) (by rw[H3.2.2.1];exact hok4);have kc:=H3.1.grown hg4 hr4 hrl qd h6;obtain⟨te,Ai,ni,ci,bi,Aj,nj,cj,rj,hxe,q0,q1,q2,Re,_,hLe⟩:=hE4.el rfl (Below.refl w4.heap.size w4) nl_ 0 0 ab rfl;have pv:ni≤m:=by have:=(cG hm4 hxe (show 0<n4 by omega) hnl4).1;have:=Re.len;omega
 have vi:=hd2 hm4 hnl4;have H4:=hd6 kc a4 hxe Re hE4 hLe;clear hg4 hr4 he4 hE4 hnl4 hhi4 hm4 hok4 a4 kc hxe Re hLe p0 p1 p2
 go_wp2_with fail
 refine(kX r e4 te Ai ni ci (.slice Aj nj cj) bi rj _ H4.1.rr H4.2.2.2.1 ab).mono ?_;rintro e w5 ⟨rfl,hg5,hr5⟩;obtain⟨e5,he5⟩:∃e,e=Zc.next e4 (Zc.oid (te,bi,rj)):=⟨_,rfl⟩
 rw[←he5]at hr5;have a5:=H4.2.1.step (er':=e5) (a:=bi) .oid (by rw[H4.2.2.1];exact he5) (by rw[H4.2.2.1];exact Zc.oid_zero he5);have vv:=H4.1.grown hg5 hr5 hrl qd h6;have p7:w4.heap.size≤w5.heap.size:=hg5.size;have v7:=H4.2.2.2.2.1.keepRows (au.grown hg5 ab);obtain⟨s0,s1⟩:=vv.sb.facts;have kd:=vv.set 0 (.slice Ai ni ci) hhi yh qd;have ke:au (w.heap.size+1) w5 (w5.setCell ⟨w.heap.size,0,none⟩ (.slice Ai ni ci)):=au.setCell ak _;have v8:=v7.keepRows (ke.mono ab);have k4:w5.heap.size≤(w5.setCell ⟨w.heap.size,0,none⟩ (.slice Ai ni ci)).heap.size:=ag
 have H5:=hd3 kd v8 a5;clear hg5 hr5 he5 a5 vv v7 kd ke v8 q0 q1 q2;obtain⟨w6,hw6'⟩:∃W,W=w5.setCell ⟨w.heap.size,0,none⟩ (.slice Ai ni ci):=⟨_,rfl⟩
 go_upto_region 5 with fail
 rw[←hw6']at H5 k4 ⊢;clear s0 s1 hw6';have ks:w.heap.size+1≤w3.heap.size:=ab
 have v0:w4.heap.size≤w6.heap.size:=ab
 have kf:(L4.map EI.dat).length=n4:=by rw[List.length_map,←vi.2]
 have v1:=hd1 kf;clear kf
 go_upto_if 35 with fail
 go_cut [] from 8 (fun wx=>∃(e7:Nat) (vc:Value) (cont:List UInt8),gM w r e7 #[.slice Ai ni ci,vc,.slice none 0 0,.slice none 0 0] g n c lo hi L wx∧aU wx w3.heap.size w4.heap.size (.slice (some ⟨g4,0,none⟩) n4 c4) L4∧w6.heap.size≤wx.heap.size∧az wx w6.heap.size wx.heap.size vc cont∧
  Zc.At er (Zc.data (L.map EI.dat)) e7 ((Zc.some_ (L.map EI.dat)).bind fun cs=>(Zc.signers ((L.map EI.dat).getD ((L.map EI.dat).length - 1) El.none_)).bind fun ss=>.ok (⟨bi,cont,cs,ss⟩:Sd)))
 case first=>
  rcases(show n4=1∨n4=2 by omega) with h4|h4
  ·subst h4
   have ha:Zc.inner (L4.map EI.dat)=.ok []:=Zc.data_inner (by rw[v1.out];decide);have a6:=H5.2.2.step (er':=e5) (a:=[]) (by rw[ha];exact .ok _) (by rw[ha,Zc.next_ok]) (fun _=>ha);have H6:=hd1 a6;clear ha a6
   go_wp2
   go_meet
   case rel=>exact⟨e5,.slice none 0 0,[],H5.1,H5.2.1,Nat.le_refl _,az.nil_,H6.out⟩
  ·subst h4
   obtain⟨tf,Ak,nk,ck,bk,Al,nl,cl,rl,hxf,q0,q1,q2,Rf,_,hLf⟩:=H5.2.1.el rfl (Below.refl w4.heap.size w6) nl_ 1 3 ab rfl;have kv:nk≤m:=by have:=(cG vi.1 hxf (show 1<2 by omega) vi.2).1;have:=Rf.len;omega
   have HF:=hd2 hxf (Rf.more v0);clear hxf Rf hLf
   go_wp2_with fail
   refine(bL r e5 tf Ak Al nk ck nl cl 160 1 1 bk rl _ H5.1.rr HF.2 ab (.inr (.inl rfl)) ab).mono ?_;rintro e w7 ⟨A7,n7,c7,L7,e7,rfl,hg7,hr7,he7,hE7,hnl7,hlo7,hhi7,_,hm7,hok7⟩;obtain rfl:n7=1:=ab
   have kl:w6.heap.size≤w7.heap.size:=hg7.size;obtain⟨g7,rfl,hg7h,hg7l⟩:=hE7.spot_ ab;have j8:=H5.1.grown hg7 hr7 hrl qd h6;have yy:=H5.2.1.keepRows (au.grown hg7 ab);obtain⟨tg,Am,nm,cm,bm,An,nn,cn,rn,hxg,u0,u1,u2,_,_,hLg⟩:=hE7.el rfl (Below.refl w7.heap.size w7) nl_ 0 0 ab rfl;have y3:=hE7.own2 hLg;have j5:Zc.inner (L4.map EI.dat)=(Zc.parts 160 1 1 (tf,bk,rl)).bind fun m=>.ok (m.getD 0 El.none_).2.2:=by unfold Zc.inner;rw[if_pos v1.out,HF.1]
   have a7:=H5.2.2.step (er':=e7) (a:=rn) .inner (by rw[j5];exact Zc.next_map he7) (fun h=>by rw[j5];have:=hok7 h;rw[show Zc.parts 160 1 1 (tf,bk,rl)=_ from this];show Except.ok ((L7.map EI.dat).getD 0 El.none_).2.2=_;rw[hxg]);obtain⟨s0,s1⟩:=j8.sb.facts;have yd:=j8.set 1 (.slice An nn cn) hhi yh qd;have vw:au (w.heap.size+1) w7 (w7.setCell ⟨w.heap.size,1,none⟩ (.slice An nn cn)):=au.setCell ak _;have v9:=yy.keepRows (vw.mono ab);have y4:=(y3.keepRows (vw.mono ab))
   have H8:=hd4 yd v9 y4 a7;clear hg7 hr7 he7 hE7 hnl7 hlo7 hhi7 hm7 hok7 a7 j5 j8 yy y3 yd vw v9 y4 q0 q1 q2
   go_wp2
   go_meet
   case rel=>exact⟨e7,.slice An nn cn,rn,H8.1,H8.2.1,by simpa using kl,H8.2.2.1.mono nl_ ag,H8.2.2.2⟩
 case rest=>
  obtain⟨e7,vc,cont,j8,hE7,kl,y3,a7⟩:=hcut;obtain⟨w7,hw7⟩:∃W,W=wc:=⟨_,rfl⟩
  subst hw7;have y5:=(hE7.own1 H4.2.2.2.2.2)
  have H7:=hd4 j8 y5 y3 a7;clear j8 hE7 y3 a7 y5;apply_assumption
  go_upto_if 47 with fail
  go_cut [] from 8 (fun wx=>∃(e9:Nat) (vcs:Value) (cs:List KI),gM w r e9 #[.slice Ai ni ci,vc,vcs,.slice none 0 0] g n c lo hi L wx∧az wx w3.heap.size w4.heap.size (.slice Ai ni ci) bi∧az wx w6.heap.size w7.heap.size vc cont∧kO wx w7.heap.size wx.heap.size vcs cs∧(∀y∈cs,y.ok)∧w7.heap.size≤wx.heap.size∧
   Zc.At er (Zc.data (L.map EI.dat)) e9 ((Zc.signers ((L.map EI.dat).getD ((L.map EI.dat).length - 1) El.none_)).bind fun ss=>.ok (⟨bi,cont,cs.map KI.d,ss⟩:Sd)))
  case first=>
   rcases hn with hn4|hn5
   ·subst hn4
    have ha:Zc.some_ (L.map EI.dat)=.ok []:=by unfold Zc.some_;rw[if_neg (by rw[List.length_map,←HM.2];decide)]
    have a8:=H7.2.2.2.step (er':=e7) (a:=[]) (by rw[ha];exact .ok _) (by rw[ha,Zc.next_ok]) (fun _=>ha);have H8:=hd1 a8;clear ha a8
    go_wp2
    go_meet
    case rel=>exact⟨e7,.slice none 0 0,[],H7.1,H7.2.1,H7.2.2.1,dR.nil_,(fun y hy=>by simp at hy),Nat.le_refl _,H8.out⟩
   ·subst hn5
    obtain⟨tf,Ak,nk,ck,bk,Al,nl,cl,rl,hxf,hLf,q0,q1,q2,Rf,_⟩:=H7.1.el hhi 3 9 ab rfl;have kv:nk≤m:=by have:=(cG HM.1 hxf (show 3<5 by omega) HM.2).1;have:=Rf.len;omega
    have HF:=hd2 hxf Rf;clear hxf Rf hLf
    go_wp2_with fail
    refine(vx r e7 tf Ak Al nk ck nl cl bk rl _ H7.1.rr h6 HF.2 ab).mono ?_;rintro e w8 ⟨vcs,cs,e9,rfl,hg8,hr8,he8,hK8,hkok,hok8⟩;have k5:w7.heap.size≤w8.heap.size:=hg8.size;obtain⟨Avc,ccs,hvcs⟩:=hK8.shape;subst hvcs;have yd:=H7.1.grown hg8 hr8 hrl qd h6;have j5:Zc.some_ (L.map EI.dat)=Zc.certs (tf,bk,rl):=by unfold Zc.some_;rw[if_pos (by rw[List.length_map,←HM.2]),HF.1]
    have a8:=H7.2.2.2.step (er':=e9) (a:=cs.map KI.d) .some_ (by rw[j5];exact he8) (by rw[j5];exact hok8);have y4:=H7.2.2.1.keepRows (au.grown hg8 ab);have y6:=H7.2.1.keepRows (au.grown hg8 ab);obtain⟨s0,s1⟩:=yd.sb.facts;have zn:=yd.set 2 (.slice Avc cs.length ccs) hhi yh qd;have j6:au (w.heap.size+1) w8 (w8.setCell ⟨w.heap.size,2,none⟩ (.slice Avc cs.length ccs)):=au.setCell ak _;have H9:=hd6 zn (y6.keepRows (j6.mono ab)) (y4.keepRows (j6.mono ab)) (hK8.keepRows (j6.mono ab)) hkok a8;clear hg8 hr8 he8 hK8 hkok hok8 yd j5 a8 y4 y6 zn j6 q0 q1 q2
    go_wp2
    go_meet
    case rel=>exact⟨e9,.slice Avc cs.length ccs,cs,H9.1,H9.2.1,H9.2.2.1,H9.2.2.2.1.mono nl_ ag,H9.2.2.2.2.1,by simpa using k5,H9.2.2.2.2.2⟩
  case rest=>
   obtain⟨e9,vcs,cs,zn,j6,hc9,hK9,hkok,hs9,a9⟩:=hcut;obtain⟨w9,hw9⟩:∃W,W=wc:=⟨_,rfl⟩
   subst hw9;have H9:=hd6 zn j6 hc9 hK9 hkok a9;clear zn j6 hc9 hK9 hkok a9;apply_assumption;obtain⟨tl,Al,nl,cl,bl,Am,nm,cm,rl,hxl,hLl,q0,q1,q2,Rl,_⟩:=H9.1.el hhi (n - 1) ((n - 1)*3) ab rfl;have j7:nl≤m:=by have:=(cG HM.1 hxl (show n - 1<n by omega) HM.2).1;have:=Rl.len;omega
   have HX:=hd3 hxl Rl hLl;clear hxl hLl Rl
   go_upto_region 9 with fail
   go_cut [6] from 8 (fun s6 wx=>s6=.pointer (some ⟨w9.heap.size,0,none⟩)∧w9.alloc (.cells #[.int .u8 (tl.toNat:Int),.slice Al nl cl,.slice Am nm cm] 84)=wx)
   case first=>
    rcases hn with hn4|hn5
    ·subst hn4
     have j0:w9.cell? ⟨g,9,none⟩=some (.int .u8 (tl.toNat:Int)):=q0;have j1:w9.cell? ⟨g,10,none⟩=some (.slice Al nl cl):=q1;have j2:w9.cell? ⟨g,11,none⟩=some (.slice Am nm cm):=q2;clear q0 q1 q2
     go_wp2
     go_meet
     case rel=>exact⟨rfl,rfl⟩
    ·subst hn5
     have j0:w9.cell? ⟨g,12,none⟩=some (.int .u8 (tl.toNat:Int)):=q0;have j1:w9.cell? ⟨g,13,none⟩=some (.slice Al nl cl):=q1;have j2:w9.cell? ⟨g,14,none⟩=some (.slice Am nm cm):=q2;clear q0 q1 q2
     go_wp2
     go_meet
     case rel=>exact⟨rfl,rfl⟩
   obtain⟨rfl,rfl⟩:=hcut;apply_assumption;have j3:Below w9.heap.size w9 (w9.alloc (.cells #[.int .u8 (tl.toNat:Int),.slice Al nl cl,.slice Am nm cm] 84)):=br_.alloc nl_ _;have qg:=aw.new w9 84 #[.int .u8 (tl.toNat:Int),.slice Al nl cl,.slice Am nm cm];have q7:=H9.1.below j3;have vn:=HX.2.1.up j3;obtain⟨w10,hw10⟩:∃W,W=w9.alloc (.cells #[.int .u8 (tl.toNat:Int),.slice Al nl cl,.slice Am nm cm] 84):=⟨_,rfl⟩
   have kx:w9.heap.size<w10.heap.size:=by rw[hw10];simp
   rw[←hw10]at j3 qg q7 vn ⊢;obtain⟨j0,j1,j2⟩:w10.cell? ⟨w9.heap.size,0,none⟩=some (.int .u8 (tl.toNat:Int))∧w10.cell? ⟨w9.heap.size,1,none⟩=some (.slice Al nl cl)∧w10.cell? ⟨w9.heap.size,2,none⟩=some (.slice Am nm cm):=⟨qg.cell 0,qg.cell 1,qg.cell 2⟩
   have z2:=H9.2.1.keepRows (au.below j3 nl_);have zz:=H9.2.2.1.keepRows (au.below j3 nl_);have y0:=H9.2.2.2.1.keepRows (au.below j3 nl_);have q4:=hd6 q7 qg vn z2 zz y0;clear j3 qg q7 vn hw10 z2 zz y0 q0 q1 q2;have q5:(L.map EI.dat).getD ((L.map EI.dat).length - 1) El.none_=(tl,bl,rl):=by rw[List.length_map,←HM.2];exact HX.1
   have a9:=H9.2.2.2.2.2;rw[q5]at a9;unfold Zc.signers at a9;simp only[Zc.assoc]at a9;have HA:=hd1 a9;clear a9 q5;have z7:bl.length=nl:=q4.2.2.1.len;have kn:=hd1 z7;clear z7
   go_wp2_with fail
   refine(bL r e9 tl Al Am nl cl nm cm 49 1 nl bl rl _ q4.1.rr q4.2.2.1 ab (.inr (.inl rfl)) ab).mono ?_;rintro e w11 ⟨A11,n11,c11,L11,e11,rfl,hg11,hr11,he11,hE11,hnl11,hlo11,_,hhm11,hm11,hok11⟩;have ky:w10.heap.size≤w11.heap.size:=hg11.size;have e0:Zc.parts 49 1 (bl.length:Int) (tl,bl,rl)=Zc.parts 49 ((1:Nat):Int) (nl:Int) (tl,bl,rl):=by rw[kn.out];rfl
   have v3:=HA.out.step (er':=e11) (a:=L11.map EI.dat) .parts (by show e11=Zc.next e9 (Zc.parts 49 1 (bl.length:Int) (tl,bl,rl));rw[e0];exact he11) (fun h=>by show Zc.parts 49 1 (bl.length:Int) (tl,bl,rl)=_;rw[e0];exact hok11 h);clear e0;have q3:=q4.1.grown hg11 hr11 hrl qd h6;have ys:=q4.2.1.grown hg11 (fun e=>by injection e with e;omega);have z3:=q4.2.2.2.1.keepRows (au.grown hg11 ab);have z0:=q4.2.2.2.2.1.keepRows (au.grown hg11 ab);have y1:=q4.2.2.2.2.2.keepRows (au.grown hg11 ab);have v2:Rd w11 w11.heap.size Al nl cl bl:=(q3.ow.own1 HX.2.2).rdx.more (by have:=q3.gr.size;omega);have k6:w11.cell? ⟨w9.heap.size,1,none⟩=some (.slice Al nl cl):=ys.cell 1;have vy:n11≤1099511627:=ab
   have qv:=hd9 q3 z3 z0 y1 v2 (hE11.mono (lo':=w10.heap.size) nl_ nl_) hnl11 hm11 v3;clear hg11 hr11 he11 hE11 hnl11 hhm11 hm11 hok11 v3 q3 ys z3 z0 y1 v2 j0 j1 j2
   go_wp2_with fail
   refine(rZ Al nl cl bl _ qv.2.2.2.2.1).mono ?_;rintro e w12 ⟨rfl,hb12⟩;obtain⟨q,hq⟩:∃q,Der.chain [] (Der.seq bl)=q:=⟨_,rfl⟩
   rw[hq];have kz:w11.heap.size≤w12.heap.size:=hb12.size;have va:=hd3 (qv.1.below hb12) hb12 hq;clear hb12 hq k6
   go_wp2_with fail
   refine(cB r e11 q _ va.1.rr).mono ?_;rintro e w13 ⟨rfl,hg13,hr13⟩;obtain⟨e13,he13⟩:∃e,e=Zc.next e11 (Zc.form q):=⟨_,rfl⟩
   rw[←he13]at hr13;rw[←va.2.2]at he13;have v4:=qv.2.2.2.2.2.2.2.2.step (er':=e13) (a:=()) .form he13 (Zc.form_zero he13);have k1:w12.heap.size≤w13.heap.size:=hg13.size;have ve:=hd3 (va.1.grown hg13 hr13 hrl qd h6) hg13 v4;clear hg13 hr13 he13 v4
   go_wp2_with fail
   refine(ik r e13 10 _ _ ve.1.rr).mono ?_;rintro e w14 ⟨rfl,hg14,hr14⟩;obtain⟨e14,he14⟩:∃e,e=Zc.next e13 (Zc.must (decide (n11≤8)) 10):=⟨_,rfl⟩
   replace hr14:Rr w14 r e14:=by
    rw[he14,show decide (n11≤8)=decide ((n11:Int)≤8) by rw[Bool.eq_iff_iff];simp;omega];exact hr14
   have v5:=ve.2.2.step (er':=e14) (a:=()) (.must ab) (by rw[List.length_map,←qv.2.2.2.2.2.2.1];exact he14) (by rw[List.length_map,←qv.2.2.2.2.2.2.1];exact Zc.unit_zero (.must ab) he14);have k2:w13.heap.size≤w14.heap.size:=hg14.size;have qk:=ve.1.grown hg14 hr14 hrl qd h6;have qc:au (w.heap.size+1) w11 w14:=((au.below va.2.1 nl_).trans (au.grown ve.2.1 ab)).trans (au.grown hg14 ab);have z4:=qv.2.1.keepRows (qc.mono ab);have j4:=qv.2.2.1.keepRows (qc.mono ab);have q6:=qv.2.2.2.1.keepRows (qc.mono ab);have yv:=qv.2.2.2.2.2.1.keepRows (qc.mono ab);have ko:=hr14.cell;obtain⟨Avc,ncc,ccc,hvc,_⟩:=j4.rd;obtain⟨Avk,cvk,hvk⟩:=q6.shape;subst hvc hvk;have qh:=hd6 qk z4 j4 q6 yv v5;clear hg14 hr14 he14 v5 qc z4 j4 q6 yv
   by_cases h0:e14=0
   ·subst h0
    clear qk
    go_wp2_with fail
    refine(vD r 0 w10.heap.size w11.heap.size n11 c11 nl A11 L11 w14 qh.1.rr h6 qh.1.gl qh.2.2.2.2.1 ab ab qv.2.2.2.2.2.2.2.1 ab vy).mono ?_;rintro e w15 ⟨v,ll,e15,rfl,hg15,hr15,he15,hO15,hll,hok15⟩;clear hll;obtain⟨Avs,cvs,hvs⟩:=hO15.shape;subst hvs;have v6:=(qh.2.2.2.2.2.step (er':=e15) (a:=ll.map SI.s) (.each (fun _=>.signer) _) he15 hok15).fin;have k3:w14.heap.size≤w15.heap.size:=hg15.size;have q9:=qh.1.grown hg15 hr15 hrl qd h6;have z5:=qh.2.1.keepRows (au.grown hg15 ab);have z1:=qh.2.2.1.keepRows (au.grown hg15 ab);have y2:=qh.2.2.2.1.keepRows (au.grown hg15 ab);obtain⟨s0,s1⟩:=q9.sb.facts;have y7:=q9.set 3 (.slice Avs ll.length cvs) hhi yh qd;have z6:au (w.heap.size+1) w15 (w15.setCell ⟨w.heap.size,3,none⟩ (.slice Avs ll.length cvs)):=au.setCell ak _;have qs:=wJ (er:=er) (l:=L.map EI.dat) (x:=⟨.slice Ai ni ci,bi,.slice Avc ncc ccc,cont,.slice Avk cs.length cvk,cs,.slice Avs ll.length cvs,ll⟩) (M1:=w3.heap.size) (M2:=w4.heap.size) (M3:=w6.heap.size) (M4:=w7.heap.size) (M5:=w14.heap.size) y7 (z5.keepRows (z6.mono ab)) (z1.keepRows (z6.mono ab)) ((y2.keepRows (z6.mono ab)).mono nl_ ab) H9.2.2.2.2.1 ((hO15.keepRows (z6.mono ab)).mono nl_ ag) ab ab ab ab ab ai hhi yh qd v6;have HF:=hd1 qs;clear hg15 hr15 he15 hO15 hok15 v6 q9 z5 z1 y2 y7 z6 qs ko
    go_wp2
    obtain⟨hB,hQ⟩:=HF.out.symm;change bodyPost _ _ _ _ _ (bC (w15.setCell ⟨w.heap.size,3,none⟩ (.slice Avs ll.length cvs)) w.heap.size ⟨.slice Ai ni ci,bi,.slice Avc ncc ccc,cont,.slice Avk cs.length cvk,cs,.slice Avs ll.length cvs,ll⟩);generalize bC (w15.setCell ⟨w.heap.size,3,none⟩ (.slice Avs ll.length cvs)) w.heap.size ⟨.slice Ai ni ci,bi,.slice Avc ncc ccc,cont,.slice Avk cs.length cvk,cs,.slice Avs ll.length cvs,ll⟩=WZ at hB hQ ⊢;exact bodyPost_ret (cJ Tryz.results49 _ _ _ ⟨w.heap.size,0,none⟩ _ rfl (cV hB)) rfl hQ
   ·have kt:((e14:Int)==0)=false:=ai
    obtain⟨s0,s1⟩:=qk.sb.facts;have qs:=wJ (er:=er) (l:=L.map EI.dat) (x:=⟨.slice Ai ni ci,bi,.slice Avc ncc ccc,cont,.slice Avk cs.length cvk,cs,.slice none 0 0,[]⟩) (M1:=w3.heap.size) (M2:=w4.heap.size) (M3:=w6.heap.size) (M4:=w7.heap.size) (M5:=w14.heap.size) qk qh.2.1 qh.2.2.1 (qh.2.2.2.1.mono nl_ ab) H9.2.2.2.2.1 dR.nil_ ab ab ab ab ab ab hhi yh qd ⟨qh.2.2.2.2.2.2 h0,fun h=>absurd h h0⟩;have HF:=hd1 qs;clear qk qs h0
    go_wp2
    obtain⟨hB,hQ⟩:=HF.out.symm;change bodyPost _ _ _ _ _ (bC w14 w.heap.size ⟨.slice Ai ni ci,bi,.slice Avc ncc ccc,cont,.slice Avk cs.length cvk,cs,.slice none 0 0,[]⟩);generalize bC w14 w.heap.size ⟨.slice Ai ni ci,bi,.slice Avc ncc ccc,cont,.slice Avk cs.length cvk,cs,.slice none 0 0,[]⟩=WZ at hB hQ ⊢;exact bodyPost_ret (cJ Tryz.results49 _ _ _ ⟨w.heap.size,0,none⟩ _ rfl (cV hB)) rfl hQ
def DI.zero:DI:=⟨.slice none 0 0,[],.slice none 0 0,[],.slice none 0 0,[],.slice none 0 0,[]⟩
def jB (b:List UInt8) (w:World) (e:Ending) (w':World):Prop:=Below w.heap.size w w'∧
 ((∃k,Zc.parse b=.error k∧k≠0∧e=.returned (.tuple #[DI.zero.val,.int .i64 (k:Int)]))∨∃x:DI,Zc.parse b=.ok x.sd∧e=.returned (.tuple #[x.val,.int .i64 0])∧gL w' w.heap.size w'.heap.size x)
theorem dF {fn:Func} {t u:Tmp} {ty:TypeId} (h:fn.results=#[.cell t ty,.tmp u]) (tmps:Array Value) (P:Program) (w:World) (ad:Addr) (v x:Value) (ha:tmps.getD t undef=.pointer (some ad)) (hl:(loadVar ty ad).run P w=.ok v w) (hu:tmps.getD u undef=x):(results fn tmps).run P w=.ok (.tuple #[v,x]) w:=by
 simp only[Array.getD_eq_getD_getElem?]at ha hu;simp[results,h,ha,hl,hu,asAddr]
theorem jn {W:World} {s:Nat} {x:DI} {a0 a1 a2 a3:Value} (h:aw W s 28 #[a0,a1,a2,a3]):aw (bC W s x) s 28 #[x.vk,x.vc,x.vcs,x.vss]:=by
 have:=(((h.set_ 0 x.vk).set_ 1 x.vc).set_ 2 x.vcs).set_ 3 x.vss;unfold bC
 simpa using this
theorem gX {w W:World} {s:Nat} {x:DI} (h:Below w.heap.size w W) (hs:w.heap.size≤s):Below w.heap.size w (bC W s x):=by
 unfold bC;exact(((h.setCell hs _).setCell hs _).setCell hs _).setCell hs _
theorem jS {b:List UInt8} {w W:World} {k:Nat} {a0 a1 a2 a3:Value} (h:Below w.heap.size w W) (hB:aw W w.heap.size 28 #[a0,a1,a2,a3]) (hk:Zc.parse b=.error k) (h0:k≠0) :
 jB b w (.returned (.tuple #[DI.zero.val,.int .i64 (k:Int)])) (bC W w.heap.size DI.zero)∧aw (bC W w.heap.size DI.zero) w.heap.size 28 #[DI.zero.vk,DI.zero.vc,DI.zero.vcs,DI.zero.vss]:=
 ⟨⟨gX h nl_,.inl ⟨k,hk,h0,rfl⟩⟩,jn hB⟩
theorem Zc.parse_small {b:List UInt8} (h:¬65536<b.length):Zc.parse b=(Zc.whole b).bind Zc.read:=by unfold Zc.parse;rw[if_neg h]
theorem lH {b:List UInt8} (h:Der.check b=0):∃t d r,Der.elem b=some (t,d,r,[]):=by
 unfold Der.check at h
 split at h
 ·omega
 ·rename_i t d r rest he
  split at h
  ·rename_i h0;subst h0;exact⟨t,d,r,he⟩
  ·omega
structure lA (w:World) (r e:Nat) (W:World):Prop where
 bel:Below w.heap.size w W
 rr:Rr W r e
 zb:aw W w.heap.size 28 #[.slice none 0 0,.slice none 0 0,.slice none 0 0,.slice none 0 0]
 gl:dr W
theorem lA.grown {w W W':World} {r e e':Nat} (h:lA w r e W) (hg:W.grownBy W' (some r)) (hr:Rr W' r e') (hrw:w.heap.size<r) (h6:6≤r):lA w r e' W':=
 ⟨h.bel.grown hg h.bel.size (fun j hj=>by cases hj;omega),hr,h.zb.grown hg (fun e=>by injection e with e;omega),h.gl.grown hg h6⟩
theorem lA.below {w W W':World} {r e:Nat} (h:lA w r e W) (hb:Below W.heap.size W W'):lA w r e W':=
 ⟨h.bel.trans (hb.mono h.bel.size),h.rr.below hb,h.zb.below hb h.zb.lt,h.gl.below hb⟩
theorem gL.keepRows {w w':World} {lo hi:Nat} {x:DI} (h:gL w lo hi x) (hk:au lo w w'):gL w' lo hi x:=⟨fun p hp=>(h.rows p hp).keepRows hk,h.ap,h.cs.keepRows hk,h.ss.keepRows hk,h.ok⟩
theorem gL.mono {w:World} {lo hi lo' hi':Nat} {x:DI} (h:gL w lo hi x) (h1:lo'≤lo) (h2:hi≤hi'):gL w lo' hi' x:=⟨fun p hp=>(h.rows p hp).mono h1 h2,h.ap,h.cs.mono h1 h2,h.ss.mono h1 h2,h.ok⟩
theorem Zc.next_err {α:Type} {o:Except Nat α} {e:Nat} (h:e=Zc.next 0 o) (h0:e≠0):o=.error e:=by
 unfold Zc.next at h;rw[if_pos rfl]at h
 cases o with
 | ok a=>exact absurd h h0
 | error k=>dsimp only at h;rw[h]
def fk (r g n c er':Nat) (v0:Value) (gl m:Nat) (q:Bool) (i:Nat) (v:Value) (w:World):Prop:=
 match i with
 | 0=>v=.slice (some ⟨g,0,none⟩) n c
 | 1=>v=.pointer (some ⟨g,0,none⟩)
 | 2=>v=v0
 | 3=>v=.slice (some ⟨gl,0,none⟩) m m
 | 4=>v=.bool q
 | _=>v=.tuple #[]∧Rr w r er'
theorem fk.up {r g n c er er':Nat} {v0:Value} {gl m:Nat} {q:Bool} (i:Nat) (v:Value) (w w':World) (hR:RR r er er' w w') (h:fk r g n c er' v0 gl m q i v w):fk r g n c er' v0 gl m q i v w':=by
 match i,h with
 | 0,h|1,h|2,h|3,h|4,h=>exact h
 | _+5,h=>exact⟨h.1,hR.last h.2⟩
theorem Zc.outer_one {l:List El} (h:l.length≠2):Zc.outer l=.ok l:=by unfold Zc.outer;rw[if_neg h]
set_option maxHeartbeats 8000000 in
theorem gh (A:Option Addr) (n c:Nat) (b:List UInt8) (w:World) (hG:dr w) (h:Rd w w.heap.size A n c b) :
 Calls Tryz.prog 16 #[.slice A n c] w (jB b w):=by
 have y0:=h.len;have vw:=hG.1;have q7:Below w.heap.size w (w.alloc (.cells #[.slice none 0 0,.slice none 0 0,.slice none 0 0,.slice none 0 0] 28)):=br_.alloc nl_ _;have yh:=aw.new w 28 #[.slice none 0 0,.slice none 0 0,.slice none 0 0,.slice none 0 0];have H0:=hd5 q7 yh (hG.below q7) (h.up q7) y0;clear q7 yh hG h y0
 by_cases hbig:65536<n
 ·have q4:(65536:Int)<(n:Int):=ab
  have HB:=hd1 hbig;clear hbig
  go_enter Tryz.func16,Tryz.ntmps16
  go_wp2
  refine bodyPost_ret (dF Tryz.results16 _ _ _ ⟨w.heap.size,0,none⟩ _ _ rfl (cV (x:=DI.zero) H0.2.1) rfl) rfl ⟨H0.1,.inl ⟨10,?_,ab,rfl⟩⟩;unfold Zc.parse;rw[if_pos (by rw[H0.2.2.2.2];exact HB.out)]
 ·have q4:¬(65536:Int)<(n:Int):=ab
  go_enter Tryz.func16,Tryz.ntmps16
  go_wp2_with fail
  refine(jK A n c b _ H0.2.2.2.1).mono ?_;rintro e w1 ⟨rfl,hb1⟩;have qv:Below w.heap.size w w1:=H0.1.trans (hb1.mono H0.1.size);have j1:=H0.2.1.below hb1 ag;have j4:=H0.2.2.1.below hb1;have R1:=H0.2.2.2.1.up hb1;have qc:w.heap.size<w1.heap.size:=by have:=hb1.size;simp at this;omega
  obtain⟨z0,z1⟩:=j1.facts;obtain⟨V,hV⟩:∃V,Der.check b=V:=⟨_,rfl⟩
  rw[hV];have y5:=Zc.parse_small (b:=b) (by rw[H0.2.2.2.2];exact hbig);have H1:=hd6 qv j1 j4 R1 hV y5;clear hb1 qv j1 j4 R1 hV y5 hbig
  by_cases hv:V=0
  ·subst hv
   have va:((0:Int) != 0)=false:=rfl;obtain⟨t,d,rw_,hel⟩:=lH H1.2.2.2.2.1;have y6:Zc.parse b=Zc.read (t,d,rw_):=by
    rw[H1.2.2.2.2.2];unfold Zc.whole;rw[if_neg (by rw[H1.2.2.2.2.1];simp),hel]
    rfl
   have q5:=(fp hel).1;have HW:=hd3 hel y6 q5;clear hel y6 q5;have q3:Below w1.heap.size w1 (w1.alloc (.cells #[.int .i64 0] 94)):=br_.alloc nl_ _;have y1:Rr (w1.alloc (.cells #[.int .i64 0] 94)) w1.heap.size 0:=aw.new _ _ _;have R2:=H1.2.2.2.1.up q3;have ys:=H1.2.1.below q3 qc;have j5:=H1.2.2.1.below q3;have H2:=hd5 q3 y1 R2 ys j5;clear q3 y1 R2 ys j5 z0 z1
   go_wp2_with fail
   refine(jR A n c b _ H2.2.2.1 ab).mono ?_;rintro e w3 ⟨hb3,⟨hno,rfl⟩|⟨t',d',r',rest',A1,n1,c1,A2,n2,c2,A3,n3,c3,hel',rfl,hO3⟩⟩
   ·exact absurd hno (by rw[HW.1];simp)
   rw[HW.1]at hel';injection hel' with hel'
   obtain⟨rfl,rfl,rfl,rfl⟩:=hel';have j3:w1.heap.size<w3.heap.size:=by have:=hb3.size;simp at this;omega
   have qd:Below w3.heap.size w3 (w3.alloc (.cells #[.int .u8 (t.toNat:Int),.slice A1 n1 c1,.slice A2 n2 c2] 84)):=br_.alloc nl_ _;have q9:az w3 w1.heap.size w3.heap.size (.slice A1 n1 c1) d:=(hO3.rd ag).mono ag nl_;have j7:lA w w1.heap.size 0 (w3.alloc (.cells #[.int .u8 (t.toNat:Int),.slice A1 n1 c1,.slice A2 n2 c2] 84)):=
    (⟨H1.1.trans ((H2.1.mono (Nat.le_of_lt qc)).trans (hb3.mono ai)),H2.2.1.below hb3,H2.2.2.2.1.below hb3 H2.2.2.2.1.lt,H2.2.2.2.2.below hb3⟩:lA w w1.heap.size 0 w3).below qd
   have R3:=(q9.rdx).up qd;have vo:n1≤65536:=by have h1:=q9.rdx.len;have h2:=HW.2.2;rw[H0.2.2.2.2]at h2;omega
   have H3:=hd2 j7 R3;obtain⟨r,hr⟩:∃r,w1.heap.size=r:=⟨_,rfl⟩
   rw[hr]at H3 qc j3;have h6:6≤r:=ab
   rw[hr];clear j7 R3 hO3 q9 hb3 qd
   go_wp2_with fail
   refine(bL r 0 t A1 A2 n1 c1 n2 c2 48 2 5 d rw_ _ H3.1.rr H3.2 ab (.inr (.inr (.inl rfl))) ab).mono ?_;rintro e w4 ⟨A4,n4,c4,L4,e4,rfl,hg4,hr4,he4,hE4,hnl4,hlo4,hhi4,_,hm4,hok4⟩;have zs:n4≤5:=ab
   have vv:w3.heap.size+1≤w4.heap.size:=by have:=hg4.size;simpa using this
   obtain⟨g4,rfl,hg4h,hg4l⟩:=hE4.spot_ ab;have a4:=(Zc.At.start 0 (Zc.read (t,d,rw_))).step (er':=e4) (a:=L4.map EI.dat) .parts he4 hok4;have yy:(L4.map EI.dat).length=n4:=by rw[List.length_map,←hnl4]
   have H4:=hd6 (H3.1.grown hg4 hr4 qc h6) (hE4.mono (lo':=w3.heap.size) ag nl_) hnl4 hm4 a4 yy;clear hg4 hr4 he4 hE4 hnl4 hhi4 hm4 hok4 a4 yy
   go_upto_if 31 with fail
   go_cut [9] from 10 (fun s9 wx=>∃(e5 g5 n5 c5 hi5:Nat) (L5:List EI),s9=.slice (some ⟨g5,0,none⟩) n5 c5∧n5≤5∧n5=L5.length∧lA w r e5 wx∧aU wx w3.heap.size hi5 (.slice (some ⟨g5,0,none⟩) n5 c5) L5∧hi5≤wx.heap.size∧w4.heap.size≤wx.heap.size∧(∀y∈L5.map EI.dat,y.2.1.length≤65536∧y.2.2.length≤65536)∧
    Zc.At 0 (Zc.read (t,d,rw_)) e5 ((Zc.form (decide (4≤(L5.map EI.dat).length))).bind fun _=>Zc.data (L5.map EI.dat)))
   case first=>
    by_cases h2:n4=2
    ·subst h2
     have ho:Zc.outer (L4.map EI.dat)=(Zc.form (Zc.is ((L4.map EI.dat).getD 0 El.none_) Zc.wrapped)).bind fun _=>(Zc.parts 160 1 1 ((L4.map EI.dat).getD 1 El.none_)).bind fun m=>Zc.parts 48 4 5 (m.getD 0 El.none_):=by unfold Zc.outer;rw[if_pos H4.2.2.2.2.2]
     have a4:=H4.2.2.2.2.1;rw[ho]at a4;simp only[Zc.assoc]at a4;obtain⟨ta,Aa,na,ca,ba,Ab,nb,cb,ra,hxa,_,_,_,Ra,_,hLa⟩:=H4.2.1.el rfl (Below.refl w4.heap.size w4) nl_ 0 0 ab rfl;obtain⟨tb,Ac,nc,cc,bb,Ad,nd,cd,rb,hxb,_,_,_,Rb,_,hLb⟩:=H4.2.1.el rfl (Below.refl w4.heap.size w4) nl_ 1 3 ab rfl;have vp:nc≤n1:=by have:=(cG H4.2.2.2.1 hxb (show 1<2 by omega) H4.2.2.1).1;have:=Rb.len;omega
     obtain⟨q,hq⟩:∃q,Zc.is (ta,ba,ra) Zc.wrapped=q:=⟨_,rfl⟩
     obtain⟨e5,he5⟩:∃e,e=Zc.next e4 (Zc.form q):=⟨_,rfl⟩
     have a5:=a4.step (er':=e5) (a:=()) .form (by rw[hxa,hq];exact he5) (by rw[hxa,hq];exact Zc.form_zero he5);have H5:=hd6 hLa hLb hxb hq he5 a5;clear ho a4 hxa hxb Ra Rb hLa hLb hq he5 a5
     go_upto_region 10 with fail
     have hk:∀V,RG r e4 e5 w4 V→aU V w3.heap.size w4.heap.size (.slice (some ⟨g4,0,none⟩) 2 c4) L4∧Rd V V.heap.size Aa na ca ba∧dr V:=fun V hV=>by
      have hE:=H4.2.1.keepRows (au.grown hV.1 j3);exact⟨hE,(hE.own1 H5.1).rdx.more hV.1.size,H4.1.gl.grown hV.1 h6⟩
     refine bK (fk r g4 2 c4 e5 (.agg #[.int .u8 (ta.toNat:Int),.slice Aa na ca,.slice Ab nb cb]) 0 7 q) (RG r e4 e5 w4) (RR r e4 e5) rfl RR.refl fk.up (fun _ _ h h'=>h.next h') (by show bp _ 64=true;decide +kernel) ac ⟨aH br_.drew _,e4,.inl rfl,H4.1.rr⟩ ⟨?_,?_,?_,?_,?_,?_,trivial⟩ ?_
     ·refine aA.run rfl ?_;intro a' V hfr hG hdep;exact cP ag rfl (hfr 9 ac) (show fk _ _ _ _ _ _ _ _ _ 0 _ _ from rfl) (RR.refl _)
     ·refine aA.run rfl ?_;intro a' V hfr hG hdep;have d:a'.eval (.tmp 32)=_:=hdep 0 ac;refine bU ag ?_ (show fk _ _ _ _ _ _ _ _ _ 1 _ _ from rfl) (RR.refl _);simp only[execOp,d];simp[go_sem,Act.eval]
     ·refine aA.run rfl ?_;intro a' V hfr hG hdep;have d:a'.eval (.tmp 33)=_:=hdep 1 ac;exact dq ag rfl d ((hk V hG).1.load H5.1 rfl) (show fk _ _ _ _ _ _ _ _ _ 2 _ _ from rfl) (RR.refl _)
     ·refine aA.run rfl ?_;intro a' V hfr hG hdep;refine bU ag ?_ (show fk _ _ _ _ _ _ _ _ _ 3 _ _ from rfl) (RR.refl _);simp only[execOp];simp[go_sem,Act.eval,Tryz.underlying100]
     ·refine aA.run rfl ?_;intro a' V hfr hG hdep;have d:a'.eval (.tmp 34)=_:=hdep 2 ac;have d2:a'.eval (.tmp 35)=_:=hdep 3 ac
      refine bV ag rfl Tryz.func48 rfl aj (args:=#[.agg #[.int .u8 (ta.toNat:Int),.slice Aa na ca,.slice Ab nb cb],.slice (some ⟨0,0,none⟩) 7 7]) (by simp only[List.map_toArray,List.map_cons,List.map_nil,d,d2]) (gD ta Aa _ na ca 7 7 (.slice Ab nb cb) ba ra [1,2,840,113549,1,7,2] V (hk V hG).2.1 ((hk V hG).2.2.rdu (by simp[Zc.table]) rfl) ab) ?_;rintro e w'' ⟨rfl,hb⟩;exact⟨_,rfl,by rw[qE,H5.2.2.2.1];rfl,RR.below hb⟩
     ·refine aA.run rfl ?_;intro a' V hfr hG hdep;have d:a'.eval (.tmp 36)=_:=hdep 4 ac
      obtain⟨e0,he0,hre⟩:=hG.2;refine bV ag rfl Tryz.func47 rfl aj (args:=#[.pointer (some ⟨r,0,none⟩),.bool q]) (by simp only[List.map_toArray,List.map_cons,List.map_nil,d,hfr 5 ac];rfl) (cB r e0 q V hre) ?_;rintro e w'' ⟨rfl,hg,hr⟩;obtain⟨k1,k2⟩:=RR.form hg hG H5.2.2.2.2.1 (fun e he=>by rw[he.uniq hre];exact hr);exact⟨_,rfl,⟨rfl,k1⟩,k2⟩
     intro a' w5 hd hsz hfr hG hJ;have ha:=dL (fun i=>([.slice (some ⟨g4,0,none⟩) 2 c4,.pointer (some ⟨g4,0,none⟩),.agg #[.int .u8 (ta.toNat:Int),.slice Aa na ca,.slice Ab nb cb],.slice (some ⟨0,0,none⟩) 7 7,.bool q,.tuple #[]]:List Value).getD i undef) (by show bp _ 64=true;decide +kernel) hd hsz hfr (fun i hi=>by
      have hi:i<6:=hi
      match i,hi with
      | 0,_=>exact hJ 0 aj
      | 1,_=>exact hJ 1 aj
      | 2,_=>exact hJ 2 aj
      | 3,_=>exact hJ 3 aj
      | 4,_=>exact hJ 4 aj
      | 5,_=>exact(show _∧_ from hJ 5 aj).1)
     have y2:Rr w5 r e5:=(show _∧Rr w5 r e5 from hJ 5 aj).2;have qs:=H4.1.grown hG.1 y2 qc h6;have qg:=(hk w5 hG).1;have y4:w4.heap.size≤w5.heap.size:=hG.1.size;obtain⟨q0,q1,q2⟩:=qg.cells3 H5.2.1 3 4 5 ⟨rfl,rfl,rfl⟩;have R5:=(qg.own1 H5.2.1).rdx.more y4;have H6:=hd2 qs R5;clear hd hsz hfr hG hJ y2 qs qg R5 hk;have y3:List.range 6=[0,1,2,3,4,5]:=rfl;simp only[dT,List.map_cons,List.map_nil,List.size_toArray,List.length_cons,List.length_nil,Nat.reduceAdd,y3,List.zip_cons_cons,List.zip_nil_left,List.foldl_cons,List.foldl_nil,Act.put,List.setIfInBounds_toArray,List.set_cons_zero,List.set_cons_succ,List.getD_cons_zero,List.getD_cons_succ]at ha;subst ha;clear y3;apply_assumption
     go_wp2_with fail
     refine(bL r e5 tb Ac Ad nc cc nd cd 160 1 1 bb rb _ H6.1.rr H6.2 ab (.inr (.inl rfl)) ab).mono ?_;rintro e w6 ⟨A6,n6,c6,L6,e6,rfl,hg6,hr6,he6,qh,hnl6,hlo6,hhi6,_,hm6,hok6⟩;obtain rfl:n6=1:=ab
     have z5:w5.heap.size≤w6.heap.size:=hg6.size;obtain⟨g6,rfl,hg6h,hg6l⟩:=qh.spot_ ab;obtain⟨tc,Ae,ne,ce,be,Af,nf,cf,re,hxc,u0,u1,u2,Rc,_,hLc⟩:=qh.el rfl (Below.refl w6.heap.size w6) nl_ 0 0 ab rfl;have z2:ne≤n1:=by have:=(cG hm6 hxc (show 0<1 by omega) hnl6).1;have:=Rc.len;omega
     have a6:=H5.2.2.2.2.2.step (er':=e6) (a:=L6.map EI.dat) .parts (by rw[H5.2.2.1];exact he6) (by rw[H5.2.2.1];exact hok6);rw[hxc]at a6;have H7:=hd3 (H6.1.grown hg6 hr6 qc h6) Rc a6;clear hg6 hr6 he6 qh hnl6 hhi6 hm6 hok6 a6 hxc Rc hLc q0 q1 q2
     go_wp2_with fail
     refine(bL r e6 tc Ae Af ne ce nf cf 48 4 5 be re _ H7.1.rr H7.2.1 ab (.inr (.inr (.inr (.inl rfl)))) ab).mono ?_;rintro e w7 ⟨A7,n7,c7,L7,e7,rfl,hg7,hr7,he7,hE7,hnl7,hlo7,hhi7,_,hm7,hok7⟩;have zz:n7≤5:=ab
     have z6:w6.heap.size≤w7.heap.size:=hg7.size;obtain⟨g7,rfl,hg7h,hg7l⟩:=hE7.spot_ ab;have a7:=H7.2.2.step (er':=e7) (a:=L7.map EI.dat) .parts he7 hok7;have H8:=hd5 (H7.1.grown hg7 hr7 qc h6) (hE7.mono (lo':=w3.heap.size) ab nl_) hnl7 hm7 a7;clear hg7 hr7 he7 hE7 hnl7 hhi7 hm7 hok7 a7 u0 u1 u2
     go_wp2
     go_meet
     case rel=>exact⟨e7,g7,n7,c7,w7.heap.size,L7,rfl,zz,H8.2.2.1,H8.1,H8.2.1,Nat.le_refl _,ab,fun y hy=>by have:=H8.2.2.2.1 y hy;omega,H8.2.2.2.2⟩
    ·have ve:((n4:Int)==2)=false:=ai
     have ho:=Zc.outer_one (l:=L4.map EI.dat) (by rw[H4.2.2.2.2.2];exact h2);have a5:=H4.2.2.2.2.1.step (er':=e4) (a:=L4.map EI.dat) (by rw[ho];exact .ok _) (by rw[ho,Zc.next_ok]) (fun _=>ho);have H5:=hd1 a5;clear ho a5 h2
     go_wp2
     go_meet
     case rel=>exact⟨e4,g4,n4,c4,w4.heap.size,L4,rfl,zs,H4.2.2.1,H4.1,H4.2.1,Nat.le_refl _,Nat.le_refl _,fun y hy=>by have:=H4.2.2.2.1 y hy;omega,H5.out⟩
   case rest=>
    obtain⟨e5,g5,n5,c5,hi5,L5,rfl,hn5,hnl5,qs,qg,hhi5,y4,hm5,a5⟩:=hcut;obtain⟨w5,hw5⟩:∃W,W=wc:=⟨_,rfl⟩
    subst hw5;have H5:=hd5 qs qg hnl5 hm5 a5;clear qs qg hnl5 hm5 a5;apply_assumption
    go_wp2_with fail
    refine(cB r e5 _ _ H5.1.rr).mono ?_;rintro e w6 ⟨rfl,hg6,hr6⟩;obtain⟨e6,he6⟩:∃e,e=Zc.next e5 (Zc.form (decide (4≤n5))):=⟨_,rfl⟩
    replace hr6:Rr w6 r e6:=by
     rw[he6,show decide (4≤n5)=decide ((4:Int)≤(n5:Int)) by rw[Bool.eq_iff_iff];simp;omega];exact hr6
    have yv:e6=0→4≤n5:=fun h=>by have:=Zc.form_ok (Zc.form_zero he6 h);simpa using this
    have a6:=H5.2.2.2.2.step (er':=e6) (a:=()) .form (by rw[List.length_map,←H5.2.2.1];exact he6) (by rw[List.length_map,←H5.2.2.1];exact Zc.form_zero he6);have j8:=H5.1.grown hg6 hr6 qc h6;have qh:=H5.2.1.keepRows (au.grown hg6 ab);have vi:=hr6.cell;have z5:w5.heap.size≤w6.heap.size:=hg6.size;have H6:=hd4 j8 qh yv a6;clear hg6 hr6 he6 yv a6 j8 qh
    by_cases h0:e6=0
    ·subst h0
     have j2:n5=4∨n5=5:=by have:=H6.2.2.1 rfl;omega
     have vt:((0:Int) != 0)=false:=rfl
     go_wp2_with fail
     refine(xH r 0 w3.heap.size hi5 g5 n5 c5 65536 L5 w6 H6.1.rr h6 H6.1.gl H6.2.1 j3 ab j2 H5.2.2.2.1 ab).mono ?_;rintro e w7 ⟨x,e7,rfl,hg7,hr7,he7,hO7,hok7⟩;have a7:=H6.2.2.2.last .data he7 hok7;obtain⟨vk,kd,vc,cont,vcs,cs,vss,ss⟩:=x;obtain⟨B0,m0,d0,hx0,_⟩:=(hO7.rows (vk,kd) (by simp[DI.rows])).rd;obtain⟨B1,m1,d1,hx1,_⟩:=(hO7.rows (vc,cont) (by simp[DI.rows])).rd;obtain⟨B2,d2,hx2,_⟩:=hO7.cs.shape;obtain⟨B3,d3,hx3,_⟩:=hO7.ss.shape;dsimp only at hx0 hx1 hx2 hx3;subst hx0 hx1 hx2 hx3;have z6:w6.heap.size≤w7.heap.size:=hg7.size;have j0:=H6.1.grown hg7 hr7 qc h6;have qd:Below w7.heap.size w7 (w7.alloc (.cells #[.slice B0 m0 d0,.slice B1 m1 d1,.slice B2 cs.length d2,.slice B3 ss.length d3] 28)):=br_.alloc nl_ _;have qk:=j0.below qd;have q6:=hd2 j0 hO7;have yd:=aw.new w7 28 #[.slice B0 m0 d0,.slice B1 m1 d1,.slice B2 cs.length d2,.slice B3 ss.length d3];have j6:=hO7.keepRows (au.below qd nl_);have zn:=hr7.cell;have z4:=hr7.lt;have z7:=qk.bel.size;have H8:=hd4 qk j6 a7 yd;clear hg7 hr7 he7 hO7 hok7 a7 j0 yd j6 qd;dsimp only[DI.val]
     by_cases h7:e7=0
     ·subst h7
      obtain⟨z0,z1⟩:=q6.1.zb.facts;have vy:w.heap.size<w7.heap.size:=ab
      clear qk
      go_wp2
      have hB:=(jn (x:=⟨.slice B0 m0 d0,kd,.slice B1 m1 d1,cont,.slice B2 cs.length d2,cs,.slice B3 ss.length d3,ss⟩) q6.1.zb).alloc (.cells #[.slice B0 m0 d0,.slice B1 m1 d1,.slice B2 cs.length d2,.slice B3 ss.length d3] 28);have hQ:jB b w (.returned (.tuple #[DI.val ⟨.slice B0 m0 d0,kd,.slice B1 m1 d1,cont,.slice B2 cs.length d2,cs,.slice B3 ss.length d3,ss⟩,.int .i64 0])) ((bC w7 w.heap.size ⟨.slice B0 m0 d0,kd,.slice B1 m1 d1,cont,.slice B2 cs.length d2,cs,.slice B3 ss.length d3,ss⟩).alloc (.cells #[.slice B0 m0 d0,.slice B1 m1 d1,.slice B2 cs.length d2,.slice B3 ss.length d3] 28)):=
       ⟨(gX q6.1.bel nl_).alloc (by rw[dZ];omega) _,.inr ⟨_,by rw[HW.2.1];exact H8.2.2.1.2 ag,rfl,(((q6.2.keepRows (kI.mono ab)).keepRows (au.alloc _ _)).mono ab (by rw[World.size_alloc,dZ];omega))⟩⟩
      change bodyPost _ _ _ _ _ ((bC w7 w.heap.size ⟨.slice B0 m0 d0,kd,.slice B1 m1 d1,cont,.slice B2 cs.length d2,cs,.slice B3 ss.length d3,ss⟩).alloc (.cells #[.slice B0 m0 d0,.slice B1 m1 d1,.slice B2 cs.length d2,.slice B3 ss.length d3] 28));generalize (bC w7 w.heap.size ⟨.slice B0 m0 d0,kd,.slice B1 m1 d1,cont,.slice B2 cs.length d2,cs,.slice B3 ss.length d3,ss⟩).alloc (.cells #[.slice B0 m0 d0,.slice B1 m1 d1,.slice B2 cs.length d2,.slice B3 ss.length d3] 28)=WZ at hB hQ ⊢;exact bodyPost_ret (dF Tryz.results16 _ _ _ ⟨w.heap.size,0,none⟩ _ _ rfl (cV (x:=⟨.slice B0 m0 d0,kd,.slice B1 m1 d1,cont,.slice B2 cs.length d2,cs,.slice B3 ss.length d3,ss⟩) hB) rfl) rfl hQ
     ·have z3:((e7:Int) != 0)=true:=ai
      have HN:=hd1 h7;obtain⟨z0,z1⟩:=qk.zb.facts;have y7:=qk.zb.lt;clear qk
      go_upto_region 17 with fail
      obtain⟨w8,hw8⟩:∃W,W=w7.alloc (.cells #[.slice B0 m0 d0,.slice B1 m1 d1,.slice B2 cs.length d2,.slice B3 ss.length d3] 28):=⟨_,rfl⟩
      rw[←hw8]at H8 z0 z1 y7 ⊢;have vn:=H8.1.rr.cell;clear hw8 zn
      go_region
      apply_assumption
      go_wp2
      obtain⟨hQ,hB⟩:=jS (k:=e7) H8.1.bel H8.1.zb (by rw[HW.2.1];exact Zc.next_err H8.2.2.1.1 HN.out) HN.out;change bodyPost _ _ _ _ _ (bC w8 w.heap.size DI.zero).drew;generalize bC w8 w.heap.size DI.zero=WZ at hB hQ ⊢;exact bodyPost_ret (dF Tryz.results16 _ _ _ ⟨w.heap.size,0,none⟩ _ _ rfl (cV hB.drew) rfl) rfl ⟨hQ.1.drew,hQ.2.elim .inl fun⟨x,h1,h2,h3⟩=>.inr ⟨x,h1,h2,h3.keepRows (au.below br_.drew nl_)⟩⟩
    ·have z2:((e6:Int) != 0)=true:=ai
     obtain⟨z0,z1⟩:=H6.1.zb.facts;have y7:=H6.1.zb.lt
     go_upto_region 14 with fail
     go_region
     apply_assumption
     go_wp2
     obtain⟨hQ,hB⟩:=jS (k:=e6) H6.1.bel H6.1.zb (by rw[HW.2.1];exact Zc.next_err (H6.2.2.2.2 h0) h0) h0;change bodyPost _ _ _ _ _ (bC w6 w.heap.size DI.zero).drew;generalize bC w6 w.heap.size DI.zero=WZ at hB hQ ⊢;exact bodyPost_ret (dF Tryz.results16 _ _ _ ⟨w.heap.size,0,none⟩ _ _ rfl (cV hB.drew) rfl) rfl ⟨hQ.1.drew,hQ.2.elim .inl fun⟨x,h1,h2,h3⟩=>.inr ⟨x,h1,h2,h3.keepRows (au.below br_.drew nl_)⟩⟩
  ·have va:((V:Int) != 0)=true:=ai
   have HV:=hd1 hv;clear hv
   go_wp2
   obtain⟨hQ,hB⟩:=jS (k:=V) H1.1 H1.2.1 (by rw[H1.2.2.2.2.2];unfold Zc.whole;rw[if_pos (by rw[H1.2.2.2.2.1];exact HV.out),H1.2.2.2.2.1];rfl) HV.out;change bodyPost _ _ _ _ _ (bC w1 w.heap.size DI.zero);generalize bC w1 w.heap.size DI.zero=WZ at hB hQ ⊢;exact bodyPost_ret (dF Tryz.results16 _ _ _ ⟨w.heap.size,0,none⟩ _ _ rfl (cV hB) rfl) rfl hQ
theorem pC {w:World} {g:Nat} {v0 v1:Value} (h:aw w g 67 #[v0,v1]):(loadVar 67 ⟨g,0,none⟩).run Tryz.prog w=.ok (.agg #[v0,v1]) w:=by
 have hk:=h.cell;exact run_loadVar_mid (P:=Tryz.prog) w g 0 67 [v0,v1] _ (fun j u hu=>by rw[Nat.zero_add,hk];simpa using hu) Tryz.underlying67 rfl rfl
theorem yk {w:World} {g:Nat} {d:List UInt8} (hd:d.length=32) (h:aw w g 47 (d.map bv).toArray):(loadVar 47 ⟨g,0,none⟩).run Tryz.prog w=.ok (.agg (d.map bv).toArray) w:=
 pD 47 0 (d.map bv) _ Tryz.underlying47 rfl (by rw[kS];simp[hd]) h (fun j v hv=>by rw[Nat.zero_add,List.getElem?_toArray];exact hv)
theorem lc:nl (Lb.root false)=(nl (List.replicate 22 0)).set 21 1536∧nl (Lb.root true)=((nl (List.replicate 22 0)).set 21 1536).set 0 1:=ac
def q8 (d:List UInt8) (w:World) (e:Ending) (w':World):Prop:=∃g1 g2,e=.returned (.tuple #[.agg #[.slice (some ⟨g1,0,none⟩) 256 256,.int .u64 3],.slice (some ⟨g2,0,none⟩) 256 256])∧w.heap.size≤g1∧w.heap.size≤g2∧
 aw w' g1 5 ((Lb.keyN d).map bv).toArray∧aw w' g2 5 ((Lb.keyS d).map bv).toArray∧Below w.heap.size w w'
set_option maxHeartbeats 8000000 in
theorem yi (d:List UInt8) (hd:d.length=32) (w:World) :
 Calls Tryz.prog 66 #[.agg (d.map bv).toArray] w (q8 d w):=by
 have hB:=aw.new w 47 (d.map bv).toArray;have hb:=aB w (.cells (d.map bv).toArray 47);have H:=hd3 hd hB hb;clear hd hB hb
 go_enter Tryz.func66,Tryz.ntmps66
 obtain⟨w1,hw1⟩:∃W,W=(w.alloc (.cells (d.map bv).toArray 47)).alloc (.cells #[.slice none 0 0,.int .u64 0] 67):=⟨_,rfl⟩
 have hX:aw w1 w.heap.size 47 (d.map bv).toArray:=by rw[hw1];exact H.2.1.alloc _
 have hK:aw w1 (w.heap.size+1) 67 #[.slice none 0 0,.int .u64 0]:=by
  have:=aw.new (w.alloc (.cells (d.map bv).toArray 47)) 67 #[.slice none 0 0,.int .u64 0];rw[hw1];simpa using this
 have j7:Below w.heap.size w w1:=by rw[hw1];exact H.2.2.alloc ag _
 have y4:w1.heap.size=w.heap.size+1+1:=by rw[hw1];simp
 have H1:=hd3 hX hK j7;clear hX hK j7
 go_upto_region 3 with(first
  | (at_make
     rw[←hw1];refine dP rfl _ _ rfl 22 rfl rfl ab ?_;intro w2 ho2 hg2 hb2;have q1:=ho2.cellAt (fL (L:=List.replicate 22 0) (k:=21) ag);have f1:=ho2.frozenAt (by rw[bz];simp) 21;have qs:=ho2.stored (by rw[bz];simp) 21 1536;have j1:=(ho2.1.lt _ rfl).2;rw[y4]at q1 f1 qs j1;have HM:=hd3 qs hb2 j1;clear ho2 hg2 hb2 qs j1)
  | fail)
 clear q1 f1;obtain⟨w3,hw3⟩:∃W,W=w2.setCell ⟨w.heap.size+1+1,21,none⟩ (.int .u32 1536):=⟨_,rfl⟩
 obtain⟨g0,hg0⟩:∃g,w.heap.size+1+1=g:=⟨_,rfl⟩
 have hM:=HM.1;rw[←hw3,hg0]at hM;have q9:aw w3 w.heap.size 47 (d.map bv).toArray:=by
  rw[hw3];exact(H1.1.below HM.2.1 H1.1.lt).far (by show w.heap.size≠w.heap.size+1+1;omega) _
 have j5:aw w3 (w.heap.size+1) 67 #[.slice none 0 0,.int .u64 0]:=by
  rw[hw3];exact(H1.2.1.below HM.2.1 H1.2.1.lt).far (by show w.heap.size+1≠w.heap.size+1+1;omega) _
 have j8:Below w.heap.size w w3:=by
  rw[hw3];exact(H1.2.2.trans (HM.2.1.mono ab)).setCell (by show w.heap.size≤w.heap.size+1+1;omega) _
 have qk:w3.heap.size=w2.heap.size:=by rw[hw3];simp
 rw[←qk]at hM;have zn:g0<w3.heap.size:=by rw[qk];have h':w.heap.size+1+1<w2.heap.size:=HM.2.2;omega
 rw[←hw3,hg0];rw[←lc.1]at hM;obtain⟨x,hx⟩:∃x,d[31]? = some x:=⟨_,List.getElem?_eq_getElem (by rw[H.1];decide)⟩
 obtain⟨v,hv⟩:∃v,x.toNat=v:=⟨_,rfl⟩
 have y2:w3.cell? ⟨w.heap.size,31,none⟩=some (.int .u8 (v:Int)):=by rw[q9.cell];simp[hx,bv,hv]
 obtain⟨r,hr⟩:∃r,v % 2=r:=⟨_,rfl⟩
 have y3:Int.tmod (v:Int) 2=(r:Int):=by rw[←hr];rfl
 have yv:Lb.even d=decide (r=0):=by unfold Lb.even;rw[List.getD_eq_getElem?_getD,hx,Option.getD_some,hv,hr]
 have q1:=hM.cellAt (fL (L:=Lb.root false) (k:=0) aj);have f1:=hM.frozenAt aq 0;have qs:=hM.stored aq 0 1;have H3:=hd6 hM q9 j5 j8 yv qs;clear hM q9 j5 j8 yv qs hw3 hx hv hr qk;obtain⟨bb,hbb⟩:∃bb,((r:Int)==0)=bb:=⟨_,rfl⟩
 have yh:Lb.even d=bb:=by rw[H3.2.2.2.2.1,←hbb,Bool.eq_iff_iff];simp
 have HE:=hd1 yh;clear yh
 go_upto_if 23 with fail
 go_cut [4] from 24 (fun s4 wx=>s4=.slice (some ⟨g0,0,none⟩) 22 22∧aW wx g0 w3.heap.size (.slice (some ⟨g0,0,none⟩) 22 22) (nl (Lb.root (Lb.even d)))∧w3.grownBy wx (some g0))
 case first=>
  cases bb
  ·go_wp2_with fail
   go_meet
   case rel=>exact⟨rfl,by rw[HE.out];exact H3.1,World.grownBy.refl _ _⟩
  ·go_wp2_with fail
   go_meet
   case rel=>exact⟨rfl,by rw[HE.out,lc.2,←lc.1];exact H3.2.2.2.2.2,bM (World.grownBy.refl _ _) _ _⟩
 case rest=>
  obtain⟨rfl,hoR,hgr⟩:=hcut;obtain⟨w4,hw4⟩:∃W,W=wc:=⟨_,rfl⟩
  subst hw4;clear y2 y3 q1 f1;have j4:=hgr.size;have j0:=H3.2.1.grown hgr (fun e=>by injection e with e;omega);have j6:=H3.2.2.1.grown hgr (fun e=>by injection e with e;omega);have yd:Below w.heap.size w w4:=H3.2.2.2.1.grown hgr H3.2.2.2.1.size (fun j e=>by injection e with e;omega);obtain⟨R,hR⟩:∃R,Lb.root (Lb.even d)=R:=⟨_,rfl⟩
  have q5:=Lb.root_lim (Lb.even d);rw[hR]at hoR q5;have y1:bX w4 w4.heap.size (some ⟨g0,0,none⟩) 22 22 (nl R):=by
   obtain⟨_,_,e1,e2⟩:=hoR.rd;rw[bz,q5.2.1]at e1 e2;injection e1 with a1 _ a3
   subst a1 a3;exact e2.more j4
  have HL:=yk H.1 j0;have H4:=hd7 j0 j6 yd y1 q5 hR HL;clear j0 j6 yd y1 q5 hR hoR hgr
  go_wp2_with (first
   | ((with_reducible refine nG 47 ?_);refine iu rfl 47 _ rfl ⟨w.heap.size,0,none⟩ (.agg (d.map bv).toArray) rfl H4.out.2.2.2.2.2.2 ?_)
   | fail)
  refine(ye d H.1 w4).mono ?_;rintro e w5 ⟨A5,c5,rfl,ho5,hb5⟩;have y7:=hb5.size;have ys:=Lb.enc_len d H.1;obtain⟨_,_,_,e5,r5⟩:=ho5.rd;injection e5 with a1 a2 a3
  subst a1 a2 a3;have H5:=hd4 r5 hb5 (H4.2.2.2.1.up hb5) ys;clear ho5 hb5 r5 ys
  go_wp2_with fail
  refine(zJ A5 256 c5 (Lb.enc d) w5 H5.1 ab ab).mono ?_;rintro e w6 ⟨A6,c6,rfl,ho6,hb6⟩;obtain⟨X,hX⟩:∃X,Lb.of (Lb.enc d)=X:=⟨_,rfl⟩
  have q0:=Lb.of_top d H.1;rw[hX]at ho6 q0 ⊢;obtain⟨_,_,e6,r6⟩:=ho6.rd;injection e6 with a1 a2 a3
  subst a1 a3;rw[bz,q0.1]at r6;rw[bz,q0.1];have zs:=hb6.size;have H6:=hd5 r6 (H5.2.1.trans (hb6.mono y7)) (H5.2.2.1.up hb6) q0 hX;clear ho6 hb6 r6 q0 hX a2
  go_wp2_with fail
  have q2:=Lb.sq_len (Lb.even d);have qd:=Lb.cube_top (Lb.even d);have qh:=Lb.cube_lim (Lb.even d);unfold Lb.cube at qd qh;rw[H4.2.2.2.2.2.1]at q2 qd qh;have qc:=Lb.diff_top d H.1;unfold Lb.cube at qc;rw[H4.2.2.2.2.2.1,H6.2.2.2.2]at qc;have qg:Lb.keyN d=Lb.octets (Lb.sub (Lb.mul (Lb.mul R R) R) X) 256:=by unfold Lb.keyN Lb.cube;rw[H4.2.2.2.2.2.1,H6.2.2.2.2]
  have yy:Lb.keyS d=Lb.octets R 256:=by unfold Lb.keyS;rw[H4.2.2.2.2.2.1]
  obtain⟨Q,hQ⟩:∃Q,Lb.mul R R=Q:=⟨_,rfl⟩
  have q7:=pr (some ⟨g0,0,none⟩) (some ⟨g0,0,none⟩) 22 22 22 22 R R w6 H6.2.2.1 H6.2.2.1 H4.2.2.2.2.1.1 H4.2.2.2.2.1.1 ab ab ab ab H4.2.2.2.2.1.2.2 H4.2.2.2.2.1.2.2 (by have:=q2.1;omega);rw[hQ]at q7 q2 qd qh qc qg;have HC:=hd7 q7 q2 qd qh qc qg yy;clear q7 q2 qd qh qc qg yy hQ;refine HC.1.mono ?_;rintro e w7 ⟨A7,c7,rfl,ho7,hb7⟩;obtain⟨_,_,e7,r7⟩:=ho7.rd;injection e7 with a1 a2 a3
  subst a1 a3;obtain⟨m,hm⟩:∃m,(nl Q).length=m:=⟨_,rfl⟩
  rw[hm]at r7 ⊢;have y0:Q.length=m:=by rw[←hm,bz]
  have zz:=hb7.size;have j3:=HC.2.1;rw[y0]at j3;have H7:=hd4 r7 (H6.2.1.trans (hb7.mono H6.2.1.size)) (H6.2.2.1.up hb7) (H6.1.up hb7);have q4:=hd1 j3;clear ho7 hb7 r7 a2 hm y0 j3
  go_wp2_with fail
  refine(pr A7 (some ⟨g0,0,none⟩) m c7 22 22 Q R w7 H7.1 H7.2.2.1 q4.2.2.2 H4.2.2.2.2.1.1 (by have:=q4.1;omega) ab q4.2.1 ab q4.2.2.1 H4.2.2.2.2.1.2.2 (by rw[HC.2.2.1.1];decide)).mono ?_;rintro e w8 ⟨A8,c8,rfl,ho8,hb8⟩;obtain⟨C,hCC⟩:∃C,Lb.mul Q R=C:=⟨_,rfl⟩
  have qd:=HC.2.2.1;have qh:=HC.2.2.2.1;have qc:=HC.2.2.2.2.1;have qg:=HC.2.2.2.2.2.1;rw[hCC]at qd qh qc qg ho8 ⊢;obtain⟨_,_,e8,r8⟩:=ho8.rd;injection e8 with a1 a2 a3
  subst a1 a3;rw[bz,qd.1]at r8;rw[bz,qd.1];have z2:=hb8.size;have H8:=hd8 r8 (H7.2.1.trans (hb8.mono H7.2.1.size)) (H7.2.2.1.up hb8) (H7.2.2.2.up hb8) qd qh qc qg;clear ho8 hb8 r8 a2 qd qh qc qg hCC
  go_wp2_with fail
  refine(xZ A8 A6 63 c8 c6 C X w8 H8.1 H8.2.2.2.1 H8.2.2.2.2.2.1 H6.2.2.2.1.2.2.2 ab H8.2.2.2.2.1.2.1 H6.2.2.2.1.2.2.1 (by rw[H6.2.2.2.1.2.1];have:=H8.2.2.2.2.1.2.2;omega)).mono ?_;rintro e w9 ⟨A9,c9,rfl,ho9,hb9⟩;obtain⟨D,hD⟩:∃D,Lb.sub C X=D:=⟨_,rfl⟩
  have qc:=H8.2.2.2.2.2.2.1;have qg:=H8.2.2.2.2.2.2.2;rw[hD]at qc qg ho9 ⊢;obtain⟨_,_,e9,r9⟩:=ho9.rd;injection e9 with a1 a2 a3
  subst a1 a3;rw[bz,qc.1]at r9;rw[bz,qc.1];have z3:=hb9.size;have H9:=hd5 r9 (H8.2.1.trans (hb9.mono H8.2.1.size)) (H8.2.2.1.up hb9) qc qg;clear ho9 hb9 r9 a2 qc qg hD
  go_wp2_with fail
  refine(pE A9 64 c9 D w9 H9.1 ab ab H9.2.2.2.1.2.2.1 H9.2.2.2.1.2.2.2).mono ?_;rintro e w10 ⟨g1,rfl,hg1,hB1,hb10⟩;have y5:=hb10.size;rw[←H9.2.2.2.2]at hB1;have qv:=hd3 hB1 (H9.2.1.trans (hb10.mono H9.2.1.size)) (H9.2.2.1.up hb10);clear hB1 hb10
  go_wp2_with fail
  refine(pE (some ⟨g0,0,none⟩) 22 22 R w10 qv.2.2 ab ab H4.2.2.2.2.1.2.2 H4.2.2.2.2.1.1).mono ?_;rintro e w11 ⟨g2,rfl,hg2,hB2,hb11⟩;rw[←HC.2.2.2.2.2.2]at hB2;have y6:=hb11.size;have q6:=qv.2.1.trans (hb11.mono qv.2.1.size);have hK:=H4.2.1.below q6 ab;have j2:=qv.1.lt;have q3:=hd4 (qv.1.below hb11 j2) hB2 (H4.2.2.1.trans (q6.mono H4.2.2.1.size)) hK;obtain⟨z0,z1⟩:=hK.facts;clear hB2 hb11 q6 hK
  go_wp2_with fail
  have z4:=H4.2.2.1.size;have n1:g1≠w.heap.size+1:=ab
  have n2:g2≠w.heap.size+1:=ab
  have hW:=(q3.2.2.2.set_ 0 (.slice (some ⟨g1,0,none⟩) 256 256)).set_ 1 (.int .u64 3);have hf:q8 d w (.returned (.tuple #[.agg #[.slice (some ⟨g1,0,none⟩) 256 256,.int .u64 3],.slice (some ⟨g2,0,none⟩) 256 256])) ((w11.setCell ⟨w.heap.size+1,0,none⟩ (.slice (some ⟨g1,0,none⟩) 256 256)).setCell ⟨w.heap.size+1,1,none⟩ (.int .u64 3)):=
   ⟨g1,g2,rfl,ab,ab,(q3.1.far (by show g1≠w.heap.size+1;exact n1) _).far (by show g1≠w.heap.size+1;exact n1) _,(q3.2.1.far (by show g2≠w.heap.size+1;exact n2) _).far (by show g2≠w.heap.size+1;exact n2) _,
     (q3.2.2.1.setCell (by show w.heap.size≤w.heap.size+1;omega) _).setCell (by show w.heap.size≤w.heap.size+1;omega) _⟩
  exact bodyPost_ret (dF Tryz.results66 _ _ _ ⟨w.heap.size+1,0,none⟩ _ _ rfl (pC hW) rfl) rfl hf
def Sha.sumB (xs:List UInt8):List UInt8:=(Sha.sum xs).map fun i=>UInt8.ofNat i.toNat
theorem qm (xs:List UInt8):(Sha.sumB xs).length=32:=by unfold Sha.sumB Sha.sum;simp
theorem zY (xs:List UInt8):(Sha.sum xs).map dV=(Sha.sumB xs).map bv:=by
 unfold Sha.sumB Sha.sum;rw[List.map_map,List.map_map,List.map_map];refine List.map_congr_left fun i _=>?_
 have h:∀z:Int,dV (IntKind.u8.wrap z)=bv (UInt8.ofNat (IntKind.u8.wrap z).toNat):=fun z=>by
  unfold dV bv;rw[IntKind.wrap_u8',UInt8.toNat_ofNat']
  congr 1
  omega
 exact h _
namespace Lad
def kase0 (iss sub n:List UInt8) (e:Nat) (sig:List UInt8):br:=⟨[0],n,sig,iss,sub,⟨2020,1,1,0,0,0⟩,⟨2060,1,1,0,0,0⟩,e,true,true,0,0⟩
def isub (names:List (List UInt8)) (i:Nat):List UInt8×List UInt8:=(names.getD (min (i+1) (names.length - 1)) [],names.getD i [])
def key (names:List (List UInt8)) (k0:List UInt8×Nat):Nat→List UInt8×Nat
 | 0=>k0
 | i+1=>(Lb.keyN (Sha.sumB (kase0 (isub names i).1 (isub names i).2 (key names k0 i).1 (key names k0 i).2 []).tbs),3)
def pre (names:List (List UInt8)) (k0:List UInt8×Nat) (i:Nat):br:=kase0 (isub names i).1 (isub names i).2 (key names k0 i).1 (key names k0 i).2 []
def dig (names:List (List UInt8)) (k0:List UInt8×Nat) (i:Nat):List UInt8:=Sha.sumB (pre names k0 i).tbs
def sig (names:List (List UInt8)) (k0:List UInt8×Nat) (i:Nat):List UInt8:=if i+1<names.length then Lb.keyS (dig names k0 i) else []
def kase (names:List (List UInt8)) (k0:List UInt8×Nat) (i:Nat):br:=kase0 (isub names i).1 (isub names i).2 (key names k0 i).1 (key names k0 i).2 (sig names k0 i)
def d (K:br):List UInt8×Sg×List UInt8:=(K.raw,K.sg,K.sig.take 600)
def Good (k:List UInt8×Nat):Prop:=k.1.length≤256∧k.1.headD 0≠0∧k.2=3
theorem good_new (D:List UInt8) (hD:D.length=32):Good (Lb.keyN D,3):=by
 have h1:=Lb.keyN_len D;have h2:=Lb.keyN_head D hD;generalize Lb.keyN D=X at h1 h2;refine⟨ak,fun e=>?_,rfl⟩;dsimp only at e;rw[e]at h2;exact absurd h2 aj
theorem key_good {names:List (List UInt8)} {k0:List UInt8×Nat} (h:Good k0):∀i,Good (key names k0 i)
 | 0=>h
 | i+1=>by
  rw[key];exact good_new _ (qm _)
theorem key_succ (names:List (List UInt8)) (k0:List UInt8×Nat) (i:Nat):key names k0 (i+1)=(Lb.keyN (dig names k0 i),3):=by
 rw[key];unfold dig pre
 rfl
theorem sig_len (names:List (List UInt8)) (k0:List UInt8×Nat) (i:Nat):(sig names k0 i).length≤256:=by
 unfold sig
 split
 ·rw[Lb.keyS_len];exact Nat.le_refl _
 ·simp
theorem trim_id:∀(xs:List UInt8),xs.headD 0≠0→Der.trim xs=xs
 | [],h=>absurd rfl h
 | x::xs,h=>by
  have hx:x≠0:=h;unfold Der.trim;simp[hx]
section
variable (iss sub n g : List UInt8) (e : Nat)
theorem k_nn (hn:n.length≤600) (h:n.headD 0≠0):(kase0 iss sub n e g).nn=n:=by rw[mR];show Der.trim (n.take 600)=n;rw[List.take_of_length_le hn,trim_id n h]
theorem k_start:(kase0 iss sub n e g).start=⟨2020,1,1,0,0,0⟩:=by
 unfold br.start;show(if Stamp.right ⟨2020,1,1,0,0,0⟩ then _ else _)=_;exact if_pos aj
theorem k_stop:(kase0 iss sub n e g).stop=⟨2060,1,1,0,0,0⟩:=by
 unfold br.stop;rw[k_start];show(if !Stamp.right ⟨2060,1,1,0,0,0⟩||Stamp.less ⟨2060,1,1,0,0,0⟩ ⟨2020,1,1,0,0,0⟩ then _ else _)=_;exact if_neg aj
theorem k_fl:(kase0 iss sub n e g).fl=⟨true,-1,-1,true⟩:=by unfold br.fl;rfl
theorem k_ser:(kase0 iss sub n e g).serial=[1,0]:=by rw[iC];rfl
theorem k_tbs (hn:n.length≤600) (h:n.headD 0≠0) (hi:iss.length≤200) (hs:sub.length≤200) (he:e<8589934592) :
 (kase0 iss sub n e g).tbs=Ref.tbs (Ref.name iss) (Ref.name sub) [1,0] n ⟨2020,1,1,0,0,0⟩ ⟨2060,1,1,0,0,0⟩ e ⟨true,-1,-1,true⟩:=by
 unfold br.tbs;rw[k_nn iss sub n g e hn h,k_start,k_stop,k_fl,k_ser];show Ref.tbs (Ref.name (iss.take 200)) (Ref.name (sub.take 200)) _ _ _ _ (e % 8589934592) _=_;rw[List.take_of_length_le hi,List.take_of_length_le hs,Nat.mod_eq_of_lt he]
theorem k_sg (hn:n.length≤600) (h:n.headD 0≠0) (hi:iss.length≤200) (hs:sub.length≤200) (he:e<8589934592) :
 (kase0 iss sub n e g).sg=⟨(kase0 iss sub n e g).tbs,Ref.name iss,Ref.name sub,[1,0],⟨2020,1,1,0,0,0⟩,⟨2060,1,1,0,0,0⟩,n,e,⟨true,-1,-1,true⟩⟩:=by
 unfold br.sg;rw[k_nn iss sub n g e hn h,k_start,k_stop,k_fl,k_ser];show(⟨_,Ref.name (iss.take 200),Ref.name (sub.take 200),_,_,_,_,e % 8589934592,_⟩:Sg)=_;rw[List.take_of_length_le hi,List.take_of_length_le hs,Nat.mod_eq_of_lt he]
end
end Lad
end Go.Proofs.YtmpkpphfoidbeaaGreatDoor
