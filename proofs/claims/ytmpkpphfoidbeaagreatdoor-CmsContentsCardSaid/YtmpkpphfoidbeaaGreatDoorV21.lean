import Derived.Test.YtmpkpphfoidbeaaGreatDoorV20
set_option linter.unusedVariables false
set_option linter.unusedSimpArgs false
set_option maxRecDepth 100000
namespace Go.Proofs.YtmpkpphfoidbeaaGreatDoor
open Go.RowKit
theorem oZ {Q:Exit→Act→World→Prop} {o:Oper} {a:Act} {w:World} {Ji:Value→World→Prop} {R:World→World→Prop} {x y:Operand} {g k n c:Nat} {A:Option Addr} {u:Value} (hn:o.dst=none) (ho:o.op=.store 22 x y)
 (hx:a.eval x=.pointer (some ⟨g,k,none⟩)) (hy:a.eval y=.slice A n c) (hc:w.cell? ⟨g,k,none⟩=some u) (hf:w.frozen? ⟨g,k,none⟩=false) (hJ:Ji undef (w.setCell ⟨g,k,none⟩ (.slice A n c))) (hR:R w (w.setCell ⟨g,k,none⟩ (.slice A n c))) :
 o.wp Tryz.prog a w (fun a' w'=>∃v,a'=a.put o.dst v∧(o.dst=none→v=undef)∧Ji v w'∧R w w') Q:=by
 have hr:(storeVar 22 ⟨g,k,none⟩ (.slice A n c)).run Tryz.prog w=.ok () (w.setCell ⟨g,k,none⟩ (.slice A n c)):=by simp[go_sem,hc,hf]
 unfold Oper.wp execOp;simp only[ho,hx,hy,Instr.storeAt,Instr.sureAddr,Sem.run_bind,Sem.run_pure,Result.andThen_ok,hr];exact⟨undef,by rw[hn],fun _=>rfl,hJ,hR⟩
theorem G2.keep {B r s lo:Nat} {w w':World} (h:G2 B r s w w') (hr:r<lo) (hs:s<lo):au lo w w':=fun g cs t h1 h2=>by
 rcases Nat.lt_or_ge g B with hb|hb
 ·exact(h.old g hb ab ab).trans h2
 ·exact h.rows g cs t hb h2
structure ig (w:World) (r er:Nat) (cs:Array Value) (g n c hi:Nat) (L:List EI) (W:World):Prop where
 gr:w.grownBy W (some r)
 rr:Rr W r er
 sb:aw W (w.heap.size+1) 54 cs
 ow:aU W (w.heap.size+1+1) hi (.slice (some ⟨g,0,none⟩) n c) L
 top:hi≤W.heap.size
 gl:dr W
section
variable {w W W' : World} {r er er' g n c hi : Nat} {cs cs' : Array Value} {L : List EI}
theorem ig.grown (h:ig w r er cs g n c hi L W) (hg:W.grownBy W' (some r)) (hr:Rr W' r er') (hrw:r<w.heap.size) (h6:6≤r):ig w r er' cs g n c hi L W':=
 ⟨h.gr.trans hg,hr,h.sb.grown hg (fun e=>by injection e with e;omega),h.ow.keepRows (au.grown hg ab),Nat.le_trans h.top hg.size,h.gl.grown hg h6⟩
theorem ig.below (h:ig w r er cs g n c hi L W) (hb:Below W.heap.size W W'):ig w r er cs g n c hi L W':=
 ⟨h.gr.trans (aH hb _),h.rr.below hb,h.sb.below hb h.sb.lt,h.ow.keepRows (au.below hb nl_),Nat.le_trans h.top hb.size,h.gl.below hb⟩
theorem ig.turn (h:ig w r er cs g n c hi L W) {B:Nat} (hg:G2 B r (w.heap.size+1) W W') (hB:w.heap.size≤B) (hr:Rr W' r er') (hs:aw W' (w.heap.size+1) 54 cs') (hrw:r<w.heap.size) (h6:6≤r):ig w r er' cs' g n c hi L W':=
 ⟨⟨hg.os.trans h.gr.os,hg.tape.trans h.gr.tape,hg.output.trans h.gr.output,Nat.le_trans h.gr.size hg.size,fun k hk hne=>(hg.old k ab (fun e=>hne (by rw[e])) ab).trans (h.gr.block k hk hne)⟩,hr,hs,
   h.ow.keepRows (hg.keep ab ab),Nat.le_trans h.top hg.size,h.gl.g2 hg ab h6 ab⟩
theorem ig.el (h:ig w r er cs g n c hi L W) (k o:Nat) (hk:k<n) (ho:o=k*3) :
 ∃t A1 n1 c1 body A2 n2 c2 raw,(L.map EI.dat).getD k El.none_=(t,body,raw)∧L[k]? = some ⟨t,.slice A1 n1 c1,body,.slice A2 n2 c2,raw⟩∧W.cell? ⟨g,o,none⟩=some (.int .u8 (t.toNat:Int))∧W.cell? ⟨g,o+1,none⟩=some (.slice A1 n1 c1)∧W.cell? ⟨g,o+2,none⟩=some (.slice A2 n2 c2)∧
  az W (w.heap.size+1+1) hi (.slice A1 n1 c1) body∧az W (w.heap.size+1+1) hi (.slice A2 n2 c2) raw∧Rd W W.heap.size A1 n1 c1 body∧Rd W W.heap.size A2 n2 c2 raw:=by
 obtain⟨t,A1,n1,c1,body,A2,n2,c2,raw,hx,p0,p1,p2,R1,R2,hL⟩:=h.ow.el rfl (Below.refl hi W) nl_ k o hk ho;exact⟨t,A1,n1,c1,body,A2,n2,c2,raw,hx,hL,p0,p1,p2,h.ow.own1 hL,h.ow.own2 hL,R1.more h.top,R2.more h.top⟩
theorem cG {L:List EI} {m k n:Nat} {t:UInt8} {b raw:List UInt8} (hm:∀y∈L.map EI.dat,y.2.1.length≤m∧y.2.2.length≤m) (hx:(L.map EI.dat).getD k El.none_=(t,b,raw)) (hk:k<n) (hn:n=L.length):b.length≤m∧raw.length≤m:=by
 refine hm (t,b,raw) ?_;rw[←hx,List.getD_eq_getElem?_getD,List.getElem?_eq_getElem (by rw[List.length_map];omega)];exact List.getElem_mem _
end
structure yR (B r er er' s:Nat) (v0 v1 x y:Value) (rest:List Value) (W:World):Prop where
 rd:∃e,(e=er∨e=er')∧Rr W r e
 sb:∃a b,(a=v0∨a=x)∧(b=v1∨b=y)∧aw W s 54 (a::b::rest).toArray
structure dQ (B r er er' s:Nat) (v0 v1 x y:Value) (rest:List Value) (W W':World):Prop where
 g2:G2 B r s W W'
 rd:∀e,(e=er∨e=er')→Rr W r e→∃e',(e'=e∨e'=er')∧Rr W' r e'
 sb:∀a b,aw W s 54 (a::b::rest).toArray→∃a' b',(a'=a∨a'=x)∧(b'=b∨b'=y)∧aw W' s 54 (a'::b'::rest).toArray
section
variable {B r er er' s : Nat} {v0 v1 x y : Value} {rest : List Value} {W W' : World}
theorem dQ.refl (W:World):dQ B r er er' s v0 v1 x y rest W W:=⟨G2.refl _ _ _ _,fun e _ h=>⟨e,.inl rfl,h⟩,fun a b h=>⟨a,b,.inl rfl,.inl rfl,h⟩⟩
theorem yR.next (h:yR B r er er' s v0 v1 x y rest W) (hR:dQ B r er er' s v0 v1 x y rest W W'):yR B r er er' s v0 v1 x y rest W':=by
 obtain⟨⟨e,he,hr⟩,a,b,ha,hb,hs⟩:=h;obtain⟨e',he',hr'⟩:=hR.rd e he hr;obtain⟨a',b',ha',hb',hs'⟩:=hR.sb a b hs;refine⟨⟨e',?_,hr'⟩,a',b',?_,?_,hs'⟩
 ·rcases he' with rfl|rfl
  ·exact he
  ·exact .inr rfl
 ·rcases ha' with rfl|rfl
  ·exact ha
  ·exact .inr rfl
 ·rcases hb' with rfl|rfl
  ·exact hb
  ·exact .inr rfl
theorem dQ.last (hR:dQ B r er er' s v0 v1 x y rest W W') (h:Rr W r er'):Rr W' r er':=by
 obtain⟨e',he',hr'⟩:=hR.rd er' (.inr rfl) h;rcases he' with rfl|rfl<;>exact hr'
theorem dQ.fst (hR:dQ B r er er' s v0 v1 x y rest W W') (h:∃b,aw W s 54 (x::b::rest).toArray):∃b,aw W' s 54 (x::b::rest).toArray:=by
 obtain⟨b,hb⟩:=h;obtain⟨a',b',ha',hb',hs'⟩:=hR.sb x b hb;rcases ha' with rfl|rfl<;>exact⟨b',hs'⟩
theorem dQ.snd (hR:dQ B r er er' s v0 v1 x y rest W W') (h:∃a,aw W s 54 (a::y::rest).toArray):∃a,aw W' s 54 (a::y::rest).toArray:=by
 obtain⟨a,ha⟩:=h;obtain⟨a',b',ha',hb',hs'⟩:=hR.sb a y ha;rcases hb' with rfl|rfl<;>exact⟨a',hs'⟩
theorem za (h1:∃b,aw W s 54 (x::b::rest).toArray) (h2:∃a,aw W s 54 (a::y::rest).toArray):aw W s 54 (x::y::rest).toArray:=by
 obtain⟨b,hb⟩:=h1;obtain⟨a,ha⟩:=h2;have e:some (Obj.cells (x::b::rest).toArray 54 (0,0))=some (Obj.cells (a::y::rest).toArray 54 (0,0)):=hb.symm.trans ha;injection e with e
 injection e with e _
 have e2:=congrArg Array.toList e;simp only[List.cons.injEq]at e2;rw[←e2.2.1];exact hb
theorem dQ.put0 (hsB:s<B) (hrs:r≠s):dQ B r er er' s v0 v1 x y rest W (W.setCell ⟨s,0,none⟩ x):=
 ⟨G2.put _ _ _ hsB,fun e _ h=>⟨e,.inl rfl,h.far hrs _⟩,fun a b h=>⟨x,b,.inr rfl,.inl rfl,by simpa using h.set_ 0 x⟩⟩
theorem dQ.put1 (hsB:s<B) (hrs:r≠s):dQ B r er er' s v0 v1 x y rest W (W.setCell ⟨s,1,none⟩ y):=
 ⟨G2.put _ _ _ hsB,fun e _ h=>⟨e,.inl rfl,h.far hrs _⟩,fun a b h=>⟨a,y,.inl rfl,.inr rfl,by simpa using h.set_ 1 y⟩⟩
theorem dQ.read (hg:W.grownBy W' (some r)) (hB:B≤W.heap.size) (hr:r<B) (hrs:r≠s) (hrd:∀e,(e=er∨e=er')→Rr W r e→∃e',(e'=e∨e'=er')∧Rr W' r e'):dQ B r er er' s v0 v1 x y rest W W':=
 ⟨G2.grown hg hB hr,hrd,fun a b h=>⟨a,b,.inl rfl,.inl rfl,h.grown hg (fun e=>hrs (by injection e with e;exact e.symm))⟩⟩
end
structure SV where
 iss:Value
 ser:Value
 att:Value
 kind:Value
 dig:Value
 sig:Value
def SV.cells (v:SV):Array Value:=#[v.iss,v.ser,v.att,v.kind,v.dig,v.sig]
def SV.val (v:SV):Value:=.agg v.cells
def SV.rows (v:SV) (s:Sr):List (Value×List UInt8):=[(v.iss,s.iss),(v.ser,s.ser),(v.att,s.att),(v.kind,s.kind),(v.dig,s.dig),(v.sig,s.sig)]
def AR (r er:Nat) (w:World) (x:El) (e:Ending) (w':World):Prop:=
 ∃(v:SV) (s:Sr) (er':Nat),e=.returned v.val∧w.grownBy w' (some r)∧Rr w' r er'∧er'=Zc.next er (Zc.signer x)∧
  (∀p∈v.rows s,az w' w.heap.size w'.heap.size p.1 p.2)∧bQ (v.rows s)∧(er'=0→Zc.signer x=.ok s)
theorem bQ.perm {l l':List (Value×List UInt8)} (h:bQ l) (hp:l.Perm l'):bQ l':=(hp.pairwise_iff (fun {a b} h g h1 h2=>h g h2 h1)).1 h
theorem cJ {fn:Func} {t:Tmp} {ty:TypeId} (h:fn.results=#[.cell t ty]) (tmps:Array Value) (P:Program) (w:World) (ad:Addr) (v:Value) (ha:tmps.getD t undef=.pointer (some ad)) (hl:(loadVar ty ad).run P w=.ok v w):(results fn tmps).run P w=.ok v w:=by
 simp only[Array.getD_eq_getD_getElem?]at ha;simp[results,h,ha,hl,asAddr]
theorem kD {w:World} {g:Nat} {v:SV} (h:aw w g 54 v.cells):(loadVar 54 ⟨g,0,none⟩).run Tryz.prog w=.ok v.val w:=by
 have hk:=h.cell;have h0:=run_loadVar_mid (P:=Tryz.prog) w g 0 54 v.cells.toList _ (fun j u hu=>by rw[Nat.zero_add,hk];simpa using hu) Tryz.underlying54 rfl rfl;exact h0
def fi (W:World) (s:Nat) (v:SV) (x:Value):World:=(((((((W.setCell ⟨s,5,none⟩ x).setCell ⟨s,0,none⟩ v.iss).setCell ⟨s,1,none⟩ v.ser).setCell ⟨s,2,none⟩ v.att).setCell ⟨s,3,none⟩ v.kind).setCell ⟨s,4,none⟩ v.dig).setCell ⟨s,5,none⟩ v.sig)
theorem jV {W:World} {s:Nat} {v:SV} {x a0 a1 a2 a3 a4 a5:Value} (h:aw W s 54 #[a0,a1,a2,a3,a4,a5]):aw (fi W s v x) s 54 v.cells:=by
 have:=((((((h.set_ 5 x).set_ 0 v.iss).set_ 1 v.ser).set_ 2 v.att).set_ 3 v.kind).set_ 4 v.dig).set_ 5 v.sig
 simpa [fi,SV.cells]using this
theorem yz {W:World} {B r s:Nat} {v:SV} {x:Value} (hs:s<B):G2 B r s W (fi W s v x):=
 ((((((G2.put W 5 x hs).trans (G2.put _ 0 _ hs)).trans (G2.put _ 1 _ hs)).trans (G2.put _ 2 _ hs)).trans (G2.put _ 3 _ hs)).trans (G2.put _ 4 _ hs)).trans (G2.put _ 5 _ hs)
theorem tY {W:World} {s:Nat} {v:SV} {x:Value}:(fi W s v x).heap.size=W.heap.size:=by simp[fi]
theorem sa {w W:World} {r er e10 g n c hi hi3:Nat} {L L2:List EI} {x:El} {g3 n3 c3:Nat} {v:SV} {s:Sr} {u:Value} {td tg:UInt8} {vb1 vr2:Value} {b1 r2:List UInt8} {a0 a1 a2 a3 a4 a5:Value}
 (hS:ig w r e10 #[a0,a1,a2,a3,a4,a5] g n c hi L W) (hE:aU W hi hi3 (.slice (some ⟨g3,0,none⟩) n3 c3) L2) (hLd:L2[0]? = some ⟨td,vb1,b1,v.iss,s.iss⟩) (hLg:L2[1]? = some ⟨tg,v.ser,s.ser,vr2,r2⟩)
 (hrw:∀p∈[(v.att,s.att),(v.kind,s.kind),(v.dig,s.dig)],az W hi3 W.heap.size p.1 p.2) (hap:bQ [(v.att,s.att),(v.kind,s.kind),(v.dig,s.dig)]) (ho:az W (w.heap.size+1+1) hi v.sig s.sig)
 (h1:w.heap.size+2≤hi) (h2:hi≤hi3) (h3:hi3≤W.heap.size) (hrlt:r<w.heap.size) (h6:6≤r) (hf:e10=Zc.next er (Zc.signer x)∧(e10=0→Zc.signer x=.ok s)) :
 AR r er w x (.returned v.val) (fi W (w.heap.size+1) v u):=by
 have hg:=yz (W:=W) (B:=W.heap.size) (r:=r) (v:=v) (x:=u) (show w.heap.size+1<W.heap.size by omega);have qg:=hS.turn hg (by have:=hS.gr.size;omega) (by
  have:=hS.rr;unfold fi;exact(((((((this.far ak _).far ak _).far ak _).far ak _).far ak _).far ak _).far ak _)) (jV hS.sb) hrlt h6
 have hk:∀lo,w.heap.size+2≤lo→au lo W (fi W (w.heap.size+1) v u):=fun lo hl=>hg.keep ab ab
 have qk:=hE.keepRows (hk hi h1);have qd:bQ [(v.iss,s.iss),(v.ser,s.ser)]:=.cons (fun y hy=>by
  obtain rfl:=List.mem_singleton.1 hy;exact i9 hE.2.2 (eS hLd).2 (eS hLg).1 ab) (.cons (fun y hy=>by simp at hy) .nil)
 have qc:∀p∈[(v.iss,s.iss),(v.ser,s.ser)],az W hi hi3 p.1 p.2:=fun p hp=>by
  simp only[List.mem_cons,List.not_mem_nil,or_false]at hp;rcases hp with rfl|rfl
  ·exact hE.own2 hLd
  ·exact hE.own1 hLg
 have qh:∀p∈[(v.sig,s.sig)],az W (w.heap.size+1+1) hi p.1 p.2:=fun p hp=>by
  obtain rfl:=List.mem_singleton.1 hp;exact ho
 have hA:=ep qh (fun p hp=>(List.mem_append.1 hp).elim (fun h=>(qc p h).mono nl_ h3) (fun h=>(hrw p h).mono h2 nl_)) (.cons (fun y hy=>by simp at hy) .nil) (ep qc hrw qd hap);refine⟨v,s,e10,rfl,qg.gr,qg.rr,hf.1,fun p hp=>?_,hA.perm (List.perm_append_comm (l₁:=[(v.sig,s.sig)]) (l₂:=[(v.iss,s.iss),(v.ser,s.ser)]++[(v.att,s.att),(v.kind,s.kind),(v.dig,s.dig)])),hf.2⟩;simp only[SV.rows,List.mem_cons,List.not_mem_nil,or_false]at hp;rw[tY];rcases hp with rfl|rfl|rfl|rfl|rfl|rfl
 ·exact((qc (v.iss,s.iss) ag).keepRows (hk hi h1)).mono ab ab
 ·exact((qc (v.ser,s.ser) ag).keepRows (hk hi h1)).mono ab ab
 ·exact((hrw (v.att,s.att) ag).keepRows (hk hi3 ab)).mono ab ab
 ·exact((hrw (v.kind,s.kind) ag).keepRows (hk hi3 ab)).mono ab ab
 ·exact((hrw (v.dig,s.dig) ag).keepRows (hk hi3 ab)).mono ab ab
 ·exact(ho.keepRows (hk _ ab)).mono ab ab
set_option maxHeartbeats 8000000 in
theorem ug (r er:Nat) (t:UInt8) (A1 A2:Option Addr) (n1 c1 n2 c2:Nat) (b raw:List UInt8) (w:World) (h:Rr w r er) (h6:6≤r) (hG:dr w) (h1:Rd w w.heap.size A1 n1 c1 b) (hn:n1≤1099511627) :
 Calls Tryz.prog 83 #[.pointer (some ⟨r,0,none⟩),.agg #[.int .u8 (t.toNat:Int),.slice A1 n1 c1,.slice A2 n2 c2]] w (AR r er w (t,b,raw)):=by
 have q4:=h.lt;have j8:Below w.heap.size w ((w.alloc (.cells #[.int .u8 (t.toNat:Int),.slice A1 n1 c1,.slice A2 n2 c2] 84)).alloc (.cells #[.slice none 0 0,.slice none 0 0,.slice none 0 0,.slice none 0 0,.slice none 0 0,.slice none 0 0] 54)):=by(repeat (first|exact Below.refl _ _|assumption|(refine Below.setCell ?_ al _)|(refine Below.alloc ?_ al _)|(refine ar ?_ _)|(refine Below.drew ?_)))
 have hX:=(aw.new w 84 #[.int .u8 (t.toNat:Int),.slice A1 n1 c1,.slice A2 n2 c2]).alloc (.cells #[.slice none 0 0,.slice none 0 0,.slice none 0 0,.slice none 0 0,.slice none 0 0,.slice none 0 0] 54);have z6:aw ((w.alloc (.cells #[.int .u8 (t.toNat:Int),.slice A1 n1 c1,.slice A2 n2 c2] 84)).alloc (.cells #[.slice none 0 0,.slice none 0 0,.slice none 0 0,.slice none 0 0,.slice none 0 0,.slice none 0 0] 54)) (w.heap.size+1) 54 #[.slice none 0 0,.slice none 0 0,.slice none 0 0,.slice none 0 0,.slice none 0 0,.slice none 0 0]:=aw.new' _ _ ag;have H:=hd6 j8 hX z6 (h.below j8) (hG.below j8) (h1.up j8);clear j8 hX z6 h h1 hG
 go_enter Tryz.func83,Tryz.ntmps83
 go_wp2_with fail
 refine(bL r er t A1 A2 n1 c1 n2 c2 48 5 6 b raw _ H.2.2.2.1 H.2.2.2.2.2 hn (.inr (.inr (.inr (.inr rfl)))) ab).mono ?_;rintro e w1 ⟨A,n,c,L,e1,rfl,hg1,hr1,he1,hE,hnl,hlo,hhi,_,hm,hok⟩;have v6:n≤6:=ab
 have vo:w.heap.size+2≤w1.heap.size:=by have:=hg1.size;simpa using this
 obtain⟨g,rfl,hgh,hgl⟩:=hE.spot_ ab;have a1:=(Zc.At.start er (Zc.signer (t,b,raw))).step .parts he1 hok;have yv:ig w r e1 #[.slice none 0 0,.slice none 0 0,.slice none 0 0,.slice none 0 0,.slice none 0 0,.slice none 0 0] g n c w1.heap.size L w1:=
  ⟨(aH H.1 _).trans hg1,hr1,H.2.2.1.grown hg1 (fun e=>by injection e with e;omega),hE.mono ag nl_,Nat.le_refl _,H.2.2.2.2.1.grown hg1 h6⟩
 obtain⟨ta,Aa,na,ca,ba,Ab,nb,cb,ra,hxa,hLa,p0,p1,p2,_,_,Ra,Ra'⟩:=yv.el 0 0 ab rfl;have HM:=hd2 hm hnl;obtain⟨hi,hhi1⟩:∃x,w1.heap.size=x:=⟨_,rfl⟩
 rw[hhi1]at yv;have vi:hi≤w1.heap.size:=ab
 have ve:w.heap.size+2≤hi:=ab
 have H1:=hd4 yv a1 hxa Ra';clear hg1 hr1 he1 hE hnl hhi hm hok a1 yv hxa hLa Ra Ra' H hhi1
 go_wp2_with fail
 refine(rQ r e1 ta (.slice Aa na ca) Ab nb cb ba ra _ H1.1.rr H1.2.2.2).mono ?_;rintro e w2 ⟨rfl,hg2,hr2⟩;obtain⟨e2,he2⟩:∃e,e=Zc.next e1 (Zc.one (ta,ba,ra)):=⟨_,rfl⟩
 rw[←he2]at hr2;have a2:=H1.2.1.step (er':=e2) (a:=()) .form (by rw[H1.2.2.1];exact he2) (by rw[H1.2.2.1];exact Zc.form_zero he2);have y0:=H1.1.grown hg2 hr2 q4 h6;have vp:w1.heap.size≤w2.heap.size:=hg2.size;obtain⟨tb,Ac,nc,cc,bb,Ad,nd,cd,rb,hxb,hLb,q0,q1,q2,_,_,Rb,Rb'⟩:=y0.el 1 3 ab rfl;have v7:nc≤n1:=by have:=(cG HM.1 hxb (show 1<n by omega) HM.2).1;have:=Rb.len;omega
 have H2:=hd4 y0 a2 hxb Rb;clear hg2 hr2 he2 a2 y0 hxb hLb Rb Rb' p0 p1 p2
 go_wp2_with fail
 refine(bL r e2 tb Ac Ad nc cc nd cd 48 2 2 bb rb _ H2.1.rr H2.2.2.2 ab (.inr (.inr (.inl rfl))) ab).mono ?_;rintro e w3 ⟨A3,n3,c3,L2,e3,rfl,hg3,hr3,he3,hE3,hnl3,hlo3,hhi3,_,hm3,hok3⟩;obtain rfl:n3=2:=ab
 have vt:w2.heap.size≤w3.heap.size:=hg3.size;obtain⟨g3,rfl,hg3h,hg3l⟩:=hE3.spot_ ab;have a3:=H2.2.1.step (er':=e3) (a:=L2.map EI.dat) .parts (by rw[H2.2.2.1];exact he3) (by rw[H2.2.2.1];exact hok3);have zs:=H2.1.grown hg3 hr3 q4 h6;have j4:=hE3.mono (lo':=hi) ab nl_;obtain⟨td,Ae,ne,ce,be,Af,nf,cf,re,hxd,u0,u1,u2,_,Re',hLd⟩:=j4.el rfl (Below.refl w3.heap.size w3) nl_ 0 0 ab rfl;obtain⟨tg,Ag,ng,cg,bg,Ah,nh,ch,rg,hxg,v0,v1,v2,Rg,_,hLg⟩:=j4.el rfl (Below.refl w3.heap.size w3) nl_ 1 3 ab rfl;have v8:ng≤n1:=by have:=(cG hm3 hxg (show 1<2 by omega) hnl3).1;have:=Rg.len;omega
 have H3:=hd7 zs a3 hxd hxg j4 hLd hLg;clear hg3 hr3 he3 hE3 hnl3 hlo3 hhi3 hm3 hok3 a3 zs j4 hxd hxg Re' Rg hLd hLg q0 q1 q2
 go_wp2_with fail
 refine(eI r e3 td (.slice Ae ne ce) (.slice Af nf cf) 48 be re _ H3.1.rr).mono ?_;rintro e w4 ⟨rfl,hg4,hr4⟩;obtain⟨e4,he4⟩:∃e,e=Zc.next e3 (Zc.body 48 (td,be,re)):=⟨_,rfl⟩
 rw[←he4]at hr4;have a4:=H3.2.1.step (er':=e4) (a:=be) .body (by rw[H3.2.2.1];exact he4) (by rw[H3.2.2.1];exact Zc.body_zero he4);have zz:=H3.1.grown hg4 hr4 q4 h6;have vv:w3.heap.size≤w4.heap.size:=hg4.size;have y5:=H3.2.2.2.2.1.keepRows (au.grown hg4 ab);obtain⟨e5,he5⟩:∃e,e=Zc.next e4 (Zc.body 2 (tg,bg,rg)):=⟨_,rfl⟩
 have yd:e5=Zc.next e5 (Zc.body 2 (tg,bg,rg)):=by
  rw[he5];unfold Zc.next
  by_cases h0:e4=0
  ·cases Zc.body 2 (tg,bg,rg)<;>simp[h0]
  ·simp[h0]
 have a5:=a4.step (er':=e5) (a:=bg) .body (by rw[H3.2.2.2.1];exact he5) (by rw[H3.2.2.2.1];exact Zc.body_zero he5);have H4:=hd5 zz a5 y5 he5 yd;clear hg4 hr4 he4 a4 zz y5 he5 yd a5 u0 u1 u2 v0 v1 v2
 go_upto_region 5 with fail
 have hk:∀W,G2 w4.heap.size r (w.heap.size+1) w4 W→aU W hi w3.heap.size (.slice (some ⟨g3,0,none⟩) 2 c3) L2:=fun W hW=>H4.2.2.1.keepRows (hW.keep ab ab)
 refine bK (fun i v W=>v=([.slice (some ⟨g3,0,none⟩) 2 c3,.pointer (some ⟨g3,0,none⟩),.pointer (some ⟨g3,2,none⟩),.slice Af nf cf,.pointer (some ⟨r,0,none⟩),.slice (some ⟨g3,0,none⟩) 2 c3,.pointer (some ⟨g3,3,none⟩),.agg #[.int .u8 (tg.toNat:Int),.slice Ag ng cg,.slice Ah nh ch],.slice Ag ng cg,.pointer (some ⟨w.heap.size+1,0,none⟩),undef,.pointer (some ⟨w.heap.size+1,1,none⟩),undef]:List Value).getD i undef∧
  (i=8→Rr W r e5)∧(i=10→∃b,aw W (w.heap.size+1) 54 (.slice Af nf cf::b::[.slice none 0 0,.slice none 0 0,.slice none 0 0,.slice none 0 0]).toArray)∧(i=12→∃a,aw W (w.heap.size+1) 54 (a::.slice Ag ng cg::[.slice none 0 0,.slice none 0 0,.slice none 0 0,.slice none 0 0]).toArray))
  (fun W=>G2 w4.heap.size r (w.heap.size+1) w4 W∧yR w4.heap.size r e4 e5 (w.heap.size+1) (.slice none 0 0) (.slice none 0 0) (.slice Af nf cf) (.slice Ag ng cg) [.slice none 0 0,.slice none 0 0,.slice none 0 0,.slice none 0 0] W)
  (dQ w4.heap.size r e4 e5 (w.heap.size+1) (.slice none 0 0) (.slice none 0 0) (.slice Af nf cf) (.slice Ag ng cg) [.slice none 0 0,.slice none 0 0,.slice none 0 0,.slice none 0 0]) rfl dQ.refl
  (fun i v W W' hR h=>⟨h.1,fun hi=>hR.last (h.2.1 hi),fun hi=>hR.fst (h.2.2.1 hi),fun hi=>hR.snd (h.2.2.2 hi)⟩) (fun W W' h hR=>⟨h.1.trans hR.g2,h.2.next hR⟩) (by show bp _ 78=true;decide +kernel) ac
  ⟨G2.below br_.drew nl_,⟨e4,.inl rfl,H4.1.rr⟩,_,_,.inl rfl,.inl rfl,H4.1.sb⟩ ⟨?_,?_,?_,?_,?_,?_,?_,?_,?_,?_,?_,?_,?_,trivial⟩ ?_
 ·refine aA.run rfl ?_;intro a' V hfr hV hdep;exact cP ag rfl (hfr 6 ac) ⟨rfl,fun h=>absurd h aj,fun h=>absurd h aj,fun h=>absurd h aj⟩ (dQ.refl _)
 ·refine aA.run rfl ?_;intro a' V hfr hV hdep;have d:a'.eval (.tmp 27)=.slice (some ⟨g3,0,none⟩) 2 c3:=(hdep 0 ac).1;refine bU ag ?_ ⟨rfl,fun h=>absurd h aj,fun h=>absurd h aj,fun h=>absurd h aj⟩ (dQ.refl _);simp only[execOp,d];simp[go_sem,Act.eval]
 ·refine aA.run rfl ?_;intro a' V hfr hV hdep;have d:a'.eval (.tmp 28)=.pointer (some ⟨g3,0,none⟩):=(hdep 1 ac).1;refine bU ag ?_ ⟨rfl,fun h=>absurd h aj,fun h=>absurd h aj,fun h=>absurd h aj⟩ (dQ.refl _);simp only[execOp,d];simp[go_sem,Act.eval]
 ·refine aA.run rfl ?_;intro a' V hfr hV hdep;have d:a'.eval (.tmp 29)=.pointer (some ⟨g3,2,none⟩):=(hdep 2 ac).1;exact dq ag rfl d (rI ((hk V hV.1).cells3 H3.2.2.2.2.2.1 0 1 2 ⟨rfl,rfl,rfl⟩).2.2) ⟨rfl,fun h=>absurd h aj,fun h=>absurd h aj,fun h=>absurd h aj⟩ (dQ.refl _)
 ·refine aA.run rfl ?_;intro a' V hfr hV hdep;exact cP ag rfl (hfr 0 ac) ⟨rfl,fun h=>absurd h aj,fun h=>absurd h aj,fun h=>absurd h aj⟩ (dQ.refl _)
 ·refine aA.run rfl ?_;intro a' V hfr hV hdep;exact cP ag rfl (hfr 6 ac) ⟨rfl,fun h=>absurd h aj,fun h=>absurd h aj,fun h=>absurd h aj⟩ (dQ.refl _)
 ·refine aA.run rfl ?_;intro a' V hfr hV hdep;have d:a'.eval (.tmp 32)=.slice (some ⟨g3,0,none⟩) 2 c3:=(hdep 5 ac).1;refine bU ag ?_ ⟨rfl,fun h=>absurd h aj,fun h=>absurd h aj,fun h=>absurd h aj⟩ (dQ.refl _);simp only[execOp,d];simp[go_sem,Act.eval]
 ·refine aA.run rfl ?_;intro a' V hfr hV hdep;have d:a'.eval (.tmp 33)=.pointer (some ⟨g3,3,none⟩):=(hdep 6 ac).1;exact dq ag rfl d ((hk V hV.1).load H3.2.2.2.2.2.2 rfl) ⟨rfl,fun h=>absurd h aj,fun h=>absurd h aj,fun h=>absurd h aj⟩ (dQ.refl _)
 ·refine aA.run rfl ?_;intro a' V hfr hV hdep;have d:a'.eval (.tmp 31)=.pointer (some ⟨r,0,none⟩):=(hdep 4 ac).1;have d2:a'.eval (.tmp 34)=.agg #[.int .u8 (tg.toNat:Int),.slice Ag ng cg,.slice Ah nh ch]:=(hdep 7 ac).1
  obtain⟨e0,he0,hre⟩:=hV.2.rd;refine bV ag rfl Tryz.func56 rfl aj (args:=#[.pointer (some ⟨r,0,none⟩),.agg #[.int .u8 (tg.toNat:Int),.slice Ag ng cg,.slice Ah nh ch],.int .u8 2]) (by simp only[List.map_toArray,List.map_cons,List.map_nil,d,d2];rfl) (eI r e0 tg (.slice Ag ng cg) (.slice Ah nh ch) 2 bg rg V hre) ?_;rintro e w'' ⟨rfl,hg,hr⟩;have yh:Rr w'' r e5:=by
   rcases he0 with rfl|rfl
   ·rw[H4.2.2.2.1];exact hr
   ·rw[H4.2.2.2.2];exact hr
  exact⟨_,rfl,⟨rfl,fun _=>yh,fun h=>absurd h aj,fun h=>absurd h aj⟩,dQ.read hg hV.1.size ab ab fun e he h=>⟨e5,.inr rfl,yh⟩⟩
 ·refine aA.run rfl ?_;intro a' V hfr hV hdep;have d:=hfr 4 ac;refine bU ag ?_ ⟨rfl,fun h=>absurd h aj,fun h=>absurd h aj,fun h=>absurd h aj⟩ (dQ.refl _);simp only[execOp,d];simp[go_sem,Act.eval]
 ·refine aA.run rfl ?_;intro a' V hfr hV hdep;have d:a'.eval (.tmp 36)=.pointer (some ⟨w.heap.size+1,0,none⟩):=(hdep 9 ac).1;have d2:a'.eval (.tmp 30)=.slice Af nf cf:=(hdep 3 ac).1
  obtain⟨x,y,_,_,hs⟩:=hV.2.sb;exact oZ rfl rfl d d2 (hs.cell 0) (hs.frozen 0) ⟨rfl,fun h=>absurd h aj,fun _=>⟨y,by simpa using hs.set_ 0 (.slice Af nf cf)⟩,fun h=>absurd h aj⟩ (dQ.put0 ab ab)
 ·refine aA.run rfl ?_;intro a' V hfr hV hdep;have d:=hfr 4 ac;refine bU ag ?_ ⟨rfl,fun h=>absurd h aj,fun h=>absurd h aj,fun h=>absurd h aj⟩ (dQ.refl _);simp only[execOp,d];simp[go_sem,Act.eval]
 ·refine aA.run rfl ?_;intro a' V hfr hV hdep;have d:a'.eval (.tmp 37)=.pointer (some ⟨w.heap.size+1,1,none⟩):=(hdep 11 ac).1;have d2:a'.eval (.tmp 35)=.slice Ag ng cg:=(hdep 8 ac).1
  obtain⟨x,y,_,_,hs⟩:=hV.2.sb;exact oZ rfl rfl d d2 (hs.cell 1) (hs.frozen 1) ⟨rfl,fun h=>absurd h aj,fun h=>absurd h aj,fun _=>⟨x,by simpa using hs.set_ 1 (.slice Ag ng cg)⟩⟩ (dQ.put1 ab ab)
 intro a' w5 hd hsz hfr hV hJ;have ha:=dL (fun i=>([.slice (some ⟨g3,0,none⟩) 2 c3,.pointer (some ⟨g3,0,none⟩),.pointer (some ⟨g3,2,none⟩),.slice Af nf cf,.pointer (some ⟨r,0,none⟩),.slice (some ⟨g3,0,none⟩) 2 c3,.pointer (some ⟨g3,3,none⟩),.agg #[.int .u8 (tg.toNat:Int),.slice Ag ng cg,.slice Ah nh ch],.slice Ag ng cg,.pointer (some ⟨w.heap.size+1,0,none⟩),undef,.pointer (some ⟨w.heap.size+1,1,none⟩),undef]:List Value).getD i undef) (by show bp _ 78=true;decide +kernel) hd hsz hfr (fun i hi=>(hJ i hi).1);have yh:Rr w5 r e5:=(hJ 8 aj).2.1 rfl;have y2:aw w5 (w.heap.size+1) 54 #[.slice Af nf cf,.slice Ag ng cg,.slice none 0 0,.slice none 0 0,.slice none 0 0,.slice none 0 0]:=za ((hJ 10 aj).2.2.1 rfl) ((hJ 12 aj).2.2.2 rfl);have yy:=hk w5 hV.1;have z0:=H4.1.turn hV.1 ab yh y2 q4 h6;have vw:w4.heap.size≤w5.heap.size:=hV.1.size;have y4:Rd w5 w5.heap.size Ag ng cg bg:=(yy.own1 H3.2.2.2.2.2.2).rdx.more ab;have H5:=hd3 z0 yy y4;clear hd hsz hfr hV hJ yh yy z0 hk y4;have z7:List.range 13=[0,1,2,3,4,5,6,7,8,9,10,11,12]:=rfl;simp only[dT,List.map_cons,List.map_nil,List.size_toArray,List.length_cons,List.length_nil,Nat.reduceAdd,z7,List.zip_cons_cons,List.zip_nil_left,List.foldl_cons,List.foldl_nil,Act.put,List.setIfInBounds_toArray,List.set_cons_zero,List.set_cons_succ,List.getD_cons_zero,List.getD_cons_succ]at ha;subst ha;clear z7;apply_assumption;obtain⟨s0,s1⟩:=y2.facts;clear y2
 go_wp2_with fail
 refine(rE Ag ng cg bg _ H5.2.2 ab).mono ?_;intro e w6 hpost;obtain⟨v,q,rfl,hq,hb6⟩:∃v q,e=.returned (.tuple #[v,.bool q])∧(Der.int bg).isSome=q∧Below w5.heap.size w5 w6:=by
  rcases hpost with⟨hb,⟨h1,rfl⟩|⟨ys,A,n,c,h1,rfl,_⟩⟩
  ·exact⟨_,false,rfl,by rw[h1];rfl,hb⟩
  ·exact⟨_,true,rfl,by rw[h1];rfl,hb⟩
 have z4:=H5.1.below hb6;have y6:=H5.2.1.keepRows (au.below hb6 nl_);have vy:w5.heap.size≤w6.heap.size:=hb6.size;have H6:=hd3 z4 y6 hq;clear hpost z4 y6 hb6 hq s0 s1
 go_wp2_with fail
 refine(cB r e5 q _ H6.1.rr).mono ?_;rintro e w7 ⟨rfl,hg7,hr7⟩;obtain⟨e6,he7⟩:∃e,e=Zc.next e5 (Zc.form q):=⟨_,rfl⟩
 rw[←he7]at hr7;rw[←H6.2.2]at he7;have a7:=H4.2.1.step (er':=e6) (a:=()) .form he7 (Zc.form_zero he7);have y1:=H6.1.grown hg7 hr7 q4 h6;have y7:=H6.2.1.keepRows (au.grown hg7 ab);have v3:w6.heap.size≤w7.heap.size:=hg7.size;obtain⟨ti,Ai,ni,ci,bi,Aj,nj,cj,rj,hxi,hLi,p0,p1,p2,_,_,Ri,_⟩:=y1.el 2 6 ab rfl;have v9:ni≤n1:=by have:=(cG HM.1 hxi (show 2<n by omega) HM.2).1;have:=Ri.len;omega
 have H7:=hd5 y1 y7 a7 hxi Ri;clear hg7 hr7 he7 a7 y1 y7 hxi hLi Ri
 go_wp2_with fail
 refine(k7 r e6 ti Ai Aj ni ci nj cj bi rj _ H7.1.rr h6 H7.1.gl H7.2.2.2.2 ab).mono ?_;rintro e w8 ⟨rfl,hg8,hr8⟩;obtain⟨e7,he8⟩:∃e,e=Zc.next e6 (Zc.hash (ti,bi,rj)):=⟨_,rfl⟩
 rw[←he8]at hr8;have a8:=H7.2.2.1.step (er':=e7) (a:=()) .hash (by rw[H7.2.2.2.1];exact he8) (by rw[H7.2.2.2.1];exact Zc.unit_zero .hash he8);have z5:=H7.1.grown hg8 hr8 q4 h6;have zn:=H7.2.1.keepRows (au.grown hg8 ab);have v4:w7.heap.size≤w8.heap.size:=hg8.size;have H8:=hd3 z5 zn a8;clear hg8 hr8 he8 a8 z5 zn p0 p1 p2;rcases(show n=5∨n=6 by omega) with h5|h5
 ·subst h5
  have qd:(L.map EI.dat).length=5:=by rw[List.length_map,←HM.2]
  obtain⟨w9,hw9⟩:∃W,W=w8:=⟨_,rfl⟩
  obtain⟨e8,he8⟩:∃e,e=e7:=⟨_,rfl⟩
  have j3:=H8.1;have j5:=H8.2.1;have a9:Zc.At er (Zc.signer (t,b,raw)) e7 ((Zc.cipher ((L.map EI.dat).getD ((L.map EI.dat).length - 2) El.none_)).bind fun _=>(Zc.body 4 ((L.map EI.dat).getD ((L.map EI.dat).length - 1) El.none_)).bind fun g=>.ok (⟨((L2.map EI.dat).getD 0 El.none_).2.2,bg,[],[],[],g⟩:Sr)):=by
   have:=H8.2.2;unfold Zc.more at this;rw[if_neg (by rw[qd];decide)]at this;exact this
  rw[←hw9,←he8]at j3;rw[←hw9]at j5;rw[←he8]at a9;rw[←hw9];obtain⟨N1,hN1⟩:∃A:Option Addr,A=none:=⟨_,rfl⟩
  obtain⟨z1,hz1⟩:∃z:Nat,z=0:=⟨_,rfl⟩
  obtain⟨N2,hN2⟩:∃A:Option Addr,A=none:=⟨_,rfl⟩
  obtain⟨z2,hz2⟩:∃z:Nat,z=0:=⟨_,rfl⟩
  obtain⟨N3,hN3⟩:∃A:Option Addr,A=none:=⟨_,rfl⟩
  obtain⟨z3,hz3⟩:∃z:Nat,z=0:=⟨_,rfl⟩
  replace j3:ig w r e8 #[.slice Af nf cf,.slice Ag ng cg,.slice N1 z1 z1,.slice N2 z2 z2,.slice N3 z3 z3,.slice none 0 0] g 5 c hi L w9:=by rw[hN1,hz1,hN2,hz2,hN3,hz3];exact j3
  have y3:w8.heap.size≤w9.heap.size:=by rw[hw9];exact Nat.le_refl _
  have qv:∀p∈[(Value.slice N1 z1 z1,([]:List UInt8)),(Value.slice N2 z2 z2,[]),(Value.slice N3 z3 z3,[])],az w9 w3.heap.size w9.heap.size p.1 p.2:=fun p hp=>by
   rw[hN1,hz1,hN2,hz2,hN3,hz3]at hp;simp only[List.mem_cons,List.not_mem_nil,or_false,or_self]at hp;rw[hp];exact az.nil_
  have q9:bQ [(Value.slice N1 z1 z1,([]:List UInt8)),(Value.slice N2 z2 z2,[]),(Value.slice N3 z3 z3,[])]:=by
   refine List.pairwise_iff_forall_sublist.2 fun {a b} hs g hg=>?_
   rw[hN1,hz1,hN2,hz2,hN3,hz3]at hs;have:=hs.subset (List.mem_cons_self (a:=a));simp only[List.mem_cons,List.not_mem_nil,or_false,or_self]at this;rw[this]at hg;simp[Value.ownBlock]at hg
  clear hw9 he8 hN1 hz1 hN2 hz2 hN3 hz3;obtain⟨tk,Ak,nk,ck,bk,Al,nl,cl,rl,hxk,hLk,p0,p1,p2,_,_,Rk,_⟩:=j3.el 3 9 ab rfl;have vn:nk≤n1:=by have:=(cG HM.1 hxk ab HM.2).1;have:=Rk.len;omega
  have H9:=hd7 j3 j5 qv q9 a9 hxk Rk;clear j3 j5 qv q9 a9 hxk hLk Rk
  go_wp2_with fail
  refine(lI r e8 tk Ak Al nk ck nl cl bk rl _ H9.1.rr h6 H9.1.gl H9.2.2.2.2.2.2 ab).mono ?_;rintro e w10 ⟨rfl,hg10,hr10⟩;obtain⟨e9,he10⟩:∃e,e=Zc.next e8 (Zc.cipher (tk,bk,rl)):=⟨_,rfl⟩
  rw[←he10]at hr10;have j6:=H9.2.2.2.2.1.step (er':=e9) (a:=()) .cipher (by rw[qd,H9.2.2.2.2.2.1];exact he10) (by rw[qd,H9.2.2.2.2.2.1];exact Zc.unit_zero .cipher he10);have qk:=H9.1.grown hg10 hr10 q4 h6;have q5:=H9.2.1.keepRows (au.grown hg10 ab);have j1:w9.heap.size≤w10.heap.size:=hg10.size;have qh:∀p∈[(Value.slice N1 z1 z1,([]:List UInt8)),(Value.slice N2 z2 z2,([]:List UInt8)),(Value.slice N3 z3 z3,([]:List UInt8))],az w10 w3.heap.size w10.heap.size p.1 p.2:=fun p hp=>((H9.2.2.1 p hp).keepRows (au.grown hg10 ab)).mono nl_ j1
  obtain⟨tm,Am,nm,cm,bm,An,nn,cn,rn,hxm,hLm,q0,q1,q2,Om,_,Rm,_⟩:=qk.el 4 12 ab rfl;have qg:=hd6 qk q5 qh j6 hxm Om;clear hg10 hr10 he10 j6 qk q5 qh hxm hLm Rm Om p0 p1 p2
  go_wp2_with fail
  refine(eI r e9 tm (.slice Am nm cm) (.slice An nn cn) 4 bm rn _ qg.1.rr).mono ?_;rintro e w11 ⟨rfl,hg11,hr11⟩;obtain⟨e10,he11⟩:∃e,e=Zc.next e9 (Zc.body 4 (tm,bm,rn)):=⟨_,rfl⟩
  rw[←he11]at hr11;have j7:=(qg.2.2.2.1.step (er':=e10) (a:=bm) .body (by rw[qd,qg.2.2.2.2.1];exact he11) (by rw[qd,qg.2.2.2.2.1];exact Zc.body_zero he11)).fin;have qs:=qg.1.grown hg11 hr11 q4 h6;have q6:=qg.2.1.keepRows (au.grown hg11 ab);have j2:w10.heap.size≤w11.heap.size:=hg11.size;have qc:∀p∈[(Value.slice N1 z1 z1,([]:List UInt8)),(Value.slice N2 z2 z2,([]:List UInt8)),(Value.slice N3 z3 z3,([]:List UInt8))],az w11 w3.heap.size w11.heap.size p.1 p.2:=fun p hp=>((qg.2.2.1 p hp).keepRows (au.grown hg11 ab)).mono nl_ j2
  have q7:=qg.2.2.2.2.2.keepRows (au.grown hg11 ab);obtain⟨s0,s1⟩:=qs.sb.facts;have q3:=hd5 qs q6 qc q7 j7;clear hg11 hr11 he11 j7 qs q6 qc q7 q0 q1 q2
  go_wp2
  have j0:=sa (v:=⟨.slice Af nf cf,.slice Ag ng cg,.slice N1 z1 z1,.slice N2 z2 z2,.slice N3 z3 z3,.slice Am nm cm⟩) (s:=⟨re,bg,[],[],[],bm⟩) (u:=.slice Am nm cm) q3.1 q3.2.1 H3.2.2.2.2.2.1 H3.2.2.2.2.2.2 q3.2.2.1 H9.2.2.2.1 q3.2.2.2.1 ab ab ab q4 h6 (by have:=q3.2.2.2.2;rw[H3.2.2.1]at this;exact this);have hB:=jV (v:=⟨.slice Af nf cf,.slice Ag ng cg,.slice N1 z1 z1,.slice N2 z2 z2,.slice N3 z3 z3,.slice Am nm cm⟩) (x:=.slice Am nm cm) q3.1.sb;change bodyPost _ _ _ _ _ (fi w11 (w.heap.size+1) ⟨.slice Af nf cf,.slice Ag ng cg,.slice N1 z1 z1,.slice N2 z2 z2,.slice N3 z3 z3,.slice Am nm cm⟩ (.slice Am nm cm));generalize fi w11 (w.heap.size+1) ⟨.slice Af nf cf,.slice Ag ng cg,.slice N1 z1 z1,.slice N2 z2 z2,.slice N3 z3 z3,.slice Am nm cm⟩ (.slice Am nm cm)=WZ at j0 hB ⊢;exact bodyPost_ret (cJ Tryz.results83 _ _ _ ⟨w.heap.size+1,0,none⟩ _ rfl (kD hB)) rfl j0
 ·subst h5
  have qd:(L.map EI.dat).length=6:=by rw[List.length_map,←HM.2]
  obtain⟨tj,Bj,mj,dj,bj,Bk,mk,dk,rk,hxj,hLj,p0,p1,p2,Oj,_,Rj,_⟩:=H8.1.el 3 9 ab rfl;have v5:mj≤n1:=by have:=(cG HM.1 hxj ab HM.2).1;have:=Rj.len;omega
  have HJ:=hd2 hxj (Oj.mono nl_ H8.1.top);clear hxj hLj Oj Rj
  go_wp2_with fail
  refine(mL r (w.heap.size+1) e7 (w.heap.size+1+1) _ _ _ _ tj Bj Bk mj dj mk dk bj rk _ H8.1.rr H8.1.sb h6 ab H8.1.gl HJ.2 ab ab ab).mono ?_;rintro e w9 ⟨va,vk,vd,att,ks,ds,e8,rfl,hg9,hr9,hs9,he9,qv,q9,hok9⟩;have j3:=H8.1.turn hg9 ab hr9 hs9 q4 h6;have j5:=H8.2.1.keepRows (hg9.keep ab ab);have y3:w8.heap.size≤w9.heap.size:=hg9.size;have a9:=H8.2.2.step (er':=e8) (a:=(att,ks,ds)) .more (by unfold Zc.more;rw[if_pos qd,HJ.1];exact he9) (by unfold Zc.more;rw[if_pos qd,HJ.1];exact hok9)
  replace qv:∀p∈[(va,att),(vk,ks),(vd,ds)],az w9 w3.heap.size w9.heap.size p.1 p.2:=fun p hp=>(qv p hp).mono ab nl_
  clear hg9 hr9 hs9 he9 hok9 p0 p1 p2;obtain⟨tk,Ak,nk,ck,bk,Al,nl,cl,rl,hxk,hLk,p0,p1,p2,_,_,Rk,_⟩:=j3.el 4 12 ab rfl;have vn:nk≤n1:=by have:=(cG HM.1 hxk ab HM.2).1;have:=Rk.len;omega
  have H9:=hd7 j3 j5 qv q9 a9 hxk Rk;clear j3 j5 qv q9 a9 hxk hLk Rk
  go_wp2_with fail
  refine(lI r e8 tk Ak Al nk ck nl cl bk rl _ H9.1.rr h6 H9.1.gl H9.2.2.2.2.2.2 ab).mono ?_;rintro e w10 ⟨rfl,hg10,hr10⟩;obtain⟨e9,he10⟩:∃e,e=Zc.next e8 (Zc.cipher (tk,bk,rl)):=⟨_,rfl⟩
  rw[←he10]at hr10;have j6:=H9.2.2.2.2.1.step (er':=e9) (a:=()) .cipher (by rw[qd,H9.2.2.2.2.2.1];exact he10) (by rw[qd,H9.2.2.2.2.2.1];exact Zc.unit_zero .cipher he10);have qk:=H9.1.grown hg10 hr10 q4 h6;have q5:=H9.2.1.keepRows (au.grown hg10 ab);have j1:w9.heap.size≤w10.heap.size:=hg10.size;have qh:∀p∈[(va,att),(vk,ks),(vd,ds)],az w10 w3.heap.size w10.heap.size p.1 p.2:=fun p hp=>((H9.2.2.1 p hp).keepRows (au.grown hg10 ab)).mono nl_ j1
  obtain⟨tm,Am,nm,cm,bm,An,nn,cn,rn,hxm,hLm,q0,q1,q2,Om,_,Rm,_⟩:=qk.el 5 15 ab rfl;have qg:=hd6 qk q5 qh j6 hxm Om;clear hg10 hr10 he10 j6 qk q5 qh hxm hLm Rm Om p0 p1 p2
  go_wp2_with fail
  refine(eI r e9 tm (.slice Am nm cm) (.slice An nn cn) 4 bm rn _ qg.1.rr).mono ?_;rintro e w11 ⟨rfl,hg11,hr11⟩;obtain⟨e10,he11⟩:∃e,e=Zc.next e9 (Zc.body 4 (tm,bm,rn)):=⟨_,rfl⟩
  rw[←he11]at hr11;have j7:=(qg.2.2.2.1.step (er':=e10) (a:=bm) .body (by rw[qd,qg.2.2.2.2.1];exact he11) (by rw[qd,qg.2.2.2.2.1];exact Zc.body_zero he11)).fin;have qs:=qg.1.grown hg11 hr11 q4 h6;have q6:=qg.2.1.keepRows (au.grown hg11 ab);have j2:w10.heap.size≤w11.heap.size:=hg11.size;have qc:∀p∈[(va,att),(vk,ks),(vd,ds)],az w11 w3.heap.size w11.heap.size p.1 p.2:=fun p hp=>((qg.2.2.1 p hp).keepRows (au.grown hg11 ab)).mono nl_ j2
  have q7:=qg.2.2.2.2.2.keepRows (au.grown hg11 ab);obtain⟨s0,s1⟩:=qs.sb.facts;obtain⟨Ava,nva,cva,hva,_⟩:=(qc (va,att) ag).rd;obtain⟨Avk,nvk,cvk,hvk,_⟩:=(qc (vk,ks) ag).rd;obtain⟨Avd,nvd,cvd,hvd,_⟩:=(qc (vd,ds) ag).rd;dsimp only at hva hvk hvd;subst hva hvk hvd;have q3:=hd5 qs q6 qc q7 j7;clear hg11 hr11 he11 j7 qs q6 qc q7 q0 q1 q2
  go_wp2
  have j0:=sa (v:=⟨.slice Af nf cf,.slice Ag ng cg,.slice Ava nva cva,.slice Avk nvk cvk,.slice Avd nvd cvd,.slice Am nm cm⟩) (s:=⟨re,bg,att,ks,ds,bm⟩) (u:=.slice Am nm cm) q3.1 q3.2.1 H3.2.2.2.2.2.1 H3.2.2.2.2.2.2 q3.2.2.1 H9.2.2.2.1 q3.2.2.2.1 ab ab ab q4 h6 (by have:=q3.2.2.2.2;rw[H3.2.2.1]at this;exact this);have hB:=jV (v:=⟨.slice Af nf cf,.slice Ag ng cg,.slice Ava nva cva,.slice Avk nvk cvk,.slice Avd nvd cvd,.slice Am nm cm⟩) (x:=.slice Am nm cm) q3.1.sb;change bodyPost _ _ _ _ _ (fi w11 (w.heap.size+1) ⟨.slice Af nf cf,.slice Ag ng cg,.slice Ava nva cva,.slice Avk nvk cvk,.slice Avd nvd cvd,.slice Am nm cm⟩ (.slice Am nm cm));generalize fi w11 (w.heap.size+1) ⟨.slice Af nf cf,.slice Ag ng cg,.slice Ava nva cva,.slice Avk nvk cvk,.slice Avd nvd cvd,.slice Am nm cm⟩ (.slice Am nm cm)=WZ at j0 hB ⊢;exact bodyPost_ret (cJ Tryz.results83 _ _ _ ⟨w.heap.size+1,0,none⟩ _ rfl (kD hB)) rfl j0
end Go.Proofs.YtmpkpphfoidbeaaGreatDoor
