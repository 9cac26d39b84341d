import Derived.Test.YtmpkpphfoidbeaaGreatDoorZ20
set_option linter.unusedVariables false
set_option linter.unusedSimpArgs false
set_option maxRecDepth 100000
namespace Go.Proofs.YtmpkpphfoidbeaaGreatDoor
open Go.RowKit
theorem nP {Q:Exit→Act→World→Prop} {o:Oper} {a:Act} {w:World} {Ji:Value→World→Prop} {R:World→World→Prop} {x y:Operand} {g k n c:Nat} {A:Option Addr} {u:Value} (hn:o.dst=none) (ho:o.op=.store 22 x y)
 (hx:a.eval x=.pointer (some ⟨g,k,none⟩)) (hy:a.eval y=.slice A n c) (hc:w.cell? ⟨g,k,none⟩=some u) (hf:w.frozen? ⟨g,k,none⟩=false) (hJ:Ji undef (w.setCell ⟨g,k,none⟩ (.slice A n c))) (hR:R w (w.setCell ⟨g,k,none⟩ (.slice A n c))) :
 o.wp Tryz.prog a w (fun a' w'=>∃v,a'=a.put o.dst v∧(o.dst=none→v=undef)∧Ji v w'∧R w w') Q:=by
 have hr:(storeVar 22 ⟨g,k,none⟩ (.slice A n c)).run Tryz.prog w=.ok () (w.setCell ⟨g,k,none⟩ (.slice A n c)):=by simp[go_sem,hc,hf]
 unfold Oper.wp execOp;simp only[ho,hx,hy,Instr.storeAt,Instr.sureAddr,Sem.run_bind,Sem.run_pure,Result.andThen_ok,hr];exact⟨undef,by rw[hn],fun _=>rfl,hJ,hR⟩
theorem G2.keep {B r s lo:Nat} {w w':World} (h:G2 B r s w w') (hr:r<lo) (hs:s<lo):ab lo w w':=fun g cs t h1 h2=>by
 rcases Nat.lt_or_ge g B with hb|hb
 ·exact(h.old g hb (by omega) (by omega)).trans h2
 ·exact h.rows g cs t hb h2
structure gE (w:World) (r er:Nat) (cs:Array Value) (g n c hi:Nat) (L:List EI) (W:World):Prop where
 gr:w.grownBy W (some r)
 rr:Rr W r er
 sb:ac W (w.heap.size+1) 54 cs
 ow:aJ W (w.heap.size+1+1) hi (.slice (some ⟨g,0,none⟩) n c) L
 top:hi≤W.heap.size
 gl:cO W
section
variable {w W W' : World} {r er er' g n c hi : Nat} {cs cs' : Array Value} {L : List EI}
theorem gE.grown (h:gE w r er cs g n c hi L W) (hg:W.grownBy W' (some r)) (hr:Rr W' r er') (hrw:r<w.heap.size) (h6:6≤r):gE w r er' cs g n c hi L W':=
 ⟨h.gr.trans hg,hr,h.sb.grown hg (fun e=>by injection e with e;omega),h.ow.keepRows (ab.grown hg (by omega)),Nat.le_trans h.top hg.size,h.gl.grown hg h6⟩
theorem gE.below (h:gE w r er cs g n c hi L W) (hb:Below W.heap.size W W'):gE w r er cs g n c hi L W':=
 ⟨h.gr.trans (ao hb _),h.rr.below hb,h.sb.below hb h.sb.lt,h.ow.keepRows (ab.below hb nl_),Nat.le_trans h.top hb.size,h.gl.below hb⟩
theorem gE.turn (h:gE w r er cs g n c hi L W) {B:Nat} (hg:G2 B r (w.heap.size+1) W W') (hB:w.heap.size≤B) (hr:Rr W' r er') (hs:ac W' (w.heap.size+1) 54 cs') (hrw:r<w.heap.size) (h6:6≤r):gE w r er' cs' g n c hi L W':=
 ⟨⟨hg.os.trans h.gr.os,hg.tape.trans h.gr.tape,hg.output.trans h.gr.output,Nat.le_trans h.gr.size hg.size,fun k hk hne=>(hg.old k (by omega) (fun e=>hne (by rw[e])) (by omega)).trans (h.gr.block k hk hne)⟩,hr,hs,
   h.ow.keepRows (hg.keep (by omega) (by omega)),Nat.le_trans h.top hg.size,h.gl.g2 hg (by omega) h6 (by omega)⟩
theorem gE.el (h:gE w r er cs g n c hi L W) (k o:Nat) (hk:k<n) (ho:o=k*3) :
 ∃t A1 n1 c1 body A2 n2 c2 raw,(L.map EI.dat).getD k El.none_=(t,body,raw)∧L[k]? = some ⟨t,.slice A1 n1 c1,body,.slice A2 n2 c2,raw⟩∧W.cell? ⟨g,o,none⟩=some (.int .u8 (t.toNat:Int))∧W.cell? ⟨g,o+1,none⟩=some (.slice A1 n1 c1)∧W.cell? ⟨g,o+2,none⟩=some (.slice A2 n2 c2)∧
  aj W (w.heap.size+1+1) hi (.slice A1 n1 c1) body∧aj W (w.heap.size+1+1) hi (.slice A2 n2 c2) raw∧Rd W W.heap.size A1 n1 c1 body∧Rd W W.heap.size A2 n2 c2 raw:=by
 obtain⟨t,A1,n1,c1,body,A2,n2,c2,raw,hx,p0,p1,p2,R1,R2,hL⟩:=h.ow.el rfl (Below.refl hi W) nl_ k o hk ho;exact⟨t,A1,n1,c1,body,A2,n2,c2,raw,hx,hL,p0,p1,p2,h.ow.own1 hL,h.ow.own2 hL,R1.more h.top,R2.more h.top⟩
theorem bQ {L:List EI} {m k n:Nat} {t:UInt8} {b raw:List UInt8} (hm:∀y∈L.map EI.dat,y.2.1.length≤m∧y.2.2.length≤m) (hx:(L.map EI.dat).getD k El.none_=(t,b,raw)) (hk:k<n) (hn:n=L.length):b.length≤m∧raw.length≤m:=by
 refine hm (t,b,raw) ?_;rw[←hx,List.getD_eq_getElem?_getD,List.getElem?_eq_getElem (by rw[List.length_map];omega)];exact List.getElem_mem _
end
structure xS (B r er er' s:Nat) (v0 v1 x y:Value) (rest:List Value) (W:World):Prop where
 rd:∃e,(e=er∨e=er')∧Rr W r e
 sb:∃a b,(a=v0∨a=x)∧(b=v1∨b=y)∧ac W s 54 (a::b::rest).toArray
structure dA (B r er er' s:Nat) (v0 v1 x y:Value) (rest:List Value) (W W':World):Prop where
 g2:G2 B r s W W'
 rd:∀e,(e=er∨e=er')→Rr W r e→∃e',(e'=e∨e'=er')∧Rr W' r e'
 sb:∀a b,ac W s 54 (a::b::rest).toArray→∃a' b',(a'=a∨a'=x)∧(b'=b∨b'=y)∧ac W' s 54 (a'::b'::rest).toArray
section
variable {B r er er' s : Nat} {v0 v1 x y : Value} {rest : List Value} {W W' : World}
theorem dA.refl (W:World):dA B r er er' s v0 v1 x y rest W W:=⟨G2.refl _ _ _ _,fun e _ h=>⟨e,.inl rfl,h⟩,fun a b h=>⟨a,b,.inl rfl,.inl rfl,h⟩⟩
theorem xS.next (h:xS B r er er' s v0 v1 x y rest W) (hR:dA B r er er' s v0 v1 x y rest W W'):xS B r er er' s v0 v1 x y rest W':=by
 obtain⟨⟨e,he,hr⟩,a,b,ha,hb,hs⟩:=h;obtain⟨e',he',hr'⟩:=hR.rd e he hr;obtain⟨a',b',ha',hb',hs'⟩:=hR.sb a b hs;refine⟨⟨e',?_,hr'⟩,a',b',?_,?_,hs'⟩
 ·rcases he' with rfl|rfl
  ·exact he
  ·exact .inr rfl
 ·rcases ha' with rfl|rfl
  ·exact ha
  ·exact .inr rfl
 ·rcases hb' with rfl|rfl
  ·exact hb
  ·exact .inr rfl
theorem dA.last (hR:dA B r er er' s v0 v1 x y rest W W') (h:Rr W r er'):Rr W' r er':=by
 obtain⟨e',he',hr'⟩:=hR.rd er' (.inr rfl) h;rcases he' with rfl|rfl<;>exact hr'
theorem dA.fst (hR:dA B r er er' s v0 v1 x y rest W W') (h:∃b,ac W s 54 (x::b::rest).toArray):∃b,ac W' s 54 (x::b::rest).toArray:=by
 obtain⟨b,hb⟩:=h;obtain⟨a',b',ha',hb',hs'⟩:=hR.sb x b hb;rcases ha' with rfl|rfl<;>exact⟨b',hs'⟩
theorem dA.snd (hR:dA B r er er' s v0 v1 x y rest W W') (h:∃a,ac W s 54 (a::y::rest).toArray):∃a,ac W' s 54 (a::y::rest).toArray:=by
 obtain⟨a,ha⟩:=h;obtain⟨a',b',ha',hb',hs'⟩:=hR.sb a y ha;rcases hb' with rfl|rfl<;>exact⟨a',hs'⟩
theorem yg (h1:∃b,ac W s 54 (x::b::rest).toArray) (h2:∃a,ac W s 54 (a::y::rest).toArray):ac W s 54 (x::y::rest).toArray:=by
 obtain⟨b,hb⟩:=h1;obtain⟨a,ha⟩:=h2;have e:some (Obj.cells (x::b::rest).toArray 54 (0,0))=some (Obj.cells (a::y::rest).toArray 54 (0,0)):=hb.symm.trans ha;injection e with e
 injection e with e _
 have e2:=congrArg Array.toList e;simp only[List.cons.injEq]at e2;rw[←e2.2.1];exact hb
theorem dA.put0 (hsB:s<B) (hrs:r≠s):dA B r er er' s v0 v1 x y rest W (W.setCell ⟨s,0,none⟩ x):=
 ⟨G2.put _ _ _ hsB,fun e _ h=>⟨e,.inl rfl,h.far hrs _⟩,fun a b h=>⟨x,b,.inr rfl,.inl rfl,by simpa using h.set_ 0 x⟩⟩
theorem dA.put1 (hsB:s<B) (hrs:r≠s):dA B r er er' s v0 v1 x y rest W (W.setCell ⟨s,1,none⟩ y):=
 ⟨G2.put _ _ _ hsB,fun e _ h=>⟨e,.inl rfl,h.far hrs _⟩,fun a b h=>⟨a,y,.inl rfl,.inr rfl,by simpa using h.set_ 1 y⟩⟩
theorem dA.read (hg:W.grownBy W' (some r)) (hB:B≤W.heap.size) (hr:r<B) (hrs:r≠s) (hrd:∀e,(e=er∨e=er')→Rr W r e→∃e',(e'=e∨e'=er')∧Rr W' r e'):dA B r er er' s v0 v1 x y rest W W':=
 ⟨G2.grown hg hB hr,hrd,fun a b h=>⟨a,b,.inl rfl,.inl rfl,h.grown hg (fun e=>hrs (by injection e with e;exact e.symm))⟩⟩
end
structure SV where
 iss:Value
 ser:Value
 att:Value
 kind:Value
 dig:Value
 sig:Value
def SV.cells (v:SV):Array Value:=#[v.iss,v.ser,v.att,v.kind,v.dig,v.sig]
def SV.val (v:SV):Value:=.agg v.cells
def SV.rows (v:SV) (s:Sr):List (Value×List UInt8):=[(v.iss,s.iss),(v.ser,s.ser),(v.att,s.att),(v.kind,s.kind),(v.dig,s.dig),(v.sig,s.sig)]
def zC (r er:Nat) (w:World) (x:El) (e:Ending) (w':World):Prop:=
 ∃(v:SV) (s:Sr) (er':Nat),e=.returned v.val∧w.grownBy w' (some r)∧Rr w' r er'∧er'=Zc.next er (Zc.signer x)∧
  (∀p∈v.rows s,aj w' w.heap.size w'.heap.size p.1 p.2)∧bB (v.rows s)∧(er'=0→Zc.signer x=.ok s)
theorem bB.perm {l l':List (Value×List UInt8)} (h:bB l) (hp:l.Perm l'):bB l':=(hp.pairwise_iff (fun {a b} h g h1 h2=>h g h2 h1)).1 h
theorem bT {fn:Func} {t:Tmp} {ty:TypeId} (h:fn.results=#[.cell t ty]) (tmps:Array Value) (P:Program) (w:World) (ad:Addr) (v:Value) (ha:tmps.getD t undef=.pointer (some ad)) (hl:(loadVar ty ad).run P w=.ok v w):(results fn tmps).run P w=.ok v w:=by
 simp only[Array.getD_eq_getD_getElem?]at ha;simp[results,h,ha,hl,asAddr]
theorem jI {w:World} {g:Nat} {v:SV} (h:ac w g 54 v.cells):(loadVar 54 ⟨g,0,none⟩).run Tryz.prog w=.ok v.val w:=by
 have hk:=h.cell;have h0:=run_loadVar_mid (P:=Tryz.prog) w g 0 54 v.cells.toList _ (fun j u hu=>by rw[Nat.zero_add,hk];simpa using hu) Tryz.underlying54 rfl rfl;exact h0
def eJ (W:World) (s:Nat) (v:SV) (x:Value):World:=(((((((W.setCell ⟨s,5,none⟩ x).setCell ⟨s,0,none⟩ v.iss).setCell ⟨s,1,none⟩ v.ser).setCell ⟨s,2,none⟩ v.att).setCell ⟨s,3,none⟩ v.kind).setCell ⟨s,4,none⟩ v.dig).setCell ⟨s,5,none⟩ v.sig)
theorem jt {W:World} {s:Nat} {v:SV} {x a0 a1 a2 a3 a4 a5:Value} (h:ac W s 54 #[a0,a1,a2,a3,a4,a5]):ac (eJ W s v x) s 54 v.cells:=by
 have:=((((((h.set_ 5 x).set_ 0 v.iss).set_ 1 v.ser).set_ 2 v.att).set_ 3 v.kind).set_ 4 v.dig).set_ 5 v.sig
 simpa [eJ,SV.cells]using this
theorem xA {W:World} {B r s:Nat} {v:SV} {x:Value} (hs:s<B):G2 B r s W (eJ W s v x):=
 ((((((G2.put W 5 x hs).trans (G2.put _ 0 _ hs)).trans (G2.put _ 1 _ hs)).trans (G2.put _ 2 _ hs)).trans (G2.put _ 3 _ hs)).trans (G2.put _ 4 _ hs)).trans (G2.put _ 5 _ hs)
theorem sI {W:World} {s:Nat} {v:SV} {x:Value}:(eJ W s v x).heap.size=W.heap.size:=by simp[eJ]
theorem qO {w W:World} {r er e10 g n c hi hi3:Nat} {L L2:List EI} {x:El} {g3 n3 c3:Nat} {v:SV} {s:Sr} {u:Value} {td tg:UInt8} {vb1 vr2:Value} {b1 r2:List UInt8} {a0 a1 a2 a3 a4 a5:Value}
 (hS:gE w r e10 #[a0,a1,a2,a3,a4,a5] g n c hi L W) (hE:aJ W hi hi3 (.slice (some ⟨g3,0,none⟩) n3 c3) L2) (hLd:L2[0]? = some ⟨td,vb1,b1,v.iss,s.iss⟩) (hLg:L2[1]? = some ⟨tg,v.ser,s.ser,vr2,r2⟩)
 (hrw:∀p∈[(v.att,s.att),(v.kind,s.kind),(v.dig,s.dig)],aj W hi3 W.heap.size p.1 p.2) (hap:bB [(v.att,s.att),(v.kind,s.kind),(v.dig,s.dig)]) (ho:aj W (w.heap.size+1+1) hi v.sig s.sig)
 (h1:w.heap.size+2≤hi) (h2:hi≤hi3) (h3:hi3≤W.heap.size) (hrlt:r<w.heap.size) (h6:6≤r) (hf:e10=Zc.next er (Zc.signer x)∧(e10=0→Zc.signer x=.ok s)) :
 zC r er w x (.returned v.val) (eJ W (w.heap.size+1) v u):=by
 have hg:=xA (W:=W) (B:=W.heap.size) (r:=r) (v:=v) (x:=u) (show w.heap.size+1<W.heap.size by omega);have qg:=hS.turn hg (by have:=hS.gr.size;omega) (by
  have:=hS.rr;unfold eJ;exact(((((((this.far (by dsimp only;omega) _).far (by dsimp only;omega) _).far (by dsimp only;omega) _).far (by dsimp only;omega) _).far (by dsimp only;omega) _).far (by dsimp only;omega) _).far (by dsimp only;omega) _)) (jt hS.sb) hrlt h6
 have hk:∀lo,w.heap.size+2≤lo→ab lo W (eJ W (w.heap.size+1) v u):=fun lo hl=>hg.keep (by omega) (by omega)
 have qk:=hE.keepRows (hk hi h1);have qd:bB [(v.iss,s.iss),(v.ser,s.ser)]:=.cons (fun y hy=>by
  obtain rfl:=List.mem_singleton.1 hy;exact iy hE.2.2 (ex hLd).2 (ex hLg).1 (by omega)) (.cons (fun y hy=>by simp at hy) .nil)
 have qc:∀p∈[(v.iss,s.iss),(v.ser,s.ser)],aj W hi hi3 p.1 p.2:=fun p hp=>by
  simp only[List.mem_cons,List.not_mem_nil,or_false]at hp;rcases hp with rfl|rfl
  ·exact hE.own2 hLd
  ·exact hE.own1 hLg
 have qh:∀p∈[(v.sig,s.sig)],aj W (w.heap.size+1+1) hi p.1 p.2:=fun p hp=>by
  obtain rfl:=List.mem_singleton.1 hp;exact ho
 have hA:=dS qh (fun p hp=>(List.mem_append.1 hp).elim (fun h=>(qc p h).mono nl_ h3) (fun h=>(hrw p h).mono h2 nl_)) (.cons (fun y hy=>by simp at hy) .nil) (dS qc hrw qd hap);refine⟨v,s,e10,rfl,qg.gr,qg.rr,hf.1,fun p hp=>?_,hA.perm (List.perm_append_comm (l₁:=[(v.sig,s.sig)]) (l₂:=[(v.iss,s.iss),(v.ser,s.ser)]++[(v.att,s.att),(v.kind,s.kind),(v.dig,s.dig)])),hf.2⟩;simp only[SV.rows,List.mem_cons,List.not_mem_nil,or_false]at hp;rw[sI];rcases hp with rfl|rfl|rfl|rfl|rfl|rfl
 ·exact((qc (v.iss,s.iss) (by simp)).keepRows (hk hi h1)).mono (by omega) (by omega)
 ·exact((qc (v.ser,s.ser) (by simp)).keepRows (hk hi h1)).mono (by omega) (by omega)
 ·exact((hrw (v.att,s.att) (by simp)).keepRows (hk hi3 (by omega))).mono (by omega) (by omega)
 ·exact((hrw (v.kind,s.kind) (by simp)).keepRows (hk hi3 (by omega))).mono (by omega) (by omega)
 ·exact((hrw (v.dig,s.dig) (by simp)).keepRows (hk hi3 (by omega))).mono (by omega) (by omega)
 ·exact(ho.keepRows (hk _ (by omega))).mono (by omega) (by omega)
set_option maxHeartbeats 8000000 in
theorem sQ (r er:Nat) (t:UInt8) (A1 A2:Option Addr) (n1 c1 n2 c2:Nat) (b raw:List UInt8) (w:World) (h:Rr w r er) (h6:6≤r) (hG:cO w) (h1:Rd w w.heap.size A1 n1 c1 b) (hn:n1≤1099511627) :
 Calls Tryz.prog 83 #[.pointer (some ⟨r,0,none⟩),.agg #[.int .u8 (t.toNat:Int),.slice A1 n1 c1,.slice A2 n2 c2]] w (zC r er w (t,b,raw)):=by
 have q4:=h.lt;have yd:Below w.heap.size w ((w.alloc (.cells #[.int .u8 (t.toNat:Int),.slice A1 n1 c1,.slice A2 n2 c2] 84)).alloc (.cells #[.slice none 0 0,.slice none 0 0,.slice none 0 0,.slice none 0 0,.slice none 0 0,.slice none 0 0] 54)):=by(repeat (first|exact Below.refl _ _|assumption|(refine Below.setCell ?_ (by first|omega|(simp;done)|(simp;omega)) _)|(refine Below.alloc ?_ (by first|omega|(simp;done)|(simp;omega)) _)|(refine aa ?_ _)|(refine Below.drew ?_)))
 have hX:=(ac.new w 84 #[.int .u8 (t.toNat:Int),.slice A1 n1 c1,.slice A2 n2 c2]).alloc (.cells #[.slice none 0 0,.slice none 0 0,.slice none 0 0,.slice none 0 0,.slice none 0 0,.slice none 0 0] 54);have z7:ac ((w.alloc (.cells #[.int .u8 (t.toNat:Int),.slice A1 n1 c1,.slice A2 n2 c2] 84)).alloc (.cells #[.slice none 0 0,.slice none 0 0,.slice none 0 0,.slice none 0 0,.slice none 0 0,.slice none 0 0] 54)) (w.heap.size+1) 54 #[.slice none 0 0,.slice none 0 0,.slice none 0 0,.slice none 0 0,.slice none 0 0,.slice none 0 0]:=ac.new' _ _ (by simp);have H:=hd6 yd hX z7 (h.below yd) (hG.below yd) (h1.up yd);clear yd hX z7 h h1 hG
 go_enter Tryz.func83,Tryz.ntmps83
 go_wp2_with fail
 refine(bp r er t A1 A2 n1 c1 n2 c2 48 5 6 b raw _ H.2.2.2.1 H.2.2.2.2.2 hn (.inr (.inr (.inr (.inr rfl)))) (by omega)).mono ?_;rintro e w1 ⟨A,n,c,L,e1,rfl,hg1,hr1,he1,hE,hnl,hlo,hhi,_,hm,hok⟩;have v9:n≤6:=by omega
 have vt:w.heap.size+2≤w1.heap.size:=by have:=hg1.size;simpa using this
 obtain⟨g,rfl,hgh,hgl⟩:=hE.spot_ (by omega);have a1:=(Zc.At.start er (Zc.signer (t,b,raw))).step .parts he1 hok;have yy:gE w r e1 #[.slice none 0 0,.slice none 0 0,.slice none 0 0,.slice none 0 0,.slice none 0 0,.slice none 0 0] g n c w1.heap.size L w1:=
  ⟨(ao H.1 _).trans hg1,hr1,H.2.2.1.grown hg1 (fun e=>by injection e with e;omega),hE.mono (by simp) nl_,Nat.le_refl _,H.2.2.2.2.1.grown hg1 h6⟩
 obtain⟨ta,Aa,na,ca,ba,Ab,nb,cb,ra,hxa,hLa,p0,p1,p2,_,_,Ra,Ra'⟩:=yy.el 0 0 (by omega) rfl;have HM:=hd2 hm hnl;obtain⟨hi,hhi1⟩:∃x,w1.heap.size=x:=⟨_,rfl⟩
 rw[hhi1]at yy;have vn:hi≤w1.heap.size:=by omega
 have vi:w.heap.size+2≤hi:=by omega
 have H1:=hd4 yy a1 hxa Ra';clear hg1 hr1 he1 hE hnl hhi hm hok a1 yy hxa hLa Ra Ra' H hhi1
 go_wp2_with fail
 refine(qE r e1 ta (.slice Aa na ca) Ab nb cb ba ra _ H1.1.rr H1.2.2.2).mono ?_;rintro e w2 ⟨rfl,hg2,hr2⟩;obtain⟨e2,he2⟩:∃e,e=Zc.next e1 (Zc.one (ta,ba,ra)):=⟨_,rfl⟩
 rw[←he2]at hr2;have a2:=H1.2.1.step (er':=e2) (a:=()) .form (by rw[H1.2.2.1];exact he2) (by rw[H1.2.2.1];exact Zc.form_zero he2);have y1:=H1.1.grown hg2 hr2 q4 h6;have vv:w1.heap.size≤w2.heap.size:=hg2.size;obtain⟨tb,Ac,nc,cc,bb,Ad,nd,cd,rb,hxb,hLb,q0,q1,q2,_,_,Rb,Rb'⟩:=y1.el 1 3 (by omega) rfl;have kb:nc≤n1:=by have:=(bQ HM.1 hxb (show 1<n by omega) HM.2).1;have:=Rb.len;omega
 have H2:=hd4 y1 a2 hxb Rb;clear hg2 hr2 he2 a2 y1 hxb hLb Rb Rb' p0 p1 p2
 go_wp2_with fail
 refine(bp r e2 tb Ac Ad nc cc nd cd 48 2 2 bb rb _ H2.1.rr H2.2.2.2 (by omega) (.inr (.inr (.inl rfl))) (by omega)).mono ?_;rintro e w3 ⟨A3,n3,c3,L2,e3,rfl,hg3,hr3,he3,hE3,hnl3,hlo3,hhi3,_,hm3,hok3⟩;obtain rfl:n3=2:=by omega
 have vw:w2.heap.size≤w3.heap.size:=hg3.size;obtain⟨g3,rfl,hg3h,hg3l⟩:=hE3.spot_ (by omega);have a3:=H2.2.1.step (er':=e3) (a:=L2.map EI.dat) .parts (by rw[H2.2.2.1];exact he3) (by rw[H2.2.2.1];exact hok3);have zz:=H2.1.grown hg3 hr3 q4 h6;have j5:=hE3.mono (lo':=hi) (by omega) nl_;obtain⟨td,Ae,ne,ce,be,Af,nf,cf,re,hxd,u0,u1,u2,_,Re',hLd⟩:=j5.el rfl (Below.refl w3.heap.size w3) nl_ 0 0 (by omega) rfl;obtain⟨tg,Ag,ng,cg,bg,Ah,nh,ch,rg,hxg,v0,v1,v2,Rg,_,hLg⟩:=j5.el rfl (Below.refl w3.heap.size w3) nl_ 1 3 (by omega) rfl;have kc:ng≤n1:=by have:=(bQ hm3 hxg (show 1<2 by omega) hnl3).1;have:=Rg.len;omega
 have H3:=hd7 zz a3 hxd hxg j5 hLd hLg;clear hg3 hr3 he3 hE3 hnl3 hlo3 hhi3 hm3 hok3 a3 zz j5 hxd hxg Re' Rg hLd hLg q0 q1 q2
 go_wp2_with fail
 refine(ej r e3 td (.slice Ae ne ce) (.slice Af nf cf) 48 be re _ H3.1.rr).mono ?_;rintro e w4 ⟨rfl,hg4,hr4⟩;obtain⟨e4,he4⟩:∃e,e=Zc.next e3 (Zc.body 48 (td,be,re)):=⟨_,rfl⟩
 rw[←he4]at hr4;have a4:=H3.2.1.step (er':=e4) (a:=be) .body (by rw[H3.2.2.1];exact he4) (by rw[H3.2.2.1];exact Zc.body_zero he4);have z0:=H3.1.grown hg4 hr4 q4 h6;have v3:w3.heap.size≤w4.heap.size:=hg4.size;have y6:=H3.2.2.2.2.1.keepRows (ab.grown hg4 (by omega));obtain⟨e5,he5⟩:∃e,e=Zc.next e4 (Zc.body 2 (tg,bg,rg)):=⟨_,rfl⟩
 have yh:e5=Zc.next e5 (Zc.body 2 (tg,bg,rg)):=by
  rw[he5];unfold Zc.next
  by_cases h0:e4=0
  ·cases Zc.body 2 (tg,bg,rg)<;>simp[h0]
  ·simp[h0]
 have a5:=a4.step (er':=e5) (a:=bg) .body (by rw[H3.2.2.2.1];exact he5) (by rw[H3.2.2.2.1];exact Zc.body_zero he5);have H4:=hd5 z0 a5 y6 he5 yh;clear hg4 hr4 he4 a4 z0 y6 he5 yh a5 u0 u1 u2 v0 v1 v2
 go_upto_region 5 with fail
 have hk:∀W,G2 w4.heap.size r (w.heap.size+1) w4 W→aJ W hi w3.heap.size (.slice (some ⟨g3,0,none⟩) 2 c3) L2:=fun W hW=>H4.2.2.1.keepRows (hW.keep (by omega) (by omega))
 refine bn (fun i v W=>v=([.slice (some ⟨g3,0,none⟩) 2 c3,.pointer (some ⟨g3,0,none⟩),.pointer (some ⟨g3,2,none⟩),.slice Af nf cf,.pointer (some ⟨r,0,none⟩),.slice (some ⟨g3,0,none⟩) 2 c3,.pointer (some ⟨g3,3,none⟩),.agg #[.int .u8 (tg.toNat:Int),.slice Ag ng cg,.slice Ah nh ch],.slice Ag ng cg,.pointer (some ⟨w.heap.size+1,0,none⟩),undef,.pointer (some ⟨w.heap.size+1,1,none⟩),undef]:List Value).getD i undef∧
  (i=8→Rr W r e5)∧(i=10→∃b,ac W (w.heap.size+1) 54 (.slice Af nf cf::b::[.slice none 0 0,.slice none 0 0,.slice none 0 0,.slice none 0 0]).toArray)∧(i=12→∃a,ac W (w.heap.size+1) 54 (a::.slice Ag ng cg::[.slice none 0 0,.slice none 0 0,.slice none 0 0,.slice none 0 0]).toArray))
  (fun W=>G2 w4.heap.size r (w.heap.size+1) w4 W∧xS w4.heap.size r e4 e5 (w.heap.size+1) (.slice none 0 0) (.slice none 0 0) (.slice Af nf cf) (.slice Ag ng cg) [.slice none 0 0,.slice none 0 0,.slice none 0 0,.slice none 0 0] W)
  (dA w4.heap.size r e4 e5 (w.heap.size+1) (.slice none 0 0) (.slice none 0 0) (.slice Af nf cf) (.slice Ag ng cg) [.slice none 0 0,.slice none 0 0,.slice none 0 0,.slice none 0 0]) rfl dA.refl
  (fun i v W W' hR h=>⟨h.1,fun hi=>hR.last (h.2.1 hi),fun hi=>hR.fst (h.2.2.1 hi),fun hi=>hR.snd (h.2.2.2 hi)⟩) (fun W W' h hR=>⟨h.1.trans hR.g2,h.2.next hR⟩) (by show aH _ 78=true;decide +kernel) (by decide +kernel)
  ⟨G2.below br_.drew nl_,⟨e4,.inl rfl,H4.1.rr⟩,_,_,.inl rfl,.inl rfl,H4.1.sb⟩ ⟨?_,?_,?_,?_,?_,?_,?_,?_,?_,?_,?_,?_,?_,trivial⟩ ?_
 ·refine ai.run rfl ?_;intro a' V hfr hV hdep;exact bX (by simp) rfl (hfr 6 (by decide +kernel)) ⟨rfl,fun h=>absurd h (by decide),fun h=>absurd h (by decide),fun h=>absurd h (by decide)⟩ (dA.refl _)
 ·refine ai.run rfl ?_;intro a' V hfr hV hdep;have d:a'.eval (.tmp 27)=.slice (some ⟨g3,0,none⟩) 2 c3:=(hdep 0 (by decide +kernel)).1;refine bG (by simp) ?_ ⟨rfl,fun h=>absurd h (by decide),fun h=>absurd h (by decide),fun h=>absurd h (by decide)⟩ (dA.refl _);simp only[execOp,d];simp[go_sem,Act.eval]
 ·refine ai.run rfl ?_;intro a' V hfr hV hdep;have d:a'.eval (.tmp 28)=.pointer (some ⟨g3,0,none⟩):=(hdep 1 (by decide +kernel)).1;refine bG (by simp) ?_ ⟨rfl,fun h=>absurd h (by decide),fun h=>absurd h (by decide),fun h=>absurd h (by decide)⟩ (dA.refl _);simp only[execOp,d];simp[go_sem,Act.eval]
 ·refine ai.run rfl ?_;intro a' V hfr hV hdep;have d:a'.eval (.tmp 29)=.pointer (some ⟨g3,2,none⟩):=(hdep 2 (by decide +kernel)).1;exact cR (by simp) rfl d (qy ((hk V hV.1).cells3 H3.2.2.2.2.2.1 0 1 2 ⟨rfl,rfl,rfl⟩).2.2) ⟨rfl,fun h=>absurd h (by decide),fun h=>absurd h (by decide),fun h=>absurd h (by decide)⟩ (dA.refl _)
 ·refine ai.run rfl ?_;intro a' V hfr hV hdep;exact bX (by simp) rfl (hfr 0 (by decide +kernel)) ⟨rfl,fun h=>absurd h (by decide),fun h=>absurd h (by decide),fun h=>absurd h (by decide)⟩ (dA.refl _)
 ·refine ai.run rfl ?_;intro a' V hfr hV hdep;exact bX (by simp) rfl (hfr 6 (by decide +kernel)) ⟨rfl,fun h=>absurd h (by decide),fun h=>absurd h (by decide),fun h=>absurd h (by decide)⟩ (dA.refl _)
 ·refine ai.run rfl ?_;intro a' V hfr hV hdep;have d:a'.eval (.tmp 32)=.slice (some ⟨g3,0,none⟩) 2 c3:=(hdep 5 (by decide +kernel)).1;refine bG (by simp) ?_ ⟨rfl,fun h=>absurd h (by decide),fun h=>absurd h (by decide),fun h=>absurd h (by decide)⟩ (dA.refl _);simp only[execOp,d];simp[go_sem,Act.eval]
 ·refine ai.run rfl ?_;intro a' V hfr hV hdep;have d:a'.eval (.tmp 33)=.pointer (some ⟨g3,3,none⟩):=(hdep 6 (by decide +kernel)).1;exact cR (by simp) rfl d ((hk V hV.1).load H3.2.2.2.2.2.2 rfl) ⟨rfl,fun h=>absurd h (by decide),fun h=>absurd h (by decide),fun h=>absurd h (by decide)⟩ (dA.refl _)
 ·refine ai.run rfl ?_;intro a' V hfr hV hdep;have d:a'.eval (.tmp 31)=.pointer (some ⟨r,0,none⟩):=(hdep 4 (by decide +kernel)).1;have d2:a'.eval (.tmp 34)=.agg #[.int .u8 (tg.toNat:Int),.slice Ag ng cg,.slice Ah nh ch]:=(hdep 7 (by decide +kernel)).1
  obtain⟨e0,he0,hre⟩:=hV.2.rd;refine bH (by simp) rfl Tryz.func56 rfl (by decide) (args:=#[.pointer (some ⟨r,0,none⟩),.agg #[.int .u8 (tg.toNat:Int),.slice Ag ng cg,.slice Ah nh ch],.int .u8 2]) (by simp only[List.map_toArray,List.map_cons,List.map_nil,d,d2];rfl) (ej r e0 tg (.slice Ag ng cg) (.slice Ah nh ch) 2 bg rg V hre) ?_;rintro e w'' ⟨rfl,hg,hr⟩;have yv:Rr w'' r e5:=by
   rcases he0 with rfl|rfl
   ·rw[H4.2.2.2.1];exact hr
   ·rw[H4.2.2.2.2];exact hr
  exact⟨_,rfl,⟨rfl,fun _=>yv,fun h=>absurd h (by decide),fun h=>absurd h (by decide)⟩,dA.read hg hV.1.size (by omega) (by omega) fun e he h=>⟨e5,.inr rfl,yv⟩⟩
 ·refine ai.run rfl ?_;intro a' V hfr hV hdep;have d:=hfr 4 (by decide +kernel);refine bG (by simp) ?_ ⟨rfl,fun h=>absurd h (by decide),fun h=>absurd h (by decide),fun h=>absurd h (by decide)⟩ (dA.refl _);simp only[execOp,d];simp[go_sem,Act.eval]
 ·refine ai.run rfl ?_;intro a' V hfr hV hdep;have d:a'.eval (.tmp 36)=.pointer (some ⟨w.heap.size+1,0,none⟩):=(hdep 9 (by decide +kernel)).1;have d2:a'.eval (.tmp 30)=.slice Af nf cf:=(hdep 3 (by decide +kernel)).1
  obtain⟨x,y,_,_,hs⟩:=hV.2.sb;exact nP rfl rfl d d2 (hs.cell 0) (hs.frozen 0) ⟨rfl,fun h=>absurd h (by decide),fun _=>⟨y,by simpa using hs.set_ 0 (.slice Af nf cf)⟩,fun h=>absurd h (by decide)⟩ (dA.put0 (by omega) (by omega))
 ·refine ai.run rfl ?_;intro a' V hfr hV hdep;have d:=hfr 4 (by decide +kernel);refine bG (by simp) ?_ ⟨rfl,fun h=>absurd h (by decide),fun h=>absurd h (by decide),fun h=>absurd h (by decide)⟩ (dA.refl _);simp only[execOp,d];simp[go_sem,Act.eval]
 ·refine ai.run rfl ?_;intro a' V hfr hV hdep;have d:a'.eval (.tmp 37)=.pointer (some ⟨w.heap.size+1,1,none⟩):=(hdep 11 (by decide +kernel)).1;have d2:a'.eval (.tmp 35)=.slice Ag ng cg:=(hdep 8 (by decide +kernel)).1
  obtain⟨x,y,_,_,hs⟩:=hV.2.sb;exact nP rfl rfl d d2 (hs.cell 1) (hs.frozen 1) ⟨rfl,fun h=>absurd h (by decide),fun h=>absurd h (by decide),fun _=>⟨x,by simpa using hs.set_ 1 (.slice Ag ng cg)⟩⟩ (dA.put1 (by omega) (by omega))
 intro a' w5 hd hsz hfr hV hJ;have ha:=dt (fun i=>([.slice (some ⟨g3,0,none⟩) 2 c3,.pointer (some ⟨g3,0,none⟩),.pointer (some ⟨g3,2,none⟩),.slice Af nf cf,.pointer (some ⟨r,0,none⟩),.slice (some ⟨g3,0,none⟩) 2 c3,.pointer (some ⟨g3,3,none⟩),.agg #[.int .u8 (tg.toNat:Int),.slice Ag ng cg,.slice Ah nh ch],.slice Ag ng cg,.pointer (some ⟨w.heap.size+1,0,none⟩),undef,.pointer (some ⟨w.heap.size+1,1,none⟩),undef]:List Value).getD i undef) (by show aH _ 78=true;decide +kernel) hd hsz hfr (fun i hi=>(hJ i hi).1);have yv:Rr w5 r e5:=(hJ 8 (by decide)).2.1 rfl;have y3:ac w5 (w.heap.size+1) 54 #[.slice Af nf cf,.slice Ag ng cg,.slice none 0 0,.slice none 0 0,.slice none 0 0,.slice none 0 0]:=yg ((hJ 10 (by decide)).2.2.1 rfl) ((hJ 12 (by decide)).2.2.2 rfl);have y0:=hk w5 hV.1;have z4:=H4.1.turn hV.1 (by omega) yv y3 q4 h6;have v4:w4.heap.size≤w5.heap.size:=hV.1.size;have y5:Rd w5 w5.heap.size Ag ng cg bg:=(y0.own1 H3.2.2.2.2.2.2).rdx.more (by omega);have H5:=hd3 z4 y0 y5;clear hd hsz hfr hV hJ yv y0 z4 hk y5;have ve:List.range 13=[0,1,2,3,4,5,6,7,8,9,10,11,12]:=rfl;simp only[dE,List.map_cons,List.map_nil,List.size_toArray,List.length_cons,List.length_nil,Nat.reduceAdd,ve,List.zip_cons_cons,List.zip_nil_left,List.foldl_cons,List.foldl_nil,Act.put,List.setIfInBounds_toArray,List.set_cons_zero,List.set_cons_succ,List.getD_cons_zero,List.getD_cons_succ]at ha;subst ha;clear ve;apply_assumption;obtain⟨s0,s1⟩:=y3.facts;clear y3
 go_wp2_with fail
 refine(qt Ag ng cg bg _ H5.2.2 (by omega)).mono ?_;intro e w6 hpost;obtain⟨v,q,rfl,hq,hb6⟩:∃v q,e=.returned (.tuple #[v,.bool q])∧(Der.int bg).isSome=q∧Below w5.heap.size w5 w6:=by
  rcases hpost with⟨hb,⟨h1,rfl⟩|⟨ys,A,n,c,h1,rfl,_⟩⟩
  ·exact⟨_,false,rfl,by rw[h1];rfl,hb⟩
  ·exact⟨_,true,rfl,by rw[h1];rfl,hb⟩
 have z5:=H5.1.below hb6;have y7:=H5.2.1.keepRows (ab.below hb6 nl_);have v5:w5.heap.size≤w6.heap.size:=hb6.size;have H6:=hd3 z5 y7 hq;clear hpost z5 y7 hb6 hq s0 s1
 go_wp2_with fail
 refine(bM r e5 q _ H6.1.rr).mono ?_;rintro e w7 ⟨rfl,hg7,hr7⟩;obtain⟨e6,he7⟩:∃e,e=Zc.next e5 (Zc.form q):=⟨_,rfl⟩
 rw[←he7]at hr7;rw[←H6.2.2]at he7;have a7:=H4.2.1.step (er':=e6) (a:=()) .form he7 (Zc.form_zero he7);have y2:=H6.1.grown hg7 hr7 q4 h6;have zn:=H6.2.1.keepRows (ab.grown hg7 (by omega));have v6:w6.heap.size≤w7.heap.size:=hg7.size;obtain⟨ti,Ai,ni,ci,bi,Aj,nj,cj,rj,hxi,hLi,p0,p1,p2,_,_,Ri,_⟩:=y2.el 2 6 (by omega) rfl;have kd:ni≤n1:=by have:=(bQ HM.1 hxi (show 2<n by omega) HM.2).1;have:=Ri.len;omega
 have H7:=hd5 y2 zn a7 hxi Ri;clear hg7 hr7 he7 a7 y2 zn hxi hLi Ri
 go_wp2_with fail
 refine(ka r e6 ti Ai Aj ni ci nj cj bi rj _ H7.1.rr h6 H7.1.gl H7.2.2.2.2 (by omega)).mono ?_;rintro e w8 ⟨rfl,hg8,hr8⟩;obtain⟨e7,he8⟩:∃e,e=Zc.next e6 (Zc.hash (ti,bi,rj)):=⟨_,rfl⟩
 rw[←he8]at hr8;have a8:=H7.2.2.1.step (er':=e7) (a:=()) .hash (by rw[H7.2.2.2.1];exact he8) (by rw[H7.2.2.2.1];exact Zc.unit_zero .hash he8);have z6:=H7.1.grown hg8 hr8 q4 h6;have zs:=H7.2.1.keepRows (ab.grown hg8 (by omega));have v7:w7.heap.size≤w8.heap.size:=hg8.size;have H8:=hd3 z6 zs a8;clear hg8 hr8 he8 a8 z6 zs p0 p1 p2;rcases(show n=5∨n=6 by omega) with h5|h5
 ·subst h5
  have qd:(L.map EI.dat).length=5:=by rw[List.length_map,←HM.2]
  obtain⟨w9,hw9⟩:∃W,W=w8:=⟨_,rfl⟩
  obtain⟨e8,he8⟩:∃e,e=e7:=⟨_,rfl⟩
  have j4:=H8.1;have j6:=H8.2.1;have a9:Zc.At er (Zc.signer (t,b,raw)) e7 ((Zc.cipher ((L.map EI.dat).getD ((L.map EI.dat).length - 2) El.none_)).bind fun _=>(Zc.body 4 ((L.map EI.dat).getD ((L.map EI.dat).length - 1) El.none_)).bind fun g=>.ok (⟨((L2.map EI.dat).getD 0 El.none_).2.2,bg,[],[],[],g⟩:Sr)):=by
   have:=H8.2.2;unfold Zc.more at this;rw[if_neg (by rw[qd];decide)]at this;exact this
  rw[←hw9,←he8]at j4;rw[←hw9]at j6;rw[←he8]at a9;rw[←hw9];obtain⟨N1,hN1⟩:∃A:Option Addr,A=none:=⟨_,rfl⟩
  obtain⟨z1,hz1⟩:∃z:Nat,z=0:=⟨_,rfl⟩
  obtain⟨N2,hN2⟩:∃A:Option Addr,A=none:=⟨_,rfl⟩
  obtain⟨z2,hz2⟩:∃z:Nat,z=0:=⟨_,rfl⟩
  obtain⟨N3,hN3⟩:∃A:Option Addr,A=none:=⟨_,rfl⟩
  obtain⟨z3,hz3⟩:∃z:Nat,z=0:=⟨_,rfl⟩
  replace j4:gE w r e8 #[.slice Af nf cf,.slice Ag ng cg,.slice N1 z1 z1,.slice N2 z2 z2,.slice N3 z3 z3,.slice none 0 0] g 5 c hi L w9:=by rw[hN1,hz1,hN2,hz2,hN3,hz3];exact j4
  have y4:w8.heap.size≤w9.heap.size:=by rw[hw9];exact Nat.le_refl _
  have qv:∀p∈[(Value.slice N1 z1 z1,([]:List UInt8)),(Value.slice N2 z2 z2,[]),(Value.slice N3 z3 z3,[])],aj w9 w3.heap.size w9.heap.size p.1 p.2:=fun p hp=>by
   rw[hN1,hz1,hN2,hz2,hN3,hz3]at hp;simp only[List.mem_cons,List.not_mem_nil,or_false,or_self]at hp;rw[hp];exact aj.nil_
  have j0:bB [(Value.slice N1 z1 z1,([]:List UInt8)),(Value.slice N2 z2 z2,[]),(Value.slice N3 z3 z3,[])]:=by
   refine List.pairwise_iff_forall_sublist.2 fun {a b} hs g hg=>?_
   rw[hN1,hz1,hN2,hz2,hN3,hz3]at hs;have:=hs.subset (List.mem_cons_self (a:=a));simp only[List.mem_cons,List.not_mem_nil,or_false,or_self]at this;rw[this]at hg;simp[Value.ownBlock]at hg
  clear hw9 he8 hN1 hz1 hN2 hz2 hN3 hz3;obtain⟨tk,Ak,nk,ck,bk,Al,nl,cl,rl,hxk,hLk,p0,p1,p2,_,_,Rk,_⟩:=j4.el 3 9 (by omega) rfl;have vo:nk≤n1:=by have:=(bQ HM.1 hxk (by omega) HM.2).1;have:=Rk.len;omega
  have H9:=hd7 j4 j6 qv j0 a9 hxk Rk;clear j4 j6 qv j0 a9 hxk hLk Rk
  go_wp2_with fail
  refine(kK r e8 tk Ak Al nk ck nl cl bk rl _ H9.1.rr h6 H9.1.gl H9.2.2.2.2.2.2 (by omega)).mono ?_;rintro e w10 ⟨rfl,hg10,hr10⟩;obtain⟨e9,he10⟩:∃e,e=Zc.next e8 (Zc.cipher (tk,bk,rl)):=⟨_,rfl⟩
  rw[←he10]at hr10;have j7:=H9.2.2.2.2.1.step (er':=e9) (a:=()) .cipher (by rw[qd,H9.2.2.2.2.2.1];exact he10) (by rw[qd,H9.2.2.2.2.2.1];exact Zc.unit_zero .cipher he10);have qk:=H9.1.grown hg10 hr10 q4 h6;have q5:=H9.2.1.keepRows (ab.grown hg10 (by omega));have j2:w9.heap.size≤w10.heap.size:=hg10.size;have qh:∀p∈[(Value.slice N1 z1 z1,([]:List UInt8)),(Value.slice N2 z2 z2,([]:List UInt8)),(Value.slice N3 z3 z3,([]:List UInt8))],aj w10 w3.heap.size w10.heap.size p.1 p.2:=fun p hp=>((H9.2.2.1 p hp).keepRows (ab.grown hg10 (by omega))).mono nl_ j2
  obtain⟨tm,Am,nm,cm,bm,An,nn,cn,rn,hxm,hLm,q0,q1,q2,Om,_,Rm,_⟩:=qk.el 4 12 (by omega) rfl;have qg:=hd6 qk q5 qh j7 hxm Om;clear hg10 hr10 he10 j7 qk q5 qh hxm hLm Rm Om p0 p1 p2
  go_wp2_with fail
  refine(ej r e9 tm (.slice Am nm cm) (.slice An nn cn) 4 bm rn _ qg.1.rr).mono ?_;rintro e w11 ⟨rfl,hg11,hr11⟩;obtain⟨e10,he11⟩:∃e,e=Zc.next e9 (Zc.body 4 (tm,bm,rn)):=⟨_,rfl⟩
  rw[←he11]at hr11;have j8:=(qg.2.2.2.1.step (er':=e10) (a:=bm) .body (by rw[qd,qg.2.2.2.2.1];exact he11) (by rw[qd,qg.2.2.2.2.1];exact Zc.body_zero he11)).fin;have qs:=qg.1.grown hg11 hr11 q4 h6;have q6:=qg.2.1.keepRows (ab.grown hg11 (by omega));have j3:w10.heap.size≤w11.heap.size:=hg11.size;have qc:∀p∈[(Value.slice N1 z1 z1,([]:List UInt8)),(Value.slice N2 z2 z2,([]:List UInt8)),(Value.slice N3 z3 z3,([]:List UInt8))],aj w11 w3.heap.size w11.heap.size p.1 p.2:=fun p hp=>((qg.2.2.1 p hp).keepRows (ab.grown hg11 (by omega))).mono nl_ j3
  have q9:=qg.2.2.2.2.2.keepRows (ab.grown hg11 (by omega));obtain⟨s0,s1⟩:=qs.sb.facts;have q3:=hd5 qs q6 qc q9 j8;clear hg11 hr11 he11 j8 qs q6 qc q9 q0 q1 q2
  go_wp2
  have j1:=qO (v:=⟨.slice Af nf cf,.slice Ag ng cg,.slice N1 z1 z1,.slice N2 z2 z2,.slice N3 z3 z3,.slice Am nm cm⟩) (s:=⟨re,bg,[],[],[],bm⟩) (u:=.slice Am nm cm) q3.1 q3.2.1 H3.2.2.2.2.2.1 H3.2.2.2.2.2.2 q3.2.2.1 H9.2.2.2.1 q3.2.2.2.1 (by omega) (by omega) (by omega) q4 h6 (by have:=q3.2.2.2.2;rw[H3.2.2.1]at this;exact this);have hB:=jt (v:=⟨.slice Af nf cf,.slice Ag ng cg,.slice N1 z1 z1,.slice N2 z2 z2,.slice N3 z3 z3,.slice Am nm cm⟩) (x:=.slice Am nm cm) q3.1.sb;change bodyPost _ _ _ _ _ (eJ w11 (w.heap.size+1) ⟨.slice Af nf cf,.slice Ag ng cg,.slice N1 z1 z1,.slice N2 z2 z2,.slice N3 z3 z3,.slice Am nm cm⟩ (.slice Am nm cm));generalize eJ w11 (w.heap.size+1) ⟨.slice Af nf cf,.slice Ag ng cg,.slice N1 z1 z1,.slice N2 z2 z2,.slice N3 z3 z3,.slice Am nm cm⟩ (.slice Am nm cm)=WZ at j1 hB ⊢;exact bodyPost_ret (bT Tryz.results83 _ _ _ ⟨w.heap.size+1,0,none⟩ _ rfl (jI hB)) rfl j1
 ·subst h5
  have qd:(L.map EI.dat).length=6:=by rw[List.length_map,←HM.2]
  obtain⟨tj,Bj,mj,dj,bj,Bk,mk,dk,rk,hxj,hLj,p0,p1,p2,Oj,_,Rj,_⟩:=H8.1.el 3 9 (by omega) rfl;have v8:mj≤n1:=by have:=(bQ HM.1 hxj (by omega) HM.2).1;have:=Rj.len;omega
  have HJ:=hd2 hxj (Oj.mono nl_ H8.1.top);clear hxj hLj Oj Rj
  go_wp2_with fail
  refine(lF r (w.heap.size+1) e7 (w.heap.size+1+1) _ _ _ _ tj Bj Bk mj dj mk dk bj rk _ H8.1.rr H8.1.sb h6 (by omega) H8.1.gl HJ.2 (by omega) (by omega) (by omega)).mono ?_;rintro e w9 ⟨va,vk,vd,att,ks,ds,e8,rfl,hg9,hr9,hs9,he9,qv,j0,hok9⟩;have j4:=H8.1.turn hg9 (by omega) hr9 hs9 q4 h6;have j6:=H8.2.1.keepRows (hg9.keep (by omega) (by omega));have y4:w8.heap.size≤w9.heap.size:=hg9.size;have a9:=H8.2.2.step (er':=e8) (a:=(att,ks,ds)) .more (by unfold Zc.more;rw[if_pos qd,HJ.1];exact he9) (by unfold Zc.more;rw[if_pos qd,HJ.1];exact hok9)
  replace qv:∀p∈[(va,att),(vk,ks),(vd,ds)],aj w9 w3.heap.size w9.heap.size p.1 p.2:=fun p hp=>(qv p hp).mono (by omega) nl_
  clear hg9 hr9 hs9 he9 hok9 p0 p1 p2;obtain⟨tk,Ak,nk,ck,bk,Al,nl,cl,rl,hxk,hLk,p0,p1,p2,_,_,Rk,_⟩:=j4.el 4 12 (by omega) rfl;have vo:nk≤n1:=by have:=(bQ HM.1 hxk (by omega) HM.2).1;have:=Rk.len;omega
  have H9:=hd7 j4 j6 qv j0 a9 hxk Rk;clear j4 j6 qv j0 a9 hxk hLk Rk
  go_wp2_with fail
  refine(kK r e8 tk Ak Al nk ck nl cl bk rl _ H9.1.rr h6 H9.1.gl H9.2.2.2.2.2.2 (by omega)).mono ?_;rintro e w10 ⟨rfl,hg10,hr10⟩;obtain⟨e9,he10⟩:∃e,e=Zc.next e8 (Zc.cipher (tk,bk,rl)):=⟨_,rfl⟩
  rw[←he10]at hr10;have j7:=H9.2.2.2.2.1.step (er':=e9) (a:=()) .cipher (by rw[qd,H9.2.2.2.2.2.1];exact he10) (by rw[qd,H9.2.2.2.2.2.1];exact Zc.unit_zero .cipher he10);have qk:=H9.1.grown hg10 hr10 q4 h6;have q5:=H9.2.1.keepRows (ab.grown hg10 (by omega));have j2:w9.heap.size≤w10.heap.size:=hg10.size;have qh:∀p∈[(va,att),(vk,ks),(vd,ds)],aj w10 w3.heap.size w10.heap.size p.1 p.2:=fun p hp=>((H9.2.2.1 p hp).keepRows (ab.grown hg10 (by omega))).mono nl_ j2
  obtain⟨tm,Am,nm,cm,bm,An,nn,cn,rn,hxm,hLm,q0,q1,q2,Om,_,Rm,_⟩:=qk.el 5 15 (by omega) rfl;have qg:=hd6 qk q5 qh j7 hxm Om;clear hg10 hr10 he10 j7 qk q5 qh hxm hLm Rm Om p0 p1 p2
  go_wp2_with fail
  refine(ej r e9 tm (.slice Am nm cm) (.slice An nn cn) 4 bm rn _ qg.1.rr).mono ?_;rintro e w11 ⟨rfl,hg11,hr11⟩;obtain⟨e10,he11⟩:∃e,e=Zc.next e9 (Zc.body 4 (tm,bm,rn)):=⟨_,rfl⟩
  rw[←he11]at hr11;have j8:=(qg.2.2.2.1.step (er':=e10) (a:=bm) .body (by rw[qd,qg.2.2.2.2.1];exact he11) (by rw[qd,qg.2.2.2.2.1];exact Zc.body_zero he11)).fin;have qs:=qg.1.grown hg11 hr11 q4 h6;have q6:=qg.2.1.keepRows (ab.grown hg11 (by omega));have j3:w10.heap.size≤w11.heap.size:=hg11.size;have qc:∀p∈[(va,att),(vk,ks),(vd,ds)],aj w11 w3.heap.size w11.heap.size p.1 p.2:=fun p hp=>((qg.2.2.1 p hp).keepRows (ab.grown hg11 (by omega))).mono nl_ j3
  have q9:=qg.2.2.2.2.2.keepRows (ab.grown hg11 (by omega));obtain⟨s0,s1⟩:=qs.sb.facts;obtain⟨Ava,nva,cva,hva,_⟩:=(qc (va,att) (by simp)).rd;obtain⟨Avk,nvk,cvk,hvk,_⟩:=(qc (vk,ks) (by simp)).rd;obtain⟨Avd,nvd,cvd,hvd,_⟩:=(qc (vd,ds) (by simp)).rd;dsimp only at hva hvk hvd;subst hva hvk hvd;have q3:=hd5 qs q6 qc q9 j8;clear hg11 hr11 he11 j8 qs q6 qc q9 q0 q1 q2
  go_wp2
  have j1:=qO (v:=⟨.slice Af nf cf,.slice Ag ng cg,.slice Ava nva cva,.slice Avk nvk cvk,.slice Avd nvd cvd,.slice Am nm cm⟩) (s:=⟨re,bg,att,ks,ds,bm⟩) (u:=.slice Am nm cm) q3.1 q3.2.1 H3.2.2.2.2.2.1 H3.2.2.2.2.2.2 q3.2.2.1 H9.2.2.2.1 q3.2.2.2.1 (by omega) (by omega) (by omega) q4 h6 (by have:=q3.2.2.2.2;rw[H3.2.2.1]at this;exact this);have hB:=jt (v:=⟨.slice Af nf cf,.slice Ag ng cg,.slice Ava nva cva,.slice Avk nvk cvk,.slice Avd nvd cvd,.slice Am nm cm⟩) (x:=.slice Am nm cm) q3.1.sb;change bodyPost _ _ _ _ _ (eJ w11 (w.heap.size+1) ⟨.slice Af nf cf,.slice Ag ng cg,.slice Ava nva cva,.slice Avk nvk cvk,.slice Avd nvd cvd,.slice Am nm cm⟩ (.slice Am nm cm));generalize eJ w11 (w.heap.size+1) ⟨.slice Af nf cf,.slice Ag ng cg,.slice Ava nva cva,.slice Avk nvk cvk,.slice Avd nvd cvd,.slice Am nm cm⟩ (.slice Am nm cm)=WZ at j1 hB ⊢;exact bodyPost_ret (bT Tryz.results83 _ _ _ ⟨w.heap.size+1,0,none⟩ _ rfl (jI hB)) rfl j1
end Go.Proofs.YtmpkpphfoidbeaaGreatDoor
