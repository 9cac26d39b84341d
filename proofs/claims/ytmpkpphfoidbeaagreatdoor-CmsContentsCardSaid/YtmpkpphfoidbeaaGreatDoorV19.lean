import Derived.Test.YtmpkpphfoidbeaaGreatDoorV18
set_option linter.unusedVariables false
set_option linter.unusedSimpArgs false
namespace Go.Proofs.YtmpkpphfoidbeaaGreatDoor
open Go.RowKit
def gF (ops:Array Oper) (m:Nat):Bool:=(List.range (ops.size - 1)).all fun i=>(List.range ops.size).any fun j=>decide (i<j)&&decide (j≤m∨j=i+1)&&decide (j=i+1∨i<m)&&((ops[j]?).map (fq ops · i)).getD false
section
variable {P : Program} {ops : Array Oper} {Q : Exit → Act → World → Prop} {a0 : Act} {J : Nat → Value → World → Prop} {G : World → Prop} {R : World → World → Prop}
theorem th {m i:Nat} (hk:gF ops m=true) (hm:m≤i) {o:Oper} (ho:ops[i+1]? = some o):fq ops o i=true:=by
 have hi:i+1<ops.size:=(Array.getElem?_eq_some_iff.1 ho).1;have:=List.all_eq_true.1 hk i ai;simp only[List.any_eq_true,List.mem_range,Bool.and_eq_true,decide_eq_true_eq]at this;obtain⟨j,hj,⟨⟨h1,h2⟩,h3⟩,h4⟩:=this;have e:j=i+1:=ab
 subst e;rw[ho]at h4
 simpa using h4
theorem ux {m:Nat} (hA:eE ops=true) (hk:gF ops m=true):∀(n k fuel:Nat) (listed:Array Bool) (a:Act) (w:World),ops.size - k=n→m≤k→k≤ops.size→listed.size=ops.size→(∀j,j<ops.size→listed.getD j false=decide (j<k))→n≤fuel→
 wpList P ops Q (ops.toList.drop k) a w→wpAny P .any ops Q fuel listed a w:=by
 intro n
 induction n with
 | zero=>
  intro k fuel listed a w hn hm hks hl hp hf h;have qk:k=ops.size:=ab
  have hr:Region.ready .any ops listed=[]:=tR hl fun i hi=>by rw[hp i hi];simp;omega
  rw[qk,List.drop_of_length_le ag]at h
  cases fuel with
  | zero=>exact⟨hr,h⟩
  | succ f=>exact⟨fun _=>h,fun i hi=>by rw[hr]at hi;cases hi⟩
 | succ n ih=>
  intro k fuel listed a w hn hm hks hl hp hf h;obtain⟨f,rfl⟩:∃f,fuel=f+1:=⟨fuel - 1,ab⟩
  have qc:k<ops.size:=ab
  have qv:ops[k]? = some ops[k]:=Array.getElem?_eq_getElem qc;refine⟨fun hr=>?_,fun i hi=>?_⟩
  ·have:=gn hA hl hr k k nl_ qc
   rw[hp k qc]at this;simp at this
  ·have qd:i<ops.size:=by
    have:=(List.mem_filter.1 hi).1
    simpa using this
   have ho:ops[i]? = some ops[i]:=Array.getElem?_eq_getElem qd;have hr:=(dK ho).1 hi;have qg:i<listed.size:=ab
   have qh:listed.getD i false=false:=by
    have h1:=hr.1;simp only[Array.getD,qg,dite_true]at h1 ⊢;exact h1
   rw[hp i qd]at qh;have qs:k≤i:=by simpa using qh
   have e:i=k:=by
    by_cases e:i=k
    ·exact e
    ·obtain⟨j,rfl⟩:∃j,i=j+1:=⟨i - 1,ab⟩
     have hg:=th hk ab ho;obtain⟨e2,he,hb⟩:=Array.any_eq_true'.1 hg;simp only[Bool.and_eq_true,decide_eq_true_eq]at hb;obtain⟨⟨hb1,rfl⟩,hb2⟩:=hb;have:=hr.2 e2 he hb1;rw[hp _ ab]at this;have:e2.on<k:=by simpa using this
     omega
   subst e;have hd:ops.toList.drop i=ops[i]::ops.toList.drop (i+1):=by
    rw[List.drop_eq_getElem_cons (by simpa using qd)];simp
   rw[hd]at h;have h2:wpOp P ops Q i (wpList P ops Q (ops.toList.drop (i+1))) a w:=by
    unfold wpOp;rw[ho];exact h
   refine wpOp_mono (fun a' w' h'=>?_) h2;exact ih (i+1) f _ a' w' ab ab ab (by simpa using hl) (fun j hj=>by
    rw[iA _ _ _ qg]
    by_cases e:j=i
    ·rw[if_pos e];subst e;simp
    ·rw[if_neg e,hp j hj]
     congr 1
     simp only[eq_iff_iff];omega) ab h'
theorem gO:∀(l:List Bool) (k:Nat),(∀j,k≤j→j<l.length→l[j]? = some false)→l.length - k≤l.count false
 | [],k,_=>by simp
 | b::l,0,h=>by
  have hb:b=false:=by simpa using h 0 nl_ ag
  subst hb;have:=gO l 0 (fun j _ hj=>by have:=h (j+1) ab ai;simpa using this);rw[List.count_cons_self,List.length_cons];omega
 | b::l,k+1,h=>by
  have:=gO l k (fun j hj1 hj=>by have:=h (j+1) ab ai;simpa using this);have h2:l.count false≤(b::l).count false:=List.count_le_count_cons;rw[List.length_cons];omega
theorem vI {m k:Nat} {listed:Array Bool} (hk:gF ops m=true) (hcl:oX ops listed) (hmk:m≤k) {o:Oper} (ho:ops[k]? = some o) (hL:∀i,fq ops o i=true→listed.getD i false=true) :
 ∀n i,k - i≤n→i<k→listed.getD i false=true:=by
 have qc:k<ops.size:=(Array.getElem?_eq_some_iff.1 ho).1;intro n
 induction n with
 | zero=>intro i h1 h2;omega
 | succ n ih=>
  intro i h1 h2;have:=List.all_eq_true.1 hk i ai;simp only[List.any_eq_true,List.mem_range,Bool.and_eq_true,decide_eq_true_eq]at this;obtain⟨j,hj,⟨⟨a1,a2⟩,a3⟩,h4⟩:=this;rw[Array.getElem?_eq_getElem hj]at h4;simp only[Option.map_some,Option.getD_some]at h4
  by_cases e:j=k
  ·subst e
   rw[Array.getElem?_eq_getElem hj]at ho;injection ho with ho
   subst ho;exact hL i h4
  ·exact hcl j _ (Array.getElem?_eq_getElem hj) (ih j ab ab) i h4
theorem qV (m:Nat) (hms:m<ops.size) (hk:gF ops m=true) (hRr:∀w,R w w) (hmono:∀i v w w',R w w'→J i v w→J i v w') (hGR:∀w w',G w→R w w'→G w') (hd:bp ops a0.tmps.size=true) (hA:eE ops=true)
 (hstep:∀i o,ops[i]? = some o→i<m→aA P ops Q a0 J G R i o)
 (htail:∀a w,a.defers=a0.defers→a.tmps.size=a0.tmps.size→(∀t,fI ops t=true→a.eval (.tmp t)=a0.eval (.tmp t))→G w→(∀i,i<m→J i (bJ ops a i) w)→wpList P ops Q (ops.toList.drop m) a w) :
 ∀(fuel:Nat) (listed:Array Bool) (a:Act) (w:World),listed.toList.count false≤fuel→Mk a0 ops J G listed a w→oX ops listed→(∀j,m≤j→j<ops.size→listed.getD j false=false)→wpAny P .any ops Q fuel listed a w:=by
 have fin:∀(listed:Array Bool) (a:Act) (w:World),Mk a0 ops J G listed a w→listed.getD m false=false→Region.ready .any ops listed=[]→Q .normal a w:=fun listed a w h hl hr=>by
  rw[gn hA h.len hr m m nl_ hms]at hl
  cases hl
 intro fuel
 induction fuel with
 | zero=>
  intro listed a w hc h hcl hl;have hr:Region.ready .any ops listed=[]:=by
   refine List.eq_nil_iff_forall_not_mem.2 fun i hi=>?_
   have qs:i<ops.size:=by
    have:=(List.mem_filter.1 hi).1
    simpa using this
   have:=((dK (Array.getElem?_eq_getElem qs)).1 hi).1;have qg:i<listed.size:=by rw[h.len];exact qs
   have hf:false∈listed.toList:=by
    simp only[Array.getD,qg,dite_true]at this;rw[←this];simp
   have:=List.count_pos_iff.2 hf;omega
  exact⟨hr,fin _ _ _ h (hl m nl_ hms) hr⟩
 | succ fuel ih=>
  intro listed a w hc h hcl hl;refine⟨fin _ _ _ h (hl m nl_ hms),fun i hi=>?_⟩;have qs:i<ops.size:=by
   have:=(List.mem_filter.1 hi).1
   simpa using this
  have ho:ops[i]? = some ops[i]:=Array.getElem?_eq_getElem qs;have hr:=(dK ho).1 hi;have qg:i<listed.size:=by rw[h.len];exact qs
  have q1:listed[i]=false:=by simpa [Array.getD,qg]using hr.1
  have qk:(listed.setIfInBounds i true).toList.count false≤fuel:=by
   rw[Array.toList_setIfInBounds,List.count_set (by simpa using qg)];simp only[Array.getElem_toList,q1];have:0<listed.toList.count false:=List.count_pos_iff.2 (by rw[←q1];simp);simp only[show(false==false)=true from rfl,show(true==false)=false from rfl,if_true,Bool.false_eq_true,if_false];omega
  have qv:∀j,fq ops ops[i] j=true→listed.getD j false=true:=fun j hj=>by
   obtain⟨e,he,hb⟩:=Array.any_eq_true'.1 hj;simp only[Bool.and_eq_true,decide_eq_true_eq]at hb;obtain⟨⟨hb1,rfl⟩,hb2⟩:=hb;exact hr.2 e he hb1
  have qd:∀j,fq ops ops[i] j=true→J j (bJ ops a j) w:=fun j hj=>by
   have h1:=qv j hj;obtain⟨e,he,hb⟩:=Array.any_eq_true'.1 hj;simp only[Bool.and_eq_true,decide_eq_true_eq]at hb;obtain⟨⟨hb1,rfl⟩,hb2⟩:=hb;exact h.marks _ hb2 h1
  by_cases him:m≤i
  ·have qc:=vI hk hcl him ho qv
   have e:i=m:=by
    by_cases e:i=m
    ·exact e
    ·have h1:=qc _ m nl_ ab
     rw[hl m nl_ hms]at h1
     cases h1
   subst e;have ht:=htail a w h.defers h.size h.frame h.world fun j hj=>h.marks j ab (qc _ j nl_ hj)
   have hT:=ux (P:=P) (Q:=Q) hA hk (ops.size - i) i (fuel+1) listed a w rfl nl_ ab h.len (fun j hj=>by
    by_cases e:j<i
    ·rw[qc _ j nl_ e];simp[e]
    ·rw[hl j ab hj];simp[e]) (by
     have:=gO listed.toList i (fun j h1 h2=>by
      have hj:j<listed.size:=by simpa using h2
      have:=hl j h1 (by rw[←h.len];exact hj);simp only[Array.getD,hj,dite_true]at this;rw[Array.getElem?_toList,Array.getElem?_eq_getElem hj];exact congrArg some this)
     have h3:=h.len;rw[Array.length_toList]at this;omega) ht
   exact hT.2 i hi
  ·have qh:oX ops (listed.setIfInBounds i true):=fun j o hj hlj k hk=>by
    rw[iA _ _ _ qg]at hlj ⊢
    by_cases e:j=i
    ·subst e
     rw[ho]at hj;injection hj with hj
     subst hj;have:=qv k hk;rw[this];simp
    ·rw[if_neg e]at hlj
     rw[hcl j o hj hlj k hk];simp
   have q0:∀j,m≤j→j<ops.size→(listed.setIfInBounds i true).getD j false=false:=fun j h1 h2=>by rw[iA _ _ _ qg,if_neg (fun e=>him ab)];exact hl j h1 h2
   unfold wpOp;rw[ho];simp only;rcases hstep i _ ho ab with⟨j,b,hg,hj,hJ,hu⟩|⟨hg,hs⟩
   ·rw[if_neg (fun hw=>hJ _ _ (qd j hj) ((kh hg).1 hw))]
    exact ih _ _ _ qk (h.step hmono hGR hd ho (fun _=>rfl) (hu w) (hRr w)) qh q0
   ·rw[if_pos (by
     rcases hg with hg|⟨j,b,hg,hj,hJ⟩
     ·simp[Region.wanted,hg]
     ·exact(kh hg).2 (hJ _ _ (qd j hj)))]
    refine .inl (Oper.wp_mono ?_ (hs a w h.frame h.world qd));rintro a' w' ⟨v,rfl,hn,hJ,hB⟩;exact ih _ _ _ qk (h.step hmono hGR hd ho hn hJ hB) qh q0
def gH (P:Program) (ops:Array Oper) (Q:Exit→Act→World→Prop) (a0:Act) (J:Nat→Value→World→Prop) (G:World→Prop) (R:World→World→Prop):Nat→List Oper→Nat→Prop
 | 0,_,_=>True
 | _,[],_=>True
 | m+1,o::l,k=>aA P ops Q a0 J G R k o∧gH P ops Q a0 J G R m l (k+1)
theorem gH.get:∀{m:Nat} {l:List Oper} {k:Nat},gH P ops Q a0 J G R m l k→∀i o,l[i]? = some o→i<m→aA P ops Q a0 J G R (k+i) o
 | 0,_,_,_,i,o,_,hi=>by omega
 | m+1,[],_,_,i,o,h,_=>by simp at h
 | m+1,x::l,k,h,0,o,ho,_=>by
  simp only[List.getElem?_cons_zero,Option.some.injEq]at ho;subst ho;exact h.1
 | m+1,x::l,k,h,i+1,o,ho,hl=>by
  have:=gH.get h.2 i o (by simpa using ho) ab
  rwa [show k+1+i=k+(i+1) by omega]at this
theorem fQ {id:Nat} {w0:World} (m:Nat) (J:Nat→Value→World→Prop) (G:World→Prop) (R:World→World→Prop) (hm:P.follows .mixedOrders=true) (hRr:∀w,R w w) (hmono:∀i v w w',R w w'→J i v w→J i v w') (hGR:∀w w',G w→R w w'→G w') (hd:bp ops a0.tmps.size=true) (hA:eE ops=true)
 (hms:m<ops.size) (hk:gF ops m=true)
 (hG0:G w0.drew) (hstep:gH P ops Q a0 J G R m ops.toList 0)
 (htail:∀a w,a.defers=a0.defers→a.tmps.size=a0.tmps.size→(∀t,fI ops t=true→a.eval (.tmp t)=a0.eval (.tmp t))→G w→(∀i,i<m→J i (bJ ops a i) w)→wpList P ops Q (ops.toList.drop m) a w) :
 (Code.region id ops true).wp P Q a0 w0:=by
 refine wp_region_any hm (qV m hms hk hRr hmono hGR hd hA (fun i o ho hne=>?_) htail _ _ _ _ ?_ ⟨ag,rfl,rfl,fun t _=>rfl,fun i hi h=>?_,hG0⟩ (fun j o _ hl=>?_) ?_)
 ·have:=gH.get hstep i o (by simpa using ho) hne
  rwa [Nat.zero_add]at this
 ·simp
 ·simp[Array.getD,hi]at h
 ·have hj:j<ops.size:=by
   rename_i h'
   exact(Array.getElem?_eq_some_iff.1 h').1
  simp[Array.getD,hj]at hl
 ·intro j _ hj
  simp[Array.getD,hj]
theorem iw {id:Nat} {w0:World} (J:Nat→Value→World→Prop) (G:World→Prop) (R:World→World→Prop) (hm:P.follows .mixedOrders=true) (hRr:∀w,R w w) (hmono:∀i v w w',R w w'→J i v w→J i v w') (hGR:∀w w',G w→R w w'→G w') (hd:bp ops a0.tmps.size=true) (hA:eE ops=true)
 (oL:Oper) (hoL:ops[ops.size - 1]? = some oL) (hgL:oL.guard=none) (hk:gF ops (ops.size - 1)=true) (hG0:G w0.drew) (hstep:gH P ops Q a0 J G R (ops.size - 1) ops.toList 0)
 (hlast:∀a w,a.defers=a0.defers→a.tmps.size=a0.tmps.size→(∀t,fI ops t=true→a.eval (.tmp t)=a0.eval (.tmp t))→G w→(∀i,i<ops.size→i≠ops.size - 1→J i (bJ ops a i) w)→oL.wp P a w (fun a' w'=>Q .normal a' w') Q) :
 (Code.region id ops true).wp P Q a0 w0:=by
 have qc:ops.size - 1<ops.size:=(Array.getElem?_eq_some_iff.1 hoL).1;refine fQ (ops.size - 1) J G R hm hRr hmono hGR hd hA qc hk hG0 hstep fun a w h1 h2 h3 h4 h5=>?_
 have hdr:ops.toList.drop (ops.size - 1)=[oL]:=by
  rw[List.drop_eq_getElem_cons (by simpa using qc),List.drop_of_length_le ai];have:=(Array.getElem?_eq_some_iff.1 hoL).2
  simpa using this
 rw[hdr];exact wpList_plain hgL fun K hK=>Oper.wp_mono (fun a' w' h=>hK a' w' h) (hlast a w h1 h2 h3 h4 fun i hi hne=>h5 i ab)
end
section
set_option maxRecDepth 100000
def Rr (w:World) (r er:Nat):Prop:=aw w r 94 #[.int .i64 (er:Int)]
section
variable {w w' : World} {r er : Nat}
theorem Rr.lt (h:Rr w r er):r<w.heap.size:=aw.lt h
theorem Rr.cell (h:Rr w r er):w.cell? ⟨r,0,none⟩=some (.int .i64 (er:Int)):=aw.cell h 0
theorem Rr.frozen (h:Rr w r er):w.frozen? ⟨r,0,none⟩=false:=aw.frozen h 0
theorem Rr.below (h:Rr w r er) (hb:Below w.heap.size w w'):Rr w' r er:=aw.below h hb h.lt
theorem Rr.alloc (h:Rr w r er) (o:Obj):Rr (w.alloc o) r er:=aw.alloc h o
theorem Rr.set_ (h:Rr w r er) (k:Nat):Rr (w.setCell ⟨r,0,none⟩ (.int .i64 (k:Int))) r k:=aw.set_ h 0 _
theorem Rr.far (h:Rr w r er) {p:Addr} (hp:r≠p.block) (u:Value):Rr (w.setCell p u) r er:=aw.far h hp u
end
theorem Zc.next_ok {α:Type} (er:Nat) (a:α):Zc.next er (.ok a:Except Nat α)=er:=by unfold Zc.next;split<;>simp_all
theorem Zc.next_must (er k:Nat) (b:Bool):Zc.next er (Zc.must b k)=if b=false∧er=0 then k else er:=by
 unfold Zc.next Zc.must
 cases b<;>by_cases h:er=0<;>simp[h]
set_option maxHeartbeats 1000000 in
theorem ik (r er k:Nat) (b:Bool) (w:World) (h:Rr w r er) :
 Calls Tryz.prog 75 #[.pointer (some ⟨r,0,none⟩),.bool b,.int .i64 (k:Int)] w fun e w'=>e=.returned (.tuple #[])∧w.grownBy w' (some r)∧Rr w' r (Zc.next er (Zc.must b k)):=by
 have qc:=kp;have hc:=h.cell;have hf:=h.frozen;obtain⟨X,hX⟩:∃X,Zc.next er (Zc.must b k)=X:=⟨_,rfl⟩
 rw[hX];rw[Zc.next_must]at hX;have HR:=hd2 h hX;clear h hX
 cases b with
 | true=>
  go_enter Tryz.func75,Tryz.ntmps75
  go_wp2
  go_end0
  obtain⟨h,hX⟩:=HR.out;rw[if_neg ag]at hX;exact⟨rfl,World.grownBy.refl _ _,hX▸h⟩
 | false=>
  by_cases h0:er=0
  ·subst h0
   go_enter Tryz.func75,Tryz.ntmps75
   go_wp2
   go_end0
   obtain⟨h,hX⟩:=HR.out;rw[if_pos ag]at hX;exact⟨rfl,bF _ _ _,hX▸h.set_ k⟩
  ·have h1:((er:Int)==0)=false:=ai
   have H0:=hd1 h0;clear h0
   go_enter Tryz.func75,Tryz.ntmps75
   go_wp2
   go_end0
   obtain⟨h,hX⟩:=HR.out;rw[if_neg (fun hq=>H0.out hq.2)]at hX;exact⟨rfl,World.grownBy.refl _ _,hX▸h⟩
theorem cB (r er:Nat) (b:Bool) (w:World) (h:Rr w r er) :
 Calls Tryz.prog 47 #[.pointer (some ⟨r,0,none⟩),.bool b] w fun e w'=>e=.returned (.tuple #[])∧w.grownBy w' (some r)∧Rr w' r (Zc.next er (Zc.form b)):=by
 go_enter Tryz.func47,Tryz.ntmps47
 go_wp2_with fail
 refine(ik r er 9 b w h).mono ?_;rintro e w' ⟨rfl,hg,hr⟩;have H:=hd2 hg hr;clear hg hr
 go_wp2
 go_end0
 exact⟨rfl,H.1,H.2⟩
theorem eI (r er:Nat) (t:UInt8) (vb vr:Value) (u:Int) (b raw:List UInt8) (w:World) (h:Rr w r er) :
 Calls Tryz.prog 56 #[.pointer (some ⟨r,0,none⟩),.agg #[.int .u8 (t.toNat:Int),vb,vr],.int .u8 u] w fun e w'=>e=.returned vb∧w.grownBy w' (some r)∧Rr w' r (Zc.next er (Zc.body u (t,b,raw))):=by
 have HR:=hd1 (h.alloc (.cells #[.int .u8 (t.toNat:Int),vb,vr] 84));have qd:=h.lt;have hB:=aw.new w 84 #[.int .u8 (t.toNat:Int),vb,vr];clear h
 go_enter Tryz.func56,Tryz.ntmps56
 go_wp2_with fail
 refine(cB r er _ _ HR.out).mono ?_;rintro e w' ⟨rfl,hg,hr⟩;have qc:=hB.grown hg (fun e=>by injection e with e;omega);have k1:w'.cell? ⟨w.heap.size,1,none⟩=some vb:=qc.cell 1;have H:=hd2 hg hr;clear hg hr hB qc
 go_wp2
 go_ret
 refine⟨rfl,(aH (br_.alloc nl_ _) _).trans H.1,?_⟩;have e1:Zc.next er (Zc.body u (t,b,raw))=Zc.next er (Zc.form ((t.toNat:Int)==u)):=by
  unfold Zc.body Zc.next Zc.form Zc.must
  cases hq:((t.toNat:Int)==u)<;>simp[hq,Except.bind]
 rw[e1];exact H.2
theorem eT.up {w w':World} {n c:Nat} {A:Option Addr} {zs:List Nat} (h:eT w w.heap.size A n c zs) (hb:Below w.heap.size w w'):eT w' w'.heap.size A n c zs:=⟨(h.1.below hb).more hb.size,h.2⟩
theorem zI {w:World} {ad:Addr} {v:Value} (h:w.cell? ad=some v):(loadVar 5 ad).run Tryz.prog w=.ok v w:=by simp[go_sem,h]
theorem rI {w:World} {ad:Addr} {v:Value} (h:w.cell? ad=some v):(loadVar 22 ad).run Tryz.prog w=.ok v w:=by simp[go_sem,h]
theorem pY {fn:Func} {t:Tmp} (h:fn.results=#[.tmp t]) (a:Act) (P:Program) (w:World) {v:Value} (ha:a.eval (.tmp t)=v):(results fn a.tmps).run P w=.ok v w:=by
 simp only[Act.eval,Array.getD_eq_getD_getElem?]at ha;simp[results,h,ha]
def ie (b:Nat) (W:World) (t:UInt8) (vb:Value) (body:List UInt8) (va:Value) (o:List UInt8) (i:Nat) (v:Value) (w:World):Prop:=
 match i with
 | 0=>v=.pointer (some ⟨b,0,none⟩)
 | 1=>v=.int .u8 (t.toNat:Int)
 | 2=>v=.bool ((t.toNat:Int)==6)
 | 3=>v=.bool ((t.toNat:Int)==6)
 | 4=>((t.toNat:Int)==6)=true→v=.pointer (some ⟨b,1,none⟩)
 | 5=>((t.toNat:Int)==6)=true→v=vb
 | 6=>((t.toNat:Int)==6)=true→v=va
 | 7=>((t.toNat:Int)==6)=true→aJ w w.heap.size v o
 | 8=>((t.toNat:Int)==6)=true→v=.bool (body==o)
 | _=>v=.bool (((t.toNat:Int)==6)&&body==o)
theorem ie.up {b:Nat} {W:World} {t:UInt8} {vb:Value} {body:List UInt8} {va:Value} {o:List UInt8} (i:Nat) (v:Value) (w w':World) (hb:Below w.heap.size w w') (h:ie b W t vb body va o i v w):ie b W t vb body va o i v w':=by
 match i,h with
 | 0,h|1,h|2,h|3,h|4,h|5,h|6,h|8,h=>exact h
 | 7,h=>exact fun hq=>((h hq).below hb).more hb.size
 | _+9,h=>exact h
set_option maxHeartbeats 4000000 in
theorem gD (t:UInt8) (A1 A2:Option Addr) (n1 c1 n2 c2:Nat) (vr:Value) (body raw:List UInt8) (zs:List Nat) (w:World) (h1:Rd w w.heap.size A1 n1 c1 body) (h2:eT w w.heap.size A2 n2 c2 zs) (hn:n2≤100) :
 Calls Tryz.prog 48 #[.agg #[.int .u8 (t.toNat:Int),.slice A1 n1 c1,vr],.slice A2 n2 c2] w fun e w'=>e=.returned (.bool (Zc.is (t,body,raw) (Der.putOid zs)))∧Below w.heap.size w w':=by
 have hB:=aw.new w 84 #[.int .u8 (t.toNat:Int),.slice A1 n1 c1,vr];have qc:=(h1.alloc nl_ (.cells #[.int .u8 (t.toNat:Int),.slice A1 n1 c1,vr] 84)).more (B':=(w.alloc (.cells #[.int .u8 (t.toNat:Int),.slice A1 n1 c1,vr] 84)).heap.size) ag;have qd:=(h2.up (br_.alloc nl_ (.cells #[.int .u8 (t.toNat:Int),.slice A1 n1 c1,vr] 84)))
 have H:=hd3 hB qc qd;clear hB qc qd h1 h2
 go_enter Tryz.func48,Tryz.ntmps48
 go_wp2
 obtain⟨W,hW⟩:∃W,w.alloc (.cells #[.int .u8 (t.toNat:Int),.slice A1 n1 c1,vr] 84)=W:=⟨_,rfl⟩
 have qg:Below w.heap.size w W:=by rw[←hW];exact br_.alloc nl_ _
 have qh:w.heap.size<W.heap.size:=by rw[←hW];simp
 rw[hW]at H ⊢;have H0:=hd1 qg;clear hW qg;have hr:∀w':World,Below w'.heap.size w' w':=fun w'=>Below.refl _ _
 refine bK (ie w.heap.size W t (.slice A1 n1 c1) body (.slice A2 n2 c2) (Der.putOid zs)) (fun w'=>Below W.heap.size W w') (fun w' w''=>Below w'.heap.size w' w'') rfl hr ie.up (fun _ _ h h'=>h.trans (h'.mono h.size)) (by show bp _ 15=true;decide +kernel) ac br_.drew ⟨?_,?_,?_,?_,?_,?_,?_,?_,?_,?_,?_,trivial⟩ ?_
 ·refine aA.run rfl ?_;intro a' V hfr hG hdep;have d:=hfr 2 ac;refine bU ag ?_ (show ie _ _ _ _ _ _ _ 0 _ _ from rfl) (hr _);simp only[execOp,d];simp[go_sem,Act.eval]
 ·refine aA.run rfl ?_;intro a' V hfr hG hdep;have d:a'.eval (.tmp 5)=_:=hdep 0 ac;exact dq ag rfl d (zI ((hG.cell (p:=⟨w.heap.size,0,none⟩) qh).trans (H.1.cell 0))) (show ie _ _ _ _ _ _ _ 1 _ _ from rfl) (hr _)
 ·refine aA.run rfl ?_;intro a' V hfr hG hdep;have d:a'.eval (.tmp 6)=_:=hdep 1 ac;refine bU (v:=.bool ((t.toNat:Int)==6)) ag ?_ (show ie _ _ _ _ _ _ _ 2 _ _ from rfl) (hr _);simp only[execOp,d];simp[go_sem,Act.eval,eqGuard]
 ·refine aA.run rfl ?_;intro a' V hfr hG hdep;exact cP ag rfl (hdep 2 ac) (show ie _ _ _ _ _ _ _ 3 _ _ from rfl) (hr _)
 ·refine aA.on 3 _ true rfl ac (fun v _ h=>h) (fun h _ hq=>absurd hq h) ?_;intro hq a' V hfr hG hdep;have d:=hfr 2 ac;refine bU ag ?_ (show ie _ _ _ _ _ _ _ 4 _ _ from fun _=>rfl) (hr _);simp only[execOp,d];simp[go_sem,Act.eval]
 ·refine aA.on 3 _ true rfl ac (fun v _ h=>h) (fun h _ hq=>absurd hq h) ?_;intro hq a' V hfr hG hdep;have d:a'.eval (.tmp 9)=_:=hdep 4 ac hq;exact dq ag rfl d (rI ((hG.cell (p:=⟨w.heap.size,1,none⟩) qh).trans (H.1.cell 1))) (show ie _ _ _ _ _ _ _ 5 _ _ from fun _=>rfl) (hr _)
 ·refine aA.on 3 _ true rfl ac (fun v _ h=>h) (fun h _ hq=>absurd hq h) ?_;intro hq a' V hfr hG hdep;exact cP ag rfl (hfr 1 ac) (show ie _ _ _ _ _ _ _ 6 _ _ from fun _=>rfl) (hr _)
 ·refine aA.on 3 _ true rfl ac (fun v _ h=>h) (fun h _ hq=>absurd hq h) ?_;intro hq a' V hfr hG hdep;have d:a'.eval (.tmp 11)=_:=hdep 6 ac hq
  refine bV ag rfl Tryz.func77 rfl aj (args:=#[.slice A2 n2 c2]) (by simp only[List.map_toArray,List.map_cons,List.map_nil,d]) (tJ A2 n2 c2 zs V (H.2.2.up hG) ab) ?_;rintro e w'' ⟨A3,n3,c3,rfl,ho,hb⟩;exact⟨_,rfl,fun _=>(ho.rd).more nl_,hb⟩
 ·refine aA.on 3 _ true rfl ac (fun v _ h=>h) (fun h _ hq=>absurd hq h) ?_;intro hq a' V hfr hG hdep;have d:a'.eval (.tmp 10)=_:=hdep 5 ac hq;have d2:aJ _ _ (a'.eval (.tmp 12)) _:=hdep 7 ac hq
  obtain⟨A3,n3,c3,e3,h3⟩:=d2;refine bV ag rfl Tryz.func76 rfl aj (args:=#[.slice A1 n1 c1,.slice A3 n3 c3]) (by simp only[List.map_toArray,List.map_cons,List.map_nil,d,e3]) (ej A1 A3 n1 c1 n3 c3 body _ V.heap.size V.heap.size V (H.2.1.up hG).rds h3.rds nl_ nl_ (by have:=H.2.1.cap;have:=H.2.1.capm;omega)) ?_;rintro e w'' ⟨rfl,hb⟩;exact⟨_,rfl,fun _=>rfl,hb⟩
 ·refine aA.run rfl ?_;intro a' V hfr hG hdep;have d:a'.eval (.tmp 8)=_:=hdep 3 ac;have d2:_→a'.eval (.tmp 13)=_:=hdep 8 ac
  refine lx (v:=.bool (((t.toNat:Int)==6)&&body==Der.putOid zs)) ag rfl d ?_ (show ie _ _ _ _ _ _ _ 9 _ _ from rfl) (hr _)
  cases hq:((t.toNat:Int)==6) with
  | true=>rw[if_pos rfl,d2 hq,Bool.true_and]
  | false=>rfl
 ·refine aA.run rfl ?_;intro a' V hfr hG hdep;exact gI ag rfl (hdep 9 ac) (show ie _ _ _ _ _ _ _ 10 _ _ from rfl) (hr _)
 intro a' V hd hsz hfr hG hJ;have j4:a'.eval (.tmp 4)=.bool (((t.toNat:Int)==6)&&body==Der.putOid zs):=hJ 10 aj;have hE:=hd1 (H0.out.trans (hG.mono ab));clear hfr hJ hG hr;clear H H0;apply_assumption
 go_wp2
 refine bodyPost_ret (v:=.bool (((t.toNat:Int)==6)&&body==Der.putOid zs)) (pY Tryz.results48 _ _ _ j4) hd ⟨rfl,hE.out⟩
end
section
set_option maxRecDepth 100000
def EI.zero:EI:=⟨0,.slice none 0 0,[],.slice none 0 0,[]⟩
def yP (k:Nat):Prop:=k=0∨k=1∨k=2∨k=4∨k=5
theorem tE {k:Nat} (hk:yP k):madeCells #[.int .u8 0,.slice none 0 0,.slice none 0 0] (k*3)=((List.replicate k EI.zero).flatMap EI.cells).toArray:=by
 rcases hk with rfl|rfl|rfl|rfl|rfl<;>kernel_rfl
theorem wH {k:Nat} (hk:yP k) (w:World) :
 (Instr.makeSlice 80 (.int .i64 (k:Int)) (.int .i64 (k:Int))).run Tryz.prog w=.ok (.slice (some ⟨w.heap.size,0,none⟩) k k) (w.alloc (.cells ((List.replicate k EI.zero).flatMap EI.cells).toArray 84)):=by
 obtain⟨i0,hi0,hz0,hz1,hz2⟩:=info_parts fB;have qc:k≤5:=by rcases hk with rfl|rfl|rfl|rfl|rfl<;>omega
 have hr:=run_make (P:=Tryz.prog) w 80 84 i0 _ Tryz.underlying80 hi0 hz0 .i64 .i64 k k ab ab (by rw[hz2];omega) ab;simp only[Int.toNat_natCast,hz1]at hr;rw[hr];rw[show(Value.agg #[Value.int .u8 0,.slice none 0 0,.slice none 0 0]).cells=#[Value.int .u8 0,.slice none 0 0,.slice none 0 0] from rfl,tE hk]
theorem aU.made {k:Nat} (hk:yP k) (w:World):aU (w.alloc (.cells ((List.replicate k EI.zero).flatMap EI.cells).toArray 84)) w.heap.size (w.heap.size+1) (.slice (some ⟨w.heap.size,0,none⟩) k k) (List.replicate k EI.zero):=by
 have qc:((List.replicate k EI.zero).flatMap EI.cells).length=k*3:=by rcases hk with rfl|rfl|rfl|rfl|rfl<;>rfl
 have hz:∀p∈(List.replicate k EI.zero).flatMap EI.rows,p=(.slice none 0 0,[]):=by
  intro p hp;obtain⟨x,hx,hp⟩:=List.mem_flatMap.1 hp;obtain⟨_,rfl⟩:=List.mem_replicate.1 hx;simp only[EI.rows,EI.zero,List.mem_cons,List.not_mem_nil,or_false,or_self]at hp;exact hp
 refine⟨⟨⟨by rw[qc,List.length_replicate],.inr ⟨w.heap.size,k,_,by rw[List.length_replicate],Nat.le_refl _,heap_alloc_new w _,by rw[List.length_replicate];exact Nat.le_refl _,by rcases hk with rfl|rfl|rfl|rfl|rfl<;>simp[maxLen],by simpa using qc,?_⟩⟩,fun g hg=>?_⟩,fun p hp=>?_,?_⟩
 ·simp only[List.length_replicate]
  rw[List.take_of_length_le (by simp[qc])]
 ·simp only[Value.ownBlock,Option.some.injEq]at hg
  omega
 ·rw[hz p hp];exact az.nil_
 ·refine List.pairwise_iff_forall_sublist.2 fun {a b} hs g hg=>?_
  have:=hz a (hs.subset ag);subst this;simp[Value.ownBlock]at hg
theorem ze {b:List UInt8} {l:List El} (h:Der.all b=some l):l.length≤b.length:=by
 have key:∀k xs,(Der.seqF k xs).length≤k:=by
  intro k
  induction k with
  | zero=>intro xs;exact Nat.le_refl _
  | succ k ih=>
   intro xs;unfold Der.seqF
   split
   ·simp
   ·split
    ·simp
    ·simpa using ih _
 unfold Der.all at h
 split at h
 ·cases h
 ·injection h with h
  rw[←h];exact Nat.le_trans (List.length_filterMap_le _ _) (key _ _)
def PQ (r er:Nat) (w:World) (u:Int) (lo hi:Nat) (x:El) (m:Nat) (e:Ending) (w':World):Prop:=
 ∃A n c L er',e=.returned (.slice A n c)∧w.grownBy w' (some r)∧Rr w' r er'∧er'=Zc.next er (Zc.parts u lo hi x)∧aU w' w.heap.size w'.heap.size (.slice A n c) L∧n=L.length∧lo≤n∧n≤max lo hi∧n≤max lo m∧
  (∀y∈L.map EI.dat,y.2.1.length≤m∧y.2.2.length≤m)∧(er'=0→Zc.parts u lo hi x=.ok (L.map EI.dat))
theorem Zc.parts_eq {u:Int} {lo hi:Nat} {t:UInt8} {b raw:List UInt8} {l:List El} (hall:Der.all b=some l) :
 Zc.parts u lo hi (t,b,raw)=if (((t.toNat:Int)==u)&&(decide (lo≤l.length)&&decide (l.length≤hi)))=true then .ok l else .error 9:=by
 unfold Zc.parts Cert.parts Cert.body Cert.must
 cases hu:((t.toNat:Int)==u)
 ·simp[hu]
 ·simp only[hu,if_true,Option.bind_some,hall,Bool.true_and,Int.ofNat_le]
  cases hq:(decide (lo≤l.length)&&decide (l.length≤hi))<;>simp[hq]
theorem Zc.parts_no {u:Int} {lo hi:Nat} {t:UInt8} {b raw:List UInt8} (hall:Der.all b=none):Zc.parts u lo hi (t,b,raw)=.error 9:=by
 unfold Zc.parts Cert.parts Cert.body Cert.must
 cases hu:((t.toNat:Int)==u)<;>simp[hu,hall]
theorem Zc.next_if {α:Type} (er:Nat) (q:Bool) (a:α):Zc.next er (if q=true then(.ok a:Except Nat α) else .error 9)=Zc.next er (Zc.form q):=by
 cases q<;>unfold Zc.next Zc.form Zc.must<;>simp
set_option maxHeartbeats 4000000 in
theorem bL (r er:Nat) (t:UInt8) (A1 A2:Option Addr) (n1 c1 n2 c2:Nat) (u:Int) (lo hi:Nat) (b raw:List UInt8) (w:World) (h:Rr w r er) (h1:Rd w w.heap.size A1 n1 c1 b) (hn:n1≤1099511627) (hlo:yP lo) (hhi:hi≤1099511627) :
 Calls Tryz.prog 46 #[.pointer (some ⟨r,0,none⟩),.agg #[.int .u8 (t.toNat:Int),.slice A1 n1 c1,.slice A2 n2 c2],.int .u8 u,.int .i64 (lo:Int),.int .i64 (hi:Int)] w (PQ r er w u lo hi (t,b,raw) n1):=by
 have hB:=aw.new w 84 #[.int .u8 (t.toNat:Int),.slice A1 n1 c1,.slice A2 n2 c2];have q3:=(h1.alloc nl_ (.cells #[.int .u8 (t.toNat:Int),.slice A1 n1 c1,.slice A2 n2 c2] 84)).more (B':=(w.alloc (.cells #[.int .u8 (t.toNat:Int),.slice A1 n1 c1,.slice A2 n2 c2] 84)).heap.size) ag;have q5:=h1.len;have q9:=h.lt;have q7:lo≤5:=by rcases hlo with rfl|rfl|rfl|rfl|rfl<;>omega
 have H:=hd5 hB q3 (h.alloc (.cells #[.int .u8 (t.toNat:Int),.slice A1 n1 c1,.slice A2 n2 c2] 84)) hlo q5;clear hB q3 h1 h hlo q5
 go_enter Tryz.func46,Tryz.ntmps46
 go_wp2_with fail
 refine(mI A1 n1 c1 b _ H.2.1 hn).mono ?_;rintro e w1 ⟨hb1,ha⟩;have qk:=H.1.below hb1 ag;have qv:=H.2.2.1.below hb1;have j2:=hb1.size;simp only[World.size_alloc]at j2;have k0:w1.cell? ⟨w.heap.size,0,none⟩=some (.int .u8 (t.toNat:Int)):=qk.cell 0;have q0:w.grownBy w1 (some r):=aH (Below.trans aa (hb1.mono ag)) _;have j3:=fun W=>wH H.2.2.2.1 W
 have qg:(0:Int)≤(lo:Int):=ab
 rcases ha with⟨hany,rfl⟩|⟨L,A,n,c,hs,rfl,hE⟩
 ·have qh:=Zc.parts_no (u:=u) (lo:=lo) (hi:=hi) (t:=t) (raw:=raw) (kP hany)
  have H1:=hd4 qv q0 qh qk;clear hany hb1 qv q0 qh qk;have key:∀w2,w1.grownBy w2 (some r)→Rr w2 r (Zc.next er (Zc.form false))→Hid (PQ r er w u lo hi (t,b,raw) n1 (.returned (.slice (some ⟨w2.heap.size,0,none⟩) lo lo)) (w2.alloc (.cells ((List.replicate lo EI.zero).flatMap EI.cells).toArray 84)))∧Zc.next er (Zc.form false)≠0:=by
   intro w2 hg2 hr2;have qc:=H1.2.1.trans hg2;have e1:Zc.next er (Zc.form false)=Zc.next er (Zc.parts u lo hi (t,b,raw)):=by rw[H1.2.2.1];rfl
   have e2:Zc.next er (Zc.form false)≠0:=by unfold Zc.next Zc.form Zc.must;split<;>simp_all
   refine⟨hd1 ⟨_,_,_,List.replicate lo EI.zero,_,rfl,qc.trans (aH (br_.alloc nl_ _) _),hr2.alloc _,e1,?_,ag,Nat.le_refl _,ab,ab,?_,fun h0=>absurd h0 e2⟩,e2⟩
   ·exact(aU.made H.2.2.2.1 w2).mono qc.size ag
   ·intro y hy
    obtain⟨x,hx,rfl⟩:=List.mem_map.1 hy;obtain⟨_,rfl⟩:=List.mem_replicate.1 hx;simp[EI.dat,EI.zero]
  cases hu:((t.toNat:Int)==u)
  all_goals
   go_wp2_with fail
   refine(cB r er _ _ H1.1).mono ?_;rintro e w2 ⟨rfl,hg2,hr2⟩;obtain⟨k1,k2⟩:=key w2 hg2 hr2;generalize Zc.next er (Zc.form false)=er' at hr2 k2;have q6:=hr2.cell;have j0:((er':Int) != 0)=true:=ai
   clear hg2 hr2 k2 key qg
   go_wp2
   go_ret
   exact k1.out
 ·have hl:=eK hE
  have qd:Der.all b=some (L.map EI.dat):=i6 (by rw[hs,List.map_map];rfl);have hm:∀y∈L.map EI.dat,y.2.1.length≤n1∧y.2.2.length≤n1:=by rw[←H.2.2.2.2];exact jp qd
  have qs:n≤n1:=by have:=ze qd;rw[List.length_map]at this;have:=H.2.2.2.2;omega
  have q4:=hE.mono (lo':=w.heap.size) (hi':=w1.heap.size) ag nl_;have qh:=Zc.parts_eq (u:=u) (lo:=lo) (hi:=hi) (t:=t) (raw:=raw) qd;rw[List.length_map,←hl]at qh;have j4:n≤1099511627:=ab
  have H1:=hd8 qv q0 qh q4 hl hm qs qk;clear hs qd hm qs hb1 qv q0 qh qk hE q4 hl;have key:∀w2 q,(((t.toNat:Int)==u)&&(decide (lo≤n)&&decide (n≤hi)))=q→w1.grownBy w2 (some r)→Rr w2 r (Zc.next er (Zc.form q))→
   ∃er',Rr w2 r er'∧Hid (er'=0→PQ r er w u lo hi (t,b,raw) n1 (.returned (.slice A n c)) w2)∧
   Hid (er'≠0→PQ r er w u lo hi (t,b,raw) n1 (.returned (.slice (some ⟨w2.heap.size,0,none⟩) lo lo)) (w2.alloc (.cells ((List.replicate lo EI.zero).flatMap EI.cells).toArray 84))):=by
   intro w2 q hq hg2 hr2;have qc:=H1.2.1.trans hg2;have e1:Zc.next er (Zc.form q)=Zc.next er (Zc.parts u lo hi (t,b,raw)):=by rw[H1.2.2.1,hq,Zc.next_if]
   refine⟨_,hr2,hd1 fun h0=>?_,hd1 fun h0=>?_⟩
   ·have j1:q=true:=by
     cases q
     ·exfalso;revert h0;unfold Zc.next Zc.form Zc.must;split<;>simp_all
     ·rfl
    subst j1;simp only[Bool.and_eq_true,decide_eq_true_eq]at hq;refine⟨A,n,c,L,_,rfl,qc,hr2,e1,(H1.2.2.2.1.keepRows (au.grown hg2 q9)).mono nl_ hg2.size,H1.2.2.2.2.1,hq.2.1,ab,by have:=H1.2.2.2.2.2.2.1;omega,H1.2.2.2.2.2.1,fun _=>?_⟩;rw[H1.2.2.1,if_pos (by simp[hq])]
   ·refine⟨_,_,_,List.replicate lo EI.zero,_,rfl,qc.trans (aH (br_.alloc nl_ _) _),hr2.alloc _,e1,?_,ag,Nat.le_refl _,ab,ab,?_,fun h=>absurd h h0⟩
    ·exact(aU.made H.2.2.2.1 w2).mono qc.size ag
    ·intro y hy
     obtain⟨x,hx,rfl⟩:=List.mem_map.1 hy;obtain⟨_,rfl⟩:=List.mem_replicate.1 hx;simp[EI.dat,EI.zero]
  cases hu:((t.toNat:Int)==u)
  rotate_left
  by_cases hln:lo≤n
  by_cases hnh:n≤hi
  all_goals
   first|(have q1:decide (lo≤n)=true:=decide_eq_true hln)|(have q1:decide (lo≤n)=false:=decide_eq_false hln)|(have q1:=trivial)
   first|(have q2:decide (n≤hi)=true:=decide_eq_true hnh)|(have q2:decide (n≤hi)=false:=decide_eq_false hnh)|(have q2:=trivial)
   go_wp2_with fail
   refine(cB r er _ _ H1.1).mono ?_;rintro e w2 ⟨rfl,hg2,hr2⟩;obtain⟨er',hr3,k1,k2⟩:=key w2 _ (by simp only[hu,q1,q2,Bool.false_and,Bool.true_and,Bool.and_true,Bool.and_false]) hg2 hr2;have q6:=hr3.cell;clear hg2 hr2 key hr3;rcases Nat.eq_zero_or_pos er' with h0|h0
   ·subst h0
    have k3:=hd1 (k1.out rfl);clear k1 k2 qg
    go_wp2
    go_ret
    exact k3.out
   ·have j0:((er':Int) != 0)=true:=ai
    have k3:=hd1 (k2.out ab);clear k1 k2 qg h0
    go_wp2
    go_ret
    exact k3.out
end
section
set_option maxRecDepth 100000
def Zc.table:List (Nat×List Nat):=[(2,[2,16,840,1,101,3,4,2,1]),(5,[1,2,840,113549,1,1,1]),(0,[1,2,840,113549,1,7,2]),
 (3,[1,2,840,113549,1,9,3]),(4,[1,2,840,113549,1,9,4]),(1,[1,3,6,1,4,1,311,2,1,15])]
def dr (w:World):Prop:=6≤w.heap.size∧∀p∈Zc.table,∀i z,p.2[i]? = some z→w.cell? ⟨p.1,i,none⟩=some (uv z)
theorem eF:∀p∈Zc.table,p.1<6∧0<p.2.length∧p.2.length≤20∧∀z∈p.2,z<18446744073709551616:=by decide
section
variable {w w' : World} {r : Nat}
theorem dr.below (h:dr w) (hb:Below w.heap.size w w'):dr w':=
 ⟨Nat.le_trans h.1 hb.size,fun p hp i z hz=>(hb.cell (p:=⟨p.1,i,none⟩) (Nat.lt_of_lt_of_le (eF p hp).1 h.1)).trans (h.2 p hp i z hz)⟩
theorem dr.grown (h:dr w) (hg:w.grownBy w' (some r)) (hr:6≤r):dr w':=
 ⟨Nat.le_trans h.1 hg.size,fun p hp i z hz=>(World.cell?_of_block (hg.block p.1 (Nat.lt_of_lt_of_le (eF p hp).1 h.1) (fun e=>by injection e with e;have:=(eF p hp).1;omega))).trans (h.2 p hp i z hz)⟩
theorem dr.rdu (h:dr w) {g n:Nat} {zs:List Nat} (hm:(g,zs)∈Zc.table) (hn:zs.length=n):eT w w.heap.size (some ⟨g,0,none⟩) n n zs:=by
 have ht:=eF _ hm;dsimp only at ht;refine⟨⟨by simpa using hn,Nat.le_refl _,ab,(fun e=>by cases e),fun _=>⟨g,0,rfl,Nat.lt_of_lt_of_le ht.1 h.1⟩,by simp[hn],fun _=>⟨_,rfl,Nat.lt_of_lt_of_le ht.1 h.1,fun j u hu=>?_⟩⟩,ht.2.2.2⟩;rw[List.getElem?_map,Option.map_eq_some_iff]at hu;obtain⟨z,hz,rfl⟩:=hu;rw[Addr.add_lit,Nat.zero_add];exact h.2 (g,zs) hm j z hz
end
theorem zQ:Der.putOid [2,16,840,1,101,3,4,2,1]=Zc.sha:=ac
theorem zP:Der.putOid [1,2,840,113549,1,1,1]=Zc.rsa:=ac
theorem qE:Der.putOid [1,2,840,113549,1,7,2]=Zc.wrapped:=ac
theorem yx:Der.putOid [1,2,840,113549,1,9,3]=Zc.kind:=ac
theorem tM:Der.putOid [1,2,840,113549,1,9,4]=Zc.digest:=ac
theorem Br:Der.putOid [1,3,6,1,4,1,311,2,1,15]=Zc.pe:=ac
theorem pM (t:UInt8) (vb:Value) (A2:Option Addr) (n2 c2:Nat) (b raw:List UInt8) (w:World) (h:Rd w w.heap.size A2 n2 c2 raw) :
 Calls Tryz.prog 90 #[.agg #[.int .u8 (t.toNat:Int),vb,.slice A2 n2 c2]] w fun e w'=>e=.returned (.bool (Zc.null (t,b,raw)))∧Below w.heap.size w w':=by
 go_enter Tryz.func90,Tryz.ntmps90
 go_wp2_with fail
 refine(ej A2 _ n2 c2 2 2 raw [5,0] w.heap.size _ _ (aF.alloc (aF.alloc h.rds nl_ _) ag _) (aV (w.alloc (.cells #[.int .u8 (t.toNat:Int),vb,.slice A2 n2 c2] 84)) 5 ([5,0].map bv) (w.heap.size+1) ag) ai ag (by have:=h.cap;have:=h.capm;omega)).mono ?_;rintro e w1 ⟨rfl,hb1⟩;obtain⟨q,hq⟩:∃q,(raw==[5,0])=q:=⟨_,rfl⟩
 have HQ:=hd1 hq;rw[hq];clear hq;have hb:=Below.trans (Below.alloc (Below.alloc (Below.refl w.heap.size w) nl_ (.cells #[.int .u8 (t.toNat:Int),vb,.slice A2 n2 c2] 84)) ag (.cells (List.map bv [5,0]).toArray 5)) (hb1.mono al);have HB:=hd1 hb;clear hb hb1
 go_wp2
 go_ret
 exact⟨by unfold Zc.null;rw[HQ.out];rfl,HB.out⟩
theorem rQ (r er:Nat) (t:UInt8) (vb:Value) (A2:Option Addr) (n2 c2:Nat) (b raw:List UInt8) (w:World) (hr:Rr w r er) (h:Rd w w.heap.size A2 n2 c2 raw) :
 Calls Tryz.prog 78 #[.pointer (some ⟨r,0,none⟩),.agg #[.int .u8 (t.toNat:Int),vb,.slice A2 n2 c2]] w fun e w'=>e=.returned (.tuple #[])∧w.grownBy w' (some r)∧Rr w' r (Zc.next er (Zc.one (t,b,raw))):=by
 go_enter Tryz.func78,Tryz.ntmps78
 go_wp2_with fail
 refine(ej A2 _ n2 c2 3 3 raw [2,1,1] w.heap.size _ _ (aF.alloc (aF.alloc h.rds nl_ _) ag _) (aV (w.alloc (.cells #[.int .u8 (t.toNat:Int),vb,.slice A2 n2 c2] 84)) 5 ([2,1,1].map bv) (w.heap.size+1) ag) ai ag (by have:=h.cap;have:=h.capm;omega)).mono ?_;rintro e w1 ⟨rfl,hb1⟩;have qc:Below w.heap.size w w1:=Below.trans aa (hb1.mono al);have qd:=hr.below qc;obtain⟨q,hq⟩:∃q,(raw==[2,1,1])=q:=⟨_,rfl⟩
 have HQ:=hd2 hq qc;rw[hq];clear hq hb1 qc hr
 go_wp2_with fail
 refine(cB r er _ _ qd).mono ?_;rintro e w2 ⟨rfl,hg2,hr2⟩;have H2:=hd2 hg2 hr2;clear hg2 hr2 qd
 go_wp2
 go_end0
 exact⟨rfl,(aH HQ.2 _).trans H2.1,by unfold Zc.one;rw[HQ.1];exact H2.2⟩
theorem kX (r er:Nat) (t:UInt8) (A1:Option Addr) (n1 c1:Nat) (vr:Value) (b raw:List UInt8) (w:World) (hr:Rr w r er) (h:Rd w w.heap.size A1 n1 c1 b) (hn:n1≤1099511627) :
 Calls Tryz.prog 79 #[.pointer (some ⟨r,0,none⟩),.agg #[.int .u8 (t.toNat:Int),.slice A1 n1 c1,vr]] w fun e w'=>e=.returned (.slice A1 n1 c1)∧w.grownBy w' (some r)∧Rr w' r (Zc.next er (Zc.oid (t,b,raw))):=by
 have hB:=aw.new w 84 #[.int .u8 (t.toNat:Int),.slice A1 n1 c1,vr];have qk:=hr.lt
 go_enter Tryz.func79,Tryz.ntmps79
 go_wp2_with fail
 refine(rO A1 n1 c1 b _ ((h.alloc nl_ _).more ag) ab).mono ?_;intro e w1 hpost;obtain⟨v,q,rfl,hq,hb1⟩:∃v q,e=.returned (.tuple #[v,.bool q])∧(Der.oid b).isSome=q∧Below (w.alloc (.cells #[.int .u8 (t.toNat:Int),.slice A1 n1 c1,vr] 84)).heap.size (w.alloc (.cells #[.int .u8 (t.toNat:Int),.slice A1 n1 c1,vr] 84)) w1:=by
  rcases hpost with⟨hb,⟨h1,rfl⟩|⟨arcs,v,h1,rfl,_⟩⟩
  ·exact⟨_,false,rfl,by rw[h1];rfl,hb⟩
  ·exact⟨_,true,rfl,by rw[h1];rfl,hb⟩
 have qg:=hB.below hb1 ag;have qc:Below w.heap.size w w1:=Below.trans aa (hb1.mono al);have qh:=hr.below qc;have HQ:=hd2 hq qc;clear hq hpost hb1 qc hr hB h
 go_wp2_with fail
 refine(cB r er _ _ qh).mono ?_;rintro e w2 ⟨rfl,hg2,hr2⟩;have qd:=qg.grown hg2 (fun e=>by injection e with e;omega);obtain⟨er2,he2⟩:∃e,Zc.next er (Zc.form q)=e:=⟨_,rfl⟩
 rw[he2]at hr2;obtain⟨k0,k1,k2⟩:w2.cell? ⟨w.heap.size,0,none⟩=some (.int .u8 (t.toNat:Int))∧w2.cell? ⟨w.heap.size,1,none⟩=some (.slice A1 n1 c1)∧w2.cell? ⟨w.heap.size,2,none⟩=some vr:=⟨qd.cell 0,qd.cell 1,qd.cell 2⟩
 have H2:=hd3 hg2 hr2 he2;clear hg2 hr2 qh he2 qg qd
 go_wp2_with fail
 refine(eI r er2 t (.slice A1 n1 c1) vr 6 b raw _ H2.2.1).mono ?_;rintro e w3 ⟨rfl,hg3,hr3⟩;have H3:=hd2 hg3 hr3;clear hg3 hr3
 go_wp2
 go_ret
 refine⟨rfl,((aH HQ.2 _).trans H2.1).trans H3.1,?_⟩;have hw:=Zc.next_seq (f:=fun _=>Zc.body 6 (t,b,raw)) (g:=Zc.body 6 (t,b,raw)) H2.2.2.symm .form fun _ _=>rfl
 rw[hw]at H3;unfold Zc.oid;dsimp only;rw[HQ.1];exact H3.2
end
section
set_option maxRecDepth 100000
def RR (r er er':Nat) (w w':World):Prop:=w.grownBy w' (some r)∧∀e,(e=er∨e=er')→Rr w r e→∃e',(e'=e∨e'=er')∧Rr w' r e'
def RG (r er er':Nat) (w0 w:World):Prop:=w0.grownBy w (some r)∧∃e,(e=er∨e=er')∧Rr w r e
section
variable {r er er' : Nat} {w0 w w' : World}
theorem RR.refl (w:World):RR r er er' w w:=⟨World.grownBy.refl _ _,fun e _ h=>⟨e,.inl rfl,h⟩⟩
theorem RR.below (h:Below w.heap.size w w'):RR r er er' w w':=⟨aH h _,fun e _ hr=>⟨e,.inl rfl,hr.below h⟩⟩
theorem RG.next (h:RG r er er' w0 w) (h':RR r er er' w w'):RG r er er' w0 w':=by
 obtain⟨hg,e,he,hr⟩:=h;obtain⟨e',he',hr'⟩:=h'.2 e he hr;exact⟨hg.trans h'.1,e',by rcases he' with rfl|rfl<;>(first|exact he|exact .inr rfl),hr'⟩
theorem RR.last (h:RR r er er' w w') (hr:Rr w r er'):Rr w' r er':=by
 obtain⟨e',he',hr'⟩:=h.2 er' (.inr rfl) hr;rcases he' with rfl|rfl<;>exact hr'
theorem Rr.uniq {e e':Nat} (h:Rr w r e) (h':Rr w r e'):e=e':=by
 have h1:=h.cell;rw[h'.cell]at h1;injection h1 with h1;injection h1 with _ h1
 omega
theorem RR.form {q:Bool} (hg:w.grownBy w' (some r)) (h:RG r er er' w0 w) (he:er'=Zc.next er (Zc.form q)) (hr:∀e,Rr w r e→Rr w' r (Zc.next e (Zc.form q))):Rr w' r er'∧RR r er er' w w':=by
 have key:∀e,(e=er∨e=er')→Zc.next e (Zc.form q)=er':=fun e h=>by
  rcases h with rfl|rfl
  ·exact he.symm
  ·rw[he]
   cases q<;>unfold Zc.next Zc.form Zc.must<;>by_cases h0:er=0<;>simp[h0]
 obtain⟨_,e,h1,h2⟩:=h;exact⟨key e h1▸hr e h2,hg,fun e h1 h2=>⟨_,.inr rfl,key e h1▸hr e h2⟩⟩
end
theorem aU.load {W:World} {lo hi g n c k o:Nat} {L:List EI} {x:EI} (h:aU W lo hi (.slice (some ⟨g,0,none⟩) n c) L) (hk:L[k]? = some x) (ho:o=k*3) :
 (loadVar 84 ⟨g,o,none⟩).run Tryz.prog W=.ok (.agg #[.int .u8 (x.t.toNat:Int),x.vb,x.vr]) W:=by
 obtain⟨p0,p1,p2⟩:=h.cells3 hk o (o+1) (o+2) ⟨ho,ab,ab⟩;have h0:=run_loadVar_mid (P:=Tryz.prog) W g o 84 [.int .u8 (x.t.toNat:Int),x.vb,x.vr] _ (fun j v hv=>by
  match j,hv with
  | 0,hv=>simp at hv;subst hv;exact p0
  | 1,hv=>simp at hv;subst hv;exact p1
  | 2,hv=>simp at hv;subst hv;exact p2
  | _+3,hv=>simp at hv) Tryz.underlying84 rfl rfl
 exact h0
theorem AN {Q:Exit→Act→World→Prop} {o:Oper} {a:Act} {w:World} {Ji:Value→World→Prop} {R:World→World→Prop} {x:Operand} {A:Option Addr} {n c:Nat} (hn:o.dst≠none) (ho:o.op=.call {callee:=.builtin .len,args:=#[x],argTypes:=#[80]}) (hx:a.eval x=.slice A n c) (hJ:Ji (.int .i64 (n:Int)) w) (hR:R w w) :
 o.wp Tryz.prog a w (fun a' w'=>∃v,a'=a.put o.dst v∧(o.dst=none→v=undef)∧Ji v w'∧R w w') Q:=by
 have hm:(#[x]:Array Operand).map a.eval=#[.slice A n c]:=by rw[←hx];simp
 have hl:(Builtin.len_ #[80] o.type #[.slice A n c]).run Tryz.prog w=.ok (.int .i64 (n:Int)) w:=rfl;refine bU hn ?_ hJ hR;simp only[execOp,ho,resolve,hm];simp[go_sem,hl]
def fj (r g n c er':Nat) (v0 v1:Value) (gl m:Nat) (q1 q2:Bool) (i:Nat) (v:Value) (w:World):Prop:=
 match i with
 | 0=>v=.pointer (some ⟨r,0,none⟩)
 | 1=>v=.slice (some ⟨g,0,none⟩) n c
 | 2=>v=.pointer (some ⟨g,0,none⟩)
 | 3=>v=v0
 | 4=>v=.slice (some ⟨gl,0,none⟩) m m
 | 5=>v=.bool q1
 | 6=>v=.bool q1
 | 7=>q1=true→v=.slice (some ⟨g,0,none⟩) n c
 | 8=>q1=true→v=.pointer (some ⟨g,3,none⟩)
 | 9=>q1=true→v=v1
 | 10=>q1=true→v=.bool q2
 | 11=>v=.bool (q1&&q2)
 | _=>Rr w r er'
theorem fj.up {r g n c er er':Nat} {v0 v1:Value} {gl m:Nat} {q1 q2:Bool} (i:Nat) (v:Value) (w w':World) (hR:RR r er er' w w') (h:fj r g n c er' v0 v1 gl m q1 q2 i v w):fj r g n c er' v0 v1 gl m q1 q2 i v w':=by
 match i,h with
 | 0,h|1,h|2,h|3,h|4,h|5,h|6,h|7,h|8,h|9,h|10,h|11,h=>exact h
 | _+12,h=>exact hR.last h
set_option maxHeartbeats 8000000 in
theorem lI (r er:Nat) (t:UInt8) (A1 A2:Option Addr) (n1 c1 n2 c2:Nat) (b raw:List UInt8) (w:World) (h:Rr w r er) (h6:6≤r) (hG:dr w) (h1:Rd w w.heap.size A1 n1 c1 b) (hn:n1≤1099511627) :
 Calls Tryz.prog 114 #[.pointer (some ⟨r,0,none⟩),.agg #[.int .u8 (t.toNat:Int),.slice A1 n1 c1,.slice A2 n2 c2]] w fun e w'=>e=.returned (.tuple #[])∧w.grownBy w' (some r)∧Rr w' r (Zc.next er (Zc.cipher (t,b,raw))):=by
 have qv:=h.lt;have qs:=h.alloc (.cells #[.int .u8 (t.toNat:Int),.slice A1 n1 c1,.slice A2 n2 c2] 84);have qh:=hG.below (br_.alloc nl_ (.cells #[.int .u8 (t.toNat:Int),.slice A1 n1 c1,.slice A2 n2 c2] 84));have qg:=h1.up (br_.alloc nl_ (.cells #[.int .u8 (t.toNat:Int),.slice A1 n1 c1,.slice A2 n2 c2] 84));have H:=hd3 qs qh qg;clear qs qh qg h h1 hG
 go_enter Tryz.func114,Tryz.ntmps114
 go_wp2_with fail
 refine(bL r er t A1 A2 n1 c1 n2 c2 48 2 2 b raw _ H.1 H.2.2 hn (.inr (.inr (.inl rfl))) ab).mono ?_;rintro e w1 ⟨A,n,c,L,er1,rfl,hg1,hr1,he1,hE,hnl,hlo,hhi,_,hm,hok⟩;obtain rfl:n=2:=ab
 replace hE:=hE.mono (lo':=w.heap.size) ag nl_
 have qd:w.grownBy w1 (some r):=(aH aa _).trans hg1;obtain⟨g,rfl,hgl,hgh⟩:=hE.spot_ ab;obtain⟨t0,A3,n3,c3,b0,A4,n4,c4,r0,hx0,_,_,_,R0,R0',hL0⟩:=hE.el rfl (Below.refl w1.heap.size w1) nl_ 0 0 ab rfl;obtain⟨t1,A5,n5,c5,b1,A6,n6,c6,r1,hx1,_,_,_,R1,R1',hL1⟩:=hE.el rfl (Below.refl w1.heap.size w1) nl_ 1 3 ab rfl;have qk:=H.2.1.grown hg1 h6;obtain⟨q1,hq1⟩:∃q,Zc.is (t0,b0,r0) Zc.rsa=q:=⟨_,rfl⟩
 obtain⟨q2,hq2⟩:∃q,Zc.null (t1,b1,r1)=q:=⟨_,rfl⟩
 obtain⟨er2,her2⟩:∃e,e=Zc.next er1 (Zc.form (q1&&q2)):=⟨_,rfl⟩
 have qc:er2=Zc.next er (Zc.cipher (t,b,raw)):=by
  rw[her2,←hq1,←hq2,←hx0,←hx1];exact(((Zc.At.start er (Zc.cipher (t,b,raw))).step .parts he1 hok).last .form rfl (a:=()) fun h0=>by
   obtain⟨_,a,ha⟩:=Zc.next_zero .form h0;exact ha).1
 have H1:=hd12 qd hr1 qk hE hL0 hL1 R0 R1' hq1 hq2 her2 qc;clear hg1 qd hr1 he1 hE hnl hlo hhi hm hok hx0 hx1 R0 R0' R1 R1' hL0 hL1 qk hq1 hq2 her2 qc
 go_wp2
 have hk:∀V,RG r er1 er2 w1 V→aU V w.heap.size w1.heap.size (.slice (some ⟨g,0,none⟩) 2 c) L∧Rd V V.heap.size A3 n3 c3 b0∧Rd V V.heap.size A6 n6 c6 r1∧dr V:=fun V hV=>by
  have hE:=H1.2.2.2.1.keepRows (au.grown hV.1 qv);exact⟨hE,(hE.own1 H1.2.2.2.2.1).rdx.more hV.1.size,(hE.own2 H1.2.2.2.2.2.1).rdx.more hV.1.size,H1.2.2.1.grown hV.1 h6⟩
 refine bK (fj r g 2 c er2 (.agg #[.int .u8 (t0.toNat:Int),.slice A3 n3 c3,.slice A4 n4 c4]) (.agg #[.int .u8 (t1.toNat:Int),.slice A5 n5 c5,.slice A6 n6 c6]) 5 7 q1 q2) (RG r er1 er2 w1) (RR r er1 er2) rfl RR.refl fj.up (fun _ _ h h'=>h.next h') (by show bp _ 21=true;decide +kernel) ac ⟨aH br_.drew _,er1,.inl rfl,H1.2.1⟩ ⟨?_,?_,?_,?_,?_,?_,?_,?_,?_,?_,?_,?_,?_,trivial⟩ ?_
 ·refine aA.run rfl ?_;intro a' V hfr hG hdep;exact cP ag rfl (hfr 0 ac) (show fj _ _ _ _ _ _ _ _ _ _ _ 0 _ _ from rfl) (RR.refl _)
 ·refine aA.run rfl ?_;intro a' V hfr hG hdep;exact cP ag rfl (hfr 4 ac) (show fj _ _ _ _ _ _ _ _ _ _ _ 1 _ _ from rfl) (RR.refl _)
 ·refine aA.run rfl ?_;intro a' V hfr hG hdep;have d:a'.eval (.tmp 9)=_:=hdep 1 ac;refine bU ag ?_ (show fj _ _ _ _ _ _ _ _ _ _ _ 2 _ _ from rfl) (RR.refl _);simp only[execOp,d];simp[go_sem,Act.eval]
 ·refine aA.run rfl ?_;intro a' V hfr hG hdep;have d:a'.eval (.tmp 10)=_:=hdep 2 ac;exact dq ag rfl d ((hk V hG).1.load H1.2.2.2.2.1 rfl) (show fj _ _ _ _ _ _ _ _ _ _ _ 3 _ _ from rfl) (RR.refl _)
 ·refine aA.run rfl ?_;intro a' V hfr hG hdep;refine bU ag ?_ (show fj _ _ _ _ _ _ _ _ _ _ _ 4 _ _ from rfl) (RR.refl _);simp only[execOp];simp[go_sem,Act.eval,Tryz.underlying100]
 ·refine aA.run rfl ?_;intro a' V hfr hG hdep;have d:a'.eval (.tmp 11)=_:=hdep 3 ac;have d2:a'.eval (.tmp 12)=_:=hdep 4 ac
  refine bV ag rfl Tryz.func48 rfl aj (args:=#[.agg #[.int .u8 (t0.toNat:Int),.slice A3 n3 c3,.slice A4 n4 c4],.slice (some ⟨5,0,none⟩) 7 7]) (by simp only[List.map_toArray,List.map_cons,List.map_nil,d,d2]) (gD t0 A3 _ n3 c3 7 7 (.slice A4 n4 c4) b0 r0 [1,2,840,113549,1,1,1] V (hk V hG).2.1 ((hk V hG).2.2.2.rdu (by simp[Zc.table]) rfl) ab) ?_;rintro e w'' ⟨rfl,hb⟩;exact⟨_,rfl,by rw[zP,H1.2.2.2.2.2.2.2.2.1];rfl,RR.below hb⟩
 ·refine aA.run rfl ?_;intro a' V hfr hG hdep;exact cP ag rfl (hdep 5 ac) (show fj _ _ _ _ _ _ _ _ _ _ _ 6 _ _ from rfl) (RR.refl _)
 ·refine aA.on 6 _ true rfl ac (fun v _ h=>h) (fun h _ hq=>absurd hq h) ?_;intro hq a' V hfr hG hdep;exact cP ag rfl (hfr 4 ac) (show fj _ _ _ _ _ _ _ _ _ _ _ 7 _ _ from fun _=>rfl) (RR.refl _)
 ·refine aA.on 6 _ true rfl ac (fun v _ h=>h) (fun h _ hq=>absurd hq h) ?_;intro hq a' V hfr hG hdep;have d:a'.eval (.tmp 15)=_:=hdep 7 ac hq;refine bU ag ?_ (show fj _ _ _ _ _ _ _ _ _ _ _ 8 _ _ from fun _=>rfl) (RR.refl _);simp only[execOp,d];simp[go_sem,Act.eval]
 ·refine aA.on 6 _ true rfl ac (fun v _ h=>h) (fun h _ hq=>absurd hq h) ?_;intro hq a' V hfr hG hdep;have d:a'.eval (.tmp 16)=_:=hdep 8 ac hq;exact dq ag rfl d ((hk V hG).1.load H1.2.2.2.2.2.1 rfl) (show fj _ _ _ _ _ _ _ _ _ _ _ 9 _ _ from fun _=>rfl) (RR.refl _)
 ·refine aA.on 6 _ true rfl ac (fun v _ h=>h) (fun h _ hq=>absurd hq h) ?_;intro hq a' V hfr hG hdep;have d:a'.eval (.tmp 17)=_:=hdep 9 ac hq
  refine bV ag rfl Tryz.func90 rfl aj (args:=#[.agg #[.int .u8 (t1.toNat:Int),.slice A5 n5 c5,.slice A6 n6 c6]]) (by simp only[List.map_toArray,List.map_cons,List.map_nil,d]) (pM t1 (.slice A5 n5 c5) A6 n6 c6 b1 r1 V (hk V hG).2.2.1) ?_;rintro e w'' ⟨rfl,hb⟩;exact⟨_,rfl,fun _=>by rw[H1.2.2.2.2.2.2.2.2.2.1],RR.below hb⟩
 ·refine aA.run rfl ?_;intro a' V hfr hG hdep;have d:a'.eval (.tmp 14)=_:=hdep 6 ac;have d2:_→a'.eval (.tmp 18)=_:=hdep 10 ac
  refine lx (v:=.bool (q1&&q2)) ag rfl d ?_ (show fj _ _ _ _ _ _ _ _ _ _ _ 11 _ _ from rfl) (RR.refl _)
  cases q1 with
  | true=>rw[if_pos rfl,d2 rfl,Bool.true_and]
  | false=>rfl
 ·refine aA.run rfl ?_;intro a' V hfr hG hdep;have d:a'.eval (.tmp 8)=_:=hdep 0 ac;have d2:a'.eval (.tmp 19)=_:=hdep 11 ac
  obtain⟨e0,he0,hre⟩:=hG.2;refine bV ag rfl Tryz.func47 rfl aj (args:=#[.pointer (some ⟨r,0,none⟩),.bool (q1&&q2)]) (by simp only[List.map_toArray,List.map_cons,List.map_nil,d,d2]) (cB r e0 (q1&&q2) V hre) ?_;rintro e w'' ⟨rfl,hg,hr⟩;obtain⟨k1,k2⟩:=RR.form hg hG H1.2.2.2.2.2.2.2.2.2.2.1 (fun e he=>by rw[he.uniq hre];exact hr);exact⟨_,rfl,k1,k2⟩
 intro a' V hd hsz hfr hG hJ;have j4:Rr V r er2:=hJ 12 aj;have hE:=hd2 (H1.1.trans hG.1) j4;have hF:=H1.2.2.2.2.2.2.2.2.2.2.2;clear hfr hJ hG hk j4 hsz;rw[hF]at hE;clear H H1 hF;exact bodyPost_end (results_none Tryz.results114 _ _ _) hd ⟨rfl,hE.1,hE.2⟩
end
section
set_option maxRecDepth 100000
def eh (r g n c er':Nat) (v0 v1:Value) (gl m:Nat) (q1 d1 q2:Bool) (i:Nat) (v:Value) (w:World):Prop:=
 match i with
 | 0=>v=.pointer (some ⟨r,0,none⟩)
 | 1=>v=.slice (some ⟨g,0,none⟩) n c
 | 2=>v=.pointer (some ⟨g,0,none⟩)
 | 3=>v=v0
 | 4=>v=.slice (some ⟨gl,0,none⟩) m m
 | 5=>v=.bool q1
 | 6=>v=.bool q1
 | 7=>q1=true→v=.slice (some ⟨g,0,none⟩) n c
 | 8=>q1=true→v=.int .i64 (n:Int)
 | 9=>q1=true→v=.bool d1
 | 10=>v=if q1=true then .bool d1 else undef
 | 11=>(q1&&!d1)=true→v=.slice (some ⟨g,0,none⟩) n c
 | 12=>(q1&&!d1)=true→v=.pointer (some ⟨g,3,none⟩)
 | 13=>(q1&&!d1)=true→v=v1
 | 14=>(q1&&!d1)=true→v=.bool q2
 | 15=>q1=true→v=.bool (d1||q2)
 | 16=>v=.bool (q1&&(d1||q2))
 | _=>Rr w r er'
theorem eh.up {r g n c er er':Nat} {v0 v1:Value} {gl m:Nat} {q1 d1 q2:Bool} (i:Nat) (v:Value) (w w':World) (hR:RR r er er' w w') (h:eh r g n c er' v0 v1 gl m q1 d1 q2 i v w):eh r g n c er' v0 v1 gl m q1 d1 q2 i v w':=by
 match i,h with
 | 0,h|1,h|2,h|3,h|4,h|5,h|6,h|7,h|8,h|9,h|10,h|11,h|12,h|13,h|14,h|15,h|16,h=>exact h
 | _+17,h=>exact hR.last h
set_option maxHeartbeats 8000000 in
theorem k7 (r er:Nat) (t:UInt8) (A1 A2:Option Addr) (n1 c1 n2 c2:Nat) (b raw:List UInt8) (w:World) (h:Rr w r er) (h6:6≤r) (hG:dr w) (h1:Rd w w.heap.size A1 n1 c1 b) (hn:n1≤1099511627) :
 Calls Tryz.prog 55 #[.pointer (some ⟨r,0,none⟩),.agg #[.int .u8 (t.toNat:Int),.slice A1 n1 c1,.slice A2 n2 c2]] w fun e w'=>e=.returned (.tuple #[])∧w.grownBy w' (some r)∧Rr w' r (Zc.next er (Zc.hash (t,b,raw))):=by
 have q6:=h.lt;have q4:=h.alloc (.cells #[.int .u8 (t.toNat:Int),.slice A1 n1 c1,.slice A2 n2 c2] 84);have q0:=hG.below (br_.alloc nl_ (.cells #[.int .u8 (t.toNat:Int),.slice A1 n1 c1,.slice A2 n2 c2] 84));have qv:=h1.up (br_.alloc nl_ (.cells #[.int .u8 (t.toNat:Int),.slice A1 n1 c1,.slice A2 n2 c2] 84));have H:=hd3 q4 q0 qv;clear q4 q0 qv h h1 hG
 go_enter Tryz.func55,Tryz.ntmps55
 go_wp2_with fail
 refine(bL r er t A1 A2 n1 c1 n2 c2 48 1 2 b raw _ H.1 H.2.2 hn (.inr (.inl rfl)) ab).mono ?_;rintro e w1 ⟨A,n,c,L,er1,rfl,hg1,hr1,he1,hE,hnl,hlo,hhi,_,hm,hok⟩;have q5:n≤2:=ab
 replace hE:=hE.mono (lo':=w.heap.size) ag nl_
 have qk:w.grownBy w1 (some r):=(aH aa _).trans hg1;obtain⟨g,rfl,hgl,hgh⟩:=hE.spot_ ab;obtain⟨t0,A3,n3,c3,b0,A4,n4,c4,r0,hx0,_,_,_,_,_,hL0⟩:=hE.el rfl (Below.refl w1.heap.size w1) nl_ 0 0 ab rfl;obtain⟨t1,A5,n5,c5,b1,A6,n6,c6,r1,hx1⟩:∃t1 A5 n5 c5 b1 A6 n6 c6 r1,n=2→(L.map EI.dat).getD 1 El.none_=(t1,b1,r1)∧L[1]? = some ⟨t1,.slice A5 n5 c5,b1,.slice A6 n6 c6,r1⟩:=by
  by_cases h2:n=2
  ·obtain⟨t1,A5,n5,c5,b1,A6,n6,c6,r1,hx1,_,_,_,_,_,hL1⟩:=hE.el rfl (Below.refl w1.heap.size w1) nl_ 1 3 ab rfl
   exact⟨t1,A5,n5,c5,b1,A6,n6,c6,r1,fun _=>⟨hx1,hL1⟩⟩
  ·exact⟨0,none,0,0,[],none,0,0,[],fun h=>absurd h h2⟩
 have q3:=H.2.1.grown hg1 h6;obtain⟨q1,hq1⟩:∃q,Zc.is (t0,b0,r0) Zc.sha=q:=⟨_,rfl⟩
 obtain⟨q2,hq2⟩:∃q,Zc.null ((L.map EI.dat).getD 1 El.none_)=q:=⟨_,rfl⟩
 obtain⟨d1,hq_1⟩:∃q,((n:Int)==1)=q:=⟨_,rfl⟩
 have qg:decide ((L.map EI.dat).length=1)=d1:=by rw[List.length_map,←hnl,←hq_1,Bool.eq_iff_iff];simp;omega
 have qs:d1=false→n=2:=by rw[←hq_1];simp;omega
 obtain⟨er2,her2⟩:∃e,e=Zc.next er1 (Zc.form (q1&&(d1||q2))):=⟨_,rfl⟩
 have qh:er2=Zc.next er (Zc.hash (t,b,raw)):=by
  rw[her2,←hq1,←hq2,←hx0,←qg];exact(((Zc.At.start er (Zc.hash (t,b,raw))).step .parts he1 hok).last .form rfl (a:=()) fun h0=>by
   obtain⟨_,a,ha⟩:=Zc.next_zero .form h0;exact ha).1
 have H1:=hd12 qk hr1 q3 hE hL0 hx1 qs hq_1 hq1 hq2 her2 qh;clear hg1 qk hr1 he1 hE hnl hm hok hx0 hx1 hL0 q3 hq1 hq2 her2 qh hq_1 qg qs
 go_wp2
 have hk:∀V,RG r er1 er2 w1 V→aU V w.heap.size w1.heap.size (.slice (some ⟨g,0,none⟩) n c) L∧Rd V V.heap.size A3 n3 c3 b0∧(n=2→Rd V V.heap.size A6 n6 c6 r1)∧dr V:=fun V hV=>by
  have hE:=H1.2.2.2.1.keepRows (au.grown hV.1 q6);exact⟨hE,(hE.own1 H1.2.2.2.2.1).rdx.more hV.1.size,fun h2=>(hE.own2 (H1.2.2.2.2.2.1 h2).2).rdx.more hV.1.size,H1.2.2.1.grown hV.1 h6⟩
 have two:(q1&&!d1)=true→n=2:=fun h=>H1.2.2.2.2.2.2.1 (by cases q1<;>cases d1<;>simp_all)
 have qd:∀v,(v=if q1=true then .bool d1 else undef)→(q1&&!d1)=true→v=Value.bool false:=fun v h hp=>by cases q1<;>cases d1<;>simp_all
 have qc:∀v,(v=if q1=true then .bool d1 else undef)→(q1&&!d1)=false→v≠Value.bool false:=fun v h hp=>by cases q1<;>cases d1<;>simp_all [undef]
 refine bK (eh r g n c er2 (.agg #[.int .u8 (t0.toNat:Int),.slice A3 n3 c3,.slice A4 n4 c4]) (.agg #[.int .u8 (t1.toNat:Int),.slice A5 n5 c5,.slice A6 n6 c6]) 2 9 q1 d1 q2) (RG r er1 er2 w1) (RR r er1 er2) rfl RR.refl eh.up (fun _ _ h h'=>h.next h') (by show bp _ 26=true;decide +kernel) ac ⟨aH br_.drew _,er1,.inl rfl,H1.2.1⟩ ⟨?_,?_,?_,?_,?_,?_,?_,?_,?_,?_,?_,?_,?_,?_,?_,?_,?_,?_,trivial⟩ ?_
 ·refine aA.run rfl ?_;intro a' V hfr hG hdep;exact cP ag rfl (hfr 0 ac) (show eh _ _ _ _ _ _ _ _ _ _ _ _ 0 _ _ from rfl) (RR.refl _)
 ·refine aA.run rfl ?_;intro a' V hfr hG hdep;exact cP ag rfl (hfr 4 ac) (show eh _ _ _ _ _ _ _ _ _ _ _ _ 1 _ _ from rfl) (RR.refl _)
 ·refine aA.run rfl ?_;intro a' V hfr hG hdep;have d:a'.eval (.tmp 9)=_:=hdep 1 ac;refine bU ag ?_ (show eh _ _ _ _ _ _ _ _ _ _ _ _ 2 _ _ from rfl) (RR.refl _);simp only[execOp,d];simp[go_sem,Act.eval,show 0<n by omega]
 ·refine aA.run rfl ?_;intro a' V hfr hG hdep;have d:a'.eval (.tmp 10)=_:=hdep 2 ac;exact dq ag rfl d ((hk V hG).1.load H1.2.2.2.2.1 rfl) (show eh _ _ _ _ _ _ _ _ _ _ _ _ 3 _ _ from rfl) (RR.refl _)
 ·refine aA.run rfl ?_;intro a' V hfr hG hdep;refine bU ag ?_ (show eh _ _ _ _ _ _ _ _ _ _ _ _ 4 _ _ from rfl) (RR.refl _);simp only[execOp];simp[go_sem,Act.eval,Tryz.underlying136]
 ·refine aA.run rfl ?_;intro a' V hfr hG hdep;have d:a'.eval (.tmp 11)=_:=hdep 3 ac;have d2:a'.eval (.tmp 12)=_:=hdep 4 ac
  refine bV ag rfl Tryz.func48 rfl aj (args:=#[.agg #[.int .u8 (t0.toNat:Int),.slice A3 n3 c3,.slice A4 n4 c4],.slice (some ⟨2,0,none⟩) 9 9]) (by simp only[List.map_toArray,List.map_cons,List.map_nil,d,d2]) (gD t0 A3 _ n3 c3 9 9 (.slice A4 n4 c4) b0 r0 [2,16,840,1,101,3,4,2,1] V (hk V hG).2.1 ((hk V hG).2.2.2.rdu (by simp[Zc.table]) rfl) ab) ?_;rintro e w'' ⟨rfl,hb⟩;exact⟨_,rfl,by rw[zQ,H1.2.2.2.2.2.2.2.2.1];rfl,RR.below hb⟩
 ·refine aA.run rfl ?_;intro a' V hfr hG hdep;exact cP ag rfl (hdep 5 ac) (show eh _ _ _ _ _ _ _ _ _ _ _ _ 6 _ _ from rfl) (RR.refl _)
 ·refine aA.on 6 _ true rfl ac (fun v _ h=>h) (fun h _ hq=>absurd hq h) ?_;intro hq a' V hfr hG hdep;exact cP ag rfl (hfr 4 ac) (show eh _ _ _ _ _ _ _ _ _ _ _ _ 7 _ _ from fun _=>rfl) (RR.refl _)
 ·refine aA.on 6 _ true rfl ac (fun v _ h=>h) (fun h _ hq=>absurd hq h) ?_;intro hq a' V hfr hG hdep;have d:a'.eval (.tmp 15)=_:=hdep 7 ac hq;exact AN ag rfl d (show eh _ _ _ _ _ _ _ _ _ _ _ _ 8 _ _ from fun _=>rfl) (RR.refl _)
 ·refine aA.on 6 _ true rfl ac (fun v _ h=>h) (fun h _ hq=>absurd hq h) ?_;intro hq a' V hfr hG hdep;have d:a'.eval (.tmp 16)=_:=hdep 8 ac hq;refine bU (v:=.bool ((n:Int)==1)) ag ?_ (show eh _ _ _ _ _ _ _ _ _ _ _ _ 9 _ _ from fun _=>by rw[H1.2.2.2.2.2.2.2.1]) (RR.refl _);simp only[execOp,d];simp[go_sem,Act.eval,eqGuard]
 ·refine aA.on 6 _ true rfl ac (fun v _ h=>h) (fun h _=>(if_neg h).symm) ?_;intro hq a' V hfr hG hdep;have d:a'.eval (.tmp 17)=_:=hdep 9 ac hq;exact cP ag rfl d (show eh _ _ _ _ _ _ _ _ _ _ _ _ 10 _ _ from(if_pos hq).symm) (RR.refl _)
 ·refine aA.may 10 false (q1&&!d1) rfl ac (fun hp v _ h=>qd v h hp) (fun hp v _ h=>qc v h hp) (fun hp _ hq=>absurd hq (by rw[hp];simp)) ?_;intro hq a' V hfr hG hdep;exact cP ag rfl (hfr 4 ac) (show eh _ _ _ _ _ _ _ _ _ _ _ _ 11 _ _ from fun _=>rfl) (RR.refl _)
 ·refine aA.may 10 false (q1&&!d1) rfl ac (fun hp v _ h=>qd v h hp) (fun hp v _ h=>qc v h hp) (fun hp _ hq=>absurd hq (by rw[hp];simp)) ?_;intro hq a' V hfr hG hdep;have d:a'.eval (.tmp 19)=_:=hdep 11 ac hq;refine bU ag ?_ (show eh _ _ _ _ _ _ _ _ _ _ _ _ 12 _ _ from fun _=>rfl) (RR.refl _);obtain rfl:=two hq;simp only[execOp,d];simp[go_sem,Act.eval]
 ·refine aA.may 10 false (q1&&!d1) rfl ac (fun hp v _ h=>qd v h hp) (fun hp v _ h=>qc v h hp) (fun hp _ hq=>absurd hq (by rw[hp];simp)) ?_;intro hq a' V hfr hG hdep;have d:a'.eval (.tmp 20)=_:=hdep 12 ac hq;exact dq ag rfl d ((hk V hG).1.load (H1.2.2.2.2.2.1 (two hq)).2 rfl) (show eh _ _ _ _ _ _ _ _ _ _ _ _ 13 _ _ from fun _=>rfl) (RR.refl _)
 ·refine aA.may 10 false (q1&&!d1) rfl ac (fun hp v _ h=>qd v h hp) (fun hp v _ h=>qc v h hp) (fun hp _ hq=>absurd hq (by rw[hp];simp)) ?_;intro hq a' V hfr hG hdep;have d:a'.eval (.tmp 21)=_:=hdep 13 ac hq
  refine bV ag rfl Tryz.func90 rfl aj (args:=#[.agg #[.int .u8 (t1.toNat:Int),.slice A5 n5 c5,.slice A6 n6 c6]]) (by simp only[List.map_toArray,List.map_cons,List.map_nil,d]) (pM t1 (.slice A5 n5 c5) A6 n6 c6 b1 r1 V ((hk V hG).2.2.1 (two hq))) ?_;rintro e w'' ⟨rfl,hb⟩;exact⟨_,rfl,fun _=>by rw[←(H1.2.2.2.2.2.1 (two hq)).1,H1.2.2.2.2.2.2.2.2.2.1],RR.below hb⟩
 ·refine aA.on 6 _ true rfl ac (fun v _ h=>h) (fun h _ hq=>absurd hq h) ?_;intro hq a' V hfr hG hdep;have d:a'.eval (.tmp 18)=_:=hdep 10 ac;have d2:_→a'.eval (.tmp 22)=_:=hdep 14 ac
  rw[if_pos hq]at d;refine lx (v:=.bool (d1||q2)) ag rfl d ?_ (show eh _ _ _ _ _ _ _ _ _ _ _ _ 15 _ _ from fun _=>rfl) (RR.refl _)
  cases d1 with
  | true=>rfl
  | false=>rw[if_neg ag,d2 (by rw[hq];rfl),Bool.false_or]
 ·refine aA.run rfl ?_;intro a' V hfr hG hdep;have d:a'.eval (.tmp 14)=_:=hdep 6 ac;have d2:_→a'.eval (.tmp 23)=_:=hdep 15 ac
  refine lx (v:=.bool (q1&&(d1||q2))) ag rfl d ?_ (show eh _ _ _ _ _ _ _ _ _ _ _ _ 16 _ _ from rfl) (RR.refl _)
  cases q1 with
  | true=>rw[if_pos rfl,d2 rfl,Bool.true_and]
  | false=>rfl
 ·refine aA.run rfl ?_;intro a' V hfr hG hdep;have d:a'.eval (.tmp 8)=_:=hdep 0 ac;have d2:a'.eval (.tmp 24)=_:=hdep 16 ac
  obtain⟨e0,he0,hre⟩:=hG.2;refine bV ag rfl Tryz.func47 rfl aj (args:=#[.pointer (some ⟨r,0,none⟩),.bool (q1&&(d1||q2))]) (by simp only[List.map_toArray,List.map_cons,List.map_nil,d,d2]) (cB r e0 (q1&&(d1||q2)) V hre) ?_;rintro e w'' ⟨rfl,hg,hr⟩;obtain⟨k1,k2⟩:=RR.form hg hG H1.2.2.2.2.2.2.2.2.2.2.1 (fun e he=>by rw[he.uniq hre];exact hr);exact⟨_,rfl,k1,k2⟩
 intro a' V hd hsz hfr hG hJ;have j4:Rr V r er2:=hJ 17 aj;have hE:=hd2 (H1.1.trans hG.1) j4;have hF:=H1.2.2.2.2.2.2.2.2.2.2.2;clear hfr hJ hG hk j4 hsz two qd qc;rw[hF]at hE;clear H H1 hF;exact bodyPost_end (results_none Tryz.results55 _ _ _) hd ⟨rfl,hE.1,hE.2⟩
end
section
set_option maxRecDepth 100000
structure G2 (B r s:Nat) (w w':World):Prop where
 os:w'.os=w.os
 tape:w'.tape=w.tape
 output:w'.output=w.output
 size:w.heap.size≤w'.heap.size
 old:∀k,k<B→k≠r→k≠s→w'.heap[k]? = w.heap[k]?
 rows:au B w w'
section
variable {B r s : Nat} {w w' w'' : World}
theorem G2.refl (B r s:Nat) (w:World):G2 B r s w w:=⟨rfl,rfl,rfl,Nat.le_refl _,fun _ _ _ _=>rfl,fun _ _ _ _ h=>h⟩
theorem G2.trans (h:G2 B r s w w') (h':G2 B r s w' w''):G2 B r s w w'':=
 ⟨h'.os.trans h.os,h'.tape.trans h.tape,h'.output.trans h.output,Nat.le_trans h.size h'.size,fun k a b c=>(h'.old k a b c).trans (h.old k a b c),h.rows.trans h'.rows⟩
theorem G2.below (hb:Below w.heap.size w w') (hB:B≤w.heap.size):G2 B r s w w':=
 ⟨hb.os,hb.tape,hb.output,hb.size,fun k a _ _=>hb.block k (Nat.lt_of_lt_of_le a hB),au.below hb nl_⟩
theorem G2.grown (hg:w.grownBy w' (some r)) (hB:B≤w.heap.size) (hr:r<B):G2 B r s w w':=
 ⟨hg.os,hg.tape,hg.output,hg.size,fun k a b _=>hg.block k (Nat.lt_of_lt_of_le a hB) (fun e=>b (by injection e)),au.grown hg hr⟩
theorem G2.put (w:World) (o:Nat) (u:Value) (hs:s<B):G2 B r s w (w.setCell ⟨s,o,none⟩ u):=
 ⟨rfl,rfl,rfl,ag,fun k _ _ c=>Below.heap_setCell w ⟨s,o,none⟩ u k c,au.setCell hs u⟩
theorem G2.map {b clk:Nat} {es:Array MapEntry} (hg:w.grownBy w' (some b)) (hm:w.heap[b]? = some (.map es clk)) (hB:B≤b):G2 B r s w w':=
 ⟨hg.os,hg.tape,hg.output,hg.size,fun k a _ _=>hg.block k (by have:=(Array.getElem?_eq_some_iff.1 hm).1;omega) (fun e=>by injection e with e;omega),au.map hg hm⟩
theorem aw.g2 {g:Nat} {t:TypeId} {cs:Array Value} (h:aw w g t cs) (hg:G2 B r s w w') (h1:g≠r) (h2:g≠s):aw w' g t cs:=by
 rcases Nat.lt_or_ge g B with hb|hb
 ·exact(hg.old g hb h1 h2).trans h
 ·exact hg.rows g cs t hb h
theorem dr.g2 (h:dr w) (hg:G2 B r s w w') (hB:6≤B) (hr:6≤r) (hs:6≤s):dr w':=
 ⟨Nat.le_trans h.1 hg.size,fun p hp i z hz=>by
   have ht:=(eF p hp).1;exact(World.cell?_of_block (hg.old p.1 ab ab ab)).trans (h.2 p hp i z hz)⟩
theorem az.g2 {lo hi:Nat} {v:Value} {xs:List UInt8} (h:az w lo hi v xs) (hg:G2 B r s w w') (h1:∀g,v.ownBlock=some g→g≠r∧g≠s):az w' lo hi v xs:=by
 refine⟨⟨h.1.1,?_⟩,h.2⟩;rcases h.1.2 with e|⟨g,cap,cur,rfl,hb,hgg,rest⟩
 ·exact .inl e
 ·have:=h1 g rfl
  exact .inr ⟨g,cap,cur,rfl,hb,aw.g2 hgg hg this.1 this.2,rest⟩
end
end
end Go.Proofs.YtmpkpphfoidbeaaGreatDoor
