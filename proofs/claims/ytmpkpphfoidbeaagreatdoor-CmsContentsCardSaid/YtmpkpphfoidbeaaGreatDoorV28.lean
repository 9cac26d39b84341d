import Derived.Deep.CutRange
import Derived.Test.YtmpkpphfoidbeaaGreatDoorV27
set_option linter.unusedVariables false
set_option linter.unusedSimpArgs false
set_option maxRecDepth 100000
namespace Go.Proofs.YtmpkpphfoidbeaaGreatDoor
open Go.RowKit
structure OI where
 x:LS
 vk:Value
 vs:Value
 vd:Value
 vg:Value
def OI.cells (y:OI):List Value:=(y.x.row y.vk y.vs y.vd y.vg).toList
structure uJ (w:World) (A:Option Addr) (n c:Nat) (l:List OI):Prop where
 row:kw 6 OI.cells (fun _=>[]) w A n c l
 each:∀y∈l,mF w y.x y.vk y.vs y.vd y.vg
 str:∀y∈l,y.x.iss.length≤9223372036854775807
theorem uJ.up {w w':World} {A:Option Addr} {n c:Nat} {l:List OI} (h:uJ w A n c l) (hb:Below w.heap.size w w'):uJ w' A n c l:=
 ⟨h.row.up hb,fun y hy=>(h.each y hy).up hb,h.str⟩
structure MK where
 kind:List Nat
 content:List UInt8
 certs:Nat
 ones:List OI
 bare:Bool
 none:Bool
def MK.names (x:MK):List (List UInt8):=(List.range (x.certs % 4)).map fun i=>[UInt8.ofNat (97+i)]
def MK.rungs (x:MK):List (List UInt8×Sg×List UInt8):=(List.range x.names.length).map fun i=>Lad.d (Lad.kase x.names ([1],3) i)
def MK.cont (x:MK):List UInt8:=if x.none then[] else Der.write 4 (x.content.take 2000)
def LS.dflt:LS:=⟨[],[],[],[],[],true⟩
def MK.sgs (x:MK):List LS:=if x.ones.length=0 then[LS.dflt] else (x.ones.take 8).map OI.x
structure MK.Fits (x:MK):Prop where
 kind:∀z∈x.kind,z<18446744073709551616
 ones:∀y∈x.ones,y.x.Fits
theorem MK.sgs_fits {x:MK} (h:x.Fits):∀y∈x.sgs,y.Fits:=by
 unfold MK.sgs
 split
 ·exact one_mem' ⟨fun z hz=>by cases hz⟩
 ·intro y hy
  obtain⟨z,hz,rfl⟩:=List.mem_map.1 hy;exact h.ones z (List.mem_of_mem_take hz)
where one_mem' {P:LS→Prop} {a:LS} (ha:P a):∀y∈[a],P y:=fun y hy=>by rw[List.mem_singleton.1 hy];exact ha
theorem MK.sgs_len (x:MK):1≤x.sgs.length∧x.sgs.length≤8:=by
 unfold MK.sgs
 split
 ·simp
 ·rename_i h
  rw[List.length_map,List.length_take];omega
def MK.C (x:MK):List El:=if x.none then[] else [El.mk 4 (x.content.take 2000)]
theorem MK.C_all (x:MK):x.C.length≤1∧(∀y∈x.C,El.wf y)∧(∀y∈x.C,Der.thr 9 y.1 y.2.1=0)∧ax x.C=x.cont∧(ax x.C).length≤2006:=by
 have hl:(x.content.take 2000).length≤2000:=by rw[List.length_take];omega
 have h1:=bG (t:=4) 2000 hl ab;unfold MK.C MK.cont
 by_cases h:x.none=true
 ·rw[if_pos h,if_pos h]
  exact⟨ag,fun y hy=>(by cases hy),fun y hy=>(by cases hy),rfl,by simp[bP]⟩
 ·rw[if_neg h,if_neg h]
  exact⟨ag,bZ (El.mk_wf aj ab),bZ (bq _ rfl),by rw[aX,aR],by rw[aX];exact h1⟩
def MK.K (x:MK):List El:=(List.range x.names.length).map fun i=>(Lad.kase x.names ([1],3) i).el
theorem eV (names:List (List UInt8)) (k0:List UInt8×Nat) (i:Nat):El.wf (Lad.kase names k0 i).el∧Der.thr 11 (Lad.kase names k0 i).el.1 (Lad.kase names k0 i).el.2.1=0∧(Lad.kase names k0 i).el.2.2=(Lad.kase names k0 i).raw∧Zc.cert (Lad.kase names k0 i).el=.ok (Lad.d (Lad.kase names k0 i)):=
 zB _ (show 0<256 by decide) (show 0<256 by decide)
theorem lb {α:Type} (f:α→El):∀l:List α,ax (l.map f)=l.flatMap fun i=>(f i).2.2
 | []=>rfl
 | a::l=>by rw[List.map_cons,aN,lb f l,List.flatMap_cons]
theorem mP {α:Type} {f:α→List UInt8} {N:Nat}:∀(l:List α),(∀y∈l,(f y).length≤N)→(l.flatMap f).length≤l.length*N
 | [],_=>by simp
 | y::l,h=>by
  have h1:=mP l fun z hz=>h z (List.mem_cons_of_mem _ hz)
  have h2:=h y List.mem_cons_self;rw[List.flatMap_cons,List.length_append,List.length_cons,Nat.succ_mul];omega
theorem MK.K_all (x:MK):x.K.length≤3∧(∀y∈x.K,El.wf y)∧(∀y∈x.K,Der.thr 11 y.1 y.2.1=0)∧Zc.each Zc.cert x.K=.ok x.rungs∧ax x.K=x.rungs.flatMap (·.1)∧(ax x.K).length≤14100:=by
 have hn:x.names.length≤3:=by unfold MK.names;rw[List.length_map,List.length_range];omega
 have hm:∀y∈x.K,∃i,(Lad.kase x.names ([1],3) i).el=y:=fun y hy=>by
  obtain⟨i,_,e⟩:=List.mem_map.1 hy;exact⟨i,e⟩
 have hr:ax x.K=(List.range x.names.length).flatMap fun i=>(Lad.kase x.names ([1],3) i).el.2.2:=lb _ _
 refine⟨by unfold MK.K;rw[List.length_map,List.length_range];exact hn,fun y hy=>?_,fun y hy=>?_,kY _ fun i _=>(eV _ _ i).2.2.2,?_,?_⟩
 ·obtain⟨i,rfl⟩:=hm y hy;exact(eV _ _ i).1
 ·obtain⟨i,rfl⟩:=hm y hy;exact(eV _ _ i).2.1
 ·rw[hr]
  unfold MK.rungs;rw[List.flatMap_map];refine congrArg List.flatten (List.map_congr_left fun i _=>?_);exact(eV _ _ i).2.2.1
 ·rw[hr]
  have:=mP (f:=fun i=>(Lad.kase x.names ([1],3) i).el.2.2) (N:=4700) (List.range x.names.length) fun i _=>by
   show(Lad.kase x.names ([1],3) i).el.2.2.length≤4700;rw[(eV _ _ i).2.2.1];exact im _
  rw[List.length_range]at this;omega
theorem ws {α β:Type} {f:α→β} {A B:List β} (h:A.Perm B):∀l:List α,l.map f=B→∃l':List α,l'.Perm l∧l'.map f=A:=by
 induction h with
 | nil=>intro l hl;exact⟨l,.refl _,hl⟩
 | cons a _ ih=>
  intro l hl
  match l,hl with
  | y::l,hl=>
   rw[List.map_cons]at hl;injection hl with h1 h2
   obtain⟨l',hp,hm⟩:=ih l h2;exact⟨y::l',hp.cons y,by rw[List.map_cons,h1,hm]⟩
 | swap a b t=>
  intro l hl
  match l,hl with
  | y::z::l,hl=>
   rw[List.map_cons,List.map_cons]at hl;injection hl with h1 h2
   injection h2 with h2 h3
   exact⟨z::y::l,List.Perm.swap _ _ _,by rw[List.map_cons,List.map_cons,h1,h2,h3]⟩
 | trans _ _ ih1 ih2=>
  intro l hl;obtain⟨l2,hp2,hm2⟩:=ih2 l hl;obtain⟨l1,hp1,hm1⟩:=ih1 l2 hm2;exact⟨l1,hp1.trans hp2,hm1⟩
structure kN (x:MK) (d:DI) (S:List (List UInt8)):Prop where
 kind:d.kind=Zc.koid x.kind
 content:d.content=x.cont
 cs:d.cs.map KI.d=x.rungs
 ss:(d.ss.map SI.s).Perm (x.sgs.map LS.sr)
 ord:eo (d.ss.map SI.one)
 perm:S.Perm (d.ss.map SI.one)
 sord:eo S
def DI.bytes (d:DI) (b:Bool) (S:List (List UInt8)):List UInt8:=Zc.wrapB b (Zc.outB d.kind d.content (d.cs.flatMap fun y=>y.d.1) S)
theorem kN.sgs {x:MK} {d:DI} {S:List (List UInt8)} (h:kN x d S) (hf:x.Fits):∃L:List LS,L.Perm x.sgs∧L.map LS.sr=d.ss.map SI.s∧S=(L.map LS.el).map (·.2.2):=by
 obtain⟨L,h1,h2⟩:=ws h.ss _ rfl;have hS:=l6 h.perm h.sord h.ord;refine⟨L,h1,h2,?_⟩;have e1:d.ss.map SI.one=(d.ss.map SI.s).map fun s=>Zc.one1 s.iss s.ser s.att s.sig:=by rw[List.map_map];rfl
 rw[hS,e1,←h2,List.map_map,List.map_map];refine List.map_congr_left fun y hy=>?_
 exact LS.one y (MK.sgs_fits hf y (h1.mem_iff.1 hy))
theorem kN.read {x:MK} {d:DI} {S:List (List UInt8)} (h:kN x d S) (hf:x.Fits) (b:Bool) :
 Zc.parse (d.bytes b S)=.ok d.sd∧(d.bytes b S).length≤60100∧∃X:El,El.wf X∧X.2.2=d.bytes b S:=by
 obtain⟨L,h1,h2,h3⟩:=h.sgs hf;have qc:∀y∈L,y.Fits:=fun y hy=>MK.sgs_fits hf y (h1.mem_iff.1 hy)
 have qd:=x.sgs_len;rw[←h1.length_eq]at qd;obtain⟨c1,c2,c3,c4,c5⟩:=x.C_all;obtain⟨k1,k2,k3,k4,k5,k6⟩:=x.K_all;obtain⟨o1,o2,o3⟩:=eQ x.kind hf.kind;have hw:∀y∈L.map LS.el,El.wf y:=fun y hy=>by obtain⟨z,hz,rfl⟩:=List.mem_map.1 hy;exact(z.bounds (qc z hz)).1
 have hd:∀y∈L.map LS.el,Der.thr 11 y.1 y.2.1=0:=fun y hy=>by obtain⟨z,hz,rfl⟩:=List.mem_map.1 hy;exact ed 7 (z.deep (qc z hz))
 have q0:(ax (L.map LS.el)).length≤25600:=by
  rw[lb];have:=mP (f:=fun z:LS=>z.el.2.2) (N:=3200) L fun z hz=>(z.bounds (qc z hz)).2.2.2.2.2.2.1
  omega
 have qs:eo ((L.map LS.el).map (·.2.2)):=h3▸h.sord;have qk:(d.cs.flatMap fun y=>y.d.1)=ax x.K:=by
  rw[k5,←h.cs,List.flatMap_map]
 have qg:=xx (C:=x.C) (K:=x.K) (S:=L.map LS.el) (ss:=L.map LS.sr) o1 o3 c1 c2 ab k2 ab k4 hw (by rw[List.length_map];exact qd.1) (by rw[List.length_map];exact qd.2) qs
  (kY _ fun y hy=>LS.read y (qc y hy))
 have qh:(Zc.outB (Zc.koid x.kind) (ax x.C) (ax x.K) ((L.map LS.el).map (·.2.2))).length≤60000:=by
  have g1:=bG (t:=6) 1000 o3 ab;have g2:=bG (t:=160) 2006 c5 ab;have g3:(Zc.whatB (Zc.koid x.kind) (ax x.C)).flatten.length≤4000:=by
   unfold Zc.whatB;unfold El.mk at g1 g2;dsimp only at g1 g2
   split<;>simp<;>omega
  have g4:=bG (t:=48) 4000 g3 ab;have g5:=bG (t:=160) 14100 k6 ab;have g6:=bG (t:=49) 25600 q0 ab;have g7:(Zc.certsB (ax x.K)).length≤14106:=by
   unfold Zc.certsB;unfold El.mk at g5;dsimp only at g5
   split<;>omega
  have e1:Zc.oneB.length=3:=by decide
  have e2:(Der.write 49 Zc.shaAlg).length=17:=ac
  have e3:((L.map LS.el).map (·.2.2)).flatten=ax (L.map LS.el):=rfl;unfold El.mk at g4 g6;dsimp only at g4 g6;unfold Zc.outB Ref.seq;rw[e3];generalize Der.write 49 (ax (L.map LS.el))=X6 at g6;generalize Zc.certsB (ax x.K)=X7 at g7;generalize Der.write 48 (Zc.whatB (Zc.koid x.kind) (ax x.C)).flatten=X4 at g4;generalize Der.write 49 Zc.shaAlg=X2 at e2;have g8:([Zc.oneB,X2,X4,X7,X6]:List (List UInt8)).flatten.length≤50000:=ai
  have g9:=bG (t:=48) 50000 g8 ab;unfold El.mk at g9;dsimp only at g9;omega
 have hp:=uQ b c1 c2 k2 (xz o3 c2 c3 ab k2 k3 hw hd) qh qg;have hb:d.bytes b S=Zc.wrapB b (Zc.outB (Zc.koid x.kind) (ax x.C) (ax x.K) ((L.map LS.el).map (·.2.2))):=by
  unfold DI.bytes;rw[h.kind,h.content,qk,h3,c4]
 have qv:d.sd=⟨Zc.koid x.kind,ax x.C,x.rungs,L.map LS.sr⟩:=by
  unfold DI.sd;rw[h.kind,h.content,h.cs,c4,h2]
 rw[hb,qv];exact hp
def gb (w:World) (lo hi:Nat) (v:Value) (l:List SI):Prop:=bA 54 6 SI.cells SI.rows w lo hi v l
def iV (w:World) (lo hi:Nat) (v:Value) (l:List KI):Prop:=bA 72 24 KI.cells KI.rows w lo hi v l
set_option maxHeartbeats 4000000 in
theorem qH (A:Option Addr) (n c:Nat) (l:List SI) (w:World) (h:AP w A n c l) (hn:n≤1) :
 Calls Tryz.prog 59 #[.slice A n c] w fun e w'=>∃v,e=.returned v∧gb w' w.heap.size w'.heap.size v l∧Below w.heap.size w w':=by
 have H:=hd1 h;have hl:=h.len;clear h
 go_enter Tryz.func59,Tryz.ntmps59
 go_wp2_with fail
 go_loopw [3,4] (fun ov iv wr=>∃i:Nat,i≤n∧iv=.int .i64 (i:Int)∧gb wr w.heap.size wr.heap.size ov (l.take i)∧Below w.heap.size w wr) (fun _ iv _=>n - (intOf iv).toNat)
 case atStart=>exact⟨0,Nat.zero_le _,rfl,by rw[List.take_zero];exact bA.nil_,Below.refl _ _⟩
 case round=>
  obtain⟨i,hi,rfl,ho,hb⟩:=hrel;obtain⟨Av,cv,e,_⟩:=ho.rd;have qd:(l.take i).length=i:=by rw[List.length_take];omega
  rw[qd]at e;subst e;clear qd;have q6:=hb.size
  by_cases hlt:i<n
  ·obtain rfl:i=0:=ab
   obtain rfl:n=1:=ab
   obtain⟨b,o,x,rfl,hbl,hx,hcx,hrx⟩:=(H.out.up hb).at_ fP hlt;have qv:l=[x]:=by
    match l,hl with
    | [y],_=>simp at hx;rw[hx]
   obtain⟨a0,m0,d0,a1,m1,d1,a2,m2,d2,a3,m3,d3,a4,m4,d4,a5,m5,d5,hvx⟩:=iQ hrx;have cx:∀j v,(SI.cells x)[j]? = some v→wr.cell? ⟨b,o+0*6+j,none⟩=some v:=hcx;have qh:SI.cells x=[.slice a0 m0 d0,.slice a1 m1 d1,.slice a2 m2 d2,.slice a3 m3 d3,.slice a4 m4 d4,.slice a5 m5 d5]:=by unfold SI.cells SV.cells;rw[hvx]
   rw[qh]at cx;simp only[Nat.zero_mul,Nat.add_zero]at cx;have q0:=cx 0 _ rfl;have q1:=cx 1 _ rfl;have q2:=cx 2 _ rfl;have q3:=cx 3 _ rfl;have q4:=cx 4 _ rfl;have q5:=cx 5 _ rfl;rw[Nat.add_zero]at q0;have qs:=eO wr 54 [.slice a0 m0 d0,.slice a1 m1 d1,.slice a2 m2 d2,.slice a3 m3 d3,.slice a4 m4 d4,.slice a5 m5 d5];rw[List.take_zero]at ho;have HX:=hd6 hrx qh hb ho qs qv;clear hcx cx hrx qh hb ho qs qv hvx hx;have qk:((0:Nat):Int)<((1:Nat):Int):=ab
   go_upto_region 6 with(first
    | (at_builtin
       refine bn rfl (.tmp 13) (.tmp 18) 26 rfl 54 _ 6 144 fY Tryz.underlying26 rfl ab w.heap.size wr.heap.size _ 0 [] rfl (aI.alloc HX.2.2.2.1.1 nl_ _) ai _ _ 1 1 [.slice a0 m0 d0,.slice a1 m1 d1,.slice a2 m2 d2,.slice a3 m3 d3,.slice a4 m4 d4,.slice a5 m5 d5] rfl HX.2.2.2.2.1 (by simp[Value.oneCell']) ab ab ?_;intro v' w2 ho2 hg2 hat2 hb2)
    | fail)
   have qg:gb w2 w.heap.size w2.heap.size v' [x]:=bA.snoc (x:=x) (l:=[]) (HX.2.2.2.1.up (aB wr _)) (fun p hp=>(HX.1 p hp).alloc _) (by rw[HX.2.1];exact ho2) hg2 aj;have qc:Below w.heap.size w w2:=(HX.2.2.1.alloc HX.2.2.1.size _).trans hb2;obtain⟨A2,c2,rfl,_⟩:=qg.rd;have H2:=hd2 qg qc;clear ho2 hg2 hat2 hb2 qg qc q0 q1 q2 q3 q4 q5
   go_wp2_with fail
   go_loopw [5] (fun kv wr=>kv=.int .i64 0∧∃q,wr=w2.drewN q) (fun _ _=>0)
   case atStart=>exact⟨rfl,0,rfl⟩
   case round=>
    obtain⟨rfl,q,rfl⟩:=hrel
    go_upto_region 7 with fail
    go_quiet (fail)
    go_wp2_with fail
    go_roundw
    case rel=>exact⟨1,ab,by go_num,by rw[List.take_of_length_le ab,HX.2.2.2.2.2];exact H2.1.up (ar br_ _),ar H2.2 _⟩
    case measure=>first|(simp[intOf];done)|(simp[intOf];omega)
  ·obtain rfl:i=n:=ab
   have qk:¬((i:Int)<(i:Int)):=ab
   rw[List.take_of_length_le ab]at ho;have HB:=hd2 ho hb;clear ho hb
   go_wp2_with fail
   go_ret
   exact⟨_,rfl,HB.1,HB.2⟩
def eJ:Nat→Code→Code
 | 0,c=>c
 | n+1,.seq _ c=>eJ n c
 | _+1,c=>c
def iJ (f:Func):Code:=f.body.getD .skip
theorem eB {w w':World} {v:Value} {xs:List UInt8} {g:Nat} {t:TypeId} {cs:Array Value} (h:aE w v xs) (hg:w.grownBy w' (some g)) (hb:aw w g t cs) (ht:t≠5):aE w' v xs:=
 h.keep hg.size fun q cs' fr hq=>hg.block q (Array.getElem?_eq_some_iff.1 hq).1 fun e=>by
  injection e with e
  subst e;rw[show w.heap[q]? = some (Obj.cells cs t (0,0)) from hb]at hq;injection hq with hq
  injection hq with _ hq
  exact absurd hq ht
theorem bA.grow {β:Type} {e:TypeId} {size:Nat} {cells:β→List Value} {rows:β→List (Value×List UInt8)} {w w':World} {lo g:Nat} {v:Value} {l:List β} {t:TypeId} {cs:Array Value}
 (h:bA e size cells rows w lo w.heap.size v l) (hg:w.grownBy w' (some g)) (hgl:g<lo) (hb:aw w g t cs) (ht:t≠5):bA e size cells rows w' lo w'.heap.size v l:=
 ⟨aI.mono (aI.keep h.1 fun k h1 h2=>hg.block k h2 fun e=>by injection e with e;omega) nl_ hg.size,fun p hp=>eB (h.2 p hp) hg hb ht⟩
theorem jT {w:World} {g:Nat} {t:TypeId} {l:List Value} (h:aw w g t l.toArray):aF w w.heap.size l.length (some ⟨g,0,none⟩) 1 l:=
 ⟨ag,fun _=>⟨_,rfl,h.lt,fun j v hv=>by rw[Addr.add_lit,Nat.zero_add,h.cell];simpa using hv⟩⟩
theorem gJ.si {x:LS} {w:World} {e:Ending} {w':World} (h:gJ x w e w'):Below w.heap.size w w'∧∃z:SI,e=.returned (.agg z.v.cells)∧z.s=x.sr∧∀p∈z.rows,aE w' p.1 p.2:=by
 obtain⟨hb,v0,v1,v2,v3,v4,v5,rfl,r0,r1,r5,hr⟩:=h;refine⟨hb,⟨⟨v0,v1,v2,v3,v4,v5⟩,x.sr⟩,rfl,rfl,fun p hp=>?_⟩;have nil:aE w' (.slice none 0 0) []:=⟨none,0,0,rfl,Rd.none_,fun ad e=>(by cases e)⟩
 have qc:aE w' v2 x.att∧aE w' v3 (if x.attrs then Zc.koid x.kind else [])∧aE w' v4 (if x.attrs then x.digB else []):=by
  by_cases ha:x.attrs=true
  ·rw[if_pos ha]at hr ⊢
   obtain⟨r3,r4,S,hS1,hS2,r2⟩:=hr;rw[sB x hS1 hS2 ha]at r2;rw[if_pos ha];exact⟨r2,r3,r4⟩
  ·rw[if_neg ha]at hr ⊢
   obtain⟨rfl,rfl,rfl⟩:=hr;rw[if_neg ha];unfold LS.att;rw[if_neg ha];exact⟨nil,nil,nil⟩
 simp only[SI.rows,SV.rows,LS.sr,List.mem_cons,List.not_mem_nil,or_false]at hp;rcases hp with rfl|rfl|rfl|rfl|rfl|rfl
 ·exact r0
 ·exact r1
 ·exact qc.1
 ·exact qc.2.1
 ·exact qc.2.2
 ·exact r5
theorem LS.sr_small (x:LS):x.sr.iss.length≤10000∧x.sr.ser.length≤10000∧x.sr.att.length≤10000∧x.sr.sig.length≤10000:=by
 have h1:(x.iss.take 100).length≤100:=by rw[List.length_take];omega
 have h2:=bG (t:=12) 100 h1 ab;have h3:(ax [El.mk 12 (x.iss.take 100)]).length≤106:=by rw[aX];exact h2
 have h4:=bG (t:=48) 106 h3 ab;have h5:(E.nm (x.iss.take 100)).2.2.length≤112:=h4;have h6:=bW (1::x.serial.take 20);rw[List.length_cons,List.length_take]at h6;have h7:x.sigB.length≤600:=by unfold LS.sigB;rw[List.length_take];omega
 have h8:x.att.length≤2106:=by
  unfold LS.att
  split
  ·have h9:=lj (k:=Zc.koid x.kind) (d:=x.digB) (k8 _ rfl) (by rw[x.digB_len];omega)
   exact bG (t:=49) 2100 h9 ab
  ·simp
 refine⟨?_,?_,?_,?_⟩
 ·show(Zc.lname (x.iss.take 100)).length≤10000
  rw[←lZ];omega
 ·show x.serB.length≤10000
  unfold LS.serB;omega
 ·exact Nat.le_trans h8 ab
 ·exact Nat.le_trans h7 ab
def dY (x:MK) (w:World) (e:Ending) (w':World):Prop:=
 ∃(d:DI) (S:List (List UInt8)) (v:Value),e=.returned (.tuple #[d.val,v])∧ku w' d∧Below w.heap.size w w'∧kN x d S∧az w' w.heap.size w'.heap.size v (d.bytes (!x.bare) S)
def jA (N:Nat):Prop:=∀(A:Option Addr) (n c:Nat) (l:List SI) (w:World),AP w A n c l→n≤N→
 Calls Tryz.prog 59 #[.slice A n c] w fun e w'=>∃v l',e=.returned v∧gb w' w.heap.size w'.heap.size v l'∧l'.Perm l∧eo (l'.map SI.one)∧Below w.heap.size w w'
theorem rR:jA 1:=fun A n c l w h hn=>(qH A n c l w h hn).mono fun e w' ⟨v,e1,ho,hb⟩=>⟨v,l,e1,ho,List.Perm.refl _,by
 have:=h.len
 match l with
 | []=>exact List.Pairwise.nil
 | [y]=>exact List.pairwise_singleton _ _
 | _::_::_=>simp at this;omega,hb⟩
theorem mU {e:TypeId} {size n lo hi:Nat} {w w':World} {v u:Value} {cs:List Value} {xs:List UInt8} (hown:aI e size w lo hi v n cs) (hg:w.grownBy w' v.ownBlock) (he:5≠e) (hu:aE w u xs):aE w' u xs:=by
 refine hu.keep hg.size fun q cs fr hq=>hg.block q (Array.getElem?_eq_some_iff.1 hq).1 fun e2=>?_
 rcases hown.1.2 with⟨rfl,_⟩|⟨g2,cap2,cur2,rfl,hb2,hg2,_⟩
 ·simp[Value.ownBlock]at e2
 ·simp only[Value.ownBlock,Option.some.injEq]at e2
  subst e2;rw[hg2]at hq;injection hq with hq
  injection hq with _ ht
  exact he ht.symm
structure gK (x:MK) (w:World) (g B:Nat) (vk vc vs vK vC vCs vS:Value) (L:List KI) (W:World):Prop where
 bel:Below w.heap.size w W
 big:w.heap.size+1<g
 gB:g<B
 BW:B≤W.heap.size
 case_:aw W w.heap.size 43 #[vk,vc,.int .u8 (x.certs:Int),vs,.bool x.bare,.bool x.none]
 res:aw W (w.heap.size+1) 28 #[.slice none 0 0,.slice none 0 0,.slice none 0 0,.slice none 0 0]
 sd:aw W g 28 #[vK,vC,vCs,vS]
 rk:aE W vK (Zc.koid x.kind)
 rc:aE W vC x.cont
 ck:iV W (g+1) B vCs L
theorem gK.grow {x:MK} {w W W':World} {g B:Nat} {vk vc vs vK vC vCs vS vS':Value} {L:List KI} (h:gK x w g B vk vc vs vK vC vCs vS L W) (hg:W.grownBy W' (some g)) (hb:aw W' g 28 #[vK,vC,vCs,vS']) :
 gK x w g B vk vc vs vK vC vCs vS' L W':=
 ⟨h.bel.grown hg h.bel.size (fun j hj=>by cases hj;have:=h.big;omega),h.big,h.gB,Nat.le_trans h.BW hg.size,h.case_.grown hg (fun e=>by injection e with e;have:=h.big;omega),h.res.grown hg (fun e=>by injection e with e;have:=h.big;omega),hb,
   eB h.rk hg h.sd aj,eB h.rc hg h.sd aj,
   ⟨aI.keep h.ck.1 fun k h1 h2=>hg.block k (Nat.lt_of_lt_of_le h2 h.BW) fun e=>by injection e with e;omega,fun p hp=>eB (h.ck.2 p hp) hg h.sd aj⟩⟩
theorem gK.up {x:MK} {w W W':World} {g B:Nat} {vk vc vs vK vC vCs vS:Value} {L:List KI} (h:gK x w g B vk vc vs vK vC vCs vS L W) (hb:Below W.heap.size W W'):gK x w g B vk vc vs vK vC vCs vS L W':=
 ⟨h.bel.trans (hb.mono h.bel.size),h.big,h.gB,Nat.le_trans h.BW hb.size,h.case_.below hb h.case_.lt,h.res.below hb h.res.lt,h.sd.below hb h.sd.lt,h.rk.below hb,h.rc.below hb,
   ⟨aI.below h.ck.1 hb h.BW,fun p hp=>(h.ck.2 p hp).below hb⟩⟩
theorem gK.own {x:MK} {w W W':World} {g B:Nat} {vk vc vs vK vC vCs vS:Value} {L:List KI} {e:TypeId} {size n hi:Nat} {v:Value} {cs:List Value} (h:gK x w g B vk vc vs vK vC vCs vS L W) (hown:aI e size W B hi v n cs) (hg:W.grownBy W' v.ownBlock) (hb:Below B W W') (he:5≠e) :
 gK x w g B vk vc vs vK vC vCs vS L W':=
 ⟨h.bel.trans (hb.mono (by have:=h.big;have:=h.gB;omega)),h.big,h.gB,Nat.le_trans h.BW hg.size,h.case_.below hb (by have:=h.big;have:=h.gB;omega),h.res.below hb (by have:=h.big;have:=h.gB;omega),h.sd.below hb h.gB,mU hown hg he h.rk,mU hown hg he h.rc,
   ⟨aI.below h.ck.1 hb nl_,fun p hp=>mU hown hg he (h.ck.2 p hp)⟩⟩
theorem gK.ckr {x:MK} {w W:World} {g B:Nat} {vk vc vs vK vC vCs vS:Value} {L:List KI} (h:gK x w g B vk vc vs vK vC vCs vS L W):iV W (g+1) W.heap.size vCs L:=bA.mono h.ck nl_ h.BW
noncomputable def wh:Code:=eJ 8 (iJ Tryz.f25)
def o5 (B p:Nat) (x:MK) (D:DI) (k:Nat) (v:Value) (w:World):Prop:=
 match k with
 | 0|1=>v=D.val
 | 2=>v=.pointer (some ⟨p,4,none⟩)
 | 3=>v=.bool x.bare
 | 4=>v=.bool (!x.bare)
 | _=>∃(S:List (List UInt8)) (A:Option Addr) (n c:Nat),v=.slice A n c∧S.Perm (D.ss.map SI.one)∧eo S∧az w B w.heap.size v (D.bytes (!x.bare) S)
theorem o5.up {B p:Nat} {x:MK} {D:DI} (k:Nat) (v:Value) (w w':World) (hR:Below w.heap.size w w') (h:o5 B p x D k v w):o5 B p x D k v w':=by
 match k,h with
 | 0,h|1,h|2,h|3,h|4,h=>exact h
 | _+5,⟨S,A,n,c,h1,h2,h3,h4⟩=>exact⟨S,A,n,c,h1,h2,h3,(h4.below hR nl_).mono nl_ hR.size⟩
theorem tB {w:World} {ad:Addr} {v:Value} (h:w.cell? ad=some v):(loadVar 4 ad).run Tryz.prog w=.ok v w:=by simp[go_sem,h]
set_option maxHeartbeats 8000000 in
theorem lV (N:Nat) (hN:jA N) (x:MK) (Ak Ac As:Option Addr) (nk ck nc cc ns cs:Nat) (w W:World) (g B:Nat) (vK vC vCs vS:Value) (L:List KI) (l:List SI)
 (h:gK x w g B (.slice Ak nk ck) (.slice Ac nc cc) (.slice As ns cs) vK vC vCs vS L W) (hL:L.map KI.d=x.rungs) (hok:∀y∈L,y.ok) (hsg:gb W B W.heap.size vS l) (hn:l.length≤N) (hp:(l.map SI.s).Perm (x.sgs.map LS.sr)) (u0 u3 u5 u6 u7 u8 u9 u10 u11 u12 u13 u14 u15 u16 u17 u18 u19 u20 u21 u22 u23 u24 u25 u26 u27 u28 u29 u30 u31 u32 u33 u34 u35 u36 u37 u38 u39 u40 u41 u42 u43 u44 u45 u46 u47 u48 u49 u50 u51 u52 u53 u54 u55 u56 u57 u58 u59 u60 u61 u62 u63 u64 u65 u66 u67 u68 u69 u70 u71 u72 u73 u74 u75 u76 u77 u78 u79 u80 u81:Value) :
 wh.wp Tryz.prog (bodyPost Tryz.prog Tryz.f25 (dY x w)) {tmps:=(u0::Value.pointer (some ⟨w.heap.size,0,none⟩)::Value.pointer (some ⟨w.heap.size+1,0,none⟩)::u3::Value.pointer (some ⟨g,0,none⟩)::u5::u6::u7::u8::u9::u10::u11::u12::u13::u14::u15::u16::u17::u18::u19::u20::u21::u22::u23::u24::u25::u26::u27::u28::u29::u30::u31::u32::u33::u34::u35::u36::u37::u38::u39::u40::u41::u42::u43::u44::u45::u46::u47::u48::u49::u50::u51::u52::u53::u54::u55::u56::u57::u58::u59::u60::u61::u62::u63::u64::u65::u66::u67::u68::u69::u70::u71::u72::u73::u74::u75::u76::u77::u78::u79::u80::u81::[]).toArray,defers:=[]} W:=by
 obtain⟨AK,nK,cK,rfl,_⟩:=id h.rk;obtain⟨AC,nC,cC,rfl,_⟩:=id h.rc;obtain⟨AL,cL,rfl,_⟩:=id (bA.rd h.ckr);obtain⟨AS,cS,rfl,hR⟩:=id (bA.rd hsg);obtain⟨x0,x1⟩:=h.sd.facts;have j6:=h.sd.lt;generalize hQ:bodyPost Tryz.prog Tryz.f25 (dY x w)=Q;unfold wh iJ;simp only[Tryz.f25,eJ,Option.getD_some];have H:=hd7 h hR hn hp hL hok hQ;clear h hR hn hp hQ hL hok hsg
 go_wp2_with fail
 refine(hN AS l.length cS l W H.2.1 H.2.2.1).mono ?_;rintro e w2 ⟨v2,l2,rfl,ho2,hp2,hor2,hb2⟩;obtain⟨A2,c2,rfl,_⟩:=id (bA.rd ho2);have yd:=hb2.size;have hM:=H.1.up hb2;obtain⟨y0,y1⟩:=hM.sd.facts;have j4:=hM.sd.lt;obtain⟨w3,qs⟩:∃V,V=w2.setCell ⟨g,3,none⟩ (.slice A2 l2.length c2):=⟨_,rfl⟩
 have q2:aw w3 g 28 #[.slice AK nK cK,.slice AC nC cC,.slice AL L.length cL,.slice A2 l2.length c2]:=by
  rw[qs];have:=hM.sd.set_ 3 (.slice A2 l2.length c2)
  simpa using this
 have qh:w2.grownBy w3 (some g):=by
  rw[qs];exact⟨rfl,rfl,rfl,ag,fun k hk hne=>Below.heap_setCell _ _ _ k (fun e=>hne (by rw[e]))⟩
 have q5:=hM.grow qh q2;have q6:gb w3 B w3.heap.size (.slice A2 l2.length c2) l2:=bA.grow (bA.mono ho2 H.1.BW nl_) qh hM.gB hM.sd aj;have HM:=hd7 q5 (hp2.map SI.s |>.trans H.2.2.2.1) hor2 H.2.2.2.2.2.2 q6 H.2.2.2.2.1 H.2.2.2.2.2.1;clear hM q2 qh q6 q5 ho2 hp2 hor2 hb2 x0 x1 H
 go_upto_region 17 with fail
 rw[←qs];clear qs;have j3:L.length≤3:=by
  have:=congrArg List.length HM.2.2.2.2.2.1;unfold MK.rungs MK.names at this;simp only[List.length_map,List.length_range]at this;omega
 have j7:l2.length≤8:=by
  have:=HM.2.1.length_eq;rw[List.length_map,List.length_map]at this;have:=x.sgs_len;omega
 have hD:∀V,Below w3.heap.size w3 V→ku V ⟨.slice AK nK cK,Zc.koid x.kind,.slice AC nC cC,x.cont,.slice AL L.length cL,L,.slice A2 l2.length c2,l2⟩:=fun V hV=>by
  have hm:=HM.1.up hV;have ho:=bA.up HM.2.2.2.2.1 hV;refine⟨fun p hp=>?_,bA.rd hm.ckr,bA.rd ho,HM.2.2.2.2.2.2⟩;simp only[DI.rows,List.mem_append,List.mem_singleton]at hp;rcases hp with rfl|rfl|hp|hp
  ·exact hm.rk
  ·exact hm.rc
  ·exact hm.ck.2 p hp
  ·exact ho.2 p hp
 have j1:DI.small ⟨.slice AK nK cK,Zc.koid x.kind,.slice AC nC cC,x.cont,.slice AL L.length cL,L,.slice A2 l2.length c2,l2⟩:=by
  refine⟨k8 _ rfl,?_,by show L.length≤20;omega,fun y hy=>?_,by show l2.length≤20;omega,fun y hy=>?_⟩
  ·have:=x.C_all.2.2.2
   rw[←this.1];have:=this.2;show(ax x.C).length≤3000;omega
  ·have h1:y.d∈x.rungs:=by rw[←HM.2.2.2.2.2.1];exact List.mem_map_of_mem hy
   unfold MK.rungs at h1;obtain⟨i,_,e⟩:=List.mem_map.1 h1;rw[←e];exact Nat.le_trans (im _) ab
  ·have h1:y.s∈x.sgs.map LS.sr:=HM.2.1.mem_iff.1 (List.mem_map_of_mem hy)
   obtain⟨z,_,e⟩:=List.mem_map.1 h1;rw[←e];exact z.sr_small
 have HD:=hd2 hD j1;clear hD j1;obtain⟨D,hDe⟩:∃D:DI,D=⟨.slice AK nK cK,Zc.koid x.kind,.slice AC nC cC,x.cont,.slice AL L.length cL,L,.slice A2 l2.length c2,l2⟩:=⟨_,rfl⟩
 have q4:D.val=.agg #[.slice AK nK cK,.slice AC nC cC,.slice AL L.length cL,.slice A2 l2.length c2]:=by rw[hDe];rfl
 have HV:=hd2 hDe q4;clear hDe q4;refine fQ 6 (o5 w3.heap.size w.heap.size x D) (fun V=>Below w3.heap.size w3 V) (fun V V'=>Below V.heap.size V V') rfl (fun _=>Below.refl _ _) o5.up (fun _ _ h h'=>h.trans (h'.mono h.size)) (by show bp _ 82=true;decide +kernel) ac aj ac br_.drew ⟨?_,?_,?_,?_,?_,?_,trivial⟩ ?_
 ·refine aA.run rfl ?_;intro a' V hfr hG hdep
  have d:a'.eval (.tmp 4)=.pointer (some ⟨g,0,none⟩):=hfr 4 ac;have hm:=HM.1.up hG;exact dq ag rfl d (cV (x:=⟨.slice AK nK cK,Zc.koid x.kind,.slice AC nC cC,x.cont,.slice AL L.length cL,L,.slice A2 l2.length c2,l2⟩) hm.sd) (by rw[HV.1];rfl) br_
 ·refine aA.run rfl ?_;intro a' V hfr hG hdep
  have d:a'.eval (.tmp 4)=.pointer (some ⟨g,0,none⟩):=hfr 4 ac;have hm:=HM.1.up hG;exact dq ag rfl d (cV (x:=⟨.slice AK nK cK,Zc.koid x.kind,.slice AC nC cC,x.cont,.slice AL L.length cL,L,.slice A2 l2.length c2,l2⟩) hm.sd) (by rw[HV.1];rfl) br_
 ·refine aA.run rfl ?_;intro a' V hfr hG hdep
  have d:a'.eval (.tmp 1)=.pointer (some ⟨w.heap.size,0,none⟩):=hfr 1 ac;exact bU (v:=.pointer (some ⟨w.heap.size,4,none⟩)) ag (by simp only[execOp,d];simp[go_sem,Act.eval]) rfl br_
 ·refine aA.run rfl ?_;intro a' V hfr hG hdep
  have d:a'.eval (.tmp 78)=.pointer (some ⟨w.heap.size,4,none⟩):=hdep 2 ac;exact dq ag rfl d (tB ((HM.1.up hG).case_.cell 4)) rfl br_
 ·refine aA.run rfl ?_;intro a' V hfr hG hdep
  have d:a'.eval (.tmp 79)=.bool x.bare:=hdep 3 ac;exact bU (v:=.bool (!x.bare)) ag (by simp only[execOp,d];simp[go_sem,Act.eval]) rfl br_
 ·refine aA.run rfl ?_;intro a' V hfr hG hdep
  have d1:a'.eval (.tmp 77)=D.val:=hdep 1 ac;have d2:a'.eval (.tmp 80)=.bool (!x.bare):=hdep 4 ac;refine bV ag rfl Tryz.func60 rfl aj (args:=#[D.val,.bool (!x.bare)]) (by simp only[List.map_toArray,List.map_cons,List.map_nil,d1,d2]) (zW D (!x.bare) V (by rw[HV.1];exact HD.1 V hG) (by rw[HV.1];exact HD.2)) ?_;rintro e w' ⟨S,hS1,hS2,A,n,c,rfl,ho',hb'⟩;exact⟨_,rfl,⟨S,A,n,c,rfl,hS1,hS2,ho'.mono hG.size nl_⟩,hb'⟩
 intro a' V hd hsz' hfr hG hJ;have q1:a'.eval (.tmp 76)=D.val:=hJ 0 aj;obtain⟨S,A5,n5,c5,e81,hS1,hS2,hO5⟩:∃(S:List (List UInt8)) (A:Option Addr) (n c:Nat),a'.eval (.tmp 81)=.slice A n c∧S.Perm (D.ss.map SI.one)∧eo S∧az V w3.heap.size V.heap.size (a'.eval (.tmp 81)) (D.bytes (!x.bare) S):=hJ 5 aj;rw[e81]at hO5;obtain⟨sl,hsl,ha⟩:=eD (by show bp _ 82=true;decide +kernel) hd hsz' hfr;have v0:sl 0=.agg #[.slice AK nK cK,.slice AC nC cC,.slice AL L.length cL,.slice A2 l2.length c2]:=(hsl 0).symm.trans (q1.trans HV.2);have v5:sl 5=.slice A5 n5 c5:=(hsl 5).symm.trans e81;have j0:List.range 8=[0,1,2,3,4,5,6,7]:=rfl;simp only[dT,List.map_cons,List.map_nil,List.size_toArray,List.length_cons,List.length_nil,Nat.reduceAdd,j0,List.zip_cons_cons,List.zip_nil_left,List.foldl_cons,List.foldl_nil,Act.put,List.setIfInBounds_toArray,List.set_cons_zero,List.set_cons_succ,List.getD_cons_zero,List.getD_cons_succ,v0,v5]at ha;subst ha;have hm:=HM.1.up hG;obtain⟨z0,z1⟩:=hm.res.facts;have yh:=hm.res.lt;have HE:=hd5 hG hm hO5 hS1 hS2;clear hd hsz' hfr hG hJ hsl j0 v0 v5 q1 e81 hm hO5 hS1 hS2 y0 y1
 go_wp2_with fail
 have qc:=HE.2.1.res;have j8:=HE.2.1.big;have j5:=HE.2.1.gB;have qs:w.heap.size+1<w3.heap.size:=by have:=HM.1.BW;have:=HM.1.gB;omega
 obtain⟨D',hD'⟩:∃D':DI,D'=⟨.slice AK nK cK,Zc.koid x.kind,.slice AC nC cC,x.cont,.slice AL L.length cL,L,.slice A2 l2.length c2,l2⟩:=⟨_,rfl⟩
 have qk:V.grownBy (bC V (w.heap.size+1) D') (some (w.heap.size+1)):=by
  refine⟨rfl,rfl,rfl,by rw[dZ];exact Nat.le_refl _,fun k hk hne=>?_⟩;have qd:k≠w.heap.size+1:=fun e=>hne (by rw[e])
  unfold bC;rw[Below.heap_setCell _ _ _ k qd,Below.heap_setCell _ _ _ k qd,Below.heap_setCell _ _ _ k qd,Below.heap_setCell _ _ _ k qd]
 have q0:=bA.grow (bA.up HM.2.2.2.2.1 HE.1) qk ab qc aj;have qv:=bA.grow HE.2.1.ckr qk ab qc aj;have hB:=jn (x:=D') qc;have q9:ku (bC V (w.heap.size+1) D') D':=by
  subst hD';refine⟨fun p hp=>?_,bA.rd qv,bA.rd q0,HM.2.2.2.2.2.2⟩;simp only[DI.rows,List.mem_append,List.mem_singleton]at hp;rcases hp with rfl|rfl|hp|hp
  ·exact eB HE.2.1.rk qk qc aj
  ·exact eB HE.2.1.rc qk qc aj
  ·exact qv.2 p hp
  ·exact q0.2 p hp
 have q3:D=D':=HV.1.trans hD'.symm;have qg:kN x D' S:=by
  have h1:=HE.2.2.2.1;rw[q3]at h1;subst hD';exact⟨rfl,rfl,HM.2.2.2.2.2.1,HM.2.1,HM.2.2.1,h1,HE.2.2.2.2⟩
 have q7:az (bC V (w.heap.size+1) D') w.heap.size (bC V (w.heap.size+1) D').heap.size (.slice A5 n5 c5) (D'.bytes (!x.bare) S):=by
  have h1:=HE.2.2.1;rw[q3]at h1;exact(h1.keep fun k h1 h2=>qk.block k h2 fun e=>by injection e with e;omega).mono ab (by rw[dZ];exact Nat.le_refl _)
 have hQ:dY x w (.returned (.tuple #[D'.val,.slice A5 n5 c5])) (bC V (w.heap.size+1) D'):=
  ⟨D',S,_,rfl,q9,gX HE.2.1.bel ab,qg,q7⟩
 rw[←HM.2.2.2.1];have j2:D'.vk=.slice AK nK cK∧D'.vc=.slice AC nC cC∧D'.vcs=.slice AL L.length cL∧D'.vss=.slice A2 l2.length c2:=by rw[hD'];exact⟨rfl,rfl,rfl,rfl⟩
 obtain⟨v1,v2,v3,v4⟩:=j2;clear q9 qg q7 q0 qv qk qc;have hW:((((V.setCell ⟨w.heap.size+1,0,none⟩ (.slice AK nK cK)).setCell ⟨w.heap.size+1,1,none⟩ (.slice AC nC cC)).setCell ⟨w.heap.size+1,2,none⟩ (.slice AL L.length cL)).setCell ⟨w.heap.size+1,3,none⟩ (.slice A2 l2.length c2))=bC V (w.heap.size+1) D':=by unfold bC;rw[v1,v2,v3,v4]
 rw[hW];generalize bC V (w.heap.size+1) D'=WZ at hB hQ ⊢;exact bodyPost_ret (dF Tryz.results25 _ _ _ ⟨w.heap.size+1,0,none⟩ _ _ rfl (cV hB) rfl) rfl hQ
noncomputable def wg:Code:=eJ 7 (iJ Tryz.f25)
theorem zo (w:World):mF w LS.dflt (.slice none 0 0) (.slice none 0 0) (.slice none 0 0) (.slice none 0 0):=
 ⟨⟨none,0,0,rfl,⟨⟨rfl,Nat.le_refl _,ab,fun _=>rfl,fun h=>absurd h ab,aF.none_⟩,fun z hz=>by cases hz⟩,ab⟩,⟨none,0,0,rfl,Rd.none_⟩,⟨none,0,0,rfl,Rd.none_⟩,⟨none,0,0,rfl,Rd.none_⟩⟩
set_option maxHeartbeats 8000000 in
theorem lU (N:Nat) (hN:jA N) (x:MK) (Ak Ac As:Option Addr) (nk ck nc cc ns cs:Nat) (w W:World) (g B:Nat) (vK vC vCs vS:Value) (L:List KI) (l:List SI)
 (h:gK x w g B (.slice Ak nk ck) (.slice Ac nc cc) (.slice As ns cs) vK vC vCs vS L W) (hL:L.map KI.d=x.rungs) (hok:∀y∈L,y.ok) (qh:gb W B W.heap.size vS l) (hl:l.map SI.s=(x.ones.take 8).map fun y=>y.x.sr) (hn:(x.ones.length≤N∨8≤N)∧1≤N) (u0 u3 u5 u6 u7 u8 u9 u10 u11 u12 u13 u14 u15 u16 u17 u18 u19 u20 u21 u22 u23 u24 u25 u26 u27 u28 u29 u30 u31 u32 u33 u34 u35 u36 u37 u38 u39 u40 u41 u42 u43 u44 u45 u46 u47 u48 u49 u50 u51 u52 u53 u54 u55 u56 u57 u58 u59 u60 u61 u62 u63 u64 u65 u66 u67 u68 u69 u70 u71 u72 u73 u74 u75 u76 u77 u78 u79 u80 u81:Value) :
 wg.wp Tryz.prog (bodyPost Tryz.prog Tryz.f25 (dY x w)) {tmps:=(u0::Value.pointer (some ⟨w.heap.size,0,none⟩)::Value.pointer (some ⟨w.heap.size+1,0,none⟩)::u3::Value.pointer (some ⟨g,0,none⟩)::u5::u6::u7::u8::u9::u10::u11::u12::u13::u14::u15::u16::u17::u18::u19::u20::u21::u22::u23::u24::u25::u26::u27::u28::u29::u30::u31::u32::u33::u34::u35::u36::u37::u38::u39::u40::u41::u42::u43::u44::u45::u46::u47::u48::u49::u50::u51::u52::u53::u54::u55::u56::u57::u58::u59::u60::u61::u62::u63::u64::u65::u66::u67::u68::u69::u70::u71::u72::u73::u74::u75::u76::u77::u78::u79::u80::u81::[]).toArray,defers:=[]} W:=by
 obtain⟨AK,nK,cK,rfl,_⟩:=id h.rk;obtain⟨AC,nC,cC,rfl,_⟩:=id h.rc;obtain⟨AL,cL,rfl,_⟩:=id (bA.rd h.ckr);obtain⟨AS,cS,rfl,hR⟩:=id (bA.rd qh);obtain⟨x0,x1⟩:=h.sd.facts;have q9:=h.sd.lt;have q2:l.length=min 8 x.ones.length:=by have:=congrArg List.length hl;simpa using this
 obtain⟨m,hm⟩:∃m,l.length=m:=⟨_,rfl⟩
 generalize hQ:bodyPost Tryz.prog Tryz.f25 (dY x w)=Q;unfold wg iJ;simp only[Tryz.f25,eJ,Option.getD_some];have H:=hd10 h hR hn hl hQ q2 hm hL hok qh;rw[hm]at x0;clear h hR hn hl hQ q2 hm hL hok qh;refine wp_seq_k fun K hK=>?_
 have qs:=hd1 hK;clear hK
 by_cases h0:m=0
 ·subst h0
  go_upto_region 15 with fail
  go_wp2_with fail
  refine(iD LS.dflt (.slice none 0 0) (.slice none 0 0) (.slice none 0 0) (.slice none 0 0) W (zo W) (by show 0≤_;omega)).mono ?_;intro e w2 hp;obtain⟨hb2,z,rfl,hz,hzr⟩:=hp.si;obtain⟨a0,m0,d0,a1,m1,d1,a2,m2,d2,a3,m3,d3,a4,m4,d4,a5,m5,d5,hvx⟩:=iQ hzr;have qg:z.v.cells=#[.slice a0 m0 d0,.slice a1 m1 d1,.slice a2 m2 d2,.slice a3 m3 d3,.slice a4 m4 d4,.slice a5 m5 d5]:=by unfold SV.cells;rw[hvx]
  rw[qg];have j0:=hb2.size;have qd:=H.1.up hb2;have q7:=qd.sd.lt;obtain⟨y0,y1⟩:=qd.sd.facts;obtain⟨w3,hw3⟩:∃V,V=w2.setCell ⟨g,3,none⟩ (.slice (some ⟨w2.heap.size,0,none⟩) 1 1):=⟨_,rfl⟩
  have qc:w2.grownBy w3 (some g):=by
   rw[hw3];exact⟨rfl,rfl,rfl,ag,fun k hk hne=>Below.heap_setCell _ _ _ k (fun e=>hne (by rw[e]))⟩
  have qv:aw w3 g 28 #[.slice AK nK cK,.slice AC nC cC,.slice AL L.length cL,.slice (some ⟨w2.heap.size,0,none⟩) 1 1]:=by
   rw[hw3];have:=qd.sd.set_ 3 (.slice (some ⟨w2.heap.size,0,none⟩) 1 1)
   simpa using this
  have q3:=qd.grow qc qv;have q4:w3.heap.size=w2.heap.size:=by rw[hw3];simp
  obtain⟨w4,hw4⟩:∃V,V=w3.alloc (.cells #[.slice a0 m0 d0,.slice a1 m1 d1,.slice a2 m2 d2,.slice a3 m3 d3,.slice a4 m4 d4,.slice a5 m5 d5] 54):=⟨_,rfl⟩
  have qk:Below w3.heap.size w3 w4:=by rw[hw4];exact aB w3 _
  have q0:aw w4 w2.heap.size 54 #[.slice a0 m0 d0,.slice a1 m1 d1,.slice a2 m2 d2,.slice a3 m3 d3,.slice a4 m4 d4,.slice a5 m5 d5]:=by rw[hw4,←q4];exact aw.new w3 _ _
  have j1:w4.heap.size=w2.heap.size+1:=by rw[hw4];simp[q4]
  have q5:=qd.BW;have q1:gb w4 B w4.heap.size (.slice (some ⟨w2.heap.size,0,none⟩) 1 1) [z]:=by
   refine⟨⟨⟨by simp[SI.cells,qg],.inr ⟨w2.heap.size,1,_,rfl,q5,q0,by simp[SI.cells,qg],by simp[maxLen],by simp[SI.cells,qg],by simp[SI.cells,qg]⟩⟩,fun k hk=>by simp[Value.ownBlock]at hk;omega⟩,fun p hp=>?_⟩;simp only[List.flatMap_cons,List.flatMap_nil,List.append_nil]at hp;exact(eB (hzr p hp) qc qd.sd aj).below qk
  have HM:=hd3 (q3.up qk) hz q1;clear hp hzr hvx qg qd q3 qv q0 qc q1 hz hb2 qk x0 x1
  go_wp2_with fail
  rw[←hw3,←hw4];clear hw3 hw4;refine qs.out _ _ ?_;rw[←H.2.2.2.2.1];refine lV N hN x Ak Ac As nk ck nc cc ns cs w w4 g B _ _ _ _ L [z] HM.1 H.2.2.2.2.2.2.2.1 H.2.2.2.2.2.2.2.2.1 HM.2.2 (by have:=H.2.2.1.2;simpa using this) ?_ _ _ _ _ _ _ _ _ _ _ _ _ _ _ _ _ _ _ _ _ _ _ _ _ _ _ _ _ _ _ _ _ _ _ _ _ _ _ _ _ _ _ _ _ _ _ _ _ _ _ _ _ _ _ _ _ _ _ _ _ _ _ _ _ _ _ _ _ _ _ _ _ _ _ _ _ _ _ _;have h1:x.ones.length=0:=by have:=H.2.2.2.2.2.1;have:=H.2.2.2.2.2.2.1;omega
  unfold MK.sgs;rw[if_pos h1,List.map_cons,List.map_nil,HM.2.1];exact List.Perm.refl _
 ·have q6:¬((m:Int)=0):=ab
  go_wp2_with fail
  refine qs.out _ _ ?_;rw[←H.2.2.2.2.1];have hM:=H.1;have qh:=H.2.2.2.2.2.2.2.2.2;rw[H.2.2.2.2.2.2.1]at hM qh;refine lV N hN x Ak Ac As nk ck nc cc ns cs w W g B _ _ _ _ L l hM H.2.2.2.2.2.2.2.1 H.2.2.2.2.2.2.2.2.1 qh ?_ ?_ _ _ _ _ _ _ _ _ _ _ _ _ _ _ _ _ _ _ _ _ _ _ _ _ _ _ _ _ _ _ _ _ _ _ _ _ _ _ _ _ _ _ _ _ _ _ _ _ _ _ _ _ _ _ _ _ _ _ _ _ _ _ _ _ _ _ _ _ _ _ _ _ _ _ _ _ _ _ _
  ·have:=H.2.2.1;have:=H.2.2.2.2.2.1;omega
  ·have h1:¬x.ones.length=0:=by have:=H.2.2.2.2.2.1;have:=H.2.2.2.2.2.2.1;omega
   unfold MK.sgs;rw[if_neg h1,H.2.2.2.1,List.map_map];exact List.Perm.refl _
end Go.Proofs.YtmpkpphfoidbeaaGreatDoor
