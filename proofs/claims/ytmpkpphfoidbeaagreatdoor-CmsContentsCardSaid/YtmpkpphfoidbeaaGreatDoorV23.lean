import Derived.BigFrame
import Derived.Test.YtmpkpphfoidbeaaGreatDoorV18
set_option linter.unusedVariables false
set_option linter.unusedSimpArgs false
set_option maxRecDepth 100000
namespace Go.Proofs.YtmpkpphfoidbeaaGreatDoor
open Go.RowKit
theorem pD {w:World} {g:Nat} {B:TypeId} {cs:Array Value} (T:TypeId) (o:Nat) (l:List Value) (d:TypeDesc) (hu:Tryz.prog.underlying T=some d) (hd:d.isRow=true) (hi:(Tryz.prog.info? T).map (·.size)=some l.length) (h:aw w g B cs) (hl:∀j v,l[j]? = some v→cs[o+j]? = some v) :
 (loadVar T ⟨g,o,none⟩).run Tryz.prog w=.ok (.agg l.toArray) w:=
 run_loadVar_mid (P:=Tryz.prog) w g o T l d (fun j v hv=>by rw[h.cell];exact hl j v hv) hu hd hi
theorem setRow_blk {w:World} {g:Nat} {B:TypeId} {cs ds:Array Value} (h:aw w g B cs):aw (w.setRow g ds) g B ds∧w.grownBy (w.setRow g ds) (some g):=by
 refine⟨setRow_heap w g cs ds _ _ h,rfl,rfl,rfl,by simp[World.setRow],fun k hk hne=>?_⟩;unfold World.setRow;simp only[Array.getElem?_modify];rw[if_neg (fun e=>hne (by rw[e]))]
def oV (cs:Array Value) (o:Nat) (l:List Value):Array Value:=(cs.toList.take o++l++cs.toList.drop (o+l.length)).toArray
theorem vR {cs:Array Value} {l:List Value} (h:l.length=cs.size):oV cs 0 l=l.toArray:=by
 unfold oV;rw[List.take_zero,List.nil_append,List.drop_eq_nil_of_le ai,List.append_nil]
theorem wM {w:World} {g:Nat} {B:TypeId} {cs:Array Value} (T:TypeId) (o:Nat) (l:List Value) (hi:(Tryz.prog.info? T).map (·.size)=some l.length) (h:aw w g B cs) (hs:o+l.length≤cs.size) (h1:∀v∈l,v.oneCell'=true) :
 (storeVar T ⟨g,o,none⟩ (.agg l.toArray)).run Tryz.prog w=.ok () (w.setRow g (oV cs o l)):=by
 have h2:=run_storeCells_at (P:=Tryz.prog) g o B l 0 cs w h (by simpa using hs) h1
 cases hq:Tryz.prog.info? T with
 | none=>rw[hq]at hi;cases hi
 | some i=>
  have hz:i.size=l.length:=by rw[hq]at hi;injection hi
  simpa [storeVar,sizeOf,typeInfo,hq,Value.cells,hz,oV]using h2
theorem qy {o':Oper} {a:Act} {w:World} {K:Act→World→Prop} {Q:Exit→Act→World→Prop} (T:TypeId) (x:Operand) (ho:o'.op=.load T x) (ad:Addr) (v:Value) (hx:a.eval x=.pointer (some ad)) (hl:(loadVar T ad).run Tryz.prog w=.ok v w)
 (h:K (a.put o'.dst v) w):o'.wp Tryz.prog a w K Q:=by
 unfold Oper.wp execOp;simp only[ho,hx,Instr.loadAt,Instr.sureAddr,Sem.run_bind,Sem.run_pure,Result.andThen_ok,hl];exact h
theorem oS {o':Oper} {a:Act} {w:World} {K:Act→World→Prop} {Q:Exit→Act→World→Prop} (T:TypeId) (x y:Operand) (ho:o'.op=.store T x y) (ad:Addr) (v:Value) (w':World) (hx:a.eval x=.pointer (some ad)) (hy:a.eval y=v) (hl:(storeVar T ad v).run Tryz.prog w=.ok () w')
 (h:K (a.put o'.dst undef) w'):o'.wp Tryz.prog a w K Q:=by
 unfold Oper.wp execOp;simp only[ho,hx,hy,Instr.storeAt,Instr.sureAddr,Sem.run_bind,Sem.run_pure,Result.andThen_ok,hl];exact h
theorem iu {ops:Array Oper} {rest:List Oper} {op:Oper} {a:Act} {w:World} {Q:Exit→Act→World→Prop} (hgd:op.guard=none) (T:TypeId) (x:Operand) (ho:op.op=.load T x) (ad:Addr) (v:Value) (hx:a.eval x=.pointer (some ad)) (hl:(loadVar T ad).run Tryz.prog w=.ok v w)
 (h:wpList Tryz.prog ops Q rest (a.put op.dst v) w):wpList Tryz.prog ops Q (op::rest) a w:=
 wpList_plain hgd fun K hK=>qy T x ho ad v hx hl (hK _ _ h)
theorem lp {ops:Array Oper} {rest:List Oper} {op:Oper} {a:Act} {w:World} {Q:Exit→Act→World→Prop} (hgd:op.guard=none) (T:TypeId) (x y:Operand) (ho:op.op=.store T x y) (ad:Addr) (v:Value) (w':World) (hx:a.eval x=.pointer (some ad)) (hy:a.eval y=v) (hl:(storeVar T ad v).run Tryz.prog w=.ok () w')
 (h:wpList Tryz.prog ops Q rest (a.put op.dst undef) w'):wpList Tryz.prog ops Q (op::rest) a w:=
 wpList_plain hgd fun K hK=>oS T x y ho ad v w' hx hy hl (hK _ _ h)
theorem nG (T:TypeId) {P:Program} {ops:Array Oper} {rest:List Oper} {d:Option Tmp} {ty:TypeId} {pos:String} {af:Array Edge} {g:Option (Nat×Bool)} {x:Operand} {a:Act} {w:World} {Q:Exit→Act→World→Prop}
 (h:wpList P ops Q ({dst:=d,op:=.load T x,type:=ty,pos:=pos,after:=af,guard:=g}::rest) a w):wpList P ops Q ({dst:=d,op:=.load T x,type:=ty,pos:=pos,after:=af,guard:=g}::rest) a w:=h
theorem sA (T:TypeId) {P:Program} {ops:Array Oper} {rest:List Oper} {d:Option Tmp} {ty:TypeId} {pos:String} {af:Array Edge} {g:Option (Nat×Bool)} {x y:Operand} {a:Act} {w:World} {Q:Exit→Act→World→Prop}
 (h:wpList P ops Q ({dst:=d,op:=.store T x y,type:=ty,pos:=pos,after:=af,guard:=g}::rest) a w):wpList P ops Q ({dst:=d,op:=.store T x y,type:=ty,pos:=pos,after:=af,guard:=g}::rest) a w:=h
theorem pX {fn:Func} {t:Tmp} {ty:TypeId} (h:fn.results=#[.cell t ty]) (tmps:Array Value) (P:Program) (w:World) (ad:Addr) (v:Value)
 (ha:tmps.getD t undef=.pointer (some ad)) (hl:(loadVar ty ad).run P w=.ok v w):(results fn tmps).run P w=.ok v w:=by
 simp only[Array.getD_eq_getD_getElem?]at ha;simp[results,h,ha,hl,asAddr]
def dG (x:Int):Value:=.int .u32 x
theorem fJ (w:World) (r:Option Nat):w.grownBy w r:=World.grownBy.refl _ _
def oW:Value→Nat
 | .slice _ n _=>n
 | _=>0
theorem iB (W:World) (p:Addr) (v:Value):W.grownBy (W.setCell p v) (some p.block):=
 ⟨rfl,rfl,rfl,ag,fun k _ hk=>Below.heap_setCell _ _ _ k (fun e=>hk (by rw[e]))⟩
structure bX (w:World) (B:Nat) (A:Option Addr) (n c:Nat) (l:List Int):Prop where
 len:l.length=n
 cap:n≤c
 capm:c≤9223372036854775807
 spot:0<n→∃b o,A=some ⟨b,o,none⟩∧b<B
 rds:aF w B 1 A n (l.map dG)
section
variable {w w' : World} {B B' n c : Nat} {A : Option Addr} {l : List Int}
theorem bX.keep (h:bX w B A n c l) (hk:∀p:Addr,p.block<B→w'.cell? p=w.cell? p):bX w' B A n c l:=⟨h.len,h.cap,h.capm,h.spot,h.rds.keep hk⟩
theorem bX.below (h:bX w B A n c l) (hb:Below B w w'):bX w' B A n c l:=h.keep fun _ hp=>hb.cell hp
theorem bX.more (h:bX w B A n c l) (hB:B≤B'):bX w B' A n c l:=
 ⟨h.len,h.cap,h.capm,fun hc=>by obtain⟨b,o,e,hb⟩:=h.spot hc;exact⟨b,o,e,ab⟩,h.rds.more hB⟩
theorem bX.up (h:bX w w.heap.size A n c l) (hb:Below w.heap.size w w'):bX w' w'.heap.size A n c l:=(h.below hb).more hb.size
theorem bX.get (h:bX w B A n c l) {k:Nat} (hk:k<n):∃b o x,A=some ⟨b,o,none⟩∧b<B∧l[k]? = some x∧w.cell? ⟨b,o+k,none⟩=some (.int .u32 x):=by
 obtain⟨b,o,rfl,hb⟩:=h.spot ab;obtain⟨ad,e,_,hc⟩:=h.rds.2 ab;injection e with e
 subst e;have hx:l[k]? = some (l[k]'(by have:=h.len;omega)):=List.getElem?_eq_getElem _;have c1:=hc k (dG (l[k]'(by have:=h.len;omega))) (by rw[List.getElem?_map,hx];rfl);rw[Addr.add_lit]at c1;exact⟨b,o,_,rfl,hb,hx,c1⟩
theorem bX.at_ (h:bX w B A n c l) (hn:0<n):∃b o,A=some ⟨b,o,none⟩∧b<B∧∀j x,l[j]? = some x→w.cell? ⟨b,o+j,none⟩=some (.int .u32 x):=by
 obtain⟨b,o,rfl,hb⟩:=h.spot hn;refine⟨b,o,rfl,hb,fun j x hx=>?_⟩;have hj:j<n:=by have:=(List.getElem?_eq_some_iff.1 hx).1;have:=h.len;omega
 obtain⟨b',o',x',e,_,hx',hc⟩:=h.get hj;injection e with e
 injection e with e1 e2
 subst e1 e2;rw[hx]at hx';injection hx' with hx'
 rw[hx'];exact hc
end
theorem js:(Tryz.prog.info? 88).map (fun i=>(i.zero,i.size,i.bytes))=some (some (.int .u32 0),1,4):=by kernel_rfl
theorem qr (l:List Int):∀v∈l.map dG,v.oneCell'=true:=by
 intro v hv;obtain⟨x,_,rfl⟩:=List.mem_map.1 hv
 rfl
def aW (w:World) (lo hi:Nat) (v:Value) (l:List Int):Prop:=aI 88 1 w lo hi v l.length (l.map dG)
section
variable {w w' : World} {lo hi lo' hi' B : Nat} {v : Value} {l : List Int}
theorem aW.nil_:aW w lo hi (.slice none 0 0) []:=aI.nil_
theorem aW.mono (h:aW w lo hi v l) (h1:lo'≤lo) (h2:hi≤hi'):aW w lo' hi' v l:=aI.mono h h1 h2
theorem aW.keep (h:aW w lo hi v l) (hk:∀k,lo≤k→k<hi→w'.heap[k]? = w.heap[k]?):aW w' lo hi v l:=aI.keep h hk
theorem aW.below (h:aW w lo hi v l) (hb:Below B w w') (hB:hi≤B):aW w' lo hi v l:=aI.below h hb hB
theorem aW.rd (h:aW w lo hi v l):∃A c,v=.slice A l.length c∧bX w hi A l.length c l:=by
 obtain⟨A,c,rfl,h1,h2,h3,h4⟩:=aI.shape h;refine⟨A,c,rfl,rfl,h1,h2,fun hn=>?_,h4⟩;obtain⟨g,cap,e,hg,_⟩:=h.1.form hn;injection e with e1 e2 e3
 subst e1;obtain⟨ad,e,hlt,_⟩:=h4.2 hn;injection e with e
 subst e;exact⟨g,0,rfl,hlt⟩
theorem aW.form (h:aW w lo hi v l) (hn:0<l.length):∃g cap,v=.slice (some ⟨g,0,none⟩) l.length cap∧lo≤g∧g<hi:=by
 obtain⟨g,cap,e,hg,_⟩:=h.1.form hn;exact⟨g,cap,e,hg,h.2 g (by rw[e];rfl)⟩
theorem aW.cellAt {g n cap:Nat} (h:aW w lo hi (.slice (some ⟨g,0,none⟩) n cap) l) {j:Nat} {x:Int} (hx:l[j]? = some x):w.cell? ⟨g,j,none⟩=some (.int .u32 x):=by
 have hj:=(List.getElem?_eq_some_iff.1 hx).1;have hc:=h.1.cells (g:=g) rfl j (dG x) (by rw[List.getElem?_map,hx];rfl);rw[Addr.add_lit,Nat.zero_add]at hc;exact hc
end
theorem aW.frozenAt {w:World} {lo hi g n cap:Nat} {l:List Int} (h:aW w lo hi (.slice (some ⟨g,0,none⟩) n cap) l) (hn:l.length=n) (j:Nat):w.frozen? ⟨g,j,none⟩=false:=by
 subst hn;exact h.1.frozenAt j
theorem aW.stored {w:World} {lo hi g n cap:Nat} {l:List Int} (h:aW w lo hi (.slice (some ⟨g,0,none⟩) n cap) l) (hn:l.length=n) (j:Nat) (x:Int):aW (w.setCell ⟨g,j,none⟩ (.int .u32 x)) lo hi (.slice (some ⟨g,0,none⟩) n cap) (l.set j x):=by
 subst hn;have hs:=(h.1.stored j (dG x)).1;rw[←List.map_set]at hs;refine⟨?_,h.2⟩;rw[List.length_set];exact hs
def nl (L:List Nat):List Int:=L.map fun x=>((x:Nat):Int)
theorem bz (L:List Nat):(nl L).length=L.length:=by simp[nl]
theorem gS (L:List Nat) (j x:Nat):(nl L).set j (x:Int)=nl (L.set j x):=by unfold nl;rw[List.map_set]
theorem fL {L:List Nat} {k:Nat} (hk:k<L.length):(nl L)[k]? = some ((L.getD k 0:Nat):Int):=by
 unfold nl;rw[List.getElem?_map,List.getD_eq_getElem?_getD,List.getElem?_eq_getElem hk]
 rfl
theorem bX.getN {w:World} {B n c:Nat} {A:Option Addr} {L:List Nat} (h:bX w B A n c (nl L)) {k:Nat} (hk:k<n):∃b o,A=some ⟨b,o,none⟩∧b<B∧w.cell? ⟨b,o+k,none⟩=some (.int .u32 ((L.getD k 0:Nat):Int)):=by
 obtain⟨b,o,x,e,hb,hx,hc⟩:=h.get hk;have hl:=h.len;rw[bz]at hl;rw[fL ab]at hx;injection hx with hx
 exact⟨b,o,e,hb,by rw[hx];exact hc⟩
theorem BP (n:Nat):(madeCells #[Value.int .u32 0] (n*1)).toList=(List.replicate n (0:Int)).map dG:=by
 have e:madeCells #[Value.int .u32 0] (n*1)=((List.replicate n (0:Int)).map dG).toArray:=by
  unfold madeCells
  apply Array.ext
  ·simp
  ·intro i h1 h2
   have hm:i % #[Value.int .u32 0].size=0:=by simp[Nat.mod_one]
   simp[dG,Nat.mod_one]
 rw[e]
theorem rL (n:Nat):nl (List.replicate n 0)=List.replicate n 0:=by simp[nl]
theorem dP {w:World} {ops:Array Oper} {rest:List Oper} {o:Oper} {a:Act} {Q:Exit→Act→World→Prop} (hgd:o.guard=none) (x y:Operand) (ho:o.op=.makeSlice 140 x y)
 (n:Nat) (hx:a.eval x=.int .i64 (n:Int)) (hy:a.eval y=.int .i64 (n:Int)) (hn:n≤1000000)
 (h:∀w',aW w' w.heap.size w'.heap.size (.slice (some ⟨w.heap.size,0,none⟩) n n) (nl (List.replicate n 0))→w.grownBy w' none→Below w.heap.size w w'→wpList Tryz.prog ops Q rest (a.put o.dst (.slice (some ⟨w.heap.size,0,none⟩) n n)) w') :
 wpList Tryz.prog ops Q (o::rest) a w:=by
 obtain⟨i0,hi0,hz0,hz1,hz2⟩:=info_parts js;refine wpList_make_full w hgd x y 140 ho w.heap.size 88 i0 _ 1 Tryz.underlying140 hi0 hz0 hz1 .i64 .i64 _ _ n hx hy rfl rfl (by rw[hz2];omega) (by simp only[maxLen];omega) nl_ ?_;intro w' h1 h2;refine h w' ?_ h2 (br_.grown h2 nl_ (fun k e=>by cases e));have e:(nl (List.replicate n 0)).map dG=(madeCells #[Value.int .u32 0] (n*1)).toList:=by rw[rL,BP]
 unfold aW;rw[e,bz,List.length_replicate];exact aI.of h1
def iX (l:List Int) (w:World) (e:Ending) (w':World):Prop:=
 ∃A c,e=.returned (.slice A l.length c)∧aW w' w.heap.size w'.heap.size (.slice A l.length c) l∧Below w.heap.size w w'
theorem jo {l:List Int} {w w':World} {v:Value} (h:aW w' w.heap.size w'.heap.size v l) (hb:Below w.heap.size w w'):iX l w (.returned v) w':=by
 obtain⟨A,c,rfl,_⟩:=h.rd;exact⟨A,c,rfl,h,hb⟩
theorem eP {w:World} {ops:Array Oper} {rest:List Oper} {o:Oper} {a:Act} {Q:Exit→Act→World→Prop} (hgd:o.guard=none) (s x:Operand)
 (ho:o.op=.call {callee:=.builtin .append,args:=#[s,x],argTypes:=#[140,140]})
 (lo hi:Nat) (v:Value) (xs:List Int) (hs:a.eval s=v) (hown:aW w lo hi v xs) (hlo:lo≤w.heap.size)
 (B:Nat) (A:Option Addr) (m c:Nat) (news:List Int) (hx:a.eval x=.slice A m c) (hr:aF w B 1 A m (news.map dG)) (hlen:xs.length+m≤1000000)
 (h:∀v' w',aW w' lo w'.heap.size v' (xs++news)→w.grownBy w' v.ownBlock→Below lo w w'→wpList Tryz.prog ops Q rest (a.put o.dst v') w') :
 wpList Tryz.prog ops Q (o::rest) a w:=by
 have hm:news.length=m:=by have:=hr.1;simp at this;omega
 refine bn hgd s x 140 ho 88 (.int .u32 0) 1 4 js Tryz.underlying140 rfl ab lo hi v xs.length (xs.map dG) hs hown hlo B A m c (news.map dG) hx hr (qr news) ab ab ?_;intro v' w' h1 h2 h3 h4;refine h v' w' ?_ h2 h4;unfold aW;rw[List.length_append,List.map_append,hm];exact h1
theorem uh {w:World} {ops:Array Oper} {o:Oper} {a:Act} {K:Act→World→Prop} {Q:Exit→Act→World→Prop} {E:Prop} (hgd:o.guard=none) (s x:Operand)
 (ho:o.op=.call {callee:=.builtin .append,args:=#[s,x],argTypes:=#[140,140]})
 (lo hi:Nat) (v:Value) (xs:List Int) (hs:a.eval s=v) (hown:aW w lo hi v xs) (hlo:lo≤w.heap.size)
 (B:Nat) (A:Option Addr) (m c:Nat) (news:List Int) (hx:a.eval x=.slice A m c) (hr:aF w B 1 A m (news.map dG)) (hlen:xs.length+m≤1000000)
 (h:∀v' w',aW w' lo w'.heap.size v' (xs++news)→w.grownBy w' v.ownBlock→Below lo w w'→K (a.put o.dst v') w') :
 if Region.wanted o (yielded ops a.tmps)=true then Oper.wp Tryz.prog o a w K Q else E:=by
 obtain⟨i0,hi0,hz0,hz1,hz2⟩:=info_parts js;have hm:news.length=m:=by have:=hr.1;simp at this;omega
 refine ir w hgd s x 140 ho lo 88 i0 _ 1 4 Tryz.underlying140 hi0 hz0 hz1 hz2 rfl ab v xs.length (xs.map dG) hs hown.1 B A m c (news.map dG) hx hr (qr news) (by simp only[maxLen];omega) ab hlo ?_;intro v' w' h1 h2 h3;refine h v' w' ?_ h2 (br_.grown h2 hlo fun k hk=>(hown.1.lt k hk).1);unfold aW;rw[List.length_append,List.map_append,hm];exact aI.of h1
theorem wE (w:World) (ty:TypeId) (lo hi g n cap:Nat) (xs:List Int) (hown:aW w lo hi (.slice (some ⟨g,0,none⟩) n cap) xs) (hn:xs.length=n) (hlo:lo≤w.heap.size) (ad:Addr) (c:Nat) (x:Int) (hr:w.cell? ad=some (.int .u32 x)) (hlen:n+1≤1000000) :
 ∃v' w',(Builtin.append_ #[140,140] ty #[.slice (some ⟨g,0,none⟩) n cap,.slice (some ad) 1 c]).run Tryz.prog w=.ok v' w'∧aW w' lo w'.heap.size v' (xs++[x])∧Below lo w w'∧∀j y,xs[j]? = some y→w'.cell? ⟨g,j,none⟩=some (.int .u32 y):=by
 subst hn;obtain⟨i0,hi0,hz0,hz1,hz2⟩:=info_parts js;have hc:∀j u,[dG x][j]? = some u→w.cell? (ad.add j)=some u:=fun j u hj=>by
  rcases j with _|j
  ·simp at hj
   subst hj;rw[show ad.add 0=ad from by unfold Addr.add;split<;>simp_all];exact hr
  ·simp at hj
 have h1:∀u∈[dG x],u.oneCell'=true:=fun u hu=>by rw[List.mem_singleton.1 hu];rfl
 have qg:=hown.1.lt g rfl;have qc:∀j y,xs[j]? = some y→w.cell? ⟨g,j,none⟩=some (.int .u32 y):=fun j y hy=>hown.cellAt hy
 have qd:∀{w':World} {v':Value} {lo':Nat},w'.ownsRow lo' 88 1 v' (xs.length+1) (xs.map dG++[dG x])→aW w' lo' w'.heap.size v' (xs++[x]):=fun {w' v' lo'} h=>by
  unfold aW;rw[List.length_append,List.map_append];exact aI.of h
 by_cases hroom:xs.length+1≤cap
 ·obtain⟨w',hrun,r1,r2⟩:=run_append_fits (P:=Tryz.prog) w lo 140 ty 88 i0 1 Tryz.underlying140 hi0 hz1 g xs.length cap (xs.map dG) hown.1 ad 1 c [dG x] rfl hc h1 hroom
  have ho:=qd r1;refine⟨_,w',hrun,ho,br_.grown r2 hlo (by intro k hk;injection hk with hk;omega),fun j y hy=>?_⟩;exact ho.cellAt (by rw[List.getElem?_append_left (List.getElem?_eq_some_iff.1 hy).1];exact hy)
 ·obtain⟨v',w',hrun,r1,r2⟩:=run_append_arg_grows (P:=Tryz.prog) w 140 ty 88 i0 _ 1 4 Tryz.underlying140 hi0 hz0 hz1 hz2 rfl ab ⟨g,0,none⟩ xs.length cap (xs.map dG) ag (hown.1.cells rfl) ad 1 c [dG x] rfl hc ab (by simp only[maxLen];omega) ab
  refine⟨_,w',hrun,(qd r1).mono hlo nl_,br_.grown r2 hlo (by intro k hk;cases hk),fun j y hy=>?_⟩;rw[←qc j y hy];exact World.cell?_of_block (a:=⟨g,j,none⟩) (r2.block g qg.2 (fun e=>by cases e))
theorem qS {w:World} {ops:Array Oper} {o:Oper} {a:Act} {K:Act→World→Prop} {Q:Exit→Act→World→Prop} {E:Prop} (hgd:o.guard=none) (s x:Operand)
 (ho:o.op=.call {callee:=.builtin .append,args:=#[s,x],argTypes:=#[140,140]})
 (lo hi g n cap:Nat) (xs:List Int) (hs:a.eval s=.slice (some ⟨g,0,none⟩) n cap) (hown:aW w lo hi (.slice (some ⟨g,0,none⟩) n cap) xs) (hn:xs.length=n) (hlo:lo≤w.heap.size)
 (ad:Addr) (c:Nat) (y:Int) (hx:a.eval x=.slice (some ad) 1 c) (hr:w.cell? ad=some (.int .u32 y)) (hlen:n+1≤1000000)
 (h:∀v' w',aW w' lo w'.heap.size v' (xs++[y])→Below lo w w'→(∀j y,xs[j]? = some y→w'.cell? ⟨g,j,none⟩=some (.int .u32 y))→K (a.put o.dst v') w') :
 if Region.wanted o (yielded ops a.tmps)=true then Oper.wp Tryz.prog o a w K Q else E:=by
 have hw:Region.wanted o (yielded ops a.tmps)=true:=by simp[Region.wanted,hgd]
 rw[if_pos hw];obtain⟨v',w',hrun,h2,h3,h4⟩:=wE w o.type lo hi g n cap xs hown hn hlo ad c y hr hlen;unfold Oper.wp execOp;simp only[ho,resolve,invoke,builtin,Sem.run_bind,Sem.run_pure,Result.andThen_ok,List.map_toArray,List.map_cons,List.map_nil,hs,hx,hrun];exact h v' w' h2 h3 h4
theorem nT (a:Nat) (ha:a<4294967296):(BitVec.ofInt 32 (a:Int)).toNat=a:=by
 rw[BitVec.ofInt_natCast,BitVec.toNat_ofNat];exact Nat.mod_eq_of_lt ab
theorem mx (a b:Nat) (ha:a<4294967296) (hb:b<4294967296):bits .or .u32 (a:Int) (b:Int)=((a||| b:Nat):Int):=by
 have hx:a||| b<2 ^ 32:=Nat.or_lt_two_pow ab ab
 show IntKind.u32.wrap ((BitVec.ofInt 32 (a:Int)||| BitVec.ofInt 32 (b:Int)).toNat:Int)=_;rw[BitVec.toNat_or,nT a ha,nT b hb];simp only[IntKind.wrap,IntKind.bits,IntKind.signed];simp;omega
theorem gz (a k b:Nat) (hb:b<2 ^ k) (h:a*2 ^ k+b<4294967296):bits .or .u32 ((a*2 ^ k:Nat):Int) (b:Int)=((a*2 ^ k+b:Nat):Int):=by
 rw[mx _ _ ab ab]
 congr 1
 rw[Nat.mul_comm,←Nat.two_pow_add_eq_or_of_lt hb]
section
set_option maxRecDepth 1000000
theorem yX (a:Nat) (ha:a<18446744073709551616):bits .and .u64 (a:Int) 4294967295=((a % 4294967296:Nat):Int):=by
 have h:=bits_and_u64_nat a 4294967295 ha ab;have e:a&&& 4294967295=a % 4294967296:=Nat.and_two_pow_sub_one_eq_mod a 32;rw[e]at h;exact h
namespace Sha
def rot (x a b:Int):Int:=bits .or .u32 (IntKind.u32.wrap (x*a)) (x / b)
end Sha
namespace Sha
def pstep (l:List Nat) (p:Nat):List Nat:=if l.any (fun q=>p % q==0) then l else l++[p]
def prun:Nat→List Nat
 | 0=>[]
 | k+1=>pstep (prun k) (2+k)
theorem prun_step (k:Nat):(prun k).length≤(prun (k+1)).length∧(prun (k+1)).length≤(prun k).length+1:=by
 rw[prun,pstep]
 split
 ·exact⟨Nat.le_refl _,ab⟩
 ·rw[List.length_append]
  exact⟨ab,ag⟩
theorem prun_mono (k:Nat):∀d,(prun k).length≤(prun (k+d)).length
 | 0=>Nat.le_refl _
 | d+1=>Nat.le_trans (prun_mono k d) (prun_step (k+d)).1
theorem prun_310:(prun 310).length=64:=ac
theorem prun_lt {k:Nat} (h:(prun k).length<64):k<310:=by
 rcases Nat.lt_or_ge k 310 with h1|h1
 ·exact h1
 ·have:=prun_mono 310 (k - 310)
  rw[show 310+(k - 310)=k by omega,prun_310]at this;omega
theorem prun_mem:∀(k:Nat),∀q∈prun k,2≤q∧q<2+k
 | 0,q,h=>by cases h
 | k+1,q,h=>by
  rw[prun,pstep]at h
  split at h
  ·have:=prun_mem k q h;omega
  ·rcases List.mem_append.1 h with h|h
   ·have:=prun_mem k q h;omega
   ·rw[List.mem_singleton]at h;omega
end Sha
namespace Rs
def tIn (a i:Nat) (b:List Nat) (o:List Nat):Nat→List Nat×Nat
 | 0=>(o,0)
 | k+1=>((tIn a i b o k).1.set (i+k) ((a*b.getD k 0+(tIn a i b o k).1.getD (i+k) 0+(tIn a i b o k).2) % 4294967296),(a*b.getD k 0+(tIn a i b o k).1.getD (i+k) 0+(tIn a i b o k).2) / 4294967296)
def tOut (a b:List Nat):Nat→List Nat
 | 0=>List.replicate (a.length+b.length) 0
 | i+1=>(tIn (a.getD i 0) i b (tOut a b i) b.length).1.set (i+b.length) ((tIn (a.getD i 0) i b (tOut a b i) b.length).2 % 4294967296)
def times (a b:List Nat):List Nat:=tOut a b a.length
def aboveN (a b:List Nat):Nat→Bool
 | 0=>false
 | i+1=>if a.getD i 0=b.getD i 0 then aboveN a b i else decide (b.getD i 0<a.getD i 0)
def limbs (x:Nat):List Nat:=[x % 4294967296,x / 4294967296 % 4294967296]
def pow (x:Nat):Nat→List Nat
 | 0=>limbs x
 | k+1=>times (pow x k) (limbs x)
def want (p n:Nat):List Nat:=(List.replicate (2*n) 0).set n p
def isAbove (p n x:Nat):Bool:=aboveN (pow x (n - 1)) (want p n) (2*n)
def rt (P:Nat→Bool):Nat→Nat→Nat→Nat
 | 0,low,_=>low
 | f+1,low,high=>if 1<high - low then(if P ((low+high) / 2) then rt P f low ((low+high) / 2) else rt P f ((low+high) / 2) high) else low
def root (p n:Nat):Nat:=rt (isAbove p n) 38 0 137438953472 % 4294967296
def Lim (l:List Nat):Prop:=∀x∈l,x<4294967296
theorem lim_get {l:List Nat} (h:Lim l) (k:Nat):l.getD k 0<4294967296:=by
 rw[List.getD_eq_getElem?_getD];rcases hk:l[k]? with _|x
 ·simp
 ·exact h x (List.mem_of_getElem? hk)
theorem lim_set {l:List Nat} (h:Lim l) (k x:Nat) (hx:x<4294967296):Lim (l.set k x):=fun y hy=>by
 rcases List.mem_or_eq_of_mem_set hy with h'|rfl
 ·exact h y h'
 ·exact hx
theorem lim_zero (n:Nat):Lim (List.replicate n 0):=fun x hx=>by rw[(List.mem_replicate.1 hx).2];omega
theorem step_lt {a b o c:Nat} (ha:a<4294967296) (hb:b<4294967296) (ho:o<4294967296) (hc:c<4294967296):a*b+o+c<18446744073709551616∧a*b≤18446744065119617025:=by
 have:a*b≤4294967295*4294967295:=Nat.mul_le_mul ab ab;omega
theorem tIn_lim {a i:Nat} {b o:List Nat} (ha:a<4294967296) (hb:Lim b) (ho:Lim o):∀k,Lim (tIn a i b o k).1∧(tIn a i b o k).2<4294967296∧(tIn a i b o k).1.length=o.length
 | 0=>⟨ho,by simp[tIn],rfl⟩
 | k+1=>by
  obtain⟨h1,h2,h3⟩:=tIn_lim (i:=i) ha hb ho k;have:=(step_lt ha (lim_get hb k) (lim_get h1 (i+k)) h2).1;exact⟨lim_set h1 _ _ (Nat.mod_lt _ ab),by simp only[tIn];omega,by simp only[tIn,List.length_set,h3]⟩
theorem tOut_lim {a b:List Nat} (ha:Lim a) (hb:Lim b):∀i,Lim (tOut a b i)∧(tOut a b i).length=a.length+b.length
 | 0=>⟨lim_zero _,by simp[tOut]⟩
 | i+1=>by
  obtain⟨h1,h2⟩:=tOut_lim ha hb i;obtain⟨g1,g2,g3⟩:=tIn_lim (i:=i) (lim_get ha i) hb h1 b.length;exact⟨lim_set g1 _ _ (Nat.mod_lt _ ab),by simp only[tOut,List.length_set,g3,h2]⟩
theorem times_lim {a b:List Nat} (ha:Lim a) (hb:Lim b):Lim (times a b)∧(times a b).length=a.length+b.length:=tOut_lim ha hb _
theorem limbs_lim (x:Nat):Lim (limbs x):=fun y hy=>by
 simp only[limbs,List.mem_cons,List.not_mem_nil,or_false]at hy;rcases hy with rfl|rfl<;>omega
theorem pow_lim (x:Nat):∀k,Lim (pow x k)∧(pow x k).length=2*(k+1)
 | 0=>⟨limbs_lim x,rfl⟩
 | k+1=>by
  obtain⟨h1,h2⟩:=pow_lim x k;obtain⟨h3,h4⟩:=times_lim h1 (limbs_lim x);exact⟨h3,by rw[pow,h4,h2];simp[limbs];omega⟩
theorem want_lim (p n:Nat) (hp:p<4294967296):Lim (want p n)∧(want p n).length=2*n:=⟨lim_set (lim_zero _) _ _ hp,by simp[want]⟩
end Rs
namespace Sha
def P64:List Nat:=prun 310
theorem P64_len:P64.length=64:=prun_310
def ktab:List Int:=P64.map fun p=>((Rs.root p 3:Nat):Int)
def htab:List Int:=(P64.take 8).map fun p=>((Rs.root p 2:Nat):Int)
theorem ktab_len:ktab.length=64:=by unfold ktab;rw[List.length_map,P64_len]
theorem htab_len:htab.length=8:=by unfold htab;rw[List.length_map,List.length_take,P64_len];rfl
end Sha
namespace Sha
def beW (acc:Int) (c:UInt8):Int:=bits .or .u32 (IntKind.u32.wrap (acc*256)) (c.toNat:Int)
def word (l:List UInt8):Int:=l.foldl beW 0
def w16 (bs:List UInt8) (k:Nat):List Int:=(List.range k).map fun i=>word ((bs.drop (4*i)).take 4)
def sg0 (x:Int):Int:=bits .xor .u32 (bits .xor .u32 (rot x 33554432 128) (rot x 16384 262144)) (x / 8)
def sg1 (y:Int):Int:=bits .xor .u32 (bits .xor .u32 (rot y 32768 131072) (rot y 8192 524288)) (y / 1024)
def addw (a b:Int):Int:=IntKind.u32.wrap (a+b)
def nextW (l:List Int):Int:=addw (addw (addw (l.getD (l.length - 16) 0) (sg0 (l.getD (l.length - 15) 0))) (l.getD (l.length - 7) 0)) (sg1 (l.getD (l.length - 2) 0))
def schedN (bs:List UInt8):Nat→List Int
 | 0=>w16 bs 16
 | k+1=>schedN bs k++[nextW (schedN bs k)]
def sched (bs:List UInt8):List Int:=schedN bs 48
theorem w16_len (bs:List UInt8) (k:Nat):(w16 bs k).length=k:=by unfold w16;simp
theorem w16_succ (bs:List UInt8) (k:Nat):w16 bs (k+1)=w16 bs k++[word ((bs.drop (4*k)).take 4)]:=by unfold w16;rw[List.range_succ,List.map_append];rfl
theorem schedN_len (bs:List UInt8):∀k,(schedN bs k).length=16+k
 | 0=>w16_len bs 16
 | k+1=>by rw[schedN,List.length_append,schedN_len bs k];simp;omega
theorem sched_len (bs:List UInt8):(sched bs).length=64:=schedN_len bs 48
end Sha
namespace Sha
def bs1 (e:Int):Int:=bits .xor .u32 (bits .xor .u32 (rot e 67108864 64) (rot e 2097152 2048)) (rot e 128 33554432)
def bs0 (a:Int):Int:=bits .xor .u32 (bits .xor .u32 (rot a 1073741824 4) (rot a 524288 8192)) (rot a 1024 4194304)
def notw (e:Int):Int:=bits .xor .u32 4294967295 e
def chw (e f g:Int):Int:=bits .xor .u32 (bits .and .u32 e f) (bits .and .u32 (notw e) g)
def maj (a b c:Int):Int:=bits .xor .u32 (bits .xor .u32 (bits .and .u32 a b) (bits .and .u32 a c)) (bits .and .u32 b c)
def one (e f g h k w:Int):Int:=addw (addw (addw (addw h (bs1 e)) (chw e f g)) k) w
def two (a b c:Int):Int:=addw (bs0 a) (maj a b c)
def rnd (v:List Int) (k w:Int):List Int:=match v with
 | [a,b,c,d,e,f,g,h]=>[addw (one e f g h k w) (two a b c),a,b,c,addw d (one e f g h k w),e,f,g]
 | v=>v
def rnds (K W v:List Int):Nat→List Int
 | 0=>v
 | t+1=>rnd (rnds K W v t) (K.getD t 0) (W.getD t 0)
def comp (K H:List Int) (bs:List UInt8):List Int:=List.zipWith addw H (rnds K (sched bs) H 64)
theorem rnd_len (v:List Int) (k w:Int) (h:v.length=8):(rnd v k w).length=8:=by
 unfold rnd
 split
 ·rfl
 ·exact h
theorem rnds_len (K W v:List Int) (h:v.length=8):∀t,(rnds K W v t).length=8
 | 0=>h
 | t+1=>rnd_len _ _ _ (rnds_len K W v h t)
theorem comp_len (K H:List Int) (bs:List UInt8) (h:H.length=8):(comp K H bs).length=8:=by unfold comp;rw[List.length_zipWith,h,rnds_len _ _ _ h];rfl
theorem eight (v:List Int) (h:v.length=8):∃a b c d e f g i,v=[a,b,c,d,e,f,g,i]:=by
 match v,h with
 | [a,b,c,d,e,f,g,i],_=>exact⟨a,b,c,d,e,f,g,i,rfl⟩
end Sha
namespace Sha
def absorb (H:List Int):Nat→List UInt8→List Int
 | 0,_=>H
 | k+1,bs=>comp ktab (absorb H k bs) ((bs.drop (64*k)).take 64)
theorem absorb_len (H:List Int) (h:H.length=8):∀k bs,(absorb H k bs).length=8
 | 0,_=>h
 | k+1,bs=>comp_len _ _ _ (absorb_len H h k bs)
def hsN (xs:List UInt8):List Int:=absorb htab (xs.length / 64) xs
end Sha
namespace Sha
def zerosOf (n:Nat):Nat:=(119 - n % 64) % 64
def lenByte (n i:Nat):UInt8:=UInt8.ofNat (8*n / 2 ^ (56 - 8*i))
def padOf (n:Nat):List UInt8:=(128::List.replicate (zerosOf n) 0)++(List.range 8).map (lenByte n)
def outByte (h:List Int) (i:Nat):Int:=IntKind.u8.wrap (h.getD (i / 4) 0 / 2 ^ (24 - 8*(i % 4)))
def sum (xs:List UInt8):List Int:=(List.range 32).map (outByte (hsN (xs++padOf xs.length)))
theorem out_get {f:Nat→Int} {v:Int→Value} {i:Nat} (hi:i<32):(List.map v ((List.range i).map f++List.replicate (32 - i) 0))[i]? = some (v 0):=by
 rw[List.getElem?_map,List.getElem?_append_right ag,List.length_map,List.length_range,Nat.sub_self,List.getElem?_replicate,if_pos ab]
 rfl
theorem out_set {f:Nat→Int} {v:Int→Value} {i:Nat} (hi:i<32):(List.map v ((List.range i).map f++List.replicate (32 - i) 0)).set i (v (f i))=List.map v ((List.range (i+1)).map f++List.replicate (32 - (i+1)) 0):=by
 have hl:(List.map v ((List.range i).map f)).length=i:=ag
 rw[show 32 - i=(32 - (i+1))+1 from by omega,List.replicate_succ,List.map_append,List.map_cons,List.set_append,if_neg ab,hl,Nat.sub_self,List.set_cons_zero,List.range_succ,List.map_append,List.map_append,List.map_append];simp
end Sha
def dV (x:Int):Value:=.int .u8 x
theorem AA (l:List Int):∀v∈l.map dV,v.oneCell'=true:=by
 intro v hv;obtain⟨x,_,rfl⟩:=List.mem_map.1 hv
 rfl
theorem kS:(Tryz.prog.info? 47).map (·.size)=some 32:=rfl
theorem pB {w:World} {g:Nat} {l:List Int} (hl:l.length=32) (h:aw w g 47 (l.map dV).toArray):(loadVar 47 ⟨g,0,none⟩).run Tryz.prog w=.ok (.agg (l.map dV).toArray) w:=
 pD 47 0 (l.map dV) _ Tryz.underlying47 rfl (by rw[kS];simp[hl]) h (fun j v hv=>by rw[Nat.zero_add,List.getElem?_toArray];exact hv)
theorem wL {w:World} {g:Nat} {l l':List Int} (hl:l.length=32) (hl':l'.length=32) (h:aw w g 47 (l.map dV).toArray):(storeVar 47 ⟨g,0,none⟩ (.agg (l'.map dV).toArray)).run Tryz.prog w=.ok () (w.setRow g (l'.map dV).toArray):=by
 have:=wM 47 0 (l'.map dV) (by rw[kS];simp[hl']) h (by simp[hl,hl']) (AA l')
 rwa [vR (by simp[hl,hl'])]at this
end
set_option maxHeartbeats 2000000 in
theorem tN (A A':Option Addr) (m c c' B B':Nat) (a b:List Nat) (w:World) (ha:bX w B A m c (nl a)) (hb:bX w B' A' m c' (nl b)) (hm:m≤1000) (hB:B≤w.heap.size) (hB':B'≤w.heap.size) :
 Calls Tryz.prog 146 #[.slice A m c,.slice A' m c'] w fun e w'=>e=.returned (.bool (Rs.aboveN a b m))∧Below w.heap.size w w':=by
 have qh:IntKind.i64.wrap ((m:Int) - 1)=(m:Int) - 1:=by rw[IntKind.wrap_i64];omega
 have H:=hd2 ha hb;clear ha hb
 go_enter Tryz.func146,Tryz.ntmps146
 go_wp2_with fail
 go_loopw [5] (fun i wr=>∃(j:Nat) (z:Int),j≤m∧z=(j:Int) - 1∧i=.int .i64 z∧Rs.aboveN a b m=Rs.aboveN a b j∧∃k,wr=w.drewN k) (fun i _=>(intOf i+1).toNat)
 case atStart=>exact⟨m,_,Nat.le_refl _,rfl,rfl,rfl,0,rfl⟩
 case round=>
  obtain⟨j,z,hj,hz,rfl,he,k,rfl⟩:=hrel;rcases j with _|j
  ·obtain rfl:z = -1:=ab
   have HE:=hd1 he;clear he hz hj
   go_wp2_with fail
   go_ret
   exact⟨by rw[HE.out];rfl,ar br_ k⟩
  ·obtain rfl:z=(j:Int):=ab
   obtain⟨b1,o1,rfl,_,q1⟩:=H.1.getN (k:=j) ab;obtain⟨b2,o2,rfl,_,q2⟩:=H.2.getN (k:=j) ab;obtain⟨x,hx⟩:∃x,a.getD j 0=x:=⟨_,rfl⟩
   obtain⟨y,hy⟩:∃y,b.getD j 0=y:=⟨_,rfl⟩
   rw[Rs.aboveN,hx,hy]at he;rw[hx]at q1;rw[hy]at q2;have qd:j<m:=ab
   have qc:(j:Int)<(m:Int):=ab
   have qk:(w.drewN k).cell? ⟨b1,o1+j,none⟩=some (.int .u32 (x:Int)):=q1;have qs:(w.drewN k).cell? ⟨b2,o2+j,none⟩=some (.int .u32 (y:Int)):=q2;have w1:IntKind.i64.wrap ((j:Int) - 1)=(j:Int) - 1:=by rw[IntKind.wrap_i64];omega
   by_cases hxy:x=y
   ·rw[if_pos hxy]at he
    subst hxy;have HE:=hd1 he;clear he hz hx hy
    go_upto_region 4 with fail
    go_quiet (fail)
    go_wp2_with fail
    go_roundw
    case rel=>exact⟨j,_,ab,rfl,rfl,HE.out,_,rfl⟩
    case measure=>first|(simp[intOf];done)|(simp[intOf];omega)
   ·rw[if_neg hxy]at he
    have qg:((x:Int) != (y:Int))=true:=ai
    have HE:=hd2 he hxy;clear he hz hx hy hxy
    go_upto_region 4 with fail
    go_quiet (fail)
    go_upto_region 5 with fail
    go_quiet (fail)
    go_wp2_with fail
    go_ret
    refine⟨?_,ar (ar (ar br_ _) _) _⟩;rw[HE.1]
    first|rfl|(congr 2;rw[Bool.eq_iff_iff];simp)
set_option maxHeartbeats 4000000 in
theorem ua (A A':Option Addr) (n c n' c':Nat) (a b:List Nat) (w:World) (ha:bX w w.heap.size A n c (nl a)) (hb:bX w w.heap.size A' n' c' (nl b)) (hla:Rs.Lim a) (hlb:Rs.Lim b) (hn:n≤1000) (hn':n'≤1000) :
 Calls Tryz.prog 145 #[.slice A n c,.slice A' n' c'] w (iX (nl (Rs.times a b)) w):=by
 have q6:a.length=n:=by have:=ha.len;rwa [bz]at this
 have q7:b.length=n':=by have:=hb.len;rwa [bz]at this
 have j0:IntKind.i64.wrap ((n:Int)+(n':Int))=((n+n':Nat):Int):=by rw[IntKind.wrap_i64];omega
 have H:=hd6 ha hb hla hlb q6 q7;clear ha hb hla hlb q6 q7
 go_enter Tryz.func145,Tryz.ntmps145
 obtain⟨s,hs⟩:∃s,n+n'=s:=⟨_,rfl⟩
 rw[hs]at j0
 go_wp2_with (first
  | (at_make;refine dP rfl _ _ rfl s rfl rfl ab ?_;intro w1 ho1 hg1 hb1)
  | fail)
 have yd:=hb1.size;have qg:nl (List.replicate s 0)=nl (Rs.tOut a b 0):=by rw[Rs.tOut,H.2.2.2.2.1,H.2.2.2.2.2,hs]
 rw[qg]at ho1;have H1:=hd2 ho1 hb1;have j3:w.heap.size<w1.heap.size:=(H1.1.1.lt _ rfl).2;clear ho1 hg1 hb1 qg;obtain⟨g,hg⟩:∃g,w.heap.size=g:=⟨_,rfl⟩
 rw[hg]at j3 yd ⊢
 go_loopw [6] (fun iv wr=>∃i:Nat,i≤n∧iv=.int .i64 (i:Int)∧aW wr w.heap.size w1.heap.size (.slice (some ⟨g,0,none⟩) s s) (nl (Rs.tOut a b i))∧w1.grownBy wr (some g)) (fun iv _=>n - (intOf iv).toNat)
 case atStart=>exact⟨0,Nat.zero_le _,rfl,by rw[←hg];exact H1.1,fJ _ _⟩
 case round=>
  obtain⟨i,hi,rfl,ho,hgr⟩:=hrel
  by_cases hlt:i<n
  ·have j6:(i:Int)<(n:Int):=ab
   obtain⟨wo,rfl⟩:∃V,V=wr:=⟨_,rfl⟩
   have HO:=hd2 ho hgr;clear ho hgr
   go_wp2_with fail
   go_loopw [7,8] (fun cv kv wr=>∃kk:Nat,kk≤n'∧kv=.int .i64 (kk:Int)∧cv=.int .u64 (((Rs.tIn (a.getD i 0) i b (Rs.tOut a b i) kk).2:Nat):Int)∧aW wr w.heap.size w1.heap.size (.slice (some ⟨g,0,none⟩) s s) (nl (Rs.tIn (a.getD i 0) i b (Rs.tOut a b i) kk).1)∧w1.grownBy wr (some g)) (fun _ kv _=>n' - (intOf kv).toNat)
   case atStart=>exact⟨0,Nat.zero_le _,rfl,rfl,HO.1,HO.2⟩
   case round=>
    obtain⟨kk,hk,rfl,rfl,ho,hgr⟩:=hrel;obtain⟨hL1,hL2,hL3⟩:=Rs.tIn_lim (i:=i) (Rs.lim_get H.2.2.1 i) H.2.2.2.1 (Rs.tOut_lim H.2.2.1 H.2.2.2.1 i).1 kk;rw[(Rs.tOut_lim H.2.2.1 H.2.2.2.1 i).2,H.2.2.2.2.1,H.2.2.2.2.2,hs]at hL3;have qd:(nl (Rs.tIn (a.getD i 0) i b (Rs.tOut a b i) kk).1).length=s:=by rw[bz,hL3]
    by_cases hkl:kk<n'
    ·have j5:(kk:Int)<(n':Int):=ab
     have qk:Below w.heap.size w wr:=H1.2.grown hgr H1.2.size (fun k e=>by injection e with e;omega);obtain⟨b1,o1,rfl,hb1,q1⟩:=H.1.getN (k:=i) ab;obtain⟨b2,o2,rfl,hb2,q2⟩:=H.2.1.getN (k:=kk) ab;have q1:=(qk.cell (p:=⟨b1,o1+i,none⟩) hb1).trans q1;have q2:=(qk.cell (p:=⟨b2,o2+kk,none⟩) hb2).trans q2;have q3:=ho.cellAt (fL (L:=(Rs.tIn (a.getD i 0) i b (Rs.tOut a b i) kk).1) (k:=i+kk) ab);have q4:=ho.frozenAt qd (i+kk);have qh:=Rs.step_lt (Rs.lim_get H.2.2.1 i) (Rs.lim_get H.2.2.2.1 kk) (Rs.lim_get hL1 (i+kk)) hL2;have j1:=Rs.lim_get H.2.2.1 i;have j2:=Rs.lim_get H.2.2.2.1 kk;have q9:=Rs.lim_get hL1 (i+kk);have qc:(Rs.tIn (a.getD i 0) i b (Rs.tOut a b i) (kk+1))=((Rs.tIn (a.getD i 0) i b (Rs.tOut a b i) kk).1.set (i+kk) ((a.getD i 0*b.getD kk 0+(Rs.tIn (a.getD i 0) i b (Rs.tOut a b i) kk).1.getD (i+kk) 0+(Rs.tIn (a.getD i 0) i b (Rs.tOut a b i) kk).2) % 4294967296),(a.getD i 0*b.getD kk 0+(Rs.tIn (a.getD i 0) i b (Rs.tOut a b i) kk).1.getD (i+kk) 0+(Rs.tIn (a.getD i 0) i b (Rs.tOut a b i) kk).2) / 4294967296):=rfl;obtain⟨L,hL⟩:∃L,(Rs.tIn (a.getD i 0) i b (Rs.tOut a b i) kk).1=L:=⟨_,rfl⟩
     obtain⟨cy,hcy⟩:∃L,(Rs.tIn (a.getD i 0) i b (Rs.tOut a b i) kk).2=L:=⟨_,rfl⟩
     rw[hL]at ho qd q3 qh q9 qc;rw[hcy]at qh hL2 qc ⊢;obtain⟨av,hav⟩:∃x,a.getD i 0=x:=⟨_,rfl⟩
     obtain⟨bv,hbv⟩:∃x,b.getD kk 0=x:=⟨_,rfl⟩
     obtain⟨ov,hovE⟩:∃x,L.getD (i+kk) 0=x:=⟨_,rfl⟩
     rw[hav]at q1 qh j1;rw[hbv]at q2 qh j2 qc;rw[hovE]at q3 qh q9 qc;obtain⟨pv,hpv⟩:∃x,av*bv=x:=⟨_,rfl⟩
     have q0:(av:Int)*(bv:Int)=(pv:Int):=by rw[←hpv];push_cast;rfl
     obtain⟨qv,hqv⟩:∃x,pv+ov=x:=⟨_,rfl⟩
     obtain⟨xv,hxv⟩:∃x,qv+cy=x:=⟨_,rfl⟩
     obtain⟨lo,hlo⟩:∃x,xv % 4294967296=x:=⟨_,rfl⟩
     obtain⟨hi',hhi⟩:∃x,xv / 4294967296=x:=⟨_,rfl⟩
     obtain⟨p,hp⟩:∃x,i+kk=x:=⟨_,rfl⟩
     rw[hpv]at qh;have qs:(Rs.tIn (a.getD i 0) i b (Rs.tOut a b i) (kk+1))=(L.set p lo,hi'):=by
      rw[qc,hav,hpv,hqv,hxv,hlo,hhi,hp]
     have m1:IntKind.u64.wrap ((av:Int)*(bv:Int))=(pv:Int):=by rw[q0,IntKind.wrap_u64];omega
     have m2:IntKind.u64.wrap ((pv:Int)+(ov:Int))=(qv:Int):=by rw[IntKind.wrap_u64];omega
     have m3:IntKind.u64.wrap ((qv:Int)+(cy:Int))=(xv:Int):=by rw[IntKind.wrap_u64];omega
     have m4:IntKind.u32.wrap (xv:Int)=(lo:Int):=by simp only[IntKind.wrap,IntKind.bits,IntKind.signed];simp;omega
     have m5:(xv:Int) / 4294967296=(hi':Int):=ab
     have m6:IntKind.i64.wrap ((i:Int)+(kk:Int))=(p:Int):=by rw[IntKind.wrap_i64];omega
     have m7:IntKind.u64.wrap (av:Int)=(av:Int):=by rw[IntKind.wrap_u64];omega
     have m8:IntKind.u64.wrap (bv:Int)=(bv:Int):=by rw[IntKind.wrap_u64];omega
     have m9:IntKind.u64.wrap (ov:Int)=(ov:Int):=by rw[IntKind.wrap_u64];omega
     have j8:p<s:=ab
     have j7:(p:Int)<(s:Int):=ab
     rw[hp]at q3 q4;have HS:=hd3 (ho.stored qd p (lo:Int)) hgr qs;clear ho hgr hL3 qd hL1 qc qs qh hL hcy hav hbv hovE hpv hqv hxv hlo hhi hp q0 qk
     go_upto_region 9 with fail
     go_quiet (fail)
     go_wp2_with fail
     refine⟨⟨kk+1,ab,ag,by rw[HS.2.2],?_,?_⟩,?_⟩
     ·rw[HS.2.2]
      have h1:=HS.1;rw[gS]at h1;exact h1.keep fun k _ _=>rfl
     ·exact bM (gf HS.2.1 nq) _ _
     ·simp[intOf];omega
    ·have j5:¬((kk:Int)<(n':Int)):=ab
     obtain rfl:kk=n':=ab
     have q3:=ho.cellAt (fL (L:=(Rs.tIn (a.getD i 0) i b (Rs.tOut a b i) kk).1) (k:=i+kk) ab);have q4:=ho.frozenAt qd (i+kk);have qc:Rs.tOut a b (i+1)=(Rs.tIn (a.getD i 0) i b (Rs.tOut a b i) kk).1.set (i+kk) ((Rs.tIn (a.getD i 0) i b (Rs.tOut a b i) kk).2 % 4294967296):=by rw[Rs.tOut,H.2.2.2.2.2]
     obtain⟨L,hL⟩:∃L,(Rs.tIn (a.getD i 0) i b (Rs.tOut a b i) kk).1=L:=⟨_,rfl⟩
     obtain⟨cy,hcy⟩:∃L,(Rs.tIn (a.getD i 0) i b (Rs.tOut a b i) kk).2=L:=⟨_,rfl⟩
     rw[hL]at ho qd q3 qc;rw[hcy,Nat.mod_eq_of_lt (by rw[←hcy];exact hL2)]at qc;rw[hcy]at hL2 ⊢;obtain⟨ov,hovE⟩:∃x,L.getD (i+kk) 0=x:=⟨_,rfl⟩
     rw[hovE]at q3;obtain⟨p,hp⟩:∃x,i+kk=x:=⟨_,rfl⟩
     rw[hp]at q3 q4 qc;have m4:IntKind.u32.wrap (cy:Int)=(cy:Int):=by simp only[IntKind.wrap,IntKind.bits,IntKind.signed];simp;omega
     have m6:IntKind.i64.wrap ((i:Int)+(kk:Int))=(p:Int):=by rw[IntKind.wrap_i64];omega
     have j8:p<s:=ab
     have j7:(p:Int)<(s:Int):=ab
     have HS:=hd3 (ho.stored qd p (cy:Int)) hgr qc;clear ho hgr hL3 qd hL1 qc hL hcy hovE hp
     go_wp2_with fail
     refine⟨⟨i+1,ab,ag,?_,?_⟩,?_⟩
     ·rw[HS.2.2]
      have h1:=HS.1;rw[gS]at h1;exact h1
     ·exact bM HS.2.1 _ _
     ·simp[intOf];omega
  ·obtain rfl:i=n:=ab
   have yh:¬((i:Int)<(i:Int)):=ab
   have qk:Below w.heap.size w wr:=H1.2.grown hgr H1.2.size (fun k e=>by injection e with e;omega);have j4:=hgr.size;have HF:=hd2 ho qk;have q5:=(Rs.tOut_lim H.2.2.1 H.2.2.2.1 i).2;rw[H.2.2.2.2.1,H.2.2.2.2.2,hs]at q5;have HT:=hd1 q5;clear ho qk hgr q5
   go_wp2_with fail
   go_ret
   refine jo ?_ HF.2;unfold Rs.times;rw[H.2.2.2.2.1];exact HF.1.mono nl_ j4
theorem zV (P:Nat→Bool) (f lo hi:Nat) (h:¬1<hi - lo):Rs.rt P f lo hi=lo:=by
 cases f with
 | zero=>rfl
 | succ f=>rw[Rs.rt,if_neg h]
set_option maxHeartbeats 4000000 in
theorem wC (p n:Nat) (hp:p<4294967296) (hn:n=2∨n=3) (w:World) :
 Calls Tryz.prog 128 #[.int .u32 (p:Int),.int .i64 (n:Int)] w fun e w'=>e=.returned (.int .u32 ((Rs.root p n:Nat):Int))∧Below w.heap.size w w':=by
 obtain⟨s,hs⟩:∃s,2*n=s:=⟨_,rfl⟩
 have j0:IntKind.i64.wrap (2*(n:Int))=(s:Int):=by rw[IntKind.wrap_i64];omega
 have zn:n<s:=ab
 have y7:(n:Int)<(s:Int):=ab
 have ys:=Rs.want_lim p n hp;rw[hs]at ys;have HW:=hd2 ys hs;clear ys
 go_enter Tryz.func128,Tryz.ntmps128
 go_wp2_with (first
  | (at_make;refine dP rfl _ _ rfl s rfl rfl ab ?_;intro w1 ho1 hg1 hb1;have q1:=ho1.cellAt (fL (L:=List.replicate s 0) (k:=n) ai);have f1:=ho1.frozenAt (by rw[bz];simp) n;have y3:=ho1.stored (by rw[bz];simp) n (p:Int);have HM:=hd3 y3 hb1 (ho1.1.lt _ rfl).2;clear ho1 hg1 hb1 y3)
  | fail)
 have qv:(nl (List.replicate s 0)).set n (p:Int)=nl (Rs.want p n):=by rw[gS];unfold Rs.want;rw[HW.2]
 obtain⟨w2,hw2⟩:∃x,w1.setCell ⟨w.heap.size,n,none⟩ (.int .u32 (p:Int))=x:=⟨_,rfl⟩
 rw[hw2]at HM ⊢;have q9:=HM.1;rw[qv]at q9;have qk:Below w.heap.size w w2:=by
  rw[←hw2];exact HM.2.1.grown (iB w1 ⟨w.heap.size,n,none⟩ _) HM.2.1.size (fun k e=>by cases e;exact Nat.le_refl _)
 have y5:w2.heap.size=w1.heap.size:=by rw[←hw2];simp
 obtain⟨AW,cW,eW,rW⟩:=q9.rd;have y0:=HW.1.2;rw[bz,y0]at eW rW;injection eW with e1 e2 e3
 subst e1 e3;have H2:=hd2 (rW.more (Nat.le_of_eq y5.symm)) qk;clear qv hw2 q9 qk y5 HM rW y0 q1 f1 e2;obtain⟨g,hg⟩:∃g,w.heap.size=g:=⟨_,rfl⟩
 rw[hg]at H2 ⊢;obtain⟨P,hP⟩:∃P,Rs.isAbove p n=P:=⟨_,rfl⟩
 obtain⟨RV,hRV⟩:∃v,Rs.rt P 38 0 137438953472=v:=⟨_,rfl⟩
 have HV:=hd2 hRV hP
 go_loopw [6,7] (fun lv hv wr=>∃f lo hi:Nat,lv=.int .u64 (lo:Int)∧hv=.int .u64 (hi:Int)∧lo≤hi∧hi≤137438953472∧hi - lo≤2 ^ (f - 1)∧RV=Rs.rt P f lo hi∧Below w2.heap.size w2 wr) (fun lv hv _=>(intOf hv - intOf lv).toNat)
 case atStart=>exact⟨38,0,137438953472,rfl,rfl,ab,ab,aj,HV.1.symm,Below.refl _ _⟩
 case round=>
  obtain⟨f,lo,hi,rfl,rfl,hlh,hhm,hf,qc,hb⟩:=hrel;have j1:IntKind.u64.wrap ((hi:Int) - (lo:Int))=(hi:Int) - (lo:Int):=by rw[IntKind.wrap_u64];omega
  by_cases hgt:1<hi - lo
  ·have q6:(1:Int)<(hi:Int) - (lo:Int):=ab
   obtain⟨f,rfl⟩:∃k,f=k+1:=by
    rcases f with _|f
    ·simp at hf;omega
    ·exact⟨f,rfl⟩
   rw[Rs.rt,if_pos hgt]at qc;obtain⟨x,hx⟩:∃x,(lo+hi) / 2=x:=⟨_,rfl⟩
   rw[hx]at qc;have y1:hi - lo≤2*2 ^ (f - 1):=by
    rcases f with _|f
    ·simp at hf;omega
    ·have:2 ^ (f+1+1 - 1)=2*2 ^ (f+1 - 1):=by simp[Nat.pow_succ];omega
     omega
   have j2:IntKind.u64.wrap ((lo:Int)+(hi:Int))=(lo:Int)+(hi:Int):=by rw[IntKind.wrap_u64];omega
   have j3:Int.tdiv ((lo:Int)+(hi:Int)) 2=(x:Int):=by rw[Int.tdiv_eq_ediv_of_nonneg ab,←hx];omega
   have zs:((lo:Int)+(hi:Int)) / 2=(x:Int):=by rw[←hx];omega
   have j4:IntKind.u64.wrap (x:Int)=(x:Int):=by rw[IntKind.wrap_u64];omega
   obtain⟨xl,hxl⟩:∃y,x % 4294967296=y:=⟨_,rfl⟩
   obtain⟨xh,hxh⟩:∃y,x / 4294967296=y:=⟨_,rfl⟩
   have j5:IntKind.u32.wrap (x:Int)=(xl:Int):=by simp only[IntKind.wrap,IntKind.bits,IntKind.signed];simp;omega
   have j6:(x:Int) / 4294967296=(xh:Int):=ab
   have j7:IntKind.u32.wrap (xh:Int)=(xh:Int):=by simp only[IntKind.wrap,IntKind.bits,IntKind.signed];simp;omega
   have y2:Rs.limbs x=[xl,xh]:=by unfold Rs.limbs;rw[hxl,hxh,Nat.mod_eq_of_lt ab]
   have HR:=hd7 qc hb y2 hx y1 hlh hhm;clear qc hb y2 hf y1;clear hRV hP
   go_upto_region 8 with fail
   have q2:bX (wr.alloc (.cells #[.int .u32 (xl:Int),.int .u32 (xh:Int)] 88)) (wr.heap.size+1) (some ⟨wr.heap.size,0,none⟩) 2 2 (nl (Rs.limbs x)):=by
    rw[HR.2.2.1];refine⟨rfl,Nat.le_refl _,ab,fun _=>⟨_,_,rfl,ab⟩,?_⟩;have h:=aV wr 88 [.int .u32 (xl:Int),.int .u32 (xh:Int)] _ rfl;rw[World.size_alloc]at h;exact h
   have q5:Below w2.heap.size w2 (wr.alloc (.cells #[.int .u32 (xl:Int),.int .u32 (xh:Int)] 88)):=HR.2.1.alloc HR.2.1.size _;have q3:(wr.alloc (.cells #[.int .u32 (xl:Int),.int .u32 (xh:Int)] 88)).heap.size=wr.heap.size+1:=ag
   obtain⟨w3,hw3⟩:∃V,wr.alloc (.cells #[.int .u32 (xl:Int),.int .u32 (xh:Int)] 88)=V:=⟨_,rfl⟩
   rw[hw3]at q2 q5 q3 ⊢;obtain⟨h,hh⟩:∃g,wr.heap.size=g:=⟨_,rfl⟩
   rw[hh]at q2 q3 ⊢;have H3:=hd2 (q2.more (Nat.le_of_eq q3.symm)) q5;clear q2 q5 q3 hw3 hh
   go_wp2_with fail
   go_loopw [10,11] (fun yv iv wx=>∃(j c:Nat) (Y:Option Addr),1≤j∧j≤n∧iv=.int .i64 (j:Int)∧yv=.slice Y (2*j) c∧bX wx wx.heap.size Y (2*j) c (nl (Rs.pow x (j - 1)))∧Below w3.heap.size w3 wx) (fun _ iv _=>n - (intOf iv).toNat)
   case atStart=>exact⟨1,2,_,ab,ab,rfl,rfl,H3.1,Below.refl _ _⟩
   case round=>
    obtain⟨j,c,Y,hj1,hjn,rfl,rfl,hrY,hb4⟩:=hrel;have q0:=(Rs.pow_lim x (j - 1)).1;have qd:Below w2.heap.size w2 wr:=H3.2.trans (hb4.mono H3.2.size);have qh:=H3.1.up hb4
    by_cases hjl:j<n
    ·have y6:(j:Int)<(n:Int):=ab
     have yh:=ua Y (some ⟨h,0,none⟩) (2*j) c 2 2 (Rs.pow x (j - 1)) (Rs.limbs x) wr hrY qh q0 (Rs.limbs_lim x) ab ab;have yd:=(Rs.times_lim q0 (Rs.limbs_lim x)).2;rw[(Rs.pow_lim x (j - 1)).2,show(Rs.limbs x).length=2 from rfl]at yd;have qs:Rs.times (Rs.pow x (j - 1)) (Rs.limbs x)=Rs.pow x j:=by
      obtain⟨q,rfl⟩:∃q,j=q+1:=⟨j - 1,ab⟩
      rfl
     obtain⟨j2,hj2⟩:∃q,2*j=q:=⟨_,rfl⟩
     rw[hj2]at yh ⊢;have HT:=hd4 yh yd qs hb4;clear yh yd qs hb4 hrY qd qh q0
     go_wp2_with fail
     refine HT.1.mono ?_;rintro e w5 ⟨Y5,c5,rfl,ho5,hb5⟩;obtain⟨_,_,e5,r5⟩:=ho5.rd;injection e5 with e1 e2 e3
     subst e1 e3;have q7:(nl (Rs.times (Rs.pow x (j - 1)) (Rs.limbs x))).length=2*(j+1):=by rw[bz,HT.2.1];omega
     have qs:=HT.2.2.1;rw[q7,qs]at r5;rw[q7];have H5:=hd2 r5 (HT.2.2.2.trans (hb5.mono HT.2.2.2.size));clear ho5 hb5 r5 q7 qs e2
     go_wp2_with fail
     refine⟨⟨j+1,_,_,ab,ab,ag,rfl,H5.1,H5.2⟩,?_⟩;simp[intOf];omega
    ·have y6:¬((j:Int)<(n:Int)):=ab
     obtain rfl:j=n:=ab
     have y4:=(H2.1.below qd).more qd.size;rw[hs]at hrY ⊢;have q4:=tN Y (some ⟨g,0,none⟩) s c s wr.heap.size wr.heap.size (Rs.pow x (j - 1)) (Rs.want p j) wr hrY y4 ab nl_ nl_;have yy:Rs.aboveN (Rs.pow x (j - 1)) (Rs.want p j) s=P x:=by rw[←HV.2,←hs];rfl
     rw[yy]at q4;have HT:=hd2 q4 qd;clear q4 qd hrY qh q0 y4 yy hb4
     go_wp2_with fail
     refine HT.1.mono ?_;rintro e w5 ⟨rfl,hb5⟩;have qg:=HT.2.trans (hb5.mono HT.2.size);have qc:=HR.1;have HB:=hd2 qg HR.2.2.2
     cases hPv:P x
     ·rw[hPv,if_neg aj]at qc
      have HE:=hd1 qc;clear hb5 qg qc hPv
      go_wp2_with fail
      refine⟨⟨f,x,hi,rfl,rfl,?_,?_,?_,HE.out,HB.1⟩,?_⟩
      ·have:=HB.2;omega
      ·exact HB.2.2.2.2
      ·have:=HB.2;omega
      ·have:=HB.2;simp[intOf];omega
     ·rw[hPv,if_pos rfl]at qc
      have HE:=hd1 qc;clear hb5 qg qc hPv
      go_wp2_with fail
      refine⟨⟨f,lo,x,rfl,rfl,?_,?_,?_,HE.out,HB.1⟩,?_⟩
      ·have:=HB.2;omega
      ·have:=HB.2;omega
      ·have:=HB.2;omega
      ·have:=HB.2;simp[intOf];omega
  ·have q6:¬((1:Int)<(hi:Int) - (lo:Int)):=ab
   rw[zV _ _ _ _ hgt]at qc;have HR:=hd2 qc hb;clear qc hb hf hRV hP;have j8:IntKind.u32.wrap (lo:Int)=((lo % 4294967296:Nat):Int):=by simp only[IntKind.wrap,IntKind.bits,IntKind.signed];simp
   go_wp2_with fail
   go_ret
   refine⟨?_,H2.2.trans (HR.2.mono (by have:=H2.2.size;omega))⟩;unfold Rs.root;rw[HV.2,HV.1,HR.1]
   first|rfl|simp
namespace Sha
theorem prun_prefix (k:Nat):∀d,prun k=(prun (k+d)).take (prun k).length
 | 0=>by simp
 | d+1=>by
  have ih:=prun_prefix k d;have hm:=prun_mono k d;rw[←Nat.add_assoc,prun,pstep]
  split
  ·exact ih
  ·rw[List.take_append_of_le_length hm]
   exact ih
theorem prun_take {k N:Nat} (hk:k≤310) (h:(prun k).length=N):prun k=P64.take N:=by
 have:=prun_prefix k (310 - k);rw[show k+(310 - k)=310 by omega,h]at this;exact this
end Sha
set_option maxHeartbeats 4000000 in
theorem qJ (N:Nat) (hN:N≤64) (w:World) :
 Calls Tryz.prog 127 #[.int .i64 (N:Int)] w (iX (nl (Sha.P64.take N)) w):=by
 go_enter Tryz.func127,Tryz.ntmps127
 go_wp2_with fail
 go_loopw [3,4] (fun lv pv wr=>∃k:Nat,k≤310∧(Sha.prun k).length≤N∧pv=.int .u32 ((2+k:Nat):Int)∧aW wr w.heap.size wr.heap.size lv (nl (Sha.prun k))∧Below w.heap.size w wr) (fun _ pv _=>312 - (intOf pv).toNat)
 case atStart=>exact⟨0,ab,by simp[Sha.prun],rfl,aW.nil_,Below.refl _ _⟩
 case round=>
  obtain⟨k,hk,hkN,rfl,ho,hb⟩:=hrel;obtain⟨A,c,rfl,hr⟩:=ho.rd;obtain⟨m,hm⟩:∃m,(Sha.prun k).length=m:=⟨_,rfl⟩
  rw[bz,hm]at hr ho ⊢;rw[hm]at hkN;obtain⟨p,hp⟩:∃p,2+k=p:=⟨_,rfl⟩
  rw[hp];have HO:=hd5 ho hb hm hr hp;clear ho hb hm hr hp
  by_cases hlt:m<N
  ·have qd:(m:Int)<(N:Int):=ab
   have q0:k<310:=Sha.prun_lt (by rw[HO.2.2.1];omega);have q2:p<1000:=by have:=HO.2.2.2.2;omega
   go_wp2_with fail
   go_loopw [5,6] (fun bv iv wx=>∃j:Nat,j≤m∧iv=.int .i64 (j:Int)∧bv=.bool (!((Sha.prun k).take j).any fun q=>p % q==0)∧wx=wr) (fun _ iv _=>m - (intOf iv).toNat)
   case atStart=>exact⟨0,Nat.zero_le _,rfl,rfl,rfl⟩
   case round=>
    obtain⟨j,hj,rfl,rfl,rfl⟩:=hrel;obtain⟨bb,hbb⟩:∃x,((Sha.prun k).take j).any (fun q=>p % q==0)=x:=⟨_,rfl⟩
    rw[hbb]
    by_cases hjl:j<m
    ·have qk:(j:Int)<(m:Int):=ab
     obtain⟨b,o,rfl,_,q1⟩:=HO.2.2.2.1.getN hjl;obtain⟨q,hq⟩:∃x,(Sha.prun k).getD j 0=x:=⟨_,rfl⟩
     rw[hq]at q1;have qg:(Sha.prun k)[j]? = some q:=by
      rw[List.getElem?_eq_getElem (by rw[HO.2.2.1];exact hjl),←hq,List.getD_eq_getElem?_getD,List.getElem?_eq_getElem (by rw[HO.2.2.1];exact hjl)]
      rfl
     have qv:=Sha.prun_mem k q (List.mem_of_getElem? qg);have q3:((q:Int)==0)=false:=ai
     have q4:¬(q:Int)=0:=ab
     have qh:((Sha.prun k).take (j+1)).any (fun q=>p % q==0)=(bb||(p % q==0)):=by
      rw[df qg,List.any_append,hbb];simp
     obtain⟨r,hr⟩:∃x,p % q=x:=⟨_,rfl⟩
     have qs:Int.tmod (p:Int) (q:Int)=(r:Int):=by rw[←hr];rfl
     rw[hr]at qh;have q5:((r:Int) != 0) = !(r==0):=by
      rw[Bool.eq_iff_iff];simp
     have HT:=hd2 qh hr;clear qh hbb hq qg qv hr
     cases bb
     ·go_wp2_with fail
      go_roundw
      case rel=>exact⟨j+1,ab,by go_num,by rw[HT.1];simp[bne],by first|rfl|trivial⟩
      case measure=>first|(simp[intOf];done)|(simp[intOf];omega)
     ·go_wp2_with fail
      go_roundw
      case rel=>exact⟨j+1,ab,by go_num,by rw[HT.1];simp,by first|rfl|trivial⟩
      case measure=>first|(simp[intOf];done)|(simp[intOf];omega)
    ·have qk:¬((j:Int)<(m:Int)):=ab
     obtain rfl:j=m:=ab
     rw[List.take_of_length_le (by rw[HO.2.2.1];exact Nat.le_refl _)]at hbb;have j1:IntKind.u32.wrap ((p:Int)+1)=((p+1:Nat):Int):=by simp only[IntKind.wrap,IntKind.bits,IntKind.signed];simp;omega
     have qc:Sha.prun (k+1)=if bb then Sha.prun k else Sha.prun k++[p]:=by
      rw[Sha.prun,Sha.pstep,HO.2.2.2.2,hbb]
     have HB:=hd1 qc;clear hbb qc
     cases bb
     ·go_wp2_with (first
       | (at_builtin
          refine eP rfl (.tmp 30) (.tmp 32) rfl w.heap.size wr.heap.size (.slice A j c) (nl (Sha.prun k)) rfl (aI.alloc HO.1 nl_ _) ?_ (wr.alloc (.cells #[.int .u32 (p:Int)] 88)).heap.size (some ⟨wr.heap.size,0,none⟩) 1 1 [(p:Int)] rfl ?_ ?_ ?_
          ·have:=HO.2.1.size;simp;omega
          ·exact aV wr 88 [.int .u32 (p:Int)] _ rfl
          ·rw[bz,HO.2.2.1];omega
          intro v7 w7 ho7 hg7 hb7;have H7:=hd2 ho7 hb7;clear ho7 hg7 hb7)
       | fail)
      refine⟨⟨k+1,ab,?_,?_,?_,?_⟩,?_⟩
      ·rw[HB.out,if_neg aj,List.length_append,HO.2.2.1];simp;omega
      ·have:=HO.2.2.2.2
       congr 2
       omega
      ·rw[HB.out,if_neg aj]
       have:=H7.1;rw[show nl (Sha.prun k)++[(p:Int)]=nl (Sha.prun k++[p]) from by simp[nl]]at this;exact this
      ·exact(HO.2.1.alloc HO.2.1.size _).trans H7.2
      ·have:=HO.2.2.2.2
       simp[intOf];omega
     ·go_wp2_with fail
      refine⟨⟨k+1,ab,?_,?_,?_,HO.2.1⟩,?_⟩
      ·rw[HB.out,if_pos rfl,HO.2.2.1];omega
      ·have:=HO.2.2.2.2
       congr 2
       omega
      ·rw[HB.out,if_pos rfl]
       exact HO.1
      ·have:=HO.2.2.2.2
       simp[intOf];omega
  ·have qd:¬((m:Int)<(N:Int)):=ab
   obtain rfl:m=N:=ab
   go_wp2_with fail
   go_ret
   rw[←Sha.prun_take hk HO.2.2.1];exact jo HO.1 HO.2.1
theorem zS {L:List Nat} {f:Nat→Nat} {i N q:Nat} (hi:i<N) (hL:L.length=N) (hq:L[i]? = some q):(nl ((L.take i).map f++List.replicate (N - i) 0)).set i ((f q:Nat):Int)=nl ((L.take (i+1)).map f++List.replicate (N - (i+1)) 0):=by
 rw[gS,df hq,List.map_append,List.set_append_right _ _ ai];obtain⟨d,hd⟩:∃d,N - i=d+1:=⟨N - i - 1,ab⟩
 rw[hd,show N - (i+1)=d by omega,List.replicate_succ];simp[show i - min i L.length=0 by omega]
theorem zR {L:List Nat} {f:Nat→Nat} {i N:Nat} (hi:i≤N) (hL:L.length=N):(nl ((L.take i).map f++List.replicate (N - i) 0)).length=N:=by
 rw[bz];simp;omega
set_option maxHeartbeats 4000000 in
theorem mr (N n:Nat) (hN:N≤64) (hn:n=2∨n=3) (w:World) :
 Calls Tryz.prog 99 #[.int .i64 (N:Int),.int .i64 (n:Int)] w (iX (nl ((Sha.P64.take N).map fun p=>Rs.root p n)) w):=by
 have qg:Sha.P64.length=64:=Sha.prun_310;have qs:(Sha.P64.take N).length=N:=by rw[List.length_take,qg];omega
 have q7:∀q∈Sha.P64.take N,q<4294967296:=fun q hq=>by have:=Sha.prun_mem 310 q (List.mem_of_mem_take hq);omega
 obtain⟨L,hL⟩:∃L,Sha.P64.take N=L:=⟨_,rfl⟩
 rw[hL]at qs q7;have H:=hd3 qs q7 hL;clear qs q7 qg
 go_enter Tryz.func99,Tryz.ntmps99
 go_wp2_with fail
 refine(qJ N hN w).mono ?_;rw[hL];rintro e w1 ⟨A,c,rfl,ho1,hb1⟩;obtain⟨_,_,e1,r1⟩:=ho1.rd;injection e1 with a1 a2 a3
 subst a1 a3;rw[bz,H.1]at r1 ⊢;have H1:=hd2 r1 hb1;clear ho1 hb1 r1 hL a2
 go_wp2_with (first
  | (at_make;refine dP rfl _ _ rfl N rfl rfl ab ?_;intro w2 ho2 hg2 hb2;have HM:=hd3 ho2 hb2 (ho2.1.lt _ rfl).2;clear ho2 hg2 hb2)
  | fail)
 have qd:=H1.2.trans (HM.2.1.mono H1.2.size);have j2:=H1.1.up HM.2.1;have q4:=HM.1;have j5:=HM.2.2;have j4:=H1.2.size;obtain⟨g,hg⟩:∃g,w1.heap.size=g:=⟨_,rfl⟩
 rw[hg]at q4 j5 j4 ⊢;have H2:=hd3 qd j2 q4;clear qd j2 q4
 go_loopw [7] (fun iv wr=>∃i:Nat,i≤N∧iv=.int .i64 (i:Int)∧aW wr g wr.heap.size (.slice (some ⟨g,0,none⟩) N N) (nl ((L.take i).map (fun p=>Rs.root p n)++List.replicate (N - i) 0))∧w2.heap.size≤wr.heap.size∧Below g w2 wr) (fun iv _=>N - (intOf iv).toNat)
 case atStart=>exact⟨0,Nat.zero_le _,rfl,by simpa using H2.2.2,Nat.le_refl _,Below.refl _ _⟩
 case round=>
  obtain⟨i,hi,rfl,ho,hsz,hb⟩:=hrel;have qv:=zR (f:=fun p=>Rs.root p n) hi H.1
  by_cases hlt:i<N
  ·have q0:(i:Int)<(N:Int):=ab
   have q6:=H1.1;rw[hg]at q6;have qc:=HM.2.1;rw[hg]at qc;have j1:=(q6.below qc).below hb;obtain⟨b,o,rfl,hbb,q1⟩:=j1.getN hlt;obtain⟨q,hq⟩:∃x,L.getD i 0=x:=⟨_,rfl⟩
   rw[hq]at q1;have q5:L[i]? = some q:=by
    rw[List.getElem?_eq_getElem (by rw[H.1];exact hlt),←hq,List.getD_eq_getElem?_getD,List.getElem?_eq_getElem (by rw[H.1];exact hlt)]
    rfl
   have j3:=wC q n (H.2.1 q (List.mem_of_getElem? q5)) hn wr;have qh:=zS (f:=fun p=>Rs.root p n) hlt H.1 q5;have HR:=hd5 j3 qh ho hb qv;clear j3 qh ho hb qv q5 hq q6 qc j1
   go_wp2_with fail
   refine HR.1.mono ?_;rintro e w3 ⟨rfl,hb3⟩;have qk:aW w3 g wr.heap.size (.slice (some ⟨g,0,none⟩) N N) (nl ((L.take i).map (fun p=>Rs.root p n)++List.replicate (N - i) 0)):=aW.below HR.2.2.1 hb3 nl_;obtain⟨y,hy⟩:∃y,(nl ((L.take i).map (fun p=>Rs.root p n)++List.replicate (N - i) 0))[i]? = some y:=⟨_,List.getElem?_eq_getElem (by rw[HR.2.2.2.2];exact hlt)⟩
   have q2:=qk.cellAt hy;have q3:=qk.frozenAt HR.2.2.2.2 i;have q9:=qk.stored HR.2.2.2.2 i ((Rs.root q n:Nat):Int);rw[HR.2.1]at q9;have j6:=hb3.size;have H3:=hd2 q9 (HR.2.2.2.1.trans (hb3.mono ab));clear qk hy q9 hb3
   go_wp2_with fail
   refine⟨⟨i+1,ab,ag,H3.1.mono nl_ ai,ai,?_⟩,?_⟩
   ·exact H3.2.grown (iB w3 ⟨g,i,none⟩ _) ab (fun k e=>by cases e;exact Nat.le_refl _)
   ·simp[intOf];omega
  ·have q0:¬((i:Int)<(N:Int)):=ab
   obtain rfl:i=N:=ab
   have j0:=H2.1.trans (hb.mono ab);have HF:=hd2 ho j0;clear ho hb j0 qv
   go_wp2_with fail
   go_ret
   refine jo ?_ HF.2;have h1:=HF.1;rw[List.take_of_length_le (Nat.le_of_eq H.1),Nat.sub_self,List.replicate_zero,List.append_nil]at h1;rw[←List.map_take,H.2.2];exact h1.mono ab nl_
set_option maxHeartbeats 4000000 in
theorem qI (A:Option Addr) (n c:Nat) (xs:List UInt8) (w:World) (h:Rd w w.heap.size A n c xs) (hn:n≤1099511627) :
 Calls Tryz.prog 100 #[.slice A n c] w (aO (xs++Sha.padOf n) w):=by
 have hl:=h.len;have H:=hd2 h hl;clear h hl
 go_enter Tryz.func100,Tryz.ntmps100
 go_wp2_with fail
 refine(dM A n c xs w H.1 ab).mono ?_;rintro e w1 ⟨A1,n1,c1,rfl,ho1,hb1⟩;obtain⟨_,_,_,e1,hr1⟩:=ho1.rd;injection e1 with q1 q2 q3
 subst q1 q2 q3;have q9:n1=n:=by have:=hr1.len;have:=H.2;omega
 subst q9;have H1:=hd2 ho1 hb1;have j6:=hb1.size;clear ho1 hb1 hr1;have q7:=az.lit w1 [128] [.int .u8 128] 1 rfl rfl ab
 go_wp2_with (first
  | (at_builtin
     refine aP rfl (.tmp 8) (.tmp 9) rfl w.heap.size w1.heap.size (.slice A1 n1 c1) xs rfl (H1.1.alloc nl_ _) ?_ (w1.alloc (.cells #[.int .u8 128] 5)).heap.size (some ⟨w1.heap.size,0,none⟩) 1 1 [128] rfl ?_ ?_ ?_
     ·simp;omega
     ·exact aV w1 5 [.int .u8 128] _ rfl
     ·have:=H.2;omega
     intro v2 w2 ho2 hg2 hat2 hb2;have H2:=hd2 ho2 (H1.2.trans ((br_.alloc j6 _).trans hb2));clear ho2 hg2 hat2 hb2)
  | fail)
 obtain⟨A2,n2,c2,rfl,hr2⟩:=H2.1.rd;have q4:n2=n1+1:=by have:=hr2.len;rw[List.length_append,H.2]at this;exact this.symm
 clear hr2
 go_loopw [3] (fun s4 wr=>∃(z cz m:Nat) (Az:Option Addr),m=n1+(z+1)∧s4=.slice Az m cz∧z≤Sha.zerosOf n1∧az wr w.heap.size wr.heap.size (.slice Az m cz) (xs++(128::List.replicate z 0))∧Below w.heap.size w wr) (fun s4 _=>n1+100 - oW s4)
 case atStart=>exact⟨0,c2,n2,A2,q4,rfl,Nat.zero_le _,H2.1,H2.2⟩
 case round=>
  obtain⟨z,cz,m,Az,hm,rfl,hz,ho,hb⟩:=hrel;clear q4;have yd:Sha.zerosOf n1<64:=by unfold Sha.zerosOf;omega
  have qh:Int.tmod (m:Int) 64=((m % 64:Nat):Int):=rfl;obtain⟨r,hr⟩:∃r,m % 64=r:=⟨_,rfl⟩
  rw[hr]at qh;have yh:m≤n1+64:=ab
  by_cases h56:r=56
  ·have qd:((r:Int) != 56)=false:=ai
   have qv:z=Sha.zerosOf n1:=by
    unfold Sha.zerosOf at hz ⊢;omega
   have j1:IntKind.u64.wrap (n1:Int)=(n1:Int):=by rw[IntKind.wrap_u64];omega
   have j2:IntKind.u64.wrap (8*(n1:Int))=8*(n1:Int):=by rw[IntKind.wrap_u64];omega
   have HZ:=hd4 ho hb qv hm;clear ho hb qv hr h56 hz yd hm
   go_wp2_with fail
   obtain⟨V,rfl⟩:∃V,V=wr:=⟨_,rfl⟩
   clear qh qd j1 j2
   go_loopw [3,5] (fun s4 ix wr=>∃(i mz cz:Nat) (z:Int) (Az:Option Addr),i≤8∧z=7 - (i:Int)∧ix=.int .i64 z∧mz≤n1+64+i∧s4=.slice Az mz cz∧az wr w.heap.size wr.heap.size (.slice Az mz cz) (xs++((128::List.replicate (Sha.zerosOf n1) 0)++(List.range i).map (Sha.lenByte n1)))∧Below w.heap.size w wr) (fun _ ix _=>(intOf ix+1).toNat)
   case atStart=>exact⟨0,m,cz,7,Az,ab,ab,rfl,ab,rfl,by rw[List.range_zero,List.map_nil,List.append_nil,←HZ.2.2.1];exact HZ.1,HZ.2.1⟩
   case round=>
    obtain⟨i,mz,cz,y,Az,hi,hy,rfl,hmz,rfl,ho,hb⟩:=hrel
    by_cases hil:i<8
    ·obtain⟨q,hq⟩:∃q:Nat,7 - i=q:=⟨_,rfl⟩
     obtain rfl:y=(q:Int):=ab
     obtain⟨sh,hsh⟩:∃k,56 - 8*i=k:=⟨_,rfl⟩
     have j7:8*(q:Int)=(sh:Int):=ab
     have q5:sh≤56:=ab
     have j3:IntKind.i64.wrap (sh:Int)=(sh:Int):=by rw[IntKind.wrap_i64];omega
     have j4:IntKind.u64.wrap (sh:Int)=(sh:Int):=by rw[IntKind.wrap_u64];omega
     have j5:IntKind.i64.wrap ((q:Int) - 1)=(q:Int) - 1:=by rw[IntKind.wrap_i64];omega
     have q0:bv (Sha.lenByte n1 i)=.int .u8 (8*(n1:Int) / 2 ^ sh % 256):=by
      unfold Sha.lenByte bv;rw[hsh,UInt8.toNat_ofNat']
      congr 1
     have qc:xs++((128::List.replicate (Sha.zerosOf n1) 0)++(List.range (i+1)).map (Sha.lenByte n1))=(xs++((128::List.replicate (Sha.zerosOf n1) 0)++(List.range i).map (Sha.lenByte n1)))++[Sha.lenByte n1 i]:=by
      rw[List.range_succ,List.map_append,List.append_assoc,List.append_assoc]
      rfl
     have qg:(xs++((128::List.replicate (Sha.zerosOf n1) 0)++(List.range i).map (Sha.lenByte n1))).length=mz:=by
      obtain⟨_,_,_,e1,h1⟩:=ho.rd;injection e1 with _ e2 _
      exact h1.len.trans e2.symm
     have HI:=hd6 ho hb q0 qc qg hy;have j8:=hb.size;clear ho hb q0 qc hsh qg hy
     go_upto_region 9 with fail
     go_wp2_with (first
      | (at_builtin
         refine aP rfl (.tmp 26) (.tmp 33) rfl w.heap.size wr.heap.size (.slice Az mz cz) (xs++((128::List.replicate (Sha.zerosOf n1) 0)++(List.range i).map (Sha.lenByte n1))) rfl (HI.1.alloc nl_ _) ?_ (wr.alloc (.cells #[.int .u8 (8*(n1:Int) / 2 ^ sh % 256)] 5)).heap.size (some ⟨wr.heap.size,0,none⟩) 1 1 [Sha.lenByte n1 i] rfl ?_ ?_ ?_
         ·simp;omega
         ·have e:=aV wr 5 [bv (Sha.lenByte n1 i)] _ rfl
          rw[HI.2.2.1]at e;simp only[List.map_cons,List.map_nil,HI.2.2.1];exact e
         ·rw[HI.2.2.2.2.1];omega
         intro v7 w7 ho7 hg7 hat7 hb7;have HA:=hd2 ho7 hb7;clear ho7 hg7 hat7 hb7)
      | fail)
     obtain⟨A7,n7,c7,e7,hr7⟩:=HA.1.rd;subst e7;have qk:=hr7.len;rw[List.length_append,HI.2.2.2.2.1]at qk;refine⟨⟨i+1,n7,c7,(q:Int) - 1,A7,ab,ab,ag,by simp at qk;omega,rfl,?_,HI.2.1.trans ((br_.alloc HI.2.1.size _).trans HA.2)⟩,?_⟩
     ·rw[HI.2.2.2.1]
      exact HA.1
     ·simp only[intOf]
      omega
    ·have q6:i=8:=ab
     subst q6;obtain rfl:y = -1:=ab
     have HF:=hd2 ho hb;clear ho hb hy
     go_wp2_with fail
     go_ret
     exact cE HF.1 HF.2
  ·have qd:((r:Int) != 56)=true:=ai
   have qv:z+1≤Sha.zerosOf n1:=by
    unfold Sha.zerosOf at hz ⊢;omega
   have qs:xs++(128::List.replicate (z+1) 0)=(xs++(128::List.replicate z 0))++[0]:=by
    rw[List.replicate_succ',List.append_assoc,List.cons_append]
   have qg:(xs++(128::List.replicate z (0:UInt8))).length=m:=by
    simp;have:=H.2;omega
   have HZ:=hd6 ho hb qv hm qs qg;have j8:=hb.size;clear ho hb qv hr h56 hz hm qs qg
   go_wp2_with (first
    | (at_builtin
       refine aP rfl (.tmp 15) (.tmp 16) rfl w.heap.size wr.heap.size (.slice Az m cz) (xs++(128::List.replicate z 0)) rfl (HZ.1.alloc nl_ _) ?_ (wr.alloc (.cells #[.int .u8 0] 5)).heap.size (some ⟨wr.heap.size,0,none⟩) 1 1 [0] rfl ?_ ?_ ?_
       ·simp;omega
       ·exact aV wr 5 [.int .u8 0] _ rfl
       ·rw[HZ.2.2.2.2.2];omega
       intro v7 w7 ho7 hg7 hat7 hb7;have HA:=hd2 ho7 hb7;clear ho7 hg7 hat7 hb7)
    | fail)
   obtain⟨A7,n7,c7,e7,hr7⟩:=HA.1.rd;subst e7;have qk:=hr7.len;rw[List.length_append,HZ.2.2.2.2.2]at qk;have j0:n7=m+1:=by simpa using qk.symm
   refine⟨⟨z+1,c7,n7,A7,by have:=HZ.2.2.2.1;omega,rfl,HZ.2.2.1,?_,HZ.2.1.trans ((br_.alloc HZ.2.1.size _).trans HA.2)⟩,?_⟩
   ·rw[HZ.2.2.2.2.1]
    exact HA.1
   ·simp only[oW]
    omega
theorem dJ (a b:Int):bits .or .u32 a b=bits .or .u32 b a:=by
 simp[bits,BitVec.or_comm]
theorem qK (x:Int) (w:World):Calls Tryz.prog 130 #[.int .u32 x,.int .u64 2] w fun e w'=>e=.returned (.int .u32 (Sha.rot x 1073741824 4))∧w'=w:=by
 rw[Sha.rot,dJ]
 go_enter Tryz.func130,Tryz.ntmps130
 go_wp2_with fail
 go_ret
 exact⟨rfl,rfl⟩
theorem qL (x:Int) (w:World):Calls Tryz.prog 130 #[.int .u32 x,.int .u64 6] w fun e w'=>e=.returned (.int .u32 (Sha.rot x 67108864 64))∧w'=w:=by
 rw[Sha.rot,dJ]
 go_enter Tryz.func130,Tryz.ntmps130
 go_wp2_with fail
 go_ret
 exact⟨rfl,rfl⟩
theorem qM (x:Int) (w:World):Calls Tryz.prog 130 #[.int .u32 x,.int .u64 7] w fun e w'=>e=.returned (.int .u32 (Sha.rot x 33554432 128))∧w'=w:=by
 rw[Sha.rot,dJ]
 go_enter Tryz.func130,Tryz.ntmps130
 go_wp2_with fail
 go_ret
 exact⟨rfl,rfl⟩
theorem p8 (x:Int) (w:World):Calls Tryz.prog 130 #[.int .u32 x,.int .u64 11] w fun e w'=>e=.returned (.int .u32 (Sha.rot x 2097152 2048))∧w'=w:=by
 rw[Sha.rot,dJ]
 go_enter Tryz.func130,Tryz.ntmps130
 go_wp2_with fail
 go_ret
 exact⟨rfl,rfl⟩
theorem p9 (x:Int) (w:World):Calls Tryz.prog 130 #[.int .u32 x,.int .u64 13] w fun e w'=>e=.returned (.int .u32 (Sha.rot x 524288 8192))∧w'=w:=by
 rw[Sha.rot,dJ]
 go_enter Tryz.func130,Tryz.ntmps130
 go_wp2_with fail
 go_ret
 exact⟨rfl,rfl⟩
theorem qa (x:Int) (w:World):Calls Tryz.prog 130 #[.int .u32 x,.int .u64 17] w fun e w'=>e=.returned (.int .u32 (Sha.rot x 32768 131072))∧w'=w:=by
 rw[Sha.rot,dJ]
 go_enter Tryz.func130,Tryz.ntmps130
 go_wp2_with fail
 go_ret
 exact⟨rfl,rfl⟩
theorem qb (x:Int) (w:World):Calls Tryz.prog 130 #[.int .u32 x,.int .u64 18] w fun e w'=>e=.returned (.int .u32 (Sha.rot x 16384 262144))∧w'=w:=by
 rw[Sha.rot,dJ]
 go_enter Tryz.func130,Tryz.ntmps130
 go_wp2_with fail
 go_ret
 exact⟨rfl,rfl⟩
theorem qe (x:Int) (w:World):Calls Tryz.prog 130 #[.int .u32 x,.int .u64 19] w fun e w'=>e=.returned (.int .u32 (Sha.rot x 8192 524288))∧w'=w:=by
 rw[Sha.rot,dJ]
 go_enter Tryz.func130,Tryz.ntmps130
 go_wp2_with fail
 go_ret
 exact⟨rfl,rfl⟩
theorem qf (x:Int) (w:World):Calls Tryz.prog 130 #[.int .u32 x,.int .u64 22] w fun e w'=>e=.returned (.int .u32 (Sha.rot x 1024 4194304))∧w'=w:=by
 rw[Sha.rot,dJ]
 go_enter Tryz.func130,Tryz.ntmps130
 go_wp2_with fail
 go_ret
 exact⟨rfl,rfl⟩
theorem qi (x:Int) (w:World):Calls Tryz.prog 130 #[.int .u32 x,.int .u64 25] w fun e w'=>e=.returned (.int .u32 (Sha.rot x 128 33554432))∧w'=w:=by
 rw[Sha.rot,dJ]
 go_enter Tryz.func130,Tryz.ntmps130
 go_wp2_with fail
 go_ret
 exact⟨rfl,rfl⟩
end Go.Proofs.YtmpkpphfoidbeaaGreatDoor
