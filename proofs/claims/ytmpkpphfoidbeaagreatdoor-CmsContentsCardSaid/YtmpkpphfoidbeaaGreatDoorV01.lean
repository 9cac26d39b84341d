import Derived.BigQuiet
import Derived.Deep.AppendLies
import Derived.Deep.Draws
import Derived.Deep.QuietTactic
import Derived.Great.BuildSlice
import Derived.Great.Frames
import Derived.KernelRfl
import Derived.Laws.BitsAllLaws
import Derived.Laws.BitsLemmas
import Derived.Laws.BytesArg
import Derived.Laws.OwnMore
import Derived.Lib.Hide
import Derived.Maps.AppendAt
import Derived.Orders
import Derived.OwnWalk
import Derived.RegionTactic
import Derived.Test.YtmpkpphfoidbeaaGreatDoorProg
import Derived.WalkKit
import Derived.WalkLawsBesides
import Derived.WalkSpells
set_option linter.unusedVariables false
set_option linter.unusedSimpArgs false
namespace Go.Proofs.YtmpkpphfoidbeaaGreatDoor
open Go.RowKit
theorem hd1 {a:Prop}(x:a):Hid a:=x
theorem br_ {B:Nat}{w:World}:Below B w w:=Below.refl _ _
theorem nl_ {n:Nat}:n≤n:=Nat.le_refl n
theorem hd2 {a b:Prop}(a':a)(b':b):Hid (a∧b):=⟨a',b'⟩
theorem hd3 {a b c:Prop}(a':a)(b':b)(c':c):Hid (a∧b∧c):=⟨a',⟨b',c'⟩⟩
theorem hd4 {a b c d:Prop}(a':a)(b':b)(c':c)(d':d):Hid (a∧b∧c∧d):=⟨a',⟨b',⟨c',d'⟩⟩⟩
theorem hd5 {a b c d e:Prop}(a':a)(b':b)(c':c)(d':d)(e':e):Hid (a∧b∧c∧d∧e):=⟨a',⟨b',⟨c',⟨d',e'⟩⟩⟩⟩
theorem hd6 {a b c d e f:Prop}(a':a)(b':b)(c':c)(d':d)(e':e)(f':f):Hid (a∧b∧c∧d∧e∧f):=⟨a',⟨b',⟨c',⟨d',⟨e',f'⟩⟩⟩⟩⟩
theorem hd7 {a b c d e f g:Prop}(a':a)(b':b)(c':c)(d':d)(e':e)(f':f)(g':g):Hid (a∧b∧c∧d∧e∧f∧g):=⟨a',⟨b',⟨c',⟨d',⟨e',⟨f',g'⟩⟩⟩⟩⟩⟩
theorem hd8 {a b c d e f g h:Prop}(a':a)(b':b)(c':c)(d':d)(e':e)(f':f)(g':g)(h':h):Hid (a∧b∧c∧d∧e∧f∧g∧h):=⟨a',⟨b',⟨c',⟨d',⟨e',⟨f',⟨g',h'⟩⟩⟩⟩⟩⟩⟩
theorem hd9 {a b c d e f g h i:Prop}(a':a)(b':b)(c':c)(d':d)(e':e)(f':f)(g':g)(h':h)(i':i):Hid (a∧b∧c∧d∧e∧f∧g∧h∧i):=⟨a',⟨b',⟨c',⟨d',⟨e',⟨f',⟨g',⟨h',i'⟩⟩⟩⟩⟩⟩⟩⟩
theorem hd10 {a b c d e f g h i j:Prop}(a':a)(b':b)(c':c)(d':d)(e':e)(f':f)(g':g)(h':h)(i':i)(j':j):Hid (a∧b∧c∧d∧e∧f∧g∧h∧i∧j):=⟨a',⟨b',⟨c',⟨d',⟨e',⟨f',⟨g',⟨h',⟨i',j'⟩⟩⟩⟩⟩⟩⟩⟩⟩
theorem hd11 {a b c d e f g h i j k:Prop}(a':a)(b':b)(c':c)(d':d)(e':e)(f':f)(g':g)(h':h)(i':i)(j':j)(k':k):Hid (a∧b∧c∧d∧e∧f∧g∧h∧i∧j∧k):=⟨a',⟨b',⟨c',⟨d',⟨e',⟨f',⟨g',⟨h',⟨i',⟨j',k'⟩⟩⟩⟩⟩⟩⟩⟩⟩⟩
theorem hd12 {a b c d e f g h i j k l:Prop}(a':a)(b':b)(c':c)(d':d)(e':e)(f':f)(g':g)(h':h)(i':i)(j':j)(k':k)(l':l):Hid (a∧b∧c∧d∧e∧f∧g∧h∧i∧j∧k∧l):=⟨a',⟨b',⟨c',⟨d',⟨e',⟨f',⟨g',⟨h',⟨i',⟨j',⟨k',l'⟩⟩⟩⟩⟩⟩⟩⟩⟩⟩⟩
theorem aa {p:Prop}(h:p:=by (repeat (first|exact Below.refl _ _|assumption|(refine Below.setCell ?_ (by first|omega|(simp;done)|(simp;omega)) _)|(refine Below.alloc ?_ (by first|omega|(simp;done)|(simp;omega)) _)|(refine ar ?_ _)|(refine Below.drew ?_)))):p:=h
theorem ab {p:Prop}(h:p:=by omega):p:=h
theorem ac {p:Prop}(h:p:=by decide +kernel):p:=h
theorem ag {p:Prop}(h:p:=by simp):p:=h
theorem ai {p:Prop}(h:p:=by simp;omega):p:=h
theorem aj {p:Prop}(h:p:=by decide):p:=h
theorem ak {p:Prop}(h:p:=by dsimp only;omega):p:=h
theorem al {p:Prop}(h:p:=by first|omega|(simp;done)|(simp;omega)):p:=h
theorem am {p:Prop}(h:p:=by first|(simp;done)|omega|(simp;omega)):p:=h
theorem an {p:Prop}(h:p:=by first|assumption|(simp only[World.cell?_drew];assumption)):p:=h
theorem ao {p:Prop}(h:p:=by kernel_rfl):p:=h
theorem aq {p:Prop}(h:p:=by rfl):p:=h
section
section
theorem jG (a:Addr) (n:Nat):(a.add n).block=a.block:=by unfold Addr.add;split<;>rfl
theorem lE (a:Addr) (i j:Nat):(a.add i).add j=a.add (i+j):=by
 unfold Addr.add
 by_cases hi:i=0<;>by_cases hj:j=0<;>simp[hi,hj,Nat.add_assoc]
def aF (w:World) (B size:Nat) (A:Option Addr) (n:Nat) (xs:List Value):Prop:=
 xs.length=n*size∧(0<n→∃ad,A=some ad∧ad.block<B∧∀j u,xs[j]? = some u→w.cell? (ad.add j)=some u)
section
variable {w w' : World} {B B' size n : Nat} {A : Option Addr} {xs : List Value}
theorem aF.none_:aF w B size A 0 []:=⟨ag,fun h=>absurd h ab⟩
theorem aF.at_ {k:Nat} (h:aF w B 1 A n xs) (hk:k<n):∃ad u,A=some ad∧ad.block<B∧xs[k]? = some u∧w.cell? (ad.add k)=some u:=by
 obtain⟨ad,e,hb,hc⟩:=h.2 ab;have hl:k<xs.length:=by have:=h.1;omega
 exact⟨ad,xs[k],e,hb,List.getElem?_eq_getElem hl,hc k _ (List.getElem?_eq_getElem hl)⟩
theorem aF.keep (h:aF w B size A n xs) (hk:∀p:Addr,p.block<B→w'.cell? p=w.cell? p):aF w' B size A n xs:=
 ⟨h.1,fun hn=>by
   obtain⟨ad,e,hb,hc⟩:=h.2 hn;exact⟨ad,e,hb,fun j u hu=>(hk _ (by rw[jG];exact hb)).trans (hc j u hu)⟩⟩
theorem aF.more (h:aF w B size A n xs) (hB:B≤B'):aF w B' size A n xs:=
 ⟨h.1,fun hn=>by
   obtain⟨ad,e,hb,hc⟩:=h.2 hn;exact⟨ad,e,ab,hc⟩⟩
theorem aF.below (h:aF w B size A n xs) (hb:Below B w w'):aF w' B size A n xs:=h.keep fun _ hp=>hb.cell hp
theorem aF.drewN (h:aF w B size A n xs) (k:Nat):aF (w.drewN k) B size A n xs:=h
theorem aF.alloc (h:aF w B size A n xs) (hB:B≤w.heap.size) (o:Obj):aF (w.alloc o) B size A n xs:=h.keep fun p hp=>World.cell?_alloc_lt w o p ab
theorem aF.cut (h:aF w B size A n xs) {k cap:Nat} (hk:k≤n) (hc:n≤cap) :
 aF w B size (if cap=k then A else A.map (·.add (k*size))) (n - k) (xs.drop (k*size)):=by
 refine⟨by rw[List.length_drop,h.1,Nat.sub_mul],fun hn=>?_⟩;obtain⟨ad,rfl,hb,hcell⟩:=h.2 ab;rw[if_neg ab];refine⟨ad.add (k*size),rfl,by rw[jG];exact hb,fun j u hu=>?_⟩;rw[lE];exact hcell _ u (by rw[←hu,List.getElem?_drop])
end
def bv (x:UInt8):Value:=.int .u8 (x.toNat:Int)
theorem jH (xs:List UInt8):∀u∈xs.map bv,u.oneCell'=true:=by
 intro u hu;obtain⟨_,_,rfl⟩:=List.mem_map.1 hu
 rfl
structure Rd (w:World) (B:Nat) (A:Option Addr) (n c:Nat) (xs:List UInt8):Prop where
 len:xs.length=n
 cap:n≤c
 capm:c≤9223372036854775807
 nil:A=none→c=0
 spot:0<c→∃b o,A=some ⟨b,o,none⟩∧b<B
 rds:aF w B 1 A n (xs.map bv)
def aJ (w:World) (B:Nat) (v:Value) (xs:List UInt8):Prop:=∃A n c,v=.slice A n c∧Rd w B A n c xs
section
variable {w w' : World} {B B' n c : Nat} {A : Option Addr} {xs : List UInt8} {v : Value}
theorem Rd.keep (h:Rd w B A n c xs) (hk:∀p:Addr,p.block<B→w'.cell? p=w.cell? p):Rd w' B A n c xs:=⟨h.len,h.cap,h.capm,h.nil,h.spot,h.rds.keep hk⟩
theorem Rd.more (h:Rd w B A n c xs) (hB:B≤B'):Rd w B' A n c xs:=
 ⟨h.len,h.cap,h.capm,h.nil,fun hc=>by obtain⟨b,o,e,hb⟩:=h.spot hc;exact⟨b,o,e,ab⟩,h.rds.more hB⟩
theorem Rd.below (h:Rd w B A n c xs) (hb:Below B w w'):Rd w' B A n c xs:=h.keep fun _ hp=>hb.cell hp
theorem Rd.drew (h:Rd w B A n c xs):Rd w.drew B A n c xs:=h.keep fun _ _=>rfl
theorem Rd.drewN (h:Rd w B A n c xs) (k:Nat):Rd (w.drewN k) B A n c xs:=h.keep fun _ _=>rfl
theorem Rd.alloc (h:Rd w B A n c xs) (hB:B≤w.heap.size) (o:Obj):Rd (w.alloc o) B A n c xs:=h.keep fun p hp=>World.cell?_alloc_lt w o p ab
theorem Rd.up (h:Rd w w.heap.size A n c xs) (hb:Below w.heap.size w w'):Rd w' w'.heap.size A n c xs:=(h.below hb).more hb.size
theorem Rd.none_:Rd w B none 0 0 []:=⟨rfl,Nat.le_refl _,ab,fun _=>rfl,fun h=>absurd h ab,aF.none_⟩
theorem Rd.at_ (h:Rd w B A n c xs) (hn:0<n):∃b o,A=some ⟨b,o,none⟩∧b<B∧∀j x,xs[j]? = some x→w.cell? ⟨b,o+j,none⟩=some (.int .u8 (x.toNat:Int)):=by
 have hc:=h.cap;obtain⟨b,o,rfl,hb⟩:=h.spot ab;obtain⟨ad,e,_,hcell⟩:=h.rds.2 hn;injection e with e
 subst e;refine⟨b,o,rfl,hb,fun j x hx=>?_⟩;have:=hcell j (bv x) (by simp[hx]);rw[Addr.add_lit]at this;exact this
theorem Rd.get {b o:Nat} (h:Rd w B (some ⟨b,o,none⟩) n c xs) {k:Nat} (hk:k<n):∃x,xs[k]? = some x∧w.cell? ⟨b,o+k,none⟩=some (.int .u8 (x.toNat:Int)):=by
 obtain⟨b',o',e,_,hc⟩:=h.at_ ab;injection e with e
 injection e with e1 e2
 subst e1 e2;have hl:k<xs.length:=by have:=h.len;omega
 exact⟨xs[k],List.getElem?_eq_getElem hl,hc k _ (List.getElem?_eq_getElem hl)⟩
theorem Rd.cut (h:Rd w B A n c xs) {lo hi:Nat} (h1:lo≤hi) (h2:hi≤n):Rd w B (if c=lo then A else A.map (·.add lo)) (hi - lo) (c - lo) ((xs.take hi).drop lo):=by
 have hc:=h.cap;have hl:=h.len;have hm:=h.capm;refine⟨ai,ab,ab,fun hA=>?_,fun h0=>?_,?_⟩
 ·by_cases e:c=lo
  ·omega
  ·rw[if_neg e]at hA
   have:=h.nil (by cases A<;>simp_all);omega
 ·obtain⟨b,o,rfl,hb⟩:=h.spot ab
  rw[if_neg ab];exact⟨b,o+lo,by simp[Addr.add_lit],hb⟩
 ·refine⟨ai,fun h0=>?_⟩
  obtain⟨b,o,rfl,hb,hcell⟩:=h.at_ ab;rw[if_neg ab];refine⟨⟨b,o+lo,none⟩,by simp[Addr.add_lit],hb,fun j u hu=>?_⟩;rw[Addr.add_lit];simp only[List.map_drop,List.map_take,List.getElem?_drop,List.getElem?_take,List.getElem?_map]at hu
  split at hu
  ·cases hx:xs[lo+j]? with
   | none=>simp[hx]at hu
   | some x=>
    simp[hx]at hu;subst hu;have:=hcell (lo+j) x hx;rw[←Nat.add_assoc]at this;exact this
  ·cases hu
theorem aJ.mk (h:Rd w B A n c xs):aJ w B (.slice A n c) xs:=⟨A,n,c,rfl,h⟩
theorem aJ.keep (h:aJ w B v xs) (hk:∀p:Addr,p.block<B→w'.cell? p=w.cell? p):aJ w' B v xs:=by obtain⟨A,n,c,e,h⟩:=h;exact⟨A,n,c,e,h.keep hk⟩
theorem aJ.more (h:aJ w B v xs) (hB:B≤B'):aJ w B' v xs:=by obtain⟨A,n,c,e,h⟩:=h;exact⟨A,n,c,e,h.more hB⟩
theorem aJ.below (h:aJ w B v xs) (hb:Below B w w'):aJ w' B v xs:=h.keep fun _ hp=>hb.cell hp
end
section
variable {P : Program} (w : World)
theorem gj (base:Nat) (t ty e:TypeId) (i:TypeInfo) (size:Nat) (ht:P.underlying t=some (.slice e)) (hi:P.info? e=some i)
 (v:Value) (n:Nat) (xs:List Value) (hown:w.ownsRow base e size v n xs) (c:Nat):(Builtin.append_ #[t,t] ty #[v,.slice none 0 c]).run P w=.ok v w:=by
 rcases hown.2 with⟨rfl,rfl⟩|⟨g,cap,cur,rfl,_,_,hnc,_⟩
 ·simp[Builtin.append_,run_underlying ht,sizeOf,typeInfo,hi,Builtin.lenOf,Builtin.firstCells]
 ·simp[Builtin.append_,run_underlying ht,sizeOf,typeInfo,hi,Builtin.lenOf,Builtin.firstCells,hnc,storeCells]
theorem iP (base:Nat) (t ty e:TypeId) (i:TypeInfo) (z:Value) (size bytes:Nat) (ht:P.underlying t=some (.slice e)) (hi:P.info? e=some i) (hz:i.zero=some z)
 (hsize:i.size=size) (hby:i.bytes=bytes) (hzs:z.cells.size=size) (hsz:0<size)
 (v:Value) (n:Nat) (xs:List Value) (hown:w.ownsRow base e size v n xs)
 (B:Nat) (A:Option Addr) (m c:Nat) (news:List Value) (hr:aF w B size A m news) (h1:∀u∈news,u.oneCell'=true)
 (h63:n+m≤maxLen) (hbytes:(n+m)*bytes≤140737488355328) (hbase:base≤w.heap.size) :
 ∃v' w',(Builtin.append_ #[t,t] ty #[v,.slice A m c]).run P w=.ok v' w'∧w'.ownsRow base e size v' (n+m) (xs++news)∧w.grownBy w' v.ownBlock∧
  (v'.ownBlock=v.ownBlock∨v'.ownBlock=some w.heap.size):=by
 rcases A with _|ad
 ·have hm:m=0:=by
   rcases Nat.eq_zero_or_pos m with h0|h0
   ·exact h0
   ·obtain⟨ad,h,_⟩:=hr.2 h0
    cases h
  subst hm;have hn:news=[]:=List.eq_nil_of_length_eq_zero (by simpa using hr.1);subst hn;exact⟨v,w,gj w base t ty e i size ht hi v n xs hown c,by simpa using hown,World.grownBy.refl w _,.inl rfl⟩
 ·have qc:∀j u,news[j]? = some u→w.cell? (ad.add j)=some u:=by
   intro j u hu;rcases Nat.eq_zero_or_pos m with h0|h0
   ·subst h0
    have hn:news=[]:=List.eq_nil_of_length_eq_zero (by simpa using hr.1);subst hn;simp at hu
   ·obtain⟨ad',h,_,hc⟩:=hr.2 h0
    injection h with h
    subst h;exact hc j u hu
  obtain⟨v',w',hrun,h2,h3,_,h5⟩:=run_append_own_at (P:=P) w base t ty e i z size bytes ht hi hz hsize hby hzs hsz v n xs hown ad m c news hr.1 qc h1 h63 hbytes hbase;exact⟨v',w',hrun,h2,h3,h5⟩
theorem jy {o:Oper} {a:Act} {K:Act→World→Prop} {Q:Exit→Act→World→Prop} (s x:Operand) (t:TypeId)
 (ho:o.op=.call {callee:=.builtin .append,args:=#[s,x],argTypes:=#[t,t]})
 (base:Nat) (e:TypeId) (i:TypeInfo) (z:Value) (size bytes:Nat) (ht:P.underlying t=some (.slice e)) (hi:P.info? e=some i) (hz:i.zero=some z)
 (hsize:i.size=size) (hby:i.bytes=bytes) (hzs:z.cells.size=size) (hsz:0<size)
 (v:Value) (n:Nat) (xs:List Value) (hs:a.eval s=v) (hown:w.ownsRow base e size v n xs)
 (B:Nat) (A:Option Addr) (m c:Nat) (news:List Value) (hx:a.eval x=.slice A m c) (hr:aF w B size A m news) (h1:∀u∈news,u.oneCell'=true)
 (h63:n+m≤maxLen) (hbytes:(n+m)*bytes≤140737488355328) (hbase:base≤w.heap.size)
 (h:∀v' w',w'.ownsRow base e size v' (n+m) (xs++news)→w.grownBy w' v.ownBlock→(v'.ownBlock=v.ownBlock∨v'.ownBlock=some w.heap.size)→K (a.put o.dst v') w'):o.wp P a w K Q:=by
 obtain⟨v',w',hrun,h2,h3,h4⟩:=iP (P:=P) w base t o.type e i z size bytes ht hi hz hsize hby hzs hsz v n xs hown B A m c news hr h1 h63 hbytes hbase;unfold Oper.wp execOp;simp only[ho,resolve,invoke,builtin,Sem.run_bind,Sem.run_pure,Result.andThen_ok,List.map_toArray,List.map_cons,List.map_nil,hs,hx,hrun];exact h v' w' h2 h3 h4
theorem eg {ops:Array Oper} {rest:List Oper} {o:Oper} {a:Act} {Q:Exit→Act→World→Prop} (hgd:o.guard=none) (s x:Operand) (t:TypeId)
 (ho:o.op=.call {callee:=.builtin .append,args:=#[s,x],argTypes:=#[t,t]})
 (base:Nat) (e:TypeId) (i:TypeInfo) (z:Value) (size bytes:Nat) (ht:P.underlying t=some (.slice e)) (hi:P.info? e=some i) (hz:i.zero=some z)
 (hsize:i.size=size) (hby:i.bytes=bytes) (hzs:z.cells.size=size) (hsz:0<size)
 (v:Value) (n:Nat) (xs:List Value) (hs:a.eval s=v) (hown:w.ownsRow base e size v n xs)
 (B:Nat) (A:Option Addr) (m c:Nat) (news:List Value) (hx:a.eval x=.slice A m c) (hr:aF w B size A m news) (h1:∀u∈news,u.oneCell'=true)
 (h63:n+m≤maxLen) (hbytes:(n+m)*bytes≤140737488355328) (hbase:base≤w.heap.size)
 (h:∀v' w',w'.ownsRow base e size v' (n+m) (xs++news)→w.grownBy w' v.ownBlock→(v'.ownBlock=v.ownBlock∨v'.ownBlock=some w.heap.size)→wpList P ops Q rest (a.put o.dst v') w'):wpList P ops Q (o::rest) a w:=
 wpList_plain hgd fun _ hK=>jy w s x t ho base e i z size bytes ht hi hz hsize hby hzs hsz v n xs hs hown B A m c news hx hr h1 h63 hbytes hbase fun v' w' h2 h3 h4=>hK _ _ (h v' w' h2 h3 h4)
theorem ir {ops:Array Oper} {o:Oper} {a:Act} {K:Act→World→Prop} {Q:Exit→Act→World→Prop} {E:Prop} (hgd:o.guard=none) (s x:Operand) (t:TypeId)
 (ho:o.op=.call {callee:=.builtin .append,args:=#[s,x],argTypes:=#[t,t]})
 (base:Nat) (e:TypeId) (i:TypeInfo) (z:Value) (size bytes:Nat) (ht:P.underlying t=some (.slice e)) (hi:P.info? e=some i) (hz:i.zero=some z)
 (hsize:i.size=size) (hby:i.bytes=bytes) (hzs:z.cells.size=size) (hsz:0<size)
 (v:Value) (n:Nat) (xs:List Value) (hs:a.eval s=v) (hown:w.ownsRow base e size v n xs)
 (B:Nat) (A:Option Addr) (m c:Nat) (news:List Value) (hx:a.eval x=.slice A m c) (hr:aF w B size A m news) (h1:∀u∈news,u.oneCell'=true)
 (h63:n+m≤maxLen) (hbytes:(n+m)*bytes≤140737488355328) (hbase:base≤w.heap.size)
 (h:∀v' w',w'.ownsRow base e size v' (n+m) (xs++news)→w.grownBy w' v.ownBlock→(v'.ownBlock=v.ownBlock∨v'.ownBlock=some w.heap.size)→K (a.put o.dst v') w') :
 if Region.wanted o (yielded ops a.tmps)=true then Oper.wp P o a w K Q else E:=by
 have hw:Region.wanted o (yielded ops a.tmps)=true:=by simp[Region.wanted,hgd]
 rw[if_pos hw];exact jy w s x t ho base e i z size bytes ht hi hz hsize hby hzs hsz v n xs hs hown B A m c news hx hr h1 h63 hbytes hbase h
end
theorem aF.one (w:World) (t:TypeId) (u:Value):aF (w.alloc (.cells #[u] t)) (w.heap.size+1) 1 (some ⟨w.heap.size,0,none⟩) 1 [u]:=by
 refine⟨rfl,fun _=>⟨_,rfl,ag,fun j x hx=>?_⟩⟩;rw[Addr.add_lit];have hj:j=0:=by
  have:=(List.getElem?_eq_some_iff.1 hx).1;simp at this;omega
 subst hj;simp at hx;subst hx;rw[World.cell?_alloc_at _ _ _ _ rfl]
 rfl
theorem ar {B:Nat} {a w:World} (h:Below B a w) (n:Nat):Below B a (w.drewN n):=⟨h.os,h.tape,h.output,h.size,h.block⟩
def az (w:World) (lo hi:Nat) (v:Value) (xs:List UInt8):Prop:=
 w.ownsRow lo 5 1 v xs.length (xs.map bv)∧∀k,v.ownBlock=some k→k<hi
section
variable {w w' : World} {lo hi lo' hi' B : Nat} {v : Value} {xs : List UInt8}
theorem az.of {n:Nat} (h:w.ownsRow lo 5 1 v n (xs.map bv)):az w lo w.heap.size v xs:=by
 have hn:n=xs.length:=by have:=h.1;simp at this;omega
 subst hn;exact⟨h,fun k hk=>(h.lt k hk).2⟩
theorem az.nil_:az w lo hi (.slice none 0 0) []:=⟨World.ownsRow_nil _ _ _ _,fun k hk=>by simp[Value.ownBlock]at hk⟩
theorem az.mono (h:az w lo hi v xs) (h1:lo'≤lo) (h2:hi≤hi'):az w lo' hi' v xs:=by
 refine⟨⟨h.1.1,?_⟩,fun k hk=>Nat.lt_of_lt_of_le (h.2 k hk) h2⟩;rcases h.1.2 with e|⟨g,cap,cur,e,hb,r⟩
 ·exact .inl e
 ·exact .inr ⟨g,cap,cur,e,ab,r⟩
theorem az.keep (h:az w lo hi v xs) (hk:∀k,lo≤k→k<hi→w'.heap[k]? = w.heap[k]?):az w' lo hi v xs:=by
 refine⟨⟨h.1.1,?_⟩,h.2⟩;rcases h.1.2 with e|⟨g,cap,cur,rfl,hb,hg,r⟩
 ·exact .inl e
 ·exact .inr ⟨g,cap,cur,rfl,hb,(hk g hb (h.2 g rfl)).trans hg,r⟩
theorem az.below (h:az w lo hi v xs) (hb:Below B w w') (hB:hi≤B):az w' lo hi v xs:=h.keep fun k _ hk=>hb.block k ab
theorem az.drewN (h:az w lo hi v xs) (n:Nat):az (w.drewN n) lo hi v xs:=h.keep fun _ _ _=>rfl
theorem az.alloc (h:az w lo hi v xs) (hB:hi≤w.heap.size) (o:Obj):az (w.alloc o) lo hi v xs:=h.keep fun k _ hk=>Below.heap_alloc w o k ab
theorem az.setCell (h:az w lo hi v xs) {p:Addr} (hp:p.block<lo∨hi≤p.block) (u:Value):az (w.setCell p u) lo hi v xs:=h.keep fun k h1 hk=>Below.heap_setCell w p u k ab
theorem az.rd (h:az w lo hi v xs):aJ w hi v xs:=by
 rcases h.1.2 with⟨rfl,hn⟩|⟨g,cap,cur,rfl,hb,hg,hnc,hcm,hcs,htake⟩
 ·have:xs=[]:=List.eq_nil_of_length_eq_zero hn
  subst this;exact aJ.mk Rd.none_
 ·have qc:=h.2 g rfl
  refine aJ.mk ⟨rfl,hnc,by simpa [maxLen]using hcm,(fun e=>by cases e),fun _=>⟨g,0,rfl,qc⟩,ag,fun _=>⟨_,rfl,qc,fun j u hu=>?_⟩⟩;exact h.1.cells (g:=g) rfl j u hu
end
def aw (w:World) (g:Nat) (t:TypeId) (cs:Array Value):Prop:=w.heap[g]? = some (.cells cs t (0,0))
section
variable {w w' : World} {g : Nat} {t : TypeId} {cs : Array Value}
theorem aw.lt (h:aw w g t cs):g<w.heap.size:=by
 rcases Nat.lt_or_ge g w.heap.size with hlt|hge
 ·exact hlt
 ·unfold aw at h;rw[Array.getElem?_eq_none hge]at h;cases h
theorem aw.cell (h:aw w g t cs) (i:Nat):w.cell? ⟨g,i,none⟩=cs[i]?:=cell_of_row w g i cs t (0,0) h
theorem aw.frozen (h:aw w g t cs) (i:Nat):w.frozen? ⟨g,i,none⟩=false:=by
 unfold aw at h;simp[World.frozen?,h]
theorem aw.new (w:World) (t:TypeId) (cs:Array Value):aw (w.alloc (.cells cs t)) w.heap.size t cs:=heap_alloc_new w _
theorem aw.drew (h:aw w g t cs):aw w.drew g t cs:=h
theorem aw.alloc (h:aw w g t cs) (o:Obj):aw (w.alloc o) g t cs:=(Below.heap_alloc w o g h.lt).trans h
theorem aw.set_ (h:aw w g t cs) (i:Nat) (u:Value):aw (w.setCell ⟨g,i,none⟩ u) g t (cs.setIfInBounds i u):=by
 unfold aw at h ⊢;simp[World.setCell,Array.getElem?_modify,h]
theorem aw.far (h:aw w g t cs) {p:Addr} (hp:g≠p.block) (u:Value):aw (w.setCell p u) g t cs:=(Below.heap_setCell w p u g hp).trans h
theorem aw.below {B:Nat} (h:aw w g t cs) (hb:Below B w w') (hg:g<B):aw w' g t cs:=(hb.block g hg).trans h
theorem aw.grown {row:Option Nat} (h:aw w g t cs) (hb:w.grownBy w' row) (hg:some g≠row):aw w' g t cs:=(hb.block g h.lt hg).trans h
theorem aw.ne_ {g':Nat} {t':TypeId} {cs':Array Value} (h:aw w g t cs) (h':aw w g' t' cs') (hne:t≠t'):g≠g':=by
 rintro rfl;unfold aw at h h';rw[h]at h';injection h' with h'
 injection h' with _ ht
 exact hne ht
end
theorem aw.box {B:Nat} {w w':World} {g:Nat} {t:TypeId} {cs:Array Value} (h:aw w g t cs) (hb:Below B w w') (hg:g<B) :
 (∀o,w'.cell? ⟨g,o,none⟩=cs[o]?)∧(∀o,w'.frozen? ⟨g,o,none⟩=false)∧aw w' g t cs∧g<w'.heap.size:=by
 have h':=h.below hb hg;exact⟨h'.cell,h'.frozen,h',h'.lt⟩
theorem aw.facts {w:World} {g:Nat} {t:TypeId} {cs:Array Value} (h:aw w g t cs):(∀o,w.cell? ⟨g,o,none⟩=cs[o]?)∧(∀o,w.frozen? ⟨g,o,none⟩=false):=⟨h.cell,h.frozen⟩
def bN (w:World):Nat→Nat→List (Value×List UInt8)→Prop
 | lo,hi,[]=>lo≤hi
 | lo,hi,(v,xs)::r=>∃mid,lo≤mid∧az w lo mid v xs∧bN w mid hi r
section
variable {w w' : World} {B : Nat}
theorem bN.le:∀{l:List (Value×List UInt8)} {lo hi:Nat},bN w lo hi l→lo≤hi
 | [],_,_,h=>h
 | (_,_)::_,_,_,⟨_,h1,_,h2⟩=>Nat.le_trans h1 (bN.le h2)
theorem bN.keep:∀{l:List (Value×List UInt8)} {lo hi:Nat},bN w lo hi l→(∀k,lo≤k→k<hi→w'.heap[k]? = w.heap[k]?)→bN w' lo hi l
 | [],_,_,h,_=>h
 | (_,_)::_,_,_,⟨mid,h1,h2,h3⟩,hk=>
  ⟨mid,h1,h2.keep fun k a b=>hk k a (Nat.lt_of_lt_of_le b (bN.le h3)),bN.keep h3 fun k a b=>hk k (Nat.le_trans h1 a) b⟩
theorem bN.below {l:List (Value×List UInt8)} {lo hi:Nat} (h:bN w lo hi l) (hb:Below B w w') (hB:hi≤B):bN w' lo hi l:=h.keep fun k _ hk=>hb.block k ab
theorem bN.alloc {l:List (Value×List UInt8)} {lo hi:Nat} (h:bN w lo hi l) (hB:hi≤w.heap.size) (o:Obj):bN (w.alloc o) lo hi l:=h.keep fun k _ hk=>Below.heap_alloc w o k ab
theorem bN.setCell {l:List (Value×List UInt8)} {lo hi:Nat} (h:bN w lo hi l) {p:Addr} (hp:p.block<lo∨hi≤p.block) (u:Value):bN (w.setCell p u) lo hi l:=h.keep fun k h1 hk=>Below.heap_setCell w p u k ab
theorem bN.mono:∀{l:List (Value×List UInt8)} {lo lo' hi hi':Nat},bN w lo hi l→lo'≤lo→hi≤hi'→bN w lo' hi' l
 | [],_,_,_,_,h,h1,h2=>by have h':_≤_:=h;exact Nat.le_trans h1 (Nat.le_trans h' h2)
 | (_,_)::_,_,_,_,_,⟨mid,h1,h2,h3⟩,h4,h5=>⟨mid,Nat.le_trans h4 h1,h2.mono h4 nl_,bN.mono h3 nl_ h5⟩
theorem bN.one {lo hi:Nat} {v:Value} {xs:List UInt8} (h:az w lo hi v xs) (hl:lo≤hi):bN w lo hi [(v,xs)]:=⟨hi,hl,h,Nat.le_refl _⟩
theorem bN.append:∀{l l':List (Value×List UInt8)} {lo mid hi:Nat},bN w lo mid l→bN w mid hi l'→bN w lo hi (l++l')
 | [],_,_,_,_,h,h'=>h'.mono h nl_
 | (_,_)::_,_,_,_,_,⟨m,h1,h2,h3⟩,h'=>⟨m,h1,h2,bN.append h3 h'⟩
theorem bN.rd:∀{l:List (Value×List UInt8)} {lo hi:Nat},bN w lo hi l→∀{v:Value} {xs:List UInt8},(v,xs)∈l→az w lo hi v xs
 | (_,_)::_,_,_,⟨mid,h1,h2,h3⟩,v,xs,hm=>by
  rcases List.mem_cons.1 hm with e|hm
  ·injection e with e1 e2
   subst e1 e2;exact h2.mono nl_ (bN.le h3)
  ·exact(bN.rd h3 hm).mono h1 nl_
end
end
section
set_option maxRecDepth 100000
def bJ (ops:Array Oper) (a:Act) (i:Nat):Value:=match (ops[i]?).bind (·.dst) with
 | some d=>a.eval (.tmp d)
 | none=>undef
def bp (ops:Array Oper) (n:Nat):Bool:=
 (List.range ops.size).all fun i=>match (ops[i]?).bind (·.dst) with
  | none=>true
  | some d=>decide (d<n)&&(List.range ops.size).all fun j=>decide (j=i)||decide ((ops[j]?).bind (·.dst)≠some d)
def mS (ops:Array Oper):Bool:=ops.all fun o=>o.guard.isNone
structure Mk (a0:Act) (ops:Array Oper) (J:Nat→Value→World→Prop) (G:World→Prop) (listed:Array Bool) (a:Act) (w:World):Prop where
 len:listed.size=ops.size
 size:a.tmps.size=a0.tmps.size
 defers:a.defers=a0.defers
 frame:∀t,((List.range ops.size).all fun i=>decide ((ops[i]?).bind (·.dst)≠some t))=true→a.eval (.tmp t)=a0.eval (.tmp t)
 marks:∀i,i<ops.size→listed.getD i false=true→J i (bJ ops a i) w
 world:G w
theorem oM {ops:Array Oper} {a:Act} {i:Nat} {o:Oper} {v:Value} (ho:ops[i]? = some o) (hd:∀d,o.dst=some d→d<a.tmps.size) (hn:o.dst=none→v=undef):bJ ops (a.put o.dst v) i=v:=by
 unfold bJ;rw[ho];simp only[Option.bind_some]
 cases h:o.dst with
 | none=>exact(hn h).symm
 | some d=>exact Act.eval_put_same a d v (hd d h)
theorem qR {ops:Array Oper} {a:Act} {j:Nat} {o:Oper} {v:Value} (hd:∀d,o.dst=some d→(ops[j]?).bind (·.dst)≠some d):bJ ops (a.put o.dst v) j=bJ ops a j:=by
 unfold bJ
 cases h:o.dst with
 | none=>rfl
 | some d=>
  cases hj:(ops[j]?).bind (·.dst) with
  | none=>rfl
  | some e=>exact Act.eval_put_ne a d e v (fun e'=>hd d h (by rw[hj,e']))
variable {P : Program} {ops : Array Oper} {Q : Exit → Act → World → Prop} {a0 : Act} {J : Nat → Value → World → Prop} {G : World → Prop} {R : World → World → Prop}
def iU (P:Program) (ops:Array Oper) (Q:Exit→Act→World→Prop) (a0:Act) (J:Nat→Value→World→Prop) (G:World→Prop) (R:World→World→Prop) (i:Nat) (o:Oper):Prop:=
 ∀a w,(∀t,((List.range ops.size).all fun i=>decide ((ops[i]?).bind (·.dst)≠some t))=true→a.eval (.tmp t)=a0.eval (.tmp t))→G w→
  (∀j,(o.after.any fun e=>Region.binds .any e&&decide (e.on=j)&&decide (j<ops.size))=true→J j (bJ ops a j) w)→
  o.wp P a w (fun a' w'=>∃v,a'=a.put o.dst v∧(o.dst=none→v=undef)∧J i v w'∧R w w') Q
def eE (ops:Array Oper):Bool:=
 (List.range ops.size).all fun i=>match ops[i]? with
  | none=>true
  | some o=>o.after.all fun e=>!Region.binds .any e||decide (e.on<i)
theorem dK {listed:Array Bool} {i:Nat} {o:Oper} (ho:ops[i]? = some o):i∈Region.ready .any ops listed↔listed.getD i true=false∧∀e∈o.after,Region.binds .any e=true→listed.getD e.on false=true:=by
 have hi:i<ops.size:=(Array.getElem?_eq_some_iff.1 ho).1;unfold Region.ready;simp only[List.mem_filter,List.mem_range,hi,true_and,ho,Option.map_some,Option.getD_some,Bool.and_eq_true,Bool.not_eq_true',Array.all_eq_true_iff_forall_mem,Bool.or_eq_true]
 constructor
 ·rintro⟨h1,h2⟩
  refine⟨h1,fun e he hb=>?_⟩;rcases h2 e he with h|h
  ·rw[hb]at h;cases h
  ·exact h
 ·rintro⟨h1,h2⟩
  refine⟨h1,fun e he=>?_⟩
  cases hb:Region.binds .any e with
  | false=>exact .inl rfl
  | true=>exact .inr (h2 e he hb)
theorem gn (hA:eE ops=true) {listed:Array Bool} (hl:listed.size=ops.size) (hr:Region.ready .any ops listed=[]):∀n i,i≤n→i<ops.size→listed.getD i false=true:=by
 intro n
 induction n with
 | zero=>
  intro i h0 hi;obtain rfl:i=0:=ab
  obtain⟨o,ho⟩:∃o,ops[0]? = some o:=⟨_,Array.getElem?_eq_getElem hi⟩
  cases hb:listed.getD 0 true with
  | true=>simpa [Array.getD,hl,hi]using hb
  | false=>
   have:0∈Region.ready .any ops listed:=(dK ho).2 ⟨hb,fun e he hb=>by
    have:=List.all_eq_true.1 hA 0 (by simpa using hi);rw[ho]at this;have:=Array.all_eq_true_iff_forall_mem.1 this e he;rw[hb]at this;simp at this⟩
   rw[hr]at this
   cases this
 | succ n ih=>
  intro i h0 hi;obtain⟨o,ho⟩:∃o,ops[i]? = some o:=⟨_,Array.getElem?_eq_getElem hi⟩
  cases hb:listed.getD i true with
  | true=>simpa [Array.getD,hl,hi]using hb
  | false=>
   have:i∈Region.ready .any ops listed:=(dK ho).2 ⟨hb,fun e he hb=>by
    have:=List.all_eq_true.1 hA i (by simpa using hi);rw[ho]at this;have:=Array.all_eq_true_iff_forall_mem.1 this e he;rw[hb]at this;simp at this;exact ih e.on ab ab⟩
   rw[hr]at this
   cases this
theorem Mk.step {listed:Array Bool} {a:Act} {w w':World} {i:Nat} {o:Oper} {v:Value} (hmono:∀i v w w',R w w'→J i v w→J i v w') (hGR:∀w w',G w→R w w'→G w') (hd:bp ops a0.tmps.size=true)
 (h:Mk a0 ops J G listed a w) (ho:ops[i]? = some o) (hv:o.dst=none→v=undef) (hJ:J i v w') (hR:R w w'):Mk a0 ops J G (listed.setIfInBounds i true) (a.put o.dst v) w':=by
 have hi:i<ops.size:=(Array.getElem?_eq_some_iff.1 ho).1;have qc:=List.all_eq_true.1 hd i (by simpa using hi);rw[ho]at qc;simp only[Option.bind_some]at qc;have qh:∀d,o.dst=some d→d<a.tmps.size:=fun d e=>by
  rw[e]at qc;simp only[Bool.and_eq_true,decide_eq_true_eq]at qc;rw[h.size];exact qc.1
 have qk:∀j,j<ops.size→j≠i→∀d,o.dst=some d→(ops[j]?).bind (·.dst)≠some d:=fun j hj hji d e=>by
  rw[e]at qc;simp only[Bool.and_eq_true,decide_eq_true_eq,List.all_eq_true,List.mem_range,Bool.or_eq_true]at qc;exact(qc.2 j hj).resolve_left hji
 refine⟨by simpa using h.len,by rw[Act.size_put,h.size],by rw[Act.defers_put',h.defers],fun t ht=>?_,fun j hj hlj=>?_,hGR _ _ h.world hR⟩
 ·rw[←h.frame t ht]
  cases e:o.dst with
  | none=>rfl
  | some d=>
   have:=List.all_eq_true.1 ht i (by simpa using hi);rw[ho]at this;simp only[Option.bind_some,e,decide_eq_true_eq]at this;exact Act.eval_put_ne a d t v (fun e'=>this (by rw[e']))
 ·have qd:∀(l:Array Bool),(l.getD j false=true)=((l[j]?.getD false)=true):=fun l=>by rw[Array.getD_eq_getD_getElem?]
  by_cases hji:j=i
  ·subst hji
   rw[oM ho qh hv];exact hJ
  ·rw[qR (qk j hj hji)]
   have qg:listed.getD j false=true:=by
    rw[qd]at hlj ⊢
    rwa [Array.getElem?_setIfInBounds_ne (i:=i) (j:=j) (fun e=>hji e.symm)]at hlj
   exact hmono j _ w w' hR (h.marks j hj qg)
theorem qW (hmono:∀i v w w',R w w'→J i v w→J i v w') (hGR:∀w w',G w→R w w'→G w') (hd:bp ops a0.tmps.size=true) (hg:mS ops=true) (hA:eE ops=true)
 (hstep:∀i o,ops[i]? = some o→iU P ops Q a0 J G R i o)
 (hdone:∀a w,a.defers=a0.defers→a.tmps.size=a0.tmps.size→(∀t,((List.range ops.size).all fun i=>decide ((ops[i]?).bind (·.dst)≠some t))=true→a.eval (.tmp t)=a0.eval (.tmp t))→G w→(∀i,i<ops.size→J i (bJ ops a i) w)→Q .normal a w) :
 ∀(fuel:Nat) (listed:Array Bool) (a:Act) (w:World),listed.toList.count false≤fuel→Mk a0 ops J G listed a w→wpAny P .any ops Q fuel listed a w:=by
 have fin:∀(listed:Array Bool) (a:Act) (w:World),Mk a0 ops J G listed a w→Region.ready .any ops listed=[]→Q .normal a w:=fun listed a w h hr=>
  hdone a w h.defers h.size h.frame h.world fun i hi=>h.marks i hi (gn hA h.len hr i i nl_ hi)
 intro fuel
 induction fuel with
 | zero=>
  intro listed a w hc h;have hr:Region.ready .any ops listed=[]:=by
   refine List.eq_nil_iff_forall_not_mem.2 fun i hi=>?_
   have qc:i<ops.size:=by
    have:=(List.mem_filter.1 hi).1
    simpa using this
   have:=((dK (Array.getElem?_eq_getElem qc)).1 hi).1;have qd:i<listed.size:=by rw[h.len];exact qc
   have hf:false∈listed.toList:=by
    simp only[Array.getD,qd,dite_true]at this;rw[←this];simp
   have:=List.count_pos_iff.2 hf;omega
  exact⟨hr,fin _ _ _ h hr⟩
 | succ fuel ih=>
  intro listed a w hc h;refine⟨fin _ _ _ h,fun i hi=>?_⟩;have qc:i<ops.size:=by
   have:=(List.mem_filter.1 hi).1
   simpa using this
  have ho:ops[i]? = some ops[i]:=Array.getElem?_eq_getElem qc;have hr:=(dK ho).1 hi;have qd:i<listed.size:=by rw[h.len];exact qc
  have qg:listed[i]=false:=by simpa [Array.getD,qd]using hr.1
  unfold wpOp;rw[ho];simp only;have qh:(ops[i]).guard=none:=by
   have:=Array.all_eq_true_iff_forall_mem.1 hg ops[i] (Array.getElem_mem qc)
   simpa using this
  rw[if_pos (by simp[Region.wanted,qh])];refine .inl (Oper.wp_mono ?_ (hstep i _ ho a w h.frame h.world fun j hj=>?_))
  ·rintro a' w' ⟨v,rfl,hv,hJ,hR⟩
   refine ih _ _ _ ?_ (h.step hmono hGR hd ho hv hJ hR);rw[Array.toList_setIfInBounds,List.count_set (by simpa using qd)];simp only[Array.getElem_toList,qg];have:0<listed.toList.count false:=List.count_pos_iff.2 (by rw[←qg];simp);simp only[show(false==false)=true from rfl,show(true==false)=false from rfl,if_true,Bool.false_eq_true,if_false];omega
  ·obtain⟨e,he,hb⟩:=Array.any_eq_true'.1 hj
   simp only[Bool.and_eq_true,decide_eq_true_eq]at hb;obtain⟨⟨hb1,rfl⟩,hb2⟩:=hb;exact h.marks _ hb2 (hr.2 e he hb1)
theorem mC {id:Nat} {w0:World} (hm:P.follows .mixedOrders=true) (hmono:∀i v w w',R w w'→J i v w→J i v w') (hGR:∀w w',G w→R w w'→G w') (hd:bp ops a0.tmps.size=true) (hg:mS ops=true) (hA:eE ops=true)
 (hG0:G w0.drew) (hstep:∀i o,ops[i]? = some o→iU P ops Q a0 J G R i o)
 (hdone:∀a w,a.defers=a0.defers→a.tmps.size=a0.tmps.size→(∀t,((List.range ops.size).all fun i=>decide ((ops[i]?).bind (·.dst)≠some t))=true→a.eval (.tmp t)=a0.eval (.tmp t))→G w→(∀i,i<ops.size→J i (bJ ops a i) w)→Q .normal a w) :
 (Code.region id ops true).wp P Q a0 w0:=by
 refine wp_region_any hm (qW hmono hGR hd hg hA hstep hdone _ _ _ _ ?_ ⟨ag,rfl,rfl,fun t _=>rfl,fun i hi h=>?_,hG0⟩)
 ·simp
 ·simp[Array.getD,hi]at h
def gC (P:Program) (ops:Array Oper) (Q:Exit→Act→World→Prop) (a0:Act) (J:Nat→Value→World→Prop) (G:World→Prop) (R:World→World→Prop):List Oper→Nat→Prop
 | [],_=>True
 | o::l,k=>iU P ops Q a0 J G R k o∧gC P ops Q a0 J G R l (k+1)
theorem gC.get:∀{l:List Oper} {k:Nat},gC P ops Q a0 J G R l k→∀i o,l[i]? = some o→iU P ops Q a0 J G R (k+i) o
 | [],_,_,i,o,h=>by simp at h
 | x::l,k,h,0,o,ho=>by
  simp only[List.getElem?_cons_zero,Option.some.injEq]at ho;subst ho;exact h.1
 | x::l,k,h,i+1,o,ho=>by
  have:=gC.get h.2 i o (by simpa using ho)
  rwa [show k+1+i=k+(i+1) by omega]at this
theorem lq {id:Nat} {w0:World} (J:Nat→Value→World→Prop) (G:World→Prop) (R:World→World→Prop) (hm:P.follows .mixedOrders=true) (hmono:∀i v w w',R w w'→J i v w→J i v w') (hGR:∀w w',G w→R w w'→G w') (hd:bp ops a0.tmps.size=true) (hg:mS ops=true) (hA:eE ops=true)
 (hG0:G w0.drew) (hstep:gC P ops Q a0 J G R ops.toList 0)
 (hdone:∀a w,a.defers=a0.defers→a.tmps.size=a0.tmps.size→(∀t,((List.range ops.size).all fun i=>decide ((ops[i]?).bind (·.dst)≠some t))=true→a.eval (.tmp t)=a0.eval (.tmp t))→G w→(∀i,i<ops.size→J i (bJ ops a i) w)→Q .normal a w) :
 (Code.region id ops true).wp P Q a0 w0:=
 mC hm hmono hGR hd hg hA hG0 (fun i o ho=>by
  have:=gC.get hstep i o (by simpa using ho)
  rwa [Nat.zero_add]at this) hdone
end
section
theorem nS (a:Nat) (ha:a<9223372036854775808):(BitVec.ofInt 64 (a:Int)).toNat=a:=by
 rw[BitVec.ofInt_natCast,BitVec.toNat_ofNat];exact Nat.mod_eq_of_lt ab
theorem lN (a b:Nat) (ha:a<9223372036854775808) (hb:b<9223372036854775808):bits .or .i64 (a:Int) (b:Int)=((a||| b:Nat):Int):=by
 have hx:a||| b<2 ^ 63:=Nat.or_lt_two_pow ab ab
 show IntKind.i64.wrap ((BitVec.ofInt 64 (a:Int)||| BitVec.ofInt 64 (b:Int)).toNat:Int)=_;rw[BitVec.toNat_or,nS a ha,nS b hb,IntKind.wrap_i64];omega
theorem zx (a x:Nat) (ha:a<36028797018963968) (hx:x<256):bits .or .i64 ((a:Int)*256) (x:Int)=((a*256+x:Nat):Int):=by
 rw[show(a:Int)*256=((a*256:Nat):Int) from by omega,lN _ _ ab ab]
 congr 1
 rw[Nat.mul_comm,show 256=2 ^ 8 from rfl,←Nat.two_pow_add_eq_or_of_lt ab]
theorem AZ (x:UInt8):bits .and .u8 (x.toNat:Int) 127=((x.toNat % 128:Nat):Int):=by
 rw[show(127:Int)=((127:Nat):Int) from rfl,u8_and_nat _ _ x.toNat_lt ab];rw[show(127:Nat)=2 ^ 7 - 1 from rfl,Nat.and_two_pow_sub_one_eq_mod]
theorem ip (a:Nat) (ha:a<18446744073709551616):(BitVec.ofInt 64 (a:Int)).toNat=a:=by
 rw[BitVec.ofInt_natCast,BitVec.toNat_ofNat];exact Nat.mod_eq_of_lt ab
theorem mA (a b:Nat) (ha:a<18446744073709551616) (hb:b<18446744073709551616):bits .or .u64 (a:Int) (b:Int)=((a||| b:Nat):Int):=by
 have hx:a||| b<2 ^ 64:=Nat.or_lt_two_pow ab ab
 show IntKind.u64.wrap ((BitVec.ofInt 64 (a:Int)||| BitVec.ofInt 64 (b:Int)).toNat:Int)=_;rw[BitVec.toNat_or,ip a ha,ip b hb];simp only[IntKind.wrap,IntKind.bits,IntKind.signed];simp;omega
theorem z9 (a x:Nat) (ha:a<144115188075855872) (hx:x<128):bits .or .u64 ((a:Int)*128) (x:Int)=((a*128+x:Nat):Int):=by
 rw[show(a:Int)*128=((a*128:Nat):Int) from by omega,mA _ _ ab ab]
 congr 1
 rw[Nat.mul_comm,show 128=2 ^ 7 from rfl,←Nat.two_pow_add_eq_or_of_lt ab]
theorem i8 (x:UInt8):bits .and .u8 (x.toNat:Int) 31=((x.toNat % 32:Nat):Int):=by
 rw[show(31:Int)=((31:Nat):Int) from rfl,u8_and_nat _ _ x.toNat_lt ab];rw[show(31:Nat)=2 ^ 5 - 1 from rfl,Nat.and_two_pow_sub_one_eq_mod]
theorem df {α:Type} {l:List α} {k:Nat} {x:α} (h:l[k]? = some x):l.take (k+1)=l.take k++[x]:=by
 rw[List.take_add_one,h];rfl
theorem gd {α:Type} {l:List α} {a m k:Nat} {x:α} (hk:k<m) (h:l[a+k]? = some x):((l.drop a).take m)[k]? = some x:=by
 rw[List.getElem?_take,if_pos hk,List.getElem?_drop,h]
end
section
set_option maxRecDepth 100000
theorem eG:(Tryz.prog.info? 5).map (fun i=>(i.zero,i.size,i.bytes))=some (some (.int .u8 0),1,1):=by kernel_rfl
theorem aP {w:World} {ops:Array Oper} {rest:List Oper} {o:Oper} {a:Act} {Q:Exit→Act→World→Prop} (hgd:o.guard=none) (s x:Operand)
 (ho:o.op=.call {callee:=.builtin .append,args:=#[s,x],argTypes:=#[22,22]})
 (lo hi:Nat) (v:Value) (xs:List UInt8) (hs:a.eval s=v) (hown:az w lo hi v xs) (hlo:lo≤w.heap.size)
 (B:Nat) (A:Option Addr) (m c:Nat) (news:List UInt8) (hx:a.eval x=.slice A m c) (hr:aF w B 1 A m (news.map bv)) (hlen:xs.length+m≤35184372088832)
 (h:∀v' w',az w' lo w'.heap.size v' (xs++news)→w.grownBy w' v.ownBlock→(v'.ownBlock=v.ownBlock∨v'.ownBlock=some w.heap.size)→Below lo w w'→wpList Tryz.prog ops Q rest (a.put o.dst v') w') :
 wpList Tryz.prog ops Q (o::rest) a w:=by
 obtain⟨i0,hi0,hz0,hz1,hz2⟩:=info_parts eG;have hm:news.length=m:=by have:=hr.1;simp at this;omega
 refine eg w hgd s x 22 ho lo 5 i0 _ 1 1 Tryz.underlying22 hi0 hz0 hz1 hz2 rfl ab v xs.length (xs.map bv) hs hown.1 B A m c (news.map bv) hx hr (jH news) (by simp only[maxLen];omega) ab hlo ?_;intro v' w' h1 h2 h3;exact h v' w' (az.of (by rw[List.map_append];exact h1)) h2 h3 (br_.grown h2 hlo fun k hk=>(hown.1.lt k hk).1)
def aO (xs:List UInt8) (w:World) (e:Ending) (w':World):Prop:=
 ∃A n c,e=.returned (.slice A n c)∧az w' w.heap.size w'.heap.size (.slice A n c) xs∧Below w.heap.size w w'
theorem cE {xs:List UInt8} {w w':World} {v:Value} (h:az w' w.heap.size w'.heap.size v xs) (hb:Below w.heap.size w w'):aO xs w (.returned v) w':=by
 obtain⟨A,n,c,rfl,_⟩:=h.rd;exact⟨A,n,c,rfl,h,hb⟩
theorem dM (A:Option Addr) (n c:Nat) (xs:List UInt8) (w:World) (h:Rd w w.heap.size A n c xs) (hn:n≤1099511627776) :
 Calls Tryz.prog 43 #[.slice A n c] w (aO xs w):=by
 obtain⟨i0,hi0,hz0,hz1,hz2⟩:=info_parts eG;have hr:=h.rds;have hl:=h.len
 go_enter Tryz.func43,Tryz.ntmps43
 go_wp2_with
  (at_builtin
   refine eg _ rfl (.tmp 4) (.tmp 5) _ rfl w.heap.size 5 i0 _ 1 1 Tryz.underlying22 hi0 hz0 hz1 hz2 rfl ab (.slice none 0 0) 0 [] rfl
    ⟨ag,.inl ⟨rfl,rfl⟩⟩ w.heap.size A n c (xs.map bv) rfl hr (jH xs) (by simp only[maxLen];omega) ab nl_ ?_
   intro v1 w1 hown1 hg1 hat1;have qc:Below w.heap.size w w1:=br_.grown hg1 nl_ (by simp[Value.ownBlock]))
 go_ret
 exact cE (az.of (by simpa using hown1)) qc
theorem vz (n c:Nat) (w:World) (hn:n=0) :
 Calls Tryz.prog 73 #[.slice none n c] w (aO [] w):=by
 subst hn;have qc:=fun W=>Lib.run_eql_slice_nil (P:=Tryz.prog) W 22 5 none 0 c 0 0 Tryz.underlying22
 go_enter Tryz.func73,Tryz.ntmps73
 go_wp2
 go_ret
 exact cE az.nil_ br_
theorem cu (A:Option Addr) (n c:Nat) (xs:List UInt8) (w:World) (h:Rd w w.heap.size A n c xs) (hn:n≤1099511627776) :
 Calls Tryz.prog 73 #[.slice A n c] w (aO xs w):=by
 obtain⟨i0,hi0,hz0,hz1,hz2⟩:=info_parts eG;have hl:=h.len;rcases A with _|ad
 ·have hc:=h.cap
  have:=h.nil rfl;obtain rfl:xs=[]:=List.eq_nil_of_length_eq_zero ab;exact vz n c w ab
 have qd:=fun W=>Lib.run_eql_slice_nil (P:=Tryz.prog) W 22 5 (some ad) n c 0 0 Tryz.underlying22
 have hr:=(h.alloc nl_ (.cells #[] 5)).rds;have hz:=World.ownsRow_made (e:=5) (size:=1) w #[] 0 (base:=w.heap.size) nl_ ag ag
 go_enter Tryz.func73,Tryz.ntmps73
 go_wp2_with
  (at_builtin
   refine eg _ rfl (.tmp 5) (.tmp 6) _ rfl w.heap.size 5 i0 _ 1 1 Tryz.underlying22 hi0 hz0 hz1 hz2 rfl ab (.slice (some ⟨w.heap.size,0,none⟩) 0 0) 0 [] rfl
    hz w.heap.size (some ad) n c (xs.map bv) rfl hr (jH xs) (by simp only[maxLen];omega) ab ag ?_
   intro v1 w1 hown1 hg1 hat1;have qc:Below w.heap.size w w1:=(br_.alloc nl_ _).grown hg1 ag (by simp[Value.ownBlock]))
 go_ret
 exact cE (az.of (by simpa using hown1)) qc
theorem rV {w:World} {B n c:Nat} {A:Option Addr} {xs:List UInt8} (h:Rd w B A n c xs) (lo hi:Nat) (l r:Int) (hl:l=lo) (hr:r=hi) (h1:lo≤hi) (h2:hi≤n) :
 ∃A1,Rd w B A1 (hi - lo) (c - lo) ((xs.take hi).drop lo)∧(∀W,(Instr.sliceAt 22 (.slice A n c) (some (.int .i64 l)) (some (.int .i64 r)) none).run Tryz.prog W=.ok (.slice A1 (hi - lo) (c - lo)) W)∧
  ∀W,(Instr.slice 22 (.slice A n c) (some (.int .i64 l)) (some (.int .i64 r)) none).run Tryz.prog W=.ok (.slice A1 (hi - lo) (c - lo)) W:=by
 have hc:=h.cap;refine⟨_,h.cut h1 h2,fun W=>?_,fun W=>?_⟩<;>subst hl hr<;>simp[go_sem,Tryz.underlying22,show(lo:Int)≤hi by omega,show(hi:Int)≤c by omega]
theorem cQ {w:World} {B n c:Nat} {A:Option Addr} {xs:List UInt8} (h:Rd w B A n c xs) (lo:Nat) (l:Int) (hl:l=lo) (h1:lo≤n) :
 ∃A1,Rd w B A1 (n - lo) (c - lo) (xs.drop lo)∧(∀W,(Instr.sliceAt 22 (.slice A n c) (some (.int .i64 l)) none none).run Tryz.prog W=.ok (.slice A1 (n - lo) (c - lo)) W)∧
  ∀W,(Instr.slice 22 (.slice A n c) (some (.int .i64 l)) none none).run Tryz.prog W=.ok (.slice A1 (n - lo) (c - lo)) W:=by
 have hc:=h.cap;have hx:=h.cut h1 (Nat.le_refl n);rw[List.take_of_length_le (by have:=h.len;omega)]at hx;refine⟨_,hx,fun W=>?_,fun W=>?_⟩<;>subst hl<;>simp[go_sem,Tryz.underlying22,show(lo:Int)≤n by omega]
theorem Rd.upto {w:World} {B n c:Nat} {A:Option Addr} {xs:List UInt8} (h:Rd w B A n c xs) (hi:Nat) (h2:hi≤n) :
 Rd w B A hi c (xs.take hi):=by
 have hc:=h.cap;have hx:=h.cut (Nat.zero_le hi) h2;rw[List.drop_zero]at hx
 by_cases e:c=0
 ·subst e;simpa using hx
 ·rw[if_neg e]at hx
  have:A.map (·.add 0)=A:=by cases A<;>simp[Addr.add]
  rw[this]at hx
  simpa using hx
theorem BR (xs:List UInt8):strOfNums (xs.map fun x=>(x.toNat:Int))=⟨xs.toArray⟩:=by
 simp[strOfNums,Function.comp_def]
theorem dp {w:World} {B n c:Nat} {A:Option Addr} {xs:List UInt8} (h:Rd w B A n c xs) :
 ∀dst,Tryz.prog.underlying dst=some .string→(convert 22 dst (.slice A n c)).run Tryz.prog w=.ok (.string ⟨xs.toArray⟩) w:=by
 intro dst hd;have hl:=h.len;rcases Nat.eq_zero_or_pos n with h0|h0
 ·subst h0
  obtain rfl:xs=[]:=List.eq_nil_of_length_eq_zero hl;rcases A with _|⟨b,o,s⟩
  ·exact run_convert_bytes_nil w 22 5 Tryz.underlying22 Tryz.underlying5 0 c dst hd
  ·rw[run_convert_bytes_string w 22 dst 5 _ 0 c Tryz.underlying22 Tryz.underlying5 hd,run_bytesToString w _ 0 c [] (by simp[loadCells,loadCellsFrom])]
   rfl
 ·obtain⟨b,o,rfl,_,hc⟩:=h.at_ h0
  rw[run_convert_bytes_arg w 22 5 Tryz.underlying22 Tryz.underlying5 b o n c (xs.map fun x=>(x.toNat:Int)) (by simpa using hl) (fun i hi=>by
   have hx:xs[i]? = some (xs[i]' ab):=List.getElem?_eq_getElem ab;rw[hc i _ hx];simp[hx]) dst hd,BR]
def Bi (xs ys:List UInt8):Bool:=xs==ys
theorem qA (A A':Option Addr) (n c n' c':Nat) (xs ys:List UInt8) (B B':Nat) (w:World) (h:Rd w B A n c xs) (h':Rd w B' A' n' c' ys) :
 Calls Tryz.prog 23 #[.slice A n c,.slice A' n' c'] w fun e w'=>e=.returned (.bool (Bi xs ys))∧w'=w:=by
 have k1:=dp h 9 Tryz.underlying9;have k2:=dp h' 9 Tryz.underlying9;clear h h'
 go_enter Tryz.func23,Tryz.ntmps23
 go_wp2
 go_ret
 exact⟨rfl,rfl⟩
def marks (k:Nat):List UInt8:=(List.range k).map fun i=>UInt8.ofNat (201+i)
theorem xQ (xs:List UInt8):Bi xs xs=true:=by simp[Bi]
end
section
def aI (e:TypeId) (size:Nat) (w:World) (lo hi:Nat) (v:Value) (n:Nat) (cs:List Value):Prop:=
 w.ownsRow lo e size v n cs∧∀k,v.ownBlock=some k→k<hi
section
variable {e : TypeId} {size n : Nat} {w w' : World} {lo hi lo' hi' B : Nat} {v : Value} {cs : List Value}
theorem aI.of (h:w.ownsRow lo e size v n cs):aI e size w lo w.heap.size v n cs:=⟨h,fun k hk=>(h.lt k hk).2⟩
theorem aI.nil_:aI e size w lo hi (.slice none 0 0) 0 []:=⟨World.ownsRow_nil _ _ _ _,fun k hk=>by simp[Value.ownBlock]at hk⟩
theorem aI.mono (h:aI e size w lo hi v n cs) (h1:lo'≤lo) (h2:hi≤hi'):aI e size w lo' hi' v n cs:=by
 refine⟨⟨h.1.1,?_⟩,fun k hk=>Nat.lt_of_lt_of_le (h.2 k hk) h2⟩;rcases h.1.2 with e|⟨g,cap,cur,e,hb,r⟩
 ·exact .inl e
 ·exact .inr ⟨g,cap,cur,e,ab,r⟩
theorem aI.keep (h:aI e size w lo hi v n cs) (hk:∀k,lo≤k→k<hi→w'.heap[k]? = w.heap[k]?):aI e size w' lo hi v n cs:=by
 refine⟨⟨h.1.1,?_⟩,h.2⟩;rcases h.1.2 with e|⟨g,cap,cur,rfl,hb,hg,r⟩
 ·exact .inl e
 ·exact .inr ⟨g,cap,cur,rfl,hb,(hk g hb (h.2 g rfl)).trans hg,r⟩
theorem aI.below (h:aI e size w lo hi v n cs) (hb:Below B w w') (hB:hi≤B):aI e size w' lo hi v n cs:=h.keep fun k _ hk=>hb.block k ab
theorem aI.alloc (h:aI e size w lo hi v n cs) (hB:hi≤w.heap.size) (o:Obj):aI e size (w.alloc o) lo hi v n cs:=h.keep fun k _ hk=>Below.heap_alloc w o k ab
theorem aI.setCell (h:aI e size w lo hi v n cs) {p:Addr} (hp:p.block<lo∨hi≤p.block) (u:Value):aI e size (w.setCell p u) lo hi v n cs:=h.keep fun k h1 hk=>Below.heap_setCell w p u k ab
theorem aI.shape (h:aI e size w lo hi v n cs):∃A c,v=.slice A n c∧n≤c∧c≤9223372036854775807∧(A=none→c=0)∧aF w hi size A n cs:=by
 rcases h.1.2 with⟨rfl,rfl⟩|⟨g,cap,cur,rfl,hb,hg,hnc,hcm,hcs,htake⟩
 ·exact⟨none,0,rfl,Nat.le_refl _,ab,fun _=>rfl,h.1.1,fun h=>absurd h ab⟩
 ·exact⟨_,cap,rfl,hnc,by simpa [maxLen]using hcm,(fun e=>by cases e),h.1.1,fun _=>⟨_,rfl,h.2 g rfl,fun j u hu=>h.1.cells (g:=g) rfl j u hu⟩⟩
end
theorem bn {P:Program} {w:World} {ops:Array Oper} {rest:List Oper} {o:Oper} {a:Act} {Q:Exit→Act→World→Prop} (hgd:o.guard=none) (s x:Operand) (t:TypeId)
 (ho:o.op=.call {callee:=.builtin .append,args:=#[s,x],argTypes:=#[t,t]})
 (e:TypeId) (z:Value) (size bytes:Nat) (hinfo:(P.info? e).map (fun i=>(i.zero,i.size,i.bytes))=some (some z,size,bytes)) (ht:P.underlying t=some (.slice e)) (hzs:z.cells.size=size) (hsz:0<size)
 (lo hi:Nat) (v:Value) (n:Nat) (xs:List Value) (hs:a.eval s=v) (hown:aI e size w lo hi v n xs) (hlo:lo≤w.heap.size)
 (B:Nat) (A:Option Addr) (m c:Nat) (news:List Value) (hx:a.eval x=.slice A m c) (hr:aF w B size A m news) (h1:∀u∈news,u.oneCell'=true) (h63:n+m≤9223372036854775807) (hlen:(n+m)*bytes≤140737488355328)
 (h:∀v' w',aI e size w' lo w'.heap.size v' (n+m) (xs++news)→w.grownBy w' v.ownBlock→(v'.ownBlock=v.ownBlock∨v'.ownBlock=some w.heap.size)→Below lo w w'→wpList P ops Q rest (a.put o.dst v') w') :
 wpList P ops Q (o::rest) a w:=by
 obtain⟨i0,hi0,hz0,hz1,hz2⟩:=info_parts hinfo;refine eg w hgd s x t ho lo e i0 z size bytes ht hi0 hz0 hz1 hz2 hzs hsz v n xs hs hown.1 B A m c news hx hr h1 (by simp only[maxLen];omega) hlen hlo ?_;intro v' w' g1 g2 g3;exact h v' w' (aI.of g1) g2 g3 (br_.grown g2 hlo fun k hk=>(hown.1.lt k hk).1)
theorem gk {P:Program} {w w':World} {ops:Array Oper} {rest:List Oper} {o:Oper} {a:Act} {Q:Exit→Act→World→Prop} (hgd:o.guard=none) (s x:Operand) (t t':TypeId)
 (ho:o.op=.call {callee:=.builtin .append,args:=#[s,x],argTypes:=#[t,t']}) (v u r:Value) (hs:a.eval s=v) (hx:a.eval x=u)
 (hrun:(Builtin.append_ #[t,t'] o.type #[v,u]).run P w=.ok r w') (h:wpList P ops Q rest (a.put o.dst r) w'):wpList P ops Q (o::rest) a w:=
 wpList_plain hgd fun _ hK=>by
  unfold Oper.wp execOp;simp only[ho,resolve,invoke,builtin,Sem.run_bind,Sem.run_pure,Result.andThen_ok,List.map_toArray,List.map_cons,List.map_nil,hs,hx,hrun];exact hK _ _ h
structure dn (w:World) (B:Nat) (A:Option Addr) (n c:Nat) (l:List (Value×List UInt8)):Prop where
 len:l.length=n
 cap:n≤c
 capm:c≤9223372036854775807
 rds:aF w B 1 A n (l.map (·.1))
 each:∀v xs,(v,xs)∈l→aJ w B v xs
section
variable {w w' : World} {B B' n c : Nat} {A : Option Addr} {l : List (Value × List UInt8)}
theorem dn.keep (h:dn w B A n c l) (hk:∀p:Addr,p.block<B→w'.cell? p=w.cell? p):dn w' B A n c l:=⟨h.len,h.cap,h.capm,h.rds.keep hk,fun v xs hm=>(h.each v xs hm).keep hk⟩
theorem dn.below (h:dn w B A n c l) (hb:Below B w w'):dn w' B A n c l:=h.keep fun _ hp=>hb.cell hp
theorem dn.more (h:dn w B A n c l) (hB:B≤B'):dn w B' A n c l:=⟨h.len,h.cap,h.capm,h.rds.more hB,fun v xs hm=>(h.each v xs hm).more hB⟩
theorem dn.up (h:dn w w.heap.size A n c l) (hb:Below w.heap.size w w'):dn w' w'.heap.size A n c l:=(h.below hb).more hb.size
theorem dn.get (h:dn w B A n c l) {k:Nat} (hk:k<n):∃b o A' n' c' xs,A=some ⟨b,o,none⟩∧b<B∧l[k]? = some (.slice A' n' c',xs)∧w.cell? ⟨b,o+k,none⟩=some (.slice A' n' c')∧Rd w B A' n' c' xs:=by
 obtain⟨ad,u,rfl,hb,hx,hc⟩:=h.rds.at_ hk;have hl:k<l.length:=by have:=h.len;omega
 have he:l[k]? = some l[k]:=List.getElem?_eq_getElem hl;obtain⟨A',n',c',e,hr⟩:=h.each l[k].1 l[k].2 (List.getElem_mem hl);have hu:u=l[k].1:=by simpa [he]using hx.symm
 obtain⟨ad0,u0,e0,_,_,hc0⟩:=h.rds.at_ (k:=0) ab;injection e0 with e0
 subst e0;obtain⟨b,o,s⟩:=ad;obtain rfl:s=none:=by simpa [Addr.add]using World.cell?_spot hc0
 rw[Addr.add_lit]at hc;exact⟨b,o,A',n',c',l[k].2,rfl,hb,by rw[he,←e],by rw[hc,hu,e],hr⟩
end
def aZ (l:List (Value×List UInt8)):List UInt8:=(l.map (·.2)).flatten
theorem fa {l:List (Value×List UInt8)} {k:Nat} {v:Value} {xs:List UInt8} (h:l[k]? = some (v,xs)):aZ (l.take (k+1))=aZ (l.take k)++xs:=by
 rw[List.take_add_one,h];simp[aZ]
theorem sP (a b:List (Value×List UInt8)):aZ (a++b)=aZ a++aZ b:=by simp[aZ]
theorem eU (l:List (Value×List UInt8)) (k:Nat):(aZ (l.take k)).length≤(aZ l).length:=by
 have h:=sP (l.take k) (l.drop k);rw[List.take_append_drop]at h;rw[h,List.length_append];omega
end
section
set_option maxRecDepth 100000
theorem az.lit (w:World) (xs:List UInt8) (cs:List Value) (n:Nat) (hc:cs=xs.map bv) (hl:xs.length=n) (hn:n≤1099511627776) :
 az (w.alloc (.cells cs.toArray 5)) w.heap.size (w.heap.size+1) (.slice (some ⟨w.heap.size,0,none⟩) n n) xs:=by
 subst hc hl;refine⟨⟨ag,.inr ⟨w.heap.size,_,_,rfl,Nat.le_refl _,heap_alloc_new w _,Nat.le_refl _,by simp only[maxLen];omega,ag,by simp only[Nat.mul_one];rw[List.take_of_length_le ag]⟩⟩,fun k hk=>by simp[Value.ownBlock]at hk;omega⟩
theorem az.kept {w w':World} {lo hi:Nat} {v v0:Value} {xs:List UInt8} (h:az w lo hi v xs) (hg:w.grownBy w' v0.ownBlock) (hh:hi≤w.heap.size) (hn:∀k,v0.ownBlock=some k→k<lo∨hi≤k):az w' lo hi v xs:=
 h.keep fun k h1 h2=>hg.block k ab (fun e=>by have:=hn k e.symm;omega)
theorem aV (w:World) (t:TypeId) (cs:List Value) (g:Nat) (hg:g=w.heap.size):aF (w.alloc (.cells cs.toArray t)) (w.alloc (.cells cs.toArray t)).heap.size 1 (some ⟨g,0,none⟩) cs.length cs:=by
 subst hg;refine⟨ag,fun _=>⟨_,rfl,ag,fun j x hx=>?_⟩⟩;rw[Addr.add_lit,World.cell?_alloc_at _ _ _ _ rfl]
 simpa using hx
theorem Rd.lit (w:World) (t:TypeId) (xs:List UInt8) (cs:List Value) (g n:Nat) (hg:g=w.heap.size) (hc:cs=xs.map bv) (hl:xs.length=n) (hn:n≤1099511627776) :
 Rd (w.alloc (.cells cs.toArray t)) (w.alloc (.cells cs.toArray t)).heap.size (some ⟨g,0,none⟩) n n xs:=by
 subst hc hl;refine⟨rfl,Nat.le_refl _,ab,fun e=>(by cases e),fun _=>⟨_,0,rfl,by subst hg;simp⟩,?_⟩;have:=aV w t (xs.map bv) g hg
 rwa [List.length_map]at this
theorem dn.lit (w:World) (t:TypeId) (l:List (Value×List UInt8)) (cs:List Value) (g n:Nat) (hg:g=w.heap.size) (hc:cs=l.map (·.1)) (hl:l.length=n) (hn:n≤1099511627776) (h:∀v xs,(v,xs)∈l→aJ w w.heap.size v xs) :
 dn (w.alloc (.cells cs.toArray t)) (w.alloc (.cells cs.toArray t)).heap.size (some ⟨g,0,none⟩) n n l:=by
 subst hc hl;refine⟨rfl,Nat.le_refl _,ab,?_,fun v xs hm=>?_⟩
 ·have:=aV w t (l.map (·.1)) g hg
  rwa [List.length_map]at this
 ·obtain⟨A,n,c,e,hr⟩:=h v xs hm
  exact⟨A,n,c,e,(hr.alloc nl_ _).more ag⟩
theorem jc {n:Nat} (h:n<256):bv (UInt8.ofNat n)=Value.int .u8 (n:Int):=by
 simp only[bv,UInt8.toNat_ofNat'];rw[Nat.mod_eq_of_lt ab]
theorem az.stored {w:World} {lo hi g n cap:Nat} {xs:List UInt8} (h:az w lo hi (.slice (some ⟨g,0,none⟩) n cap) xs) (hn:xs.length=n) (j:Nat) (x:UInt8) :
 az (w.setCell ⟨g,j,none⟩ (.int .u8 (x.toNat:Int))) lo hi (.slice (some ⟨g,0,none⟩) n cap) (xs.set j x):=by
 subst hn;have hs:=(h.1.stored j (bv x)).1;refine⟨?_,h.2⟩;rw[List.map_set,List.length_set];exact hs
theorem az.cellAt {w:World} {lo hi g n cap:Nat} {xs:List UInt8} (h:az w lo hi (.slice (some ⟨g,0,none⟩) n cap) xs) (hn:xs.length=n) {j:Nat} (hj:j<n) :
 ∃x,xs[j]? = some x∧w.cell? ⟨g,j,none⟩=some (.int .u8 (x.toNat:Int)):=by
 subst hn;refine⟨xs[j],List.getElem?_eq_getElem hj,?_⟩;rw[h.1.cellAt j ab];simp[bv,hj]
theorem bM {w wr:World} {g:Nat} (h:w.grownBy wr (some g)) (o:Nat) (u:Value):w.grownBy (wr.setCell ⟨g,o,none⟩ u) (some g):=
 ⟨h.os,h.tape,h.output,by simpa [World.setCell]using h.size,fun i hi hne=>(Below.heap_setCell wr _ u i (by rintro rfl;exact hne rfl)).trans (h.block i hi hne)⟩
theorem gf {w wr:World} {r:Option Nat} (h:w.grownBy wr r) (n:Nat):w.grownBy (wr.drewN n) r:=⟨h.os,h.tape,h.output,h.size,h.block⟩
def iG (l:List (Value×List UInt8)) (w:World) (k:Nat) (v:Value) (wr:World):Prop:=az wr w.heap.size wr.heap.size v (aZ (l.take k))∧Below w.heap.size w wr
end
section
set_option maxRecDepth 100000
set_option maxHeartbeats 1000000 in
theorem qF (A:Option Addr) (n c:Nat) (l:List (Value×List UInt8)) (w:World) (h:dn w w.heap.size A n c l) (hn:n≤1099511627776) (ht:(aZ l).length≤1099511627776) :
 Calls Tryz.prog 36 #[.slice A n c] w (aO (aZ l) w):=by
 have hl:=h.len;have qc:iG l w 0 (.slice none 0 0) w:=⟨by simpa [aZ]using az.nil_,Below.refl _ _⟩
 have qd:l.take n=l:=by rw[List.take_of_length_le ab]
 have HT:=hd1 qd;clear qd hl
 go_enter Tryz.func36,Tryz.ntmps36
 go_wp2
 go_loopw [3,4] (fun v i wr=>∃j:Nat,j≤n∧i=.int .i64 j∧iG l w j v wr) (fun _ i _=>n - (intOf i).toNat)
 case atStart=>exact⟨0,ab,rfl,qc⟩
 case round=>
  obtain⟨j,hj,rfl,ho,hb⟩:=hrel
  by_cases hlt:j<n
  ·have hu:=h.up hb
   obtain⟨b,o,A',n',c',xs,rfl,hbb,hx,hc,hr⟩:=hu.get hlt;have hs:=fa hx;have qh:=eU l (j+1);have qg:=hr.len;rw[hs,List.length_append,qg]at qh;have HS:=hd1 hs;have HO:=hd1 ho;have qk:(j:Int)<n:=ab
   have q0:=hb.size;have qs:=hr.rds;clear hs qg hx ho hr hu
   go_wp2_with
    (at_builtin
     refine aP rfl (.tmp 11) (.tmp 15) rfl w.heap.size wr.heap.size _ (aZ (l.take j)) rfl HO.out ab _ A' n' c' xs rfl qs ab ?_;intro v2 w2 ho2 hg2 hat2 hb2)
   go_roundw
   case rel=>exact⟨j+1,ab,by go_num,by rw[HS.out];exact ho2,hb.trans hb2⟩
   case measure=>simp[intOf];omega
  ·obtain rfl:j=n:=ab
   have HO:=hd1 ho;have qv:¬(j:Int)<j:=ab
   clear ho
   go_wp2
   go_ret
   exact cE (by have:=HO.out;rw[HT.out]at this;exact this) hb
end
section
namespace Der
def be (l:List UInt8):Nat:=l.foldl (fun a x=>a*256+x.toNat) 0
theorem be_snoc (l:List UInt8) (x:UInt8):be (l++[x])=be l*256+x.toNat:=by simp[be,List.foldl_append]
theorem be_lt (l:List UInt8):be l<256 ^ l.length:=by
 have key:∀(l:List UInt8) (a k:Nat),a<256 ^ k→l.foldl (fun a x=>a*256+x.toNat) a<256 ^ (k+l.length):=by
  intro l
  induction l with
  | nil=>intro a k h;simpa using h
  | cons x l ih=>
   intro a k h;have hx:=x.toNat_lt;have:=ih (a*256+x.toNat) (k+1) (by rw[Nat.pow_succ];omega);simp only[List.foldl_cons,List.length_cons];rw[show k+(l.length+1)=k+1+l.length from by omega];exact this
 simpa [be]using key l 0 0 ag
def lenOf:List UInt8→Option (Nat×Nat)
 | _::l::r=>
  if l.toNat<128 then some (2,l.toNat)
  else if l.toNat=128∨132<l.toNat∨r.length<l.toNat - 128∨r.headD 0=0 then none
  else if be (r.take (l.toNat - 128))<128 then none
  else some (2+(l.toNat - 128),be (r.take (l.toNat - 128)))
 | _=>none
def tagBad (xs:List UInt8):Bool:=(xs.headD 0).toNat % 32==31
def hdr (xs:List UInt8):Option (Nat×Nat):=if tagBad xs then none else lenOf xs
theorem lenOf_bd {xs:List UInt8} {f n:Nat} (h:lenOf xs=some (f,n)):2≤f∧f≤6∧f≤xs.length∧n<4294967296:=by
 match xs,h with
 | [],h=>cases h
 | [_],h=>cases h
 | t::l::r,h=>
  have hl:=l.toNat_lt;have hb:=be_lt (r.take (l.toNat - 128));have hk:(r.take (l.toNat - 128)).length≤4→256 ^ (r.take (l.toNat - 128)).length≤256 ^ 4:=fun h=>Nat.pow_le_pow_right ab h
  simp only[List.length_take]at hb hk;simp only[lenOf]at h
  by_cases h1:l.toNat<128
  ·rw[if_pos h1]at h
   simp only[Option.some.injEq,Prod.mk.injEq]at h;simp only[List.length_cons];omega
  ·rw[if_neg h1]at h
   by_cases h2:l.toNat=128∨132<l.toNat∨r.length<l.toNat - 128∨r.headD 0=0
   ·rw[if_pos h2]at h;cases h
   ·rw[if_neg h2]at h
    by_cases h3:be (r.take (l.toNat - 128))<128
    ·rw[if_pos h3]at h;cases h
    ·rw[if_neg h3]at h
     simp only[Option.some.injEq,Prod.mk.injEq]at h;simp only[List.length_cons];have:=hk ab;omega
def elem (xs:List UInt8):Option (UInt8×List UInt8×List UInt8×List UInt8):=
 match hdr xs with
 | some (f,n)=>if n≤xs.length - f then some (xs.headD 0,(xs.take (f+n)).drop f,xs.take (f+n),xs.drop (f+n)) else none
 | none=>none
end Der
end
section
namespace Der
def leB (n:Nat):List UInt8:=if n=0 then[] else UInt8.ofNat n::leB (n / 256)
termination_by n
decreasing_by omega
theorem leB_zero:leB 0=[]:=by rw[leB];rfl
theorem leB_pos {n:Nat} (h:0<n):leB n=UInt8.ofNat n::leB (n / 256):=by rw[leB,if_neg ab]
theorem leB_le:∀(k n:Nat),n<256 ^ k→(leB n).length≤k
 | 0,n,h=>by simp at h;subst h;rw[leB_zero];simp
 | k+1,n,h=>by
  rcases Nat.eq_zero_or_pos n with h0|h0
  ·subst h0;rw[leB_zero];simp
  ·rw[leB_pos h0,List.length_cons]
   have:=leB_le k (n / 256) (by rw[Nat.pow_succ]at h;omega);omega
def lenB (n:Nat):List UInt8:=if n<128 then[UInt8.ofNat n] else UInt8.ofNat (128+(leB n).length)::(leB n).reverse
def write (t:UInt8) (body:List UInt8):List UInt8:=t::lenB body.length++body
end Der
end
section
set_option maxRecDepth 100000
set_option maxHeartbeats 400000 in
theorem mV (t:UInt8) (A:Option Addr) (n c:Nat) (xs:List UInt8) (w:World) (h:Rd w w.heap.size A n c xs) (hn:n<128) :
 Calls Tryz.prog 30 #[.int .u8 (t.toNat:Int),.slice A n c] w (aO (Der.write t xs) w):=by
 have hl:=h.len;have qk:(n:Int)<128:=ab
 have qh:=az.lit w [t] [.int .u8 (t.toNat:Int)] 1 rfl rfl ab;have qd:aF ((w.alloc (.cells #[.int .u8 (t.toNat:Int)] 5)).alloc (.cells #[.int .u8 (n:Int)] 5)) ((w.alloc (.cells #[.int .u8 (t.toNat:Int)] 5)).alloc (.cells #[.int .u8 (n:Int)] 5)).heap.size 1 (some ⟨w.heap.size+1,0,none⟩) 1 ([UInt8.ofNat n].map bv):=by
  simp only[List.map_cons,List.map_nil];rw[jc ab];exact aV _ _ [.int .u8 (n:Int)] _ ag
 have HH:=hd3 qh qd h;have hw:Hid (Der.write t xs=[t]++[UInt8.ofNat n]++xs):=by simp[Hid,Der.write,Der.lenB,hl,hn]
 clear qh qd h
 go_enter Tryz.func30,Tryz.ntmps30
 go_wp2_with (first
  | (at_builtin
     refine aP rfl (.tmp 16) (.tmp 19) rfl w.heap.size (w.heap.size+1) _ [t] rfl (HH.1.alloc ag _) ai _ _ 1 1 [UInt8.ofNat n] rfl HH.2.1 ag ?_;intro v1 w1 ho1 hg1 hat1 hb1;have qc:Below w.heap.size w w1:=Below.trans aa hb1)
  | (at_builtin
     refine aP rfl (.tmp 21) (.tmp 22) rfl w.heap.size w1.heap.size v1 ([t]++[UInt8.ofNat n]) rfl ho1 qc.size _ A n c xs rfl (HH.2.2.up qc).rds ai ?_;intro v2 w2 ho2 hg2 hat2 hb2;have qg:Below w.heap.size w w2:=Below.trans qc hb2))
 go_ret
 exact cE (by rw[hw.out];exact ho2) qg
def nD (t:UInt8) (N:Nat) (w:World) (acc:List UInt8) (m:Nat) (v:Value) (wr:World):Prop:=
 acc++Der.leB m=Der.leB N∧az wr (w.heap.size+1) wr.heap.size v acc∧az wr w.heap.size (w.heap.size+1) (.slice (some ⟨w.heap.size,0,none⟩) 1 1) [t]∧Below w.heap.size w wr∧w.heap.size+1≤wr.heap.size
def nE (t:UInt8) (g n5 c5 H:Nat) (l:List UInt8) (w:World) (j:Nat) (v:Value) (wr:World):Prop:=
 az wr w.heap.size wr.heap.size v (t::UInt8.ofNat (128+n5)::l.reverse.take j)∧az wr (w.heap.size+1) H (.slice (some ⟨g,0,none⟩) n5 c5) l∧(∀k,v.ownBlock=some k→k<w.heap.size+1∨H≤k)∧
  Below w.heap.size w wr∧H≤wr.heap.size
set_option maxHeartbeats 1000000 in
theorem oH (t:UInt8) (A:Option Addr) (n c:Nat) (xs:List UInt8) (w:World) (h:Rd w w.heap.size A n c xs) (hn:128≤n) (hn2:n≤1099511627000) :
 Calls Tryz.prog 30 #[.int .u8 (t.toNat:Int),.slice A n c] w (aO (Der.write t xs) w):=by
 have hl:=h.len;have j1:¬(n:Int)<128:=ab
 have q2:=az.lit w [t] [.int .u8 (t.toNat:Int)] 1 rfl rfl ab;have qk:nD t n w [] n (.slice none 0 0) (w.alloc (.cells #[.int .u8 (t.toNat:Int)] 5)):=⟨rfl,az.nil_,q2,aa,ag⟩
 have HL:=hd1 hl;clear hl q2
 go_enter Tryz.func30,Tryz.ntmps30
 go_wp2
 go_loopw [7,8] (fun v i wr=>∃m acc,m≤n∧i=.int .i64 (m:Int)∧nD t n w acc m v wr) (fun _ i _=>(intOf i).toNat)
 case atStart=>exact⟨n,[],Nat.le_refl _,rfl,qk⟩
 case round=>
  obtain⟨m,acc,hm,rfl,hacc,ho,hout,hb,hsz⟩:=hrel
  by_cases hlt:0<m
  ·have q1:(0:Int)<m:=ab
   have e1:(Value.int .u8 ((m:Int) % 256))=bv (UInt8.ofNat m):=by
    simp only[bv,UInt8.toNat_ofNat']
    congr 1
   have qc:Hid (aF (wr.alloc (.cells #[.int .u8 ((m:Int) % 256)] 5)) (wr.heap.size+1) 1 (some ⟨wr.heap.size,0,none⟩) 1 ([UInt8.ofNat m].map bv)):=by
    rw[e1];exact aF.one wr 5 _
   have q9:acc.length≤8:=by
    have:=congrArg List.length hacc;rw[List.length_append]at this;have:=Der.leB_le 8 n ab;omega
   have qs:(acc++[UInt8.ofNat m])++Der.leB (m / 256)=Der.leB n:=by
    rw[List.append_assoc,←hacc,Der.leB_pos hlt];rfl
   have HS:=hd3 qs ho hout;clear e1 qs hacc ho hout
   go_wp2_with
    (at_builtin
     refine aP rfl (.tmp 29) (.tmp 33) rfl (w.heap.size+1) wr.heap.size _ acc rfl (HS.2.1.alloc nl_ _) ai _ _ 1 1 [UInt8.ofNat m] rfl qc.out ab ?_;intro v2 w2 ho2 hg2 hat2 hb2)
   go_roundw
   case rel=>exact⟨m / 256,acc++[UInt8.ofNat m],ab,by go_num,HS.1,ho2,(HS.2.2.alloc ab _).below hb2 nl_,(hb.alloc ab _).trans (hb2.mono ab),by have:=hb2.size;simp at this;omega⟩
   case measure=>simp[intOf];omega
  ·obtain rfl:m=0:=ab
   rw[Der.leB_zero,List.append_nil]at hacc;subst hacc;obtain⟨A5,n5,c5,rfl,hr5⟩:=ho.rd;have qv:=hr5.len;have q0:=Der.leB_le 8 n ab;have qh:=Der.leB_pos (n:=n) ab;have j0:n5≤8:=ab
   have q6:0<n5:=by rw[←qv,qh];simp
   obtain⟨g,cap,e,_,_⟩:=ho.1.form ab;injection e with ea en ec
   subst ea ec;have qc:aF (wr.alloc (.cells #[.int .u8 (128+(n5:Int))] 5)) (wr.heap.size+1) 1 (some ⟨wr.heap.size,0,none⟩) 1 ([UInt8.ofNat (128+n5)].map bv):=by
    have e1:(Value.int .u8 (128+(n5:Int)))=bv (UInt8.ofNat (128+n5)):=by rw[jc ab];rfl
    rw[e1];exact aF.one wr 5 _
   have HH:=hd4 ho qv hout qc;clear qv q0 ho hr5 hlt qh hout qc en
   go_wp2_with
    (at_builtin
     refine aP rfl (.tmp 35) (.tmp 40) rfl w.heap.size (w.heap.size+1) _ [t] rfl (HH.2.2.1.alloc ab _) ai _ _ 1 1 [UInt8.ofNat (128+n5)] rfl HH.2.2.2 ag ?_;intro v2 w2 ho2 hg2 hat2 hb2)
   have q3:=hg2.size;simp at q3;have qd:nE t g n5 c5 wr.heap.size (Der.leB n) w 0 v2 w2:=by
    refine⟨by simpa using ho2,(HH.1.alloc nl_ _).kept hg2 ag (fun k hk=>?_),fun k hk=>?_,(hb.alloc ab _).trans hb2,ab⟩
    ·have qg:w.heap.size=k:=Option.some.inj hk
     omega
    ·rcases hat2 with e|e<;>rw[e]at hk
     ·have qg:w.heap.size=k:=Option.some.inj hk
      omega
     ·have qg:=Option.some.inj hk
      simp at qg;omega
   clear ho2 hg2 hat2 hb2 q3;obtain⟨H,hH⟩:∃H,wr.heap.size=H:=⟨_,rfl⟩
   rw[hH]at qd;clear hH
   go_loopw [6,9] (fun v i wq=>∃r,r≤n5∧i=.int .i64 ((r:Int) - 1)∧nE t g n5 c5 H (Der.leB n) w (n5 - r) v wq) (fun _ i _=>(intOf i+1).toNat)
   case atStart=>exact⟨n5,Nat.le_refl _,rfl,by rw[Nat.sub_self];exact qd⟩
   case round=>
    obtain⟨r,hr,rfl,ho,hol,hne,hbq,hHq⟩:=hrel
    by_cases hlt:0<r
    ·have q1:(0:Int)≤(r:Int) - 1:=ab
     obtain⟨x,hx,hcx⟩:=hol.cellAt HH.2.1 (j:=r - 1) ab;have j2:(r:Int) - 1<n5:=ab
     have q4:=hbq.size;have qc:Hid (aF (wr.alloc (.cells #[.int .u8 (x.toNat:Int)] 5)) (wr.heap.size+1) 1 (some ⟨wr.heap.size,0,none⟩) 1 ([x].map bv)):=aF.one wr 5 _;have qs:t::UInt8.ofNat (128+n5)::(Der.leB n).reverse.take (n5 - (r - 1))=(t::UInt8.ofNat (128+n5)::(Der.leB n).reverse.take (n5 - r))++[x]:=by
      rw[show n5 - (r - 1)=n5 - r+1 from by omega,df (x:=x)]
      ·rfl
      ·rw[List.getElem?_reverse (by rw[HH.2.1];omega),HH.2.1,show n5 - 1 - (n5 - r)=r - 1 from by omega,hx]
     have q5:(t::UInt8.ofNat (128+n5)::(Der.leB n).reverse.take (n5 - r)).length≤100:=ai
     have HS:=hd3 qs ho hol;clear qs ho hol hx
     go_wp2_with
      (at_builtin
       refine aP rfl (.tmp 49) (.tmp 54) rfl w.heap.size wr.heap.size _ (t::UInt8.ofNat (128+n5)::(Der.leB n).reverse.take (n5 - r)) rfl (HS.2.1.alloc nl_ _) ai _ _ 1 1 [x] rfl qc.out ab ?_;intro v3 w3 ho3 hg3 hat3 hb3)
     go_roundw
     case rel=>
      have q7:=hg3.size;simp at q7;refine⟨r - 1,ab,by rw[show((r - 1:Nat):Int)=(r:Int) - 1 from by omega],by rw[HS.1];exact ho3,(HS.2.2.alloc ab _).kept hg3 ai hne,fun k hk=>?_,(hbq.alloc ab _).trans hb3,ab⟩;rcases hat3 with e|e<;>rw[e]at hk
      ·exact hne k hk
      ·have qg:=Option.some.inj hk
       simp at qg;omega
     case measure=>simp[intOf];omega
    ·obtain rfl:r=0:=ab
     have hu:=h.up hbq;have HS:=hd2 ho hu.rds;have q5:(t::UInt8.ofNat (128+n5)::(Der.leB n).reverse.take (n5 - 0)).length≤100:=ai
     have q4:=hbq.size;clear ho hu
     go_wp2_with
      (at_builtin
       refine aP rfl (.tmp 56) (.tmp 57) rfl w.heap.size wr.heap.size _ (t::UInt8.ofNat (128+n5)::(Der.leB n).reverse.take (n5 - 0)) rfl HS.1 q4 _ A n c xs rfl HS.2 ab ?_;intro v3 w3 ho3 hg3 hat3 hb3)
     go_ret
     refine cE ?_ (hbq.trans hb3);have e:Der.write t xs=(t::UInt8.ofNat (128+n5)::(Der.leB n).reverse.take (n5 - 0))++xs:=by
      unfold Der.write Der.lenB;rw[HL.out,if_neg ab,HH.2.1,List.take_of_length_le (by rw[List.length_reverse,HH.2.1];omega)]
     rw[e];exact ho3
theorem cZ (t:UInt8) (A:Option Addr) (n c:Nat) (xs:List UInt8) (w:World) (h:Rd w w.heap.size A n c xs) (hn:n≤1099511627000) :
 Calls Tryz.prog 30 #[.int .u8 (t.toNat:Int),.slice A n c] w (aO (Der.write t xs) w):=by
 by_cases hs:n<128
 ·exact mV t A n c xs w h hs
 ·exact oH t A n c xs w h ab hn
end
section
namespace Der
theorem be_leB:∀(k n:Nat),n≤k→be (leB n).reverse=n
 | 0,n,h=>by
  obtain rfl:n=0:=ab
  rw[leB_zero];rfl
 | k+1,n,h=>by
  rcases Nat.eq_zero_or_pos n with h0|h0
  ·subst h0;rw[leB_zero];rfl
  ·rw[leB_pos h0,List.reverse_cons,be_snoc,be_leB k (n / 256) ab,UInt8.toNat_ofNat']
   omega
theorem leB_last:∀(k n:Nat),n≤k→0<n→(leB n).reverse.headD 0≠0
 | 0,n,h,h0=>by omega
 | k+1,n,h,h0=>by
  rw[leB_pos h0,List.reverse_cons]
  by_cases hz:n / 256=0
  ·rw[hz,leB_zero]
   simp only[List.reverse_nil,List.nil_append,List.headD_cons];intro e;have:=congrArg UInt8.toNat e;rw[UInt8.toNat_ofNat']at this;simp at this;omega
  ·have ih:=leB_last k (n / 256) ab ab
   cases hr:(leB (n / 256)).reverse with
   | nil=>rw[hr]at ih;exact absurd rfl ih
   | cons a r=>rw[hr]at ih;simpa using ih
theorem leB_len {n:Nat} (h:0<n):0<(leB n).length:=by rw[leB_pos h];simp
theorem lenOf_write (t:UInt8) (n:Nat) (tail:List UInt8) (hn:n<4294967296):lenOf (t::lenB n++tail)=some (1+(lenB n).length,n):=by
 by_cases h:n<128
 ·simp only[lenB,if_pos h,List.cons_append,List.nil_append,lenOf,UInt8.toNat_ofNat']
  rw[if_pos ab];simp only[Option.some.injEq,Prod.mk.injEq,List.length_cons,List.length_nil,true_and];omega
 ·have hm:=leB_le 4 n ab
  have hp:=leB_len (n:=n) ab;have hb:=be_leB n n nl_;have hz:=leB_last n n nl_ ab;have qd:(leB n).reverse.length=(leB n).length:=List.length_reverse;simp only[lenB,if_neg h,List.cons_append,lenOf,UInt8.toNat_ofNat'];have e1:(128+(leB n).length) % 2 ^ 8=128+(leB n).length:=ab
  rw[e1,if_neg ab,Nat.add_sub_cancel_left];have qc:((leB n).reverse++tail).take (leB n).length=(leB n).reverse:=by rw[←qd,List.take_left]
  rw[qc,hb,if_neg (by
   rintro(h1|h1|h1|h1)
   ·omega
   ·omega
   ·rw[List.length_append]at h1;omega
   ·cases hr:(leB n).reverse with
    | nil=>rw[hr]at qd;simp at qd;omega
    | cons a r=>rw[hr]at hz h1;exact hz h1),if_neg ab]
  simp only[Option.some.injEq,Prod.mk.injEq,List.length_cons,qd,and_true];omega
theorem lenB_len (n:Nat) (hn:n<4294967296):(lenB n).length≤5:=by
 unfold lenB
 split
 ·simp
 ·have:=leB_le 4 n ab
  simp;omega
theorem write_len (t:UInt8) (body:List UInt8):(write t body).length=1+(lenB body.length).length+body.length:=by simp[write];omega
theorem elem_write (t:UInt8) (body more:List UInt8) (hn:body.length<4294967296):elem (write t body++more)=if t.toNat % 32=31 then none else some (t,body,write t body,more):=by
 have hw:write t body++more=t::lenB body.length++(body++more):=by simp[write]
 have hl:=lenOf_write t body.length (body++more) hn;unfold elem hdr tagBad;rw[hw,hl];simp only[List.cons_append,List.headD_cons,beq_iff_eq]
 by_cases ht:t.toNat % 32=31
 ·simp[ht]
 ·rw[if_neg ht,if_neg ht]
  simp only[List.length_cons,List.length_append];rw[if_pos ab];have hx:t::(lenB body.length++(body++more))=write t body++more:=by simp[write]
  have qc:=write_len t body;rw[hx,show 1+(lenB body.length).length+body.length=(write t body).length from qc.symm];simp only[List.take_left,List.drop_left,Option.some.injEq,Prod.mk.injEq,true_and,and_true];have h2:write t body=(t::lenB body.length)++body:=by simp[write]
  rw[h2];rw[List.drop_left' ai]
end Der
end
end
end Go.Proofs.YtmpkpphfoidbeaaGreatDoor
