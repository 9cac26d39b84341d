import Derived.Deep.DeepAppendWide
import Derived.Laws.Externs
import Derived.Lib.AppendZeros
import Derived.Lib.Bytealg
import Derived.Test.YtmpkpphfoidbeaaGreatDoorV15
set_option linter.unusedVariables false
set_option linter.unusedSimpArgs false
set_option maxRecDepth 100000
namespace Go.Proofs.YtmpkpphfoidbeaaGreatDoor
open Go.RowKit
theorem jx {P:Program} (w:World):∀(xs:List UInt8) (acc:List UInt8) (ad:Addr),(∀(j:Nat) x,xs[j]? = some x→w.cell? (ad.add j)=some (.int .u8 (x.toNat:Int)))→
 (Extern.Bytes.loadBytes ad xs.length ⟨acc.toArray⟩).run P w=.ok ⟨(acc++xs).toArray⟩ w
 | [],acc,ad,_=>by simp[Extern.Bytes.loadBytes,Sem.run_pure]
 | x::xs,acc,ad,h=>by
  have h0:w.cell? ad=some (.int .u8 (x.toNat:Int)):=by simpa [Addr.add]using h 0 x rfl
  have ih:=jx (P:=P) w xs (acc++[x]) (ad.add 1) (fun j y hy=>by
   rw[lE,Nat.add_comm];exact h (j+1) y hy)
  have hx:((x.toNat:Int).toNat).toUInt8=x:=ag
  have hp:(ByteArray.mk acc.toArray).push x=⟨(acc++[x]).toArray⟩:=by
   unfold ByteArray.push;simp
  have hl:(load ad).run P w=.ok (.int .u8 (x.toNat:Int)) w:=by simp[go_sem,h0]
  simp only[List.length_cons,Extern.Bytes.loadBytes,Sem.run_bind,hl,Result.andThen_ok,hx,hp]
  simpa using ih
theorem kL {P:Program} {w:World} {B n c:Nat} {A:Option Addr} {xs:List UInt8} (h:Rd w B A n c xs):(Extern.Bytes.bytesOf (.slice A n c)).run P w=.ok ⟨xs.toArray⟩ w:=by
 have hl:=h.len;rcases A with _|ad
 ·have:=h.nil rfl
  have:=h.cap;obtain rfl:xs=[]:=List.eq_nil_of_length_eq_zero ab;simp[Extern.Bytes.bytesOf,Sem.run_pure]
  rfl
 ·simp only[Extern.Bytes.bytesOf]
  subst hl;have:=jx (P:=P) w xs [] ad (fun j x hx=>by
   obtain⟨ad',e,_,hc⟩:=h.rds.2 (by have:=(List.getElem?_eq_some_iff.1 hx).1;omega);injection e with e
   subst e;exact hc j (bv x) (by simp[hx]))
  rw[List.nil_append]at this;exact this
theorem qz (A A':Option Addr) (n c n' c':Nat) (xs ys:List UInt8) (B B':Nat) (w:World) (h:Rd w B A n c xs) (h':Rd w B' A' n' c' ys) :
 Calls Tryz.prog 111 #[.slice A n c,.slice A' n' c'] w fun e w'=>e=.returned (.int .i64 (Lib.compareBytes xs ys))∧w'=w:=by
 have k1:=kL (P:=Tryz.prog) h;have k2:=kL (P:=Tryz.prog) h';have hr:(Extern.BytealgCompare.compare #[.slice A n c,.slice A' n' c']).run Tryz.prog w=.ok (.int .i64 (Lib.compareBytes xs ys)) w:=by
  change Sem.run Tryz.prog (do pure (goInt (Extern.BytealgCompare.cmp (←Extern.Bytes.bytesOf (.slice A n c)) (←Extern.Bytes.bytesOf (.slice A' n' c'))))) w=_;simp only[Sem.run_bind,k1,k2,Result.andThen,Sem.run_pure];rw[Lib.cmp_eq]
  rfl
 have HR:=hd1 hr;clear h h' k1 k2 hr
 go_enter Tryz.func111,Tryz.ntmps111
 go_wp2
 rw[run_callFunc_extern Tryz.func138 ao ao ao (e:=Extern.BytealgCompare.compare) ao,HR.out];simp only[Result.andThen];rw[Oper.upon_value]
 go_wp2
 go_ret
 exact⟨rfl,rfl⟩
theorem uP (A A':Option Addr) (n c n' c':Nat) (xs ys:List UInt8) (B B':Nat) (w:World) (h:Rd w B A n c xs) (h':Rd w B' A' n' c' ys) :
 Calls Tryz.prog 63 #[.slice A n c,.slice A' n' c'] w fun e w'=>e=.returned (.bool (Op.bytesLess xs ys))∧w'=w:=by
 have k1:=dp h 9 Tryz.underlying9;have k2:=dp h' 9 Tryz.underlying9;clear h h'
 go_enter Tryz.func63,Tryz.ntmps63
 go_wp2
 go_ret
 exact⟨ag,rfl⟩
theorem py:∀(a b:List UInt8),Op.bytesLess b a=decide (0<Lib.compareBytes a b)
 | [],[]=>rfl
 | [],_::_=>by simp[Op.bytesLess,Lib.compareBytes]
 | _::_,[]=>by simp[Op.bytesLess,Lib.compareBytes]
 | x::a,y::b=>by
  have ih:=py a b;simp only[Op.bytesLess,Lib.compareBytes,ih]
  by_cases h1:x<y
  ·have h2:¬y<x:=UInt8.not_lt.2 (UInt8.le_of_lt h1)
   have h3:(y==x)=false:=by
    rw[beq_eq_false_iff_ne];rintro rfl;exact UInt8.lt_irrefl _ h1
   simp[h1,h2,h3]
  ·by_cases h2:y<x
   ·simp[h1,h2]
   ·have h3:y=x:=UInt8.le_antisymm (UInt8.not_lt.1 h1) (UInt8.not_lt.1 h2)
    subst h3;simp[h1]
namespace Der
def chain:List UInt8→List (Option (UInt8×List UInt8×List UInt8))→Bool
 | _,[]=>true
 | _,none::_=>false
 | last,some (_,_,r)::tl=>!Op.bytesLess r last&&chain r tl
theorem less_nil (r:List UInt8):Op.bytesLess r []=false:=by cases r<;>rfl
end Der
def Zc.next {α:Type} (er:Nat) (o:Except Nat α):Nat:=if er=0 then(match o with|.ok _=>0|.error k=>k) else er
def Zc.must (b:Bool) (k:Nat):Except Nat Unit:=if b then .ok () else .error k
def Zc.form (b:Bool):Except Nat Unit:=Zc.must b 9
def Zc.parts (u lo hi:Int) (x:El):Except Nat (List El):=match Cert.parts u lo hi x with|some l=>.ok l|none=>.error 9
def Zc.body (u:Int) (x:El):Except Nat (List UInt8):=(Zc.form ((x.1.toNat:Int)==u)).bind fun _=>.ok x.2.1
def Zc.oid (x:El):Except Nat (List UInt8):=(Zc.form (Der.oid x.2.1).isSome).bind fun _=>Zc.body 6 x
def Zc.is (x:El) (o:List UInt8):Bool:=(x.1.toNat:Int)==6&&x.2.1==o
def Zc.null (x:El):Bool:=x.2.2==[5,0]
def Zc.sha:List UInt8:=[96,134,72,1,101,3,4,2,1]
def Zc.rsa:List UInt8:=[42,134,72,134,247,13,1,1,1]
def Zc.wrapped:List UInt8:=[42,134,72,134,247,13,1,7,2]
def Zc.kind:List UInt8:=[42,134,72,134,247,13,1,9,3]
def Zc.digest:List UInt8:=[42,134,72,134,247,13,1,9,4]
def Zc.pe:List UInt8:=[43,6,1,4,1,130,55,2,1,15]
def Zc.hash (x:El):Except Nat Unit:=(Zc.parts 48 1 2 x).bind fun l=>Zc.form (Zc.is (l.getD 0 El.none_) Zc.sha&&(decide (l.length=1)||Zc.null (l.getD 1 El.none_)))
def Zc.cipher (x:El):Except Nat Unit:=(Zc.parts 48 2 2 x).bind fun l=>Zc.form (Zc.is (l.getD 0 El.none_) Zc.rsa&&Zc.null (l.getD 1 El.none_))
def Zc.one (x:El):Except Nat Unit:=Zc.form (x.2.2==[2,1,1])
def Zc.each {β:Type} (f:El→Except Nat β):List El→Except Nat (List β)
 | []=>.ok []
 | y::r=>(f y).bind fun a=>(Zc.each f r).bind fun t=>.ok (a::t)
def Zc.isSet (b:List UInt8):Bool:=Der.chain [] (Der.seq b)
def Zc.says (p:List UInt8×List UInt8) (x v:El):Except Nat (List UInt8×List UInt8):=
 if Zc.is x Zc.kind then(Zc.oid v).bind fun k=>.ok (k,p.2)
 else if Zc.is x Zc.digest then(Zc.body 4 v).bind fun d=>(Zc.form (decide (d.length=32))).bind fun _=>.ok (p.1,d)
 else .ok p
def Zc.attr (p:List UInt8×List UInt8) (ns:List (List UInt8)) (y:El):Except Nat (List UInt8×List UInt8×List UInt8):=
 (Zc.parts 48 2 2 y).bind fun l=>(Zc.oid (l.getD 0 El.none_)).bind fun name=>(Zc.parts 49 1 1 (l.getD 1 El.none_)).bind fun v=>
  (Zc.form (!ns.contains name)).bind fun _=>(Zc.says p (l.getD 0 El.none_) (v.getD 0 El.none_)).bind fun q=>.ok (name,q)
def Zc.attrs:List El→List UInt8×List UInt8→List (List UInt8)→Except Nat (List UInt8×List UInt8)
 | [],p,_=>.ok p
 | y::r,p,ns=>(Zc.attr p ns y).bind fun q=>Zc.attrs r q.2 (ns++[q.1])
def Zc.attributes (x:El):Except Nat (List UInt8×List UInt8×List UInt8):=
 (Zc.form (Zc.isSet x.2.1)).bind fun _=>(Zc.parts 160 0 x.2.1.length x).bind fun l=>(Zc.attrs l ([],[]) []).bind fun p=>
  (Zc.form (decide (0<p.1.length)&&decide (0<p.2.length))).bind fun _=>.ok (Der.write 49 x.2.1,p)
structure Sr where
 iss:List UInt8
 ser:List UInt8
 att:List UInt8
 kind:List UInt8
 dig:List UInt8
 sig:List UInt8
def Zc.more (l:List El):Except Nat (List UInt8×List UInt8×List UInt8):=if l.length=6 then Zc.attributes (l.getD 3 El.none_) else .ok ([],[],[])
def Zc.signer (x:El):Except Nat Sr:=(Zc.parts 48 5 6 x).bind fun l=>(Zc.one (l.getD 0 El.none_)).bind fun _=>(Zc.parts 48 2 2 (l.getD 1 El.none_)).bind fun who=>
 (Zc.body 48 (who.getD 0 El.none_)).bind fun _=>(Zc.body 2 (who.getD 1 El.none_)).bind fun s=>(Zc.form (Der.int s).isSome).bind fun _=>(Zc.hash (l.getD 2 El.none_)).bind fun _=>
  (Zc.more l).bind fun a=>(Zc.cipher (l.getD (l.length - 2) El.none_)).bind fun _=>(Zc.body 4 (l.getD (l.length - 1) El.none_)).bind fun g=>.ok ⟨(who.getD 0 El.none_).2.2,s,a.1,a.2.1,a.2.2,g⟩
def Zc.At {β:Type} (er0:Nat) (whole:Except Nat β) (er:Nat) (rest:Except Nat β):Prop:=(er=0→er0=0∧whole=rest)∧(er≠0→er=Zc.next er0 whole)
def Zc.No {α:Type} (o:Except Nat α):Prop:=∀k,o=.error k→k≠0
section
variable {α β : Type} {er0 er er' : Nat} {whole : Except Nat β}
theorem Zc.At.start (er0:Nat) (whole:Except Nat β):Zc.At er0 whole er0 whole:=⟨fun h=>⟨h,rfl⟩,fun h=>by unfold Zc.next;rw[if_neg h]⟩
theorem Zc.next_zero {er:Nat} {o:Except Nat α} (hn:Zc.No o) (h:Zc.next er o=0):er=0∧∃a,o=.ok a:=by
 unfold Zc.next at h
 by_cases e:er=0
 ·rw[if_pos e]at h
  cases o with
  | ok a=>exact⟨e,a,rfl⟩
  | error k=>exact absurd h (hn k rfl)
 ·rw[if_neg e]at h;exact absurd h e
theorem Zc.At.step {o:Except Nat α} {f:α→Except Nat β} {a:α} (h:Zc.At er0 whole er (o.bind f)) (hn:Zc.No o) (he:er'=Zc.next er o) (ha:er'=0→o=.ok a):Zc.At er0 whole er' (f a):=by
 constructor
 ·intro h0
  obtain⟨h1,_⟩:=Zc.next_zero hn (he▸h0);obtain⟨h2,h3⟩:=h.1 h1;exact⟨h2,by rw[h3,ha h0];rfl⟩
 ·intro h0
  by_cases e:er=0
  ·obtain⟨h2,h3⟩:=h.1 e
   rw[he,h3,h2,e]
   cases o with
   | ok a=>exfalso;exact h0 (by rw[he,e];rfl)
   | error k=>rfl
  ·rw[he]
   unfold Zc.next;rw[if_neg e];exact h.2 e
theorem Zc.At.fin {a:β} (h:Zc.At er0 whole er (.ok a)):er=Zc.next er0 whole∧(er=0→whole=.ok a):=by
 refine⟨?_,fun e=>(h.1 e).2⟩
 by_cases e:er=0
 ·obtain⟨h1,h2⟩:=h.1 e
  rw[h1,h2,e];rfl
 ·exact h.2 e
theorem Zc.next_seq {o:Except Nat α} {f:α→Except Nat β} {g:Except Nat β} (h:er'=Zc.next er o) (hn:Zc.No o) (hg:∀a,o=.ok a→f a=g):Zc.next er' g=Zc.next er (o.bind f):=by
 subst h
 by_cases e:er=0
 ·subst e
  cases o with
  | ok a=>show Zc.next 0 g=Zc.next 0 (f a);rw[hg a rfl]
  | error k=>
   show Zc.next k g=k;unfold Zc.next;rw[if_neg (hn k rfl)]
 ·unfold Zc.next
  simp[e]
theorem Zc.next_ne {o:Except Nat α} (h:er≠0):Zc.next er o=er:=by unfold Zc.next;rw[if_neg h]
theorem Zc.At.last {o:Except Nat β} {a:β} (h:Zc.At er0 whole er o) (hn:Zc.No o) (he:er'=Zc.next er o) (ha:er'=0→o=.ok a):er'=Zc.next er0 whole∧(er'=0→whole=.ok a):=by
 have h':Zc.At er0 whole er (o.bind fun x=>.ok x):=by
  have:(o.bind fun x=>.ok x)=o:=by cases o<;>rfl
  rw[this];exact h
 exact(h'.step hn he ha).fin
end
theorem Zc.No.ok {α:Type} (a:α):Zc.No (.ok a:Except Nat α):=fun k h=>by cases h
theorem Zc.No.must {b:Bool} {k:Nat} (hk:k≠0):Zc.No (Zc.must b k):=fun j h=>by
 unfold Zc.must at h
 cases b
 ·injection h with h;omega
 ·cases h
theorem Zc.No.form {b:Bool}:Zc.No (Zc.form b):=Zc.No.must ab
theorem Zc.No.bind {α β:Type} {o:Except Nat α} {f:α→Except Nat β} (h:Zc.No o) (hf:∀a,Zc.No (f a)):Zc.No (o.bind f):=by
 cases o with
 | ok a=>exact hf a
 | error k=>exact fun j hj=>by injection hj with hj;subst hj;exact h _ rfl
theorem Zc.No.ite {α:Type} {p:Prop} [Decidable p] {a b:Except Nat α} (ha:Zc.No a) (hb:Zc.No b):Zc.No (if p then a else b):=by by_cases h:p<;>simp only[h,if_true,if_false]<;>assumption
theorem Zc.No.parts {u lo hi:Int} {x:El}:Zc.No (Zc.parts u lo hi x):=fun k h=>by
 unfold Zc.parts at h
 split at h
 ·cases h
 ·injection h with h;omega
theorem Zc.No.body {u:Int} {x:El}:Zc.No (Zc.body u x):=.bind .form fun _=>.ok _
theorem Zc.No.oid {x:El}:Zc.No (Zc.oid x):=.bind .form fun _=>.body
theorem Zc.No.hash {x:El}:Zc.No (Zc.hash x):=.bind .parts fun _=>.form
theorem Zc.No.cipher {x:El}:Zc.No (Zc.cipher x):=.bind .parts fun _=>.form
theorem Zc.No.each {β:Type} {f:El→Except Nat β} (hf:∀y,Zc.No (f y)):∀l,Zc.No (Zc.each f l)
 | []=>.ok _
 | y::r=>.bind (hf y) fun _=>.bind (Zc.No.each hf r) fun _=>.ok _
theorem Zc.No.says {p:List UInt8×List UInt8} {x v:El}:Zc.No (Zc.says p x v):=.ite (.bind .oid fun _=>.ok _) (.ite (.bind .body fun _=>.bind .form fun _=>.ok _) (.ok _))
theorem Zc.No.attr {p:List UInt8×List UInt8} {ns:List (List UInt8)} {y:El}:Zc.No (Zc.attr p ns y):=.bind .parts fun _=>.bind .oid fun _=>.bind .parts fun _=>.bind .form fun _=>.bind .says fun _=>.ok _
theorem Zc.No.attrs:∀{l:List El} {p:List UInt8×List UInt8} {ns:List (List UInt8)},Zc.No (Zc.attrs l p ns)
 | [],_,_=>.ok _
 | _::_,_,_=>.bind .attr fun _=>Zc.No.attrs
theorem Zc.No.attributes {x:El}:Zc.No (Zc.attributes x):=.bind .form fun _=>.bind .parts fun _=>.bind .attrs fun _=>.bind .form fun _=>.ok _
theorem Zc.No.more {l:List El}:Zc.No (Zc.more l):=.ite .attributes (.ok _)
theorem Zc.No.signer {x:El}:Zc.No (Zc.signer x):=
 .bind .parts fun _=>.bind .form fun _=>.bind .parts fun _=>.bind .body fun _=>.bind .body fun _=>.bind .form fun _=>.bind .hash fun _=>.bind .more fun _=>.bind .cipher fun _=>.bind .body fun _=>.ok _
def Zc.cert (y:El):Except Nat (List UInt8×Sg×List UInt8):=match Cert.parse y.2.2 with|.no n=>.error n|.yes s g=>.ok (y.2.2,s,g)
def Zc.certs (x:El):Except Nat (List (List UInt8×Sg×List UInt8)):=(Zc.parts 160 0 x.2.1.length x).bind fun l=>(Zc.must (decide (l.length≤16)) 10).bind fun _=>Zc.each Zc.cert l
structure Sd where
 kind:List UInt8
 content:List UInt8
 certs:List (List UInt8×Sg×List UInt8)
 signers:List Sr
def Zc.inner (what:List El):Except Nat (List UInt8):=if what.length=2 then(Zc.parts 160 1 1 (what.getD 1 El.none_)).bind fun m=>.ok (m.getD 0 El.none_).2.2 else .ok []
def Zc.some_ (l:List El):Except Nat (List (List UInt8×Sg×List UInt8)):=if l.length=5 then Zc.certs (l.getD 3 El.none_) else .ok []
def Zc.signers (x:El):Except Nat (List Sr):=(Zc.parts 49 1 x.2.1.length x).bind fun all=>(Zc.form (Zc.isSet x.2.1)).bind fun _=>(Zc.must (decide (all.length≤8)) 10).bind fun _=>Zc.each Zc.signer all
def Zc.data (l:List El):Except Nat Sd:=(Zc.one (l.getD 0 El.none_)).bind fun _=>(Zc.parts 49 1 1 (l.getD 1 El.none_)).bind fun v=>(Zc.hash (v.getD 0 El.none_)).bind fun _=>
 (Zc.parts 48 1 2 (l.getD 2 El.none_)).bind fun what=>(Zc.oid (what.getD 0 El.none_)).bind fun k=>(Zc.inner what).bind fun c=>(Zc.some_ l).bind fun cs=>(Zc.signers (l.getD (l.length - 1) El.none_)).bind fun ss=>.ok ⟨k,c,cs,ss⟩
def Zc.outer (l:List El):Except Nat (List El):=if l.length=2 then(Zc.form (Zc.is (l.getD 0 El.none_) Zc.wrapped)).bind fun _=>(Zc.parts 160 1 1 (l.getD 1 El.none_)).bind fun m=>Zc.parts 48 4 5 (m.getD 0 El.none_) else .ok l
def Zc.read (x:El):Except Nat Sd:=(Zc.parts 48 2 5 x).bind fun l=>(Zc.outer l).bind fun m=>(Zc.form (decide (4≤m.length))).bind fun _=>Zc.data m
def Zc.whole (b:List UInt8):Except Nat El:=if Der.check b≠0 then .error (Der.check b) else match Der.elem b with|none=>.error 9|some (t,d,r,_)=>.ok (t,d,r)
def Zc.parse (b:List UInt8):Except Nat Sd:=if 65536<b.length then .error 10 else (Zc.whole b).bind Zc.read
def Zc.indirect (b:List UInt8):Except Nat (List UInt8):=(Zc.whole b).bind fun x=>(Zc.parts 48 2 2 x).bind fun l=>(Zc.parts 48 2 2 (l.getD 0 El.none_)).bind fun what=>(Zc.parts 48 2 2 (l.getD 1 El.none_)).bind fun sum=>
 (Zc.form (Zc.is (what.getD 0 El.none_) Zc.pe)).bind fun _=>(Zc.hash (sum.getD 0 El.none_)).bind fun _=>(Zc.body 4 (sum.getD 1 El.none_)).bind fun d=>(Zc.form (decide (d.length=32))).bind fun _=>.ok d
theorem Zc.No.cert {y:El}:Zc.No (Zc.cert y):=fun k h=>by
 unfold Zc.cert at h
 cases hp:Cert.parse y.2.2 with
 | yes s g=>rw[hp]at h;cases h
 | no n=>
  rw[hp]at h;injection h with h
  subst h;unfold Cert.parse at hp
  split at hp
  ·injection hp with hp;omega
  ·split at hp
   ·rename_i h0;injection hp with hp;omega
   ·split at hp
    ·injection hp with hp;omega
    ·cases hp
theorem Zc.No.certs {x:El}:Zc.No (Zc.certs x):=.bind .parts fun _=>.bind (.must ab) fun _=>.each (fun _=>.cert) _
theorem Zc.No.inner {l:List El}:Zc.No (Zc.inner l):=.ite (.bind .parts fun _=>.ok _) (.ok _)
theorem Zc.No.some_ {l:List El}:Zc.No (Zc.some_ l):=.ite .certs (.ok _)
theorem Zc.No.signers {x:El}:Zc.No (Zc.signers x):=.bind .parts fun _=>.bind .form fun _=>.bind (.must ab) fun _=>.each (fun _=>.signer) _
theorem Zc.No.data {l:List El}:Zc.No (Zc.data l):=
 .bind .form fun _=>.bind .parts fun _=>.bind .hash fun _=>.bind .parts fun _=>.bind .oid fun _=>.bind .inner fun _=>.bind .some_ fun _=>.bind .signers fun _=>.ok _
section
theorem az.put {w:World} {lo hi g n c:Nat} {xs:List UInt8} (h:az w lo hi (.slice (some ⟨g,0,none⟩) n c) xs) (i:Nat) (y:UInt8):az (w.setCell ⟨g,i,none⟩ (bv y)) lo hi (.slice (some ⟨g,0,none⟩) n c) (xs.set i y):=by
 obtain⟨h1,h2⟩:=h;obtain⟨h4,⟨e,_⟩|⟨g',cap,cur,e,hb,hg,hn,hm,hs,ht⟩⟩:=h1
 ·cases e
 injection e with e1 e2 e3
 injection e1 with e1
 injection e1 with e1
 subst e1 e3;have hB:aw w g 5 cur:=hg;refine⟨⟨ag,.inr ⟨g,c,cur.setIfInBounds i (bv y),?_,hb,hB.set_ i _,?_,hm,by simpa using hs,?_⟩⟩,h2⟩
 ·simp only[List.length_set]
  rw[←e2]
 ·simp only[List.length_set]
  exact hn
 ·rw[Array.toList_setIfInBounds,List.length_set,Nat.mul_one,List.take_set]
  rw[Nat.mul_one]at ht;rw[ht,List.map_set]
theorem az.head {w:World} {lo hi n c:Nat} {A:Option Addr} {xs:List UInt8} (h:az w lo hi (.slice A n c) xs) (hn:0<n):∃g,A=some ⟨g,0,none⟩∧lo≤g∧g<hi∧∀i,i<n→w.cell? ⟨g,i,none⟩=(xs.map bv)[i]?∧w.frozen? ⟨g,i,none⟩=false:=by
 obtain⟨h1,h2⟩:=h;obtain⟨h4,⟨e,_⟩|⟨g',cap,cur,e,hb,hg,hn',hm,hs,ht⟩⟩:=h1
 ·injection e with e1 e2 e3
  omega
 injection e with e1 e2 e3
 subst e1 e2 e3;have hB:aw w g' 5 cur:=hg;refine⟨g',rfl,hb,h2 g' rfl,fun i hi=>⟨?_,hB.frozen i⟩⟩;rw[hB.cell i,←ht,List.getElem?_take,if_pos ab];simp
theorem Bt {x:Nat} (h:x<128):Der.sev x=[UInt8.ofNat x]:=by
 unfold Der.sev Der.sevL;rw[show x / 128=0 by omega,Der.sevT_zero,Nat.mod_eq_of_lt h]
 rfl
theorem fW (x:Nat):Der.sev x=Der.pend (x / 128)++[UInt8.ofNat (x % 128)]:=by
 unfold Der.sev Der.sevL Der.pend;rw[List.reverse_cons]
theorem k9 {n:Nat} (h:0<n):Der.pend n=Der.pend (n / 128)++[UInt8.ofNat (128+n % 128)]:=by
 unfold Der.pend;rw[Der.sevT_pos h,List.reverse_cons]
theorem Bu {x:Nat} (h:128≤x):Der.sev x=(Der.sev (x / 128)).set ((Der.sev (x / 128)).length - 1) (UInt8.ofNat (128+(x / 128) % 128))++[UInt8.ofNat (x % 128)]:=by
 have hp:0<x / 128:=ab
 rw[fW x,k9 hp,fW (x / 128)]
 congr 1
 rw[List.length_append,List.length_singleton,Nat.add_sub_cancel,List.set_append_right _ _ nl_,Nat.sub_self]
 rfl
theorem rS:∀(k n:Nat),n<128 ^ k→(Der.pend n).length≤k
 | 0,n,h=>by
  have:n=0:=by simpa using h
  subst this;rw[Der.pend_zero];simp
 | k+1,n,h=>by
  rcases Nat.eq_zero_or_pos n with h0|h0
  ·subst h0;rw[Der.pend_zero];simp
  ·rw[k9 h0,List.length_append,List.length_singleton]
   have:=rS k (n / 128) (by rw[Nat.pow_succ]at h;omega);omega
theorem mY (n:Nat) (h:n<18446744073709551616):0<(Der.sev n).length∧(Der.sev n).length≤10:=by
 have:=rS 9 (n / 128) (by rw[show 128 ^ 9=9223372036854775808 from rfl];omega);rw[fW,List.length_append,List.length_singleton];omega
set_option maxHeartbeats 2000000
theorem ms:∀(x:Nat) (w:World),x<18446744073709551616→Calls Tryz.prog 102 #[.int .u64 (x:Int)] w (aO (Der.sev x) w):=by
 intro x
 induction x using Nat.strongRecOn with
 | ind x ih=>
  intro w hx
  by_cases h:x<128
  ·have h':(x:Int)<128:=ab
   have hs:=Bt h;have hl:=World.ownsRow_lit (e:=5) (base:=w.heap.size) (size:=1) w #[.int .u8 (x:Int)] 1 nl_ (by simp[maxLen]) rfl;have hb:bv (UInt8.ofNat x)=.int .u8 (x:Int):=by
    simp only[bv,UInt8.toNat_ofNat'];rw[Nat.mod_eq_of_lt ab]
   have ho:az (w.alloc (.cells #[.int .u8 (x:Int)] 5)) w.heap.size (w.alloc (.cells #[.int .u8 (x:Int)] 5)).heap.size (.slice (some ⟨w.heap.size,0,none⟩) 1 1) (Der.sev x):=by
    rw[hs];refine az.of (n:=1) ?_;rw[List.map_singleton,hb];exact hl
   have HO:=hd1 ho;clear ih hs hl hb ho h
   go_enter Tryz.func102,Tryz.ntmps102
   go_wp2
   go_ret
   exact cE HO.out (br_.alloc nl_ _)
  ·have h':¬(x:Int)<128:=ab
   have HI:=hd1 (fun W=>ih (x / 128) ab W ab);have qk:=Bu (x:=x) ab;have qv:=mY (x / 128) ab;have qc:(Der.sev (x / 128))[(Der.sev (x / 128)).length - 1]? = some (UInt8.ofNat (x / 128 % 128)):=by
    rw[fW (x / 128),List.length_append,List.length_singleton,Nat.add_sub_cancel,List.getElem?_append_right nl_,Nat.sub_self]
    rfl
   have e0:((x / 128:Nat):Int)=(x:Int) / 128:=ab
   rw[e0]at HI;clear ih e0
   go_enter Tryz.func102,Tryz.ntmps102
   go_wp2_with fail
   refine(HI.out w).mono ?_;rintro en w1 ⟨A1,n1,c1,rfl,ho1,hb1⟩;dsimp only;have q0:=aM ho1;obtain⟨m,rfl⟩:∃m,n1=m+1:=⟨n1 - 1,ab⟩
   rw[q0,Nat.add_sub_cancel]at qk qc;obtain⟨g,rfl,hlg,hgw,hcf⟩:=ho1.head ab;obtain⟨q,hq⟩:∃q,x / 128 % 128=q:=⟨_,rfl⟩
   have q3:(q:Int)<128:=ab
   rw[hq]at qk qc;have qs:∀z:Nat,z<256→bv (UInt8.ofNat z)=.int .u8 (z:Int):=fun z hz=>by
    simp only[bv,UInt8.toNat_ofNat'];rw[Nat.mod_eq_of_lt ab]
   have kc:w1.cell? ⟨g,m,none⟩=some (.int .u8 (q:Int)):=by
    rw[(hcf m ab).1,List.getElem?_map,qc,←qs q ab]
    rfl
   have kf:=(hcf m ab).2;have qh:=ho1.put m (UInt8.ofNat (128+q));rw[qs (128+q) ab]at qh;have hv:(((128+q:Nat):Int))=(q:Int)+128:=ab
   rw[hv]at qh;have qd:Below w.heap.size w (w1.setCell ⟨g,m,none⟩ (.int .u8 ((q:Int)+128))):=hb1.setCell (show w.heap.size≤g from hlg) _;obtain⟨w2,hw2⟩:∃w2,w2=w1.setCell ⟨g,m,none⟩ (.int .u8 ((q:Int)+128)):=⟨_,rfl⟩
   rw[←hw2]at qh qd;have q1:w2.heap.size=w1.heap.size:=by rw[hw2];simp
   have H2:=hd3 qh qd qk;have q2:(m:Int)≤9:=ab
   have q5:wrap64 (m:Int)=m:=by unfold wrap64;omega
   clear qh qd qk qc hcf ho1 hb1 hv hq HI qs qv q0
   go_upto_region 5 with fail
   rw[←hw2];clear hw2 kc kf;have HS:=hd1 q1;clear q1;have qg:aF (w2.alloc (.cells #[.int .u8 ((x:Int) % 128)] 5)) (w2.heap.size+1) 1 (some ⟨w2.heap.size,0,none⟩) 1 ([UInt8.ofNat (x % 128)].map bv):=by
    have qd:bv (UInt8.ofNat (x % 128))=.int .u8 ((x:Int) % 128):=by
     simp only[bv,UInt8.toNat_ofNat']
     congr 1
     omega
    rw[List.map_singleton,qd];exact aF.one w2 5 _
   have HO:=hd1 qg;have q4:((Der.sev (x / 128)).set m (UInt8.ofNat (128+q))).length≤100:=by
    have h1:=aM H2.1;omega
   clear qg
   go_wp2_with (first
    | (at_builtin;refine aP rfl (.tmp 24) (.tmp 28) rfl w.heap.size w1.heap.size _ _ rfl (H2.1.alloc (by have:=HS.out;omega) _) (by have:=H2.2.1.size;simp;omega) _ _ 1 1 [UInt8.ofNat (x % 128)] rfl HO.out ab ?_;intro v3 w3 ho3 hg3 hat3 hb3)
    | fail)
   go_ret
   have hb:Below w.heap.size w w3:=(H2.2.1.alloc (H2.2.1.size) _).trans hb3;rw[H2.2.2];exact cE ho3 hb
end
theorem qX {w:World} {ops:Array Oper} {rest:List Oper} {o:Oper} {a:Act} {Q:Exit→Act→World→Prop} (hgd:o.guard=none) (s x:Operand)
 (ho:o.op=.call {callee:=.builtin .append,args:=#[s,x],argTypes:=#[22,22]})
 (lo hi:Nat) (v:Value) (xs:List UInt8) (hs:a.eval s=v) (hown:az w lo hi v xs) (hlo:lo≤w.heap.size)
 (B:Nat) (A:Option Addr) (m c:Nat) (news:List UInt8) (hx:a.eval x=.slice A m c) (hr:aF w B 1 A m (news.map bv)) (hlen:xs.length+m≤193514046488576)
 (h:∀v' w',az w' lo w'.heap.size v' (xs++news)→Below lo w w'→wpList Tryz.prog ops Q rest (a.put o.dst v') w') :
 wpList Tryz.prog ops Q (o::rest) a w:=by
 obtain⟨i0,hi0,hz0,hz1,hz2⟩:=info_parts eG;have hm:news.length=m:=by have:=hr.1;simp at this;omega
 have qd:∀k,v.ownBlock=some k→lo≤k:=fun k hk=>(hown.1.lt k hk).1
 obtain⟨v',w',hrun,h2,h3⟩:∃v' w',(Builtin.append_ #[22,22] o.type #[v,.slice A m c]).run Tryz.prog w=.ok v' w'∧az w' lo w'.heap.size v' (xs++news)∧w.grownBy w' v.ownBlock:=by
  rcases A with _|ad
  ·have h0:m=0:=by
    rcases Nat.eq_zero_or_pos m with h0|h0
    ·exact h0
    ·obtain⟨ad,e,_⟩:=hr.2 h0
     cases e
   subst h0;have hn:news=[]:=List.eq_nil_of_length_eq_zero hm;subst hn;refine⟨v,w,gj w lo 22 o.type 5 i0 1 Tryz.underlying22 hi0 v xs.length (xs.map bv) hown.1 c,?_,World.grownBy.refl w _⟩;rw[List.append_nil];exact az.of hown.1
  ·have qc:∀j u,(news.map bv)[j]? = some u→w.cell? (ad.add j)=some u:=by
    intro j u hu;rcases Nat.eq_zero_or_pos m with h0|h0
    ·have hn:news=[]:=List.eq_nil_of_length_eq_zero ab
     subst hn;simp at hu
    ·obtain⟨ad',e,_,hc⟩:=hr.2 h0
     injection e with e
     subst e;exact hc j u hu
   obtain⟨v',w',hrun,h2,h3,_⟩:=run_append_own_wide (P:=Tryz.prog) w lo 22 o.type 5 i0 _ 1 1 Tryz.underlying22 hi0 hz0 hz1 hz2 rfl ab v xs.length (xs.map bv) hown.1 ad m c (news.map bv) ai qc (jH news) (by simp only[maxLen];omega) ab hlo;exact⟨v',w',hrun,az.of (by rw[List.map_append];exact h2),h3⟩
 exact gk hgd s x 22 22 ho v (.slice A m c) v' hs hx hrun (h v' w' h2 (br_.grown h3 hlo qd))
theorem gw {zs:List Nat} {w w':World} (h:Der.putOid zs=[]) (hb:Below w.heap.size w w'):aO (Der.putOid zs) w (.returned (.slice none 0 0)) w':=by
 rw[h];exact cE az.nil_ hb
theorem pW (A:Option Addr) (n c:Nat) (zs:List Nat) (w:World) (h:eT w w.heap.size A n c zs) (hn:n<2) :
 Calls Tryz.prog 69 #[.slice A n c] w (aO (Der.putOid zs) w):=by
 have hz:Der.putOid zs=[]:=by
  have:=h.len
  match zs,this with
  | [],_=>rfl
  | [_],_=>rfl
  | _::_::_,h=>simp at h;omega
 have HZ:=hd1 hz;have qc:(n:Int)<2:=ab
 clear h hz
 go_enter Tryz.func69,Tryz.ntmps69
 go_wp2
 go_ret
 exact gw HZ.out br_
theorem ww (b o n c x y:Nat) (zs:List Nat) (w:World) (hx:x<18446744073709551616) (hy:y<18446744073709551616) (hbw:b<w.heap.size) (h0:w.cell? ⟨b,o,none⟩=some (.int .u64 (x:Int))) (h1:w.cell? ⟨b,o+1,none⟩=some (.int .u64 (y:Int))) (hz:Hid (Der.putOid zs=[]))
 (hno:Der.putOk x y=false) (hn:2≤n) :
 Calls Tryz.prog 69 #[.slice (some ⟨b,o,none⟩) n c] w (aO (Der.putOid zs) w):=by
 have qd:¬(n:Int)<2:=ab
 have qh:(1:Int)<n:=ab
 have qg:0<n:=ab
 simp only[Der.putOk,Bool.and_eq_false_iff,Bool.or_eq_false_iff,decide_eq_false_iff_not]at hno
 by_cases hx2:(2:Int)<x
 ·clear hno
  go_enter Tryz.func69,Tryz.ntmps69
  go_wp2
  go_ret
  exact gw hz.out br_
 by_cases hx3:(x:Int)<2
 ·by_cases hy2:(40:Int)≤y
  ·clear hno
   go_enter Tryz.func69,Tryz.ntmps69
   go_wp2
   go_ret
   exact gw hz.out br_
  ·have qc:(18446744073709551535:Int)<y:=ab
   exfalso;omega
 ·have qc:(18446744073709551535:Int)<y:=ab
  clear hno
  go_enter Tryz.func69,Tryz.ntmps69
  go_wp2
  go_ret
  exact gw hz.out br_
theorem uc (x y:Nat) (w:World) (h:40*x+y<18446744073709551616):Calls Tryz.prog 102 #[.int .u64 (40*(x:Int)+(y:Int))] w (aO (Der.sev (40*x+y)) w):=by
 have:=ms (40*x+y) w h;rw[show((40*x+y:Nat):Int)=40*(x:Int)+(y:Int) by omega]at this;exact this
set_option maxHeartbeats 2000000 in
theorem tW (b o n c x y:Nat) (rs:List Nat) (w:World) (h:eT w w.heap.size (some ⟨b,o,none⟩) n c (x::y::rs)) (hx:x<18446744073709551616) (hbw:b<w.heap.size) (h0:w.cell? ⟨b,o,none⟩=some (.int .u64 (x:Int))) (h1:w.cell? ⟨b,o+1,none⟩=some (.int .u64 (y:Int)))
 (hok:Der.putOk x y=true) (hn:2≤n) (hn44:n≤17592186044416) :
 Calls Tryz.prog 69 #[.slice (some ⟨b,o,none⟩) n c] w (aO (Der.putOid (x::y::rs)) w):=by
 have q9:¬(n:Int)<2:=ab
 have j1:(1:Int)<n:=ab
 have hp:Der.putOid (x::y::rs)=Der.sev (40*x+y)++Der.sevs rs:=by rw[Der.putOid,if_pos hok]
 rw[hp];simp only[Der.putOk,Bool.and_eq_true,Bool.or_eq_true,decide_eq_true_eq]at hok;have j3:¬(2:Int)<x:=ab
 have j5:¬(18446744073709551535:Int)<y:=ab
 have qk:rs.length=n - 2:=by have:=h.len;simp at this;omega
 have q6:40*x+y<18446744073709551616:=ab
 have q5:IntKind.u64.wrap (40*(x:Int))=40*(x:Int):=by simp only[IntKind.wrap,IntKind.bits,IntKind.signed];simp;omega
 have qc:((x:Int)<2→¬(40:Int)≤y):=fun hlt=>by omega
 have j0:0<n:=ab
 have q3:IntKind.u64.wrap (40*(x:Int)+(y:Int))=40*(x:Int)+(y:Int):=by simp only[IntKind.wrap,IntKind.bits,IntKind.signed];simp;omega
 have HR:=hd3 h qk q6;clear hp hok h qk
 by_cases hx3:(x:Int)<2
 all_goals
  try (have j4:=qc hx3)
  clear qc
  go_enter Tryz.func69,Tryz.ntmps69
  go_wp2
  go_region_held3 (fun w'=>w'.cell? ⟨b,o,none⟩=some (.int .u64 (x:Int))∧w'.cell? ⟨b,o+1,none⟩=some (.int .u64 (y:Int))) (go_keep)
   (first|(go_at_call 102;((with_reducible refine(uc x y _ HR.out.2.2).mono ?_);rintro en w1 ⟨A1,n1,c1,rfl,ho1,hb1⟩;have H1:=hd2 ho1 (show Below w.heap.size w w1 from⟨hb1.os,hb1.tape,hb1.output,hb1.size,hb1.block⟩);have k0:w1.cell? ⟨b,o,none⟩=some (.int .u64 (x:Int)):=(hb1.cell (p:=⟨b,o,none⟩) hbw).trans h0;have k1:w1.cell? ⟨b,o+1,none⟩=some (.int .u64 (y:Int)):=(hb1.cell (p:=⟨b,o+1,none⟩) hbw).trans h1;have qs:w.heap.size≤w1.heap.size:=hb1.size;clear ho1 hb1)))
  go_wp2
  clear k0 k1 h0 h1
  go_loopw [3,4] (fun v i wr=>∃k:Nat,2≤k∧k≤n∧i=.int .i64 k∧az wr w.heap.size wr.heap.size v (Der.sev (40*x+y)++Der.sevs (rs.take (k - 2)))∧Below w.heap.size w wr) (fun _ i _=>n - (intOf i).toNat)
  case atStart=>exact⟨2,ab,ab,rfl,by simpa [Der.sevs]using H1.1,H1.2⟩
  case round=>
   obtain⟨k,hk2,hk,rfl,hov,hbv⟩:=hrel;obtain⟨Av,mv,dv,rfl,_⟩:=hov.rd
   by_cases hlt:k<n
   ·have q4:(k:Int)<(n:Int):=ab
    obtain⟨b2,o2,z,e,hb2,hu,hzl,hc⟩:=eT.get (B:=w.heap.size) (w:=wr) ⟨HR.1.1.below hbv,HR.1.2⟩ hlt;injection e with e
    injection e with e1 e2
    subst e1 e2;have hz:rs[k - 2]? = some z:=by
     obtain⟨m,rfl⟩:∃m,k=m+2:=⟨k - 2,ab⟩
     simpa using hu
    have q0:=Der.sevs_take hz;have qv:=Der.sevs_len (rs.take (k - 2)) (fun q hq=>HR.1.2 q (by simp[List.mem_of_mem_take hq]));have qs:=(mY (40*x+y) HR.2.2).2;have q1:=(mY z hzl).2;rw[List.length_take]at qv;have qd:(Der.sev (40*x+y)++Der.sevs (rs.take (k - 2))).length+10≤193514046488576:=by rw[List.length_append];omega
    have HB:=hd5 hov hbv q0 qd q1;have q7:=hbv.size;clear hov hbv q0 hu hz qv qs qd q1
    go_wp2_with fail
    refine(ms z wr hzl).mono ?_;rintro en w3 ⟨A3,n3,c3,rfl,ho3,hb3⟩;have qh:=aM ho3;have j2:=hb3.size;have qg:az w3 w.heap.size wr.heap.size (.slice Av mv dv) (Der.sev (40*x+y)++Der.sevs (rs.take (k - 2))):=HB.1.below hb3 nl_;have HC:=hd4 ho3.rdx qg hb3 qh;clear ho3 qg hb3 qh
    go_wp2_with (first
     | (at_builtin;refine qX rfl (.tmp 47) (.tmp 52) rfl w.heap.size wr.heap.size _ _ rfl HC.2.1 ab _ _ _ _ (Der.sev z) rfl HC.1.rds (by have:=HB.2.2.2.1;have:=HB.2.2.2.2;have:=HC.2.2.2;omega) ?_;intro v4 w4 ho4 hb4;have HD:=hd2 ho4 hb4;clear ho4 hb4)
     | fail)
    go_roundw
    case rel=>exact⟨k+1,ab,ab,by go_num,by rw[show k+1 - 2=(k - 2)+1 by omega,HB.2.2.1,←List.append_assoc];exact HD.1,(HB.2.1.trans (HC.2.2.1.mono ab)).trans HD.2⟩
    case measure=>simp[intOf];omega
   ·obtain rfl:k=n:=ab
    have q2:rs.take (k - 2)=rs:=List.take_of_length_le (by have:=HR.2.1;omega);rw[q2]at hov;have HB:=hd2 hov hbv;clear hov hbv q2
    go_wp2
    go_ret
    exact cE HB.1 HB.2
theorem tV (A:Option Addr) (n c:Nat) (zs:List Nat) (w:World) (h:eT w w.heap.size A n c zs) (hn44:n≤17592186044416) :
 Calls Tryz.prog 69 #[.slice A n c] w (aO (Der.putOid zs) w):=by
 by_cases hn:n<2
 ·exact pW A n c zs w h hn
 have hl:=h.len;obtain⟨b,o,x,rfl,hb,hx,hxl,hc⟩:=h.get (k:=0) ab;obtain⟨b',o',y,e,_,hy,hyl,hc'⟩:=h.get (k:=1) ab;injection e with e
 injection e with e1 e2
 subst e1 e2
 match zs,hl with
 | [],hl=>simp at hl;omega
 | [_],hl=>simp at hl;omega
 | p::q::rs,hl=>
  simp only[List.getElem?_cons_zero,List.getElem?_cons_succ,Option.some.injEq]at hx hy;subst hx hy
  cases hok:Der.putOk p q with
  | true=>exact tW b o n c p q rs w h hxl hb hc hc' hok ab hn44
  | false=>exact ww b o n c p q _ w hxl hyl hb hc hc' (by rw[Hid,Der.putOid,if_neg (by rw[hok];simp)]) hok ab
theorem nI:∀a:List UInt8,Op.bytesLess a a=false
 | []=>rfl
 | x::a=>by simp[Op.bytesLess,nI a]
theorem BB (x y:UInt8):(x<y∧¬y<x∧x≠y)∨(x=y∧¬x<y∧¬y<x)∨(y<x∧¬x<y∧x≠y):=by
 rcases Nat.lt_trichotomy x.toNat y.toNat with h|h|h
 ·exact .inl ⟨h,fun h'=>Nat.lt_asymm h h',fun e=>by rw[e]at h;exact Nat.lt_irrefl _ h⟩
 ·have e:x=y:=UInt8.toNat_inj.1 h
  subst e;exact .inr (.inl ⟨rfl,Nat.lt_irrefl _,Nat.lt_irrefl _⟩)
 ·exact .inr (.inr ⟨h,fun h'=>Nat.lt_asymm h h',fun e=>by rw[e]at h;exact Nat.lt_irrefl _ h⟩)
theorem kU:∀a b c:List UInt8,Op.bytesLess a b=true→Op.bytesLess b c=true→Op.bytesLess a c=true
 | _,[],_,h,_=>by cases ‹List UInt8›<;>simp[Op.bytesLess]at h
 | _,_::_,[],_,h=>by simp[Op.bytesLess]at h
 | [],y::b,z::c,_,_=>rfl
 | x::a,y::b,z::c,h1,h2=>by
  have ih:=kU a b c;simp only[Op.bytesLess,Bool.or_eq_true,Bool.and_eq_true,decide_eq_true_eq,beq_iff_eq]at h1 h2 ⊢;rcases h1 with h1|⟨rfl,h1⟩
  ·rcases h2 with h2|⟨rfl,h2⟩
   ·exact .inl (UInt8.lt_trans h1 h2)
   ·exact .inl h1
  ·rcases h2 with h2|⟨rfl,h2⟩
   ·exact .inl h2
   ·exact .inr ⟨rfl,ih h1 h2⟩
theorem ja:∀a b:List UInt8,Op.bytesLess a b=true∨a=b∨Op.bytesLess b a=true
 | [],[]=>.inr (.inl rfl)
 | [],_::_=>.inl rfl
 | _::_,[]=>.inr (.inr rfl)
 | x::a,y::b=>by
  simp only[Op.bytesLess,Bool.or_eq_true,Bool.and_eq_true,decide_eq_true_eq,beq_iff_eq];rcases BB x y with⟨h,_⟩|⟨rfl,_⟩|⟨h,_⟩
  ·exact .inl (.inl h)
  ·rcases ja a b with h|rfl|h
   ·exact .inl (.inr ⟨rfl,h⟩)
   ·exact .inr (.inl rfl)
   ·exact .inr (.inr (.inr ⟨rfl,h⟩))
  ·exact .inr (.inr (.inl h))
theorem zh (a b:List UInt8) (h1:Op.bytesLess a b=false) (h2:Op.bytesLess b a=false):a=b:=by
 rcases ja a b with h|h|h
 ·rw[h]at h1;cases h1
 ·exact h
 ·rw[h]at h2;cases h2
theorem kT (a b:List UInt8) (h:Op.bytesLess a b=true):Op.bytesLess b a=false:=by
 cases h':Op.bytesLess b a with
 | false=>rfl
 | true=>have:=kU _ _ _ h h';rw[nI]at this;cases this
theorem vl (a b c:List UInt8) (h1:Op.bytesLess a b=false) (h2:Op.bytesLess b c=false):Op.bytesLess a c=false:=by
 rcases ja a b with h|rfl|h
 ·rw[h]at h1;cases h1
 ·exact h2
 ·rcases ja b c with h'|rfl|h'
  ·rw[h']at h2;cases h2
  ·exact h1
  ·exact kT _ _ (kU _ _ _ h' h)
def eo (l:List (List UInt8)):Prop:=l.Pairwise fun a b=>Op.bytesLess b a=false
theorem l6 {l l':List (List UInt8)} (h:l.Perm l') (h1:eo l) (h2:eo l'):l=l':=
 List.Perm.eq_of_pairwise (le:=fun a b=>Op.bytesLess b a=false) (fun a b _ _ x y=>zh a b y x) h1 h2 h
theorem zO {s t:List (List UInt8)} {x:List UInt8} (h:eo (s++t)) (hs:∀y,s.getLast? = some y→Op.bytesLess x y=false) (ht:∀y∈t,Op.bytesLess x y=true):eo (s++x::t):=by
 unfold eo at h ⊢;rw[List.pairwise_append]at h ⊢;refine⟨h.1,List.pairwise_cons.2 ⟨fun y hy=>kT _ _ (ht y hy),h.2.1⟩,fun y hy z hz=>?_⟩;rcases List.mem_cons.1 hz with rfl|hz
 ·rcases List.eq_nil_or_concat s with rfl|⟨s',l,rfl⟩
  ·cases hy
  ·have hl:Op.bytesLess z l=false:=hs l ag
   rw[List.concat_eq_append]at hy h;rcases List.mem_append.1 hy with hy|hy
   ·have h':=(List.pairwise_append.1 h.1).2.2 y hy l ag
    exact vl _ _ _ hl h'
   ·rw[List.mem_singleton]at hy
    subst hy;exact hl
 ·exact h.2.2 y hy z hz
theorem vH (w:World) :
 Calls Tryz.prog 183 #[.slice none 0 0,.int .i64 0] w (aO [] w):=by
 go_enter Tryz.func183,Tryz.ntmps183
 go_wp2
 go_ret
 exact cE az.nil_ br_
theorem vG (k:Nat) (w:World) (h0:0<k) (hk:k≤35184372088832) :
 Calls Tryz.prog 183 #[.slice none 0 0,.int .i64 (k:Int)] w (aO [] w):=by
 obtain⟨i0,hi0,hz0,hz1,hz2⟩:=info_parts eG;have qd:=Lib.run_append_nil_zeros (P:=Tryz.prog) w 22 3 22 5 i0 _ .i64 .i64 Tryz.underlying22 Tryz.underlying3 hi0 hz0 k h0 ab ab (by rw[hz2];omega);have qh:=grownCap_ge w k 0 5;have qg:=grownCap_le_maxLen w k 0 5 (by simp only[maxLen];omega);have qc:az (w.drew.alloc (.cells (Builtin.zeroCells (Value.int .u8 0).cells k++Builtin.zeroCells (Value.int .u8 0).cells (grownCap w k 0 5 - k)) 5)) w.heap.size (w.heap.size+1) (.slice (some ⟨w.heap.size,0,none⟩) 0 (grownCap w k 0 5)) []:=
  ⟨⟨rfl,.inr ⟨w.heap.size,_,_,rfl,Nat.le_refl _,heap_alloc_new w.drew _,Nat.zero_le _,qg,by simp[size_zeroCells,Value.cells];omega,rfl⟩⟩,fun k hk=>by simp[Value.ownBlock]at hk;omega⟩
 have hb:Below w.heap.size w (w.drew.alloc (.cells (Builtin.zeroCells (Value.int .u8 0).cells k++Builtin.zeroCells (Value.int .u8 0).cells (grownCap w k 0 5 - k)) 5)):=br_.drew.alloc nl_ _;generalize hG:grownCap w k 0 5=G at qd qc hb qh qg;generalize hC:Builtin.zeroCells (Value.int .u8 0).cells k++Builtin.zeroCells (Value.int .u8 0).cells (G - k)=C at qd qc hb;have HG:=hd4 hG hC qc hb;have qk:(0:Int)<k:=ab
 have HR:=hd1 qd;clear hG hC qc hb hi0 hz0 hz1 hz2 qd
 go_enter Tryz.func183,Tryz.ntmps183
 go_wp2_with (at_builtin;refine gk rfl (.tmp 20) (.tmp 21) 22 3 rfl _ _ _ rfl rfl HR.out ?_)
 go_ret
 exact cE (HG.2.2.1.mono nl_ ag) HG.2.2.2
theorem xU (k:Nat) (w:World) (hk:k≤35184372088832) :
 Calls Tryz.prog 183 #[.slice none 0 0,.int .i64 (k:Int)] w (aO [] w):=by
 rcases Nat.eq_zero_or_pos k with h|h
 ·subst h;exact vH w
 ·exact vG k w h hk
set_option maxHeartbeats 1000000 in
theorem sU (A:Option Addr) (n c:Nat) (l:List (Value×List UInt8)) (w:World) (h:dn w w.heap.size A n c l) (hn:n≤1099511627776) (ht:(aZ l).length≤1099511627776) :
 Calls Tryz.prog 174 #[.slice A n c] w (aO (aZ l) w):=by
 have hl:=h.len
 go_enter Tryz.func174,Tryz.ntmps174
 go_wp2
 go_loop [3,11] (fun t i=>∃k:Nat,k≤n∧i=.int .i64 k∧t=.int .i64 ((aZ (l.take k)).length:Int)) (fun _ i=>n - (intOf i).toNat)
 case atStart=>exact⟨0,Nat.zero_le _,rfl,rfl⟩
 case round=>
  obtain⟨k,hk,rfl,rfl⟩:=hrel;have qs:=eU l k
  by_cases hlt:k<n
  ·obtain⟨b,o,A',n',c',xs,rfl,hb,hx,hc,hr⟩:=h.get hlt
   have qc:=hr.len;have hs:=fa hx;have qg:=eU l (k+1);rw[hs,List.length_append,qc]at qg;have HS:=hd2 hs qc;have qh:(k:Int)<n:=ab
   have qv:(0:Int)≤((aZ (l.take k)).length:Int)+n':=ab
   clear hs qc hl hx
   go_wp2
   go_round
   case rel=>exact⟨k+1,ab,by go_num,by rw[HS.1,List.length_append,HS.2];go_num⟩
   case measure=>simp[intOf];omega
  ·obtain rfl:k=n:=ab
   have qk:l.take k=l:=by rw[List.take_of_length_le ab]
   have HT:=hd1 qk;clear qs
   go_wp2_with fail
   clear qk hl;refine(xU (aZ l).length _ ab).mono ?_;rintro e w1 ⟨A1,n1,c1,rfl,ho1,hb1⟩;have qd:iG l w 0 (.slice A1 n1 c1) w1:=⟨by simpa [aZ]using ho1,hb1⟩
   clear ho1 hb1
   go_wp2
   go_loopw [6,27] (fun v i wr=>∃j:Nat,j≤k∧i=.int .i64 j∧iG l w j v wr) (fun _ i _=>k - (intOf i).toNat)
   case atStart=>exact⟨0,ab,rfl,qd⟩
   case round=>
    obtain⟨j,hj,rfl,ho,hb⟩:=hrel
    by_cases hlt:j<k
    ·have hu:=h.up hb
     obtain⟨b,o,A',n',c',xs,rfl,hbb,hx,hc,hr⟩:=hu.get hlt;have hs:=fa hx;have qg:=eU l (j+1);have qc:=hr.len;rw[hs,List.length_append,qc]at qg;have HS:=hd1 hs;have HO:=hd1 ho;have qh:(j:Int)<k:=ab
     have q2:=hb.size;have q0:=hr.rds;clear hs qc hx ho hr hu
     go_wp2_with
      (at_builtin
       refine aP rfl (.tmp 31) (.tmp 32) rfl w.heap.size wr.heap.size _ (aZ (l.take j)) rfl HO.out ab _ A' n' c' xs rfl q0 ab ?_;intro v2 w2 ho2 hg2 hat2 hb2)
     go_roundw
     case rel=>exact⟨j+1,ab,by go_num,by rw[HS.out];exact ho2,hb.trans hb2⟩
     case measure=>simp[intOf];omega
    ·obtain rfl:j=k:=ab
     have HO:=hd1 ho;have q1:¬(j:Int)<j:=ab
     clear ho
     go_wp2
     go_ret
     exact cE (by have:=HO.out;rw[HT.out]at this;exact this) hb
theorem po (A:Option Addr) (n c:Nat) (l:List (Value×List UInt8)) (w:World) (h:dn w w.heap.size A n c l) (hn:n≤1099511627776) (ht:(aZ l).length≤1099511627776) :
 Calls Tryz.prog 157 #[.slice A n c] w (aO (aZ l) w):=by
 go_enter Tryz.func157,Tryz.ntmps157
 go_wp2_with fail
 refine(sU A n c l w h hn ht).mono ?_;rintro e w1 ⟨A1,n1,c1,rfl,ho1,hb1⟩
 go_wp2
 go_ret
 exact cE ho1 hb1
theorem zj:(Tryz.prog.info? 22).map (fun i=>(i.zero,i.size,i.bytes))=some (some (.slice none 0 0),1,24):=by kernel_rfl
def dy (l:List (Value×List UInt8)):List Value:=l.map (·.1)
theorem ib (l:List (Value×List UInt8)):(dy l).length=l.length:=by simp[dy]
theorem aI.cell1 {e:TypeId} {n g cap lo hi:Nat} {w:World} {cs:List Value} (h:aI e 1 w lo hi (.slice (some ⟨g,0,none⟩) n cap) n cs) {j:Nat} {u:Value} (hu:cs[j]? = some u) :
 w.cell? ⟨g,j,none⟩=some u∧w.frozen? ⟨g,j,none⟩=false:=by
 rcases h.1.2 with⟨e0,_⟩|⟨g',cap',cur,e1,hb,hg,hnc,hcm,hcs,ht⟩
 ·cases e0
 ·simp only[Value.slice.injEq,Option.some.injEq,Addr.mk.injEq]at e1
  obtain⟨⟨rfl,_⟩,_,rfl⟩:=e1;rw[←ht,List.getElem?_take]at hu;refine⟨?_,by simp[World.frozen?,hg]⟩
  split at hu
  ·simp only[World.cell?,hg];simpa using hu
  ·cases hu
theorem aI.store1 {e:TypeId} {n g cap lo hi:Nat} {w:World} {cs:List Value} (h:aI e 1 w lo hi (.slice (some ⟨g,0,none⟩) n cap) n cs) (j:Nat) (u:Value) :
 aI e 1 (w.setCell ⟨g,j,none⟩ u) lo hi (.slice (some ⟨g,0,none⟩) n cap) n (cs.set j u):=by
 refine⟨⟨by simpa using h.1.1,?_⟩,h.2⟩;rcases h.1.2 with⟨e0,_⟩|⟨g',cap',cur,e1,hb,hg,hnc,hcm,hcs,ht⟩
 ·cases e0
 ·simp only[Value.slice.injEq,Option.some.injEq,Addr.mk.injEq]at e1
  obtain⟨⟨rfl,_⟩,_,rfl⟩:=e1;refine .inr ⟨g,cap,cur.setIfInBounds j u,rfl,hb,?_,hnc,hcm,by simpa using hcs,?_⟩
  ·show(w.heap.modify g _)[g]? = _
   rw[Array.getElem?_modify,if_pos rfl,hg]
   rfl
  ·rw[←ht,Array.toList_setIfInBounds,List.take_set]
theorem zv {S:List (Value×List UInt8)} {a:Nat} {u y:Value} {ys:List UInt8} (hy:S[a]? = some (y,ys)) :
 (dy (S.take (a+1))++u::dy (S.drop (a+1))).set (a+1) y=dy (S.take (a+1))++y::dy (S.drop (a+1))∧
 dy (S.take (a+1))++y::dy (S.drop (a+1))=dy (S.take a)++y::dy (S.drop a):=by
 have hl:a<S.length:=(List.getElem?_eq_some_iff.1 hy).1;have qc:(dy (S.take (a+1))).length=a+1:=by rw[ib,List.length_take];omega
 constructor
 ·rw[List.set_append_right _ _ ab,qc]
  simp
 ·have he:S[a]=(y,ys):=by rw[List.getElem?_eq_getElem hl]at hy;injection hy
  rw[List.take_add_one,hy,List.drop_eq_getElem_cons hl,he];simp[dy]
theorem Bl {S:List (Value×List UInt8)} {a:Nat} {u y:Value} {ys:List UInt8} (hy:S[a]? = some (y,ys)):(dy (S.take (a+1))++u::dy (S.drop (a+1)))[a]? = some y:=by
 have hl:a<S.length:=(List.getElem?_eq_some_iff.1 hy).1;rw[List.getElem?_append_left (by rw[ib,List.length_take];omega)];simp[dy,List.getElem?_take,hy]
theorem zu (S:List (Value×List UInt8)) {a:Nat} (ha:a≤S.length) (u x:Value) (xs:List UInt8):(dy (S.take a)++u::dy (S.drop a)).set a x=dy (S.take a++(x,xs)::S.drop a):=by
 have qc:(dy (S.take a)).length=a:=by rw[ib,List.length_take];omega
 rw[List.set_append_right _ _ ab,qc];simp[dy]
def yT (L:List (Value×List UInt8)) (w:World) (k:Nat) (v:Value) (wr:World):Prop:=
 ∃S:List (Value×List UInt8),S.length=k∧S.Perm (L.take k)∧eo (S.map (·.2))∧aI 22 1 wr w.heap.size wr.heap.size v k (dy S)∧Below w.heap.size w wr
def jz (S:List (Value×List UInt8)) (x:List UInt8) (w:World) (g cap k a:Nat) (wr:World):Prop:=
 a≤k∧(∀y∈S.drop a,Op.bytesLess x y.2=true)∧(∃u:Value,aI 22 1 wr w.heap.size wr.heap.size (.slice (some ⟨g,0,none⟩) (k+1) cap) (k+1) (dy (S.take a)++u::dy (S.drop a)))∧Below w.heap.size w wr
theorem jz.drewN {S:List (Value×List UInt8)} {x:List UInt8} {w wr:World} {g cap k a:Nat} (h:jz S x w g cap k a wr) (n:Nat):jz S x w g cap k a (wr.drewN n):=by
 obtain⟨h1,h2,⟨u,h3⟩,h4⟩:=h;exact⟨h1,h2,⟨u,h3⟩,ar h4 n⟩
theorem jz.step {S:List (Value×List UInt8)} {x ys:List UInt8} {y:Value} {w wr:World} {g cap k a:Nat} (h:jz S x w g cap k (a+1) wr) (hg:w.heap.size≤g) (hy:S[a]? = some (y,ys)) (hz:Op.bytesLess x ys=true) :
 jz S x w g cap k a (wr.setCell ⟨g,a+1,none⟩ y):=by
 obtain⟨h1,h2,⟨u,h3⟩,h4⟩:=h;have hl:a<S.length:=(List.getElem?_eq_some_iff.1 hy).1;have he:S[a]=(y,ys):=by rw[List.getElem?_eq_getElem hl]at hy;injection hy
 refine⟨ab,fun z hz'=>?_,⟨y,?_⟩,h4.setCell hg _⟩
 ·rw[List.drop_eq_getElem_cons hl,he]at hz'
  rcases List.mem_cons.1 hz' with rfl|h
  ·exact hz
  ·exact h2 z h
 ·have:=h3.store1 (a+1) y
  obtain⟨g1,g2⟩:=zv (u:=u) hy;rw[g1,g2]at this
  simpa using this
theorem jz.put {L S:List (Value×List UInt8)} {xs:List UInt8} {v:Value} {w wr:World} {g cap k a:Nat} (h:jz S xs w g cap k a wr) (hg:w.heap.size≤g) (hl:S.length=k) (hp:S.Perm (L.take k)) (ho:eo (S.map (·.2))) (hx:L[k]? = some (v,xs))
 (hz:a=0∨∃a' y ys,a=a'+1∧S[a']? = some (y,ys)∧Op.bytesLess xs ys=false):yT L w (k+1) (.slice (some ⟨g,0,none⟩) (k+1) cap) (wr.setCell ⟨g,a,none⟩ v):=by
 obtain⟨h1,h2,⟨u,h3⟩,h4⟩:=h;refine⟨S.take a++(v,xs)::S.drop a,?_,?_,?_,?_,h4.setCell hg _⟩
 ·simp;omega
 ·rw[List.take_add_one,hx]
  refine List.Perm.trans List.perm_middle ?_;rw[List.take_append_drop];refine List.Perm.trans (hp.cons _) ?_;exact(List.perm_append_singleton _ _).symm
 ·rw[List.map_append,List.map_cons]
  refine zO (by rw[←List.map_append,List.take_append_drop];exact ho) (fun y hy=>?_) (fun y hy=>?_)
  ·rcases hz with rfl|⟨a',y',ys,rfl,hy',hz⟩
   ·simp at hy
   ·rw[List.take_add_one,hy']at hy
    simp at hy;rw[←hy];exact hz
  ·obtain⟨q,hq,rfl⟩:=List.mem_map.1 hy
   exact h2 q hq
 ·have:=h3.store1 a v
  rw[zu S ab u v xs]at this
  simpa using this
theorem aI.slice_ {e:TypeId} {n lo hi:Nat} {w:World} {v:Value} {cs:List Value} (h:aI e 1 w lo hi v n cs) (hn:0<n):∃g cap,v=.slice (some ⟨g,0,none⟩) n cap∧lo≤g∧g<hi:=by
 rcases h.1.2 with⟨_,e0⟩|⟨g,cap,cur,e1,hb,_⟩
 ·omega
 ·subst e1
  exact⟨g,cap,rfl,hb,h.2 g rfl⟩
theorem pT {S L:List (Value×List UInt8)} (h:S.Perm L):(aZ S).length=(aZ L).length:=by
 unfold aZ;rw[List.length_flatten,List.length_flatten];exact((h.map _).map _).sum_nat
def xr (L:List (Value×List UInt8)) (w:World) (e:Ending) (w':World):Prop:=
 ∃S:List (Value×List UInt8),S.Perm L∧eo (S.map (·.2))∧aO (aZ S) w e w'
set_option maxHeartbeats 2000000 in
theorem nZ (A:Option Addr) (n c:Nat) (L:List (Value×List UInt8)) (w:World) (h:dn w w.heap.size A n c L) (hn:n≤1099511627) (ht:(aZ L).length≤1099511627776) :
 Calls Tryz.prog 31 #[.slice A n c] w (xr L w):=by
 have H:=hd2 h ht;clear h ht
 go_enter Tryz.func31,Tryz.ntmps31
 go_wp2
 go_loopw [3,4] (fun v i wr=>∃k:Nat,k≤n∧i=.int .i64 k∧yT L w k v wr) (fun _ i _=>n - (intOf i).toNat)
 case atStart=>exact⟨0,Nat.zero_le _,rfl,[],rfl,List.Perm.refl _,List.Pairwise.nil,aI.nil_,Below.refl _ _⟩
 case round=>
  obtain⟨k,hk,rfl,S,hSl,hSp,hSo,hO,hb⟩:=hrel;obtain⟨w1,rfl⟩:∃w1:World,w1=wr:=⟨_,rfl⟩
  have qh:=hb.size;obtain⟨Av,cv,rfl,hcap,hcapm,_,hrds⟩:=hO.shape
  by_cases hlt:k<n
  ·obtain⟨b,o,A1,n1,c1,xs,rfl,hbl,hx,hc0,hrd⟩:=H.1.get hlt
   have hc:=(hb.cell (p:=⟨b,o+k,none⟩) hbl).trans hc0;have qk:(k:Int)<n:=ab
   have HO:=hd8 hSl hSp hSo hO hb hx hc0 hrd;clear hSl hSp hSo hO hb hx hc0 hrd hrds hcap hcapm
   go_wp2_with
    (at_builtin
     refine bn rfl (.tmp 16) (.tmp 21) 39 rfl 22 _ 1 24 zj Tryz.underlying39 rfl ab w.heap.size w1.heap.size _ k (dy S) rfl (HO.2.2.2.1.alloc nl_ _) ai _ _ 1 1 [.slice A1 n1 c1] rfl (aF.one _ _ _) (by simp[Value.oneCell']) ab ab ?_;intro v6 w6 ho6 hg6 hat6 hb6;obtain⟨g,cap,rfl,hgl,hgh⟩:=ho6.slice_ ab;have q0:jz S xs w g cap k k w6:=⟨Nat.le_refl _,fun y hy=>(by rw[List.drop_of_length_le (by have:=HO.1;omega)]at hy;cases hy),⟨.slice A1 n1 c1,by rw[List.take_of_length_le (by have:=HO.1;omega),List.drop_of_length_le (by have:=HO.1;omega)];exact ho6⟩,HO.2.2.2.2.1.trans (Below.trans (br_.alloc qh _) hb6)⟩
     have H6:=hd1 q0;clear ho6 hg6 hat6 hb6 q0 hgh)
   go_loopw [5] (fun i wr=>∃a:Nat,i=.int .i64 a∧jz S xs w g cap k a wr) (fun i _=>(intOf i).toNat)
   case atStart=>exact⟨k,rfl,H6.out⟩
   case round=>
    obtain⟨a,rfl,hG⟩:=hrel;obtain⟨ha,hd,⟨u,hOu⟩,hbb⟩:=hG;have qd:=HO.out;have j5:wr.cell? ⟨b,o+k,none⟩=some (.slice A1 n1 c1):=(hbb.cell (p:=⟨b,o+k,none⟩) hbl).trans qd.2.2.2.2.2.2.1;have qs:=qd.2.2.2.2.2.2.2.below hbb;have qg:jz S xs w g cap k a wr:=⟨ha,hd,⟨u,hOu⟩,hbb⟩
    by_cases h0:0<a
    ·obtain⟨a',rfl⟩:∃a',a=a'+1:=⟨a - 1,ab⟩
     have hl:a'<S.length:=by have:=qd.1;omega
     obtain⟨⟨y,ys⟩,hey⟩:∃q,S[a']=q:=⟨_,rfl⟩
     have hy:S[a']? = some (y,ys):=by rw[List.getElem?_eq_getElem hl,hey]
     have q5:(y,ys)∈L:=List.mem_of_mem_take (qd.2.1.mem_iff.1 (List.mem_of_getElem? hy));obtain⟨A8,n8,c8,rfl,hr8⟩:=H.1.each _ _ q5;have q2:=hr8.below hbb;have j6:wr.cell? ⟨g,a',none⟩=some (.slice A8 n8 c8):=(hOu.cell1 (Bl hy)).1;obtain⟨u9,qv⟩:∃u9,wr.cell? ⟨g,a'+1,none⟩=some u9∧wr.frozen? ⟨g,a'+1,none⟩=false:=by
      refine⟨u,hOu.cell1 ?_⟩;rw[List.getElem?_append_right (by rw[ib,List.length_take];omega)];simp[ib,List.length_take,show min (a'+1) S.length=a'+1 from by omega]
     obtain⟨qv,q9⟩:=qv;obtain⟨z,hz⟩:∃z,Op.bytesLess xs ys=z:=⟨_,rfl⟩
     have j7:IntKind.i64.wrap ((a':Int)+1 - 1)=(a':Int):=by rw[show(a':Int)+1 - 1=a' from by omega];exact IntWalk.i64_in _ ab
     have q1:∀(W:World) (B B':Nat),Rd W B A1 n1 c1 xs→Rd W B' A8 n8 c8 ys→Calls Tryz.prog 63 #[.slice A1 n1 c1,.slice A8 n8 c8] W fun e w'=>e=.returned (.bool z)∧w'=W:=fun W B B' h1 h2=>by
      have:=uP A1 A8 n1 c1 n8 c8 xs ys _ _ _ h1 h2;rw[hz]at this;exact this
     have HC:=hd6 q1 qs q2 qg hy hz;clear q1 qs q2 qg hz hy hey q5 hr8 qd hd hOu hbb hl;have j1:(0:Int)<(a':Int)+1:=ab
     go_wp2
     go_quiet ((go_at_call 63;exact Calls.quiet_of_same (HC.1 _ _ _ (HC.2.1.drewN _) (HC.2.2.1.drewN _))))
     cases z with
     | true=>
      go_wp2
      go_roundw
      case rel=>exact⟨a',rfl,(HC.2.2.2.1.drewN _).step hgl HC.2.2.2.2.1 HC.2.2.2.2.2⟩
      case measure=>simp[intOf]
     | false=>
      go_wp2
      go_roundw
      case rel=>exact⟨k+1,ab,by go_num,(HC.2.2.2.1.drewN _).put hgl HO.1 HO.2.1 HO.2.2.1 HO.2.2.2.2.2.1 (.inr ⟨a',_,ys,rfl,HC.2.2.2.2.1,HC.2.2.2.2.2⟩)⟩
      case measure=>simp[intOf];omega
    ·obtain rfl:a=0:=ab
     have qv:=(hOu.cell1 (j:=0) (u:=u) (by simp[dy])).1;have q9:=(hOu.cell1 (j:=0) (u:=u) (by simp[dy])).2;have HC:=hd1 qg;clear qs qg qd hd hOu hbb
     go_wp2
     go_quiet (fail)
     go_wp2
     go_roundw
     case rel=>exact⟨k+1,ab,by go_num,(HC.out.drewN _).put hgl HO.1 HO.2.1 HO.2.2.1 HO.2.2.2.2.2.1 (.inl rfl)⟩
     case measure=>simp[intOf];omega
  ·obtain rfl:n=k:=ab
   have j0:¬(n:Int)<n:=ab
   have q3:L.take n=L:=List.take_of_length_le (by have:=H.1.len;omega);rw[q3]at hSp;have hS:dn w1 w1.heap.size Av n cv S:=⟨hSl,hcap,hcapm,hrds,fun v xs hm=>((H.1.each v xs (hSp.mem_iff.1 hm)).below hb).more qh⟩
   have j4:(aZ S).length≤1099511627776:=by rw[pT hSp];exact H.2
   have qc:iG S w1 0 (.slice none 0 0) w1:=⟨by simpa [aZ]using az.nil_,Below.refl _ _⟩
   have HS:=hd4 hSp hSo hb qc;clear hSl hSp hSo hO hb qc q3 hrds hcap hcapm
   go_wp2
   go_loopw [6,7] (fun v i wr=>∃j:Nat,j≤n∧i=.int .i64 j∧iG S w1 j v wr) (fun _ i _=>n - (intOf i).toNat)
   case atStart=>exact⟨0,ab,rfl,HS.2.2.2⟩
   case round=>
    obtain⟨j,hj,rfl,ho,hb⟩:=hrel
    by_cases hlt:j<n
    ·have hu:=hS.up hb
     obtain⟨b,o,A',n',c',xs,rfl,hbb,hx,hc,hr⟩:=hu.get hlt;have hs:=fa hx;have q7:=eU S (j+1);have q4:=hr.len;rw[hs,List.length_append,q4]at q7;have q6:=hd1 hs;have HO:=hd1 ho;have qk:(j:Int)<n:=ab
     have j3:=hb.size;have j2:=hr.rds;clear hs q4 hx ho hr hu
     go_wp2_with
      (at_builtin
       refine aP rfl (.tmp 60) (.tmp 64) rfl w1.heap.size wr.heap.size _ (aZ (S.take j)) rfl HO.out ab _ A' n' c' xs rfl j2 ab ?_;intro v2 w2 ho2 hg2 hat2 hb2)
     go_roundw
     case rel=>exact⟨j+1,ab,by go_num,by rw[q6.out];exact ho2,hb.trans hb2⟩
     case measure=>simp[intOf];omega
    ·obtain rfl:j=n:=ab
     have HO:=hd2 ho hb;have j0:¬(j:Int)<j:=ab
     clear ho hb
     go_wp2
     go_ret
     refine⟨S,HS.1,HS.2.1,cE ?_ (HS.2.2.1.trans (HO.2.mono qh))⟩;have:=HO.1;rw[List.take_of_length_le (by have:=hS.len;omega)]at this;exact this.mono qh nl_
def Zc.koid (zs:List Nat):List UInt8:=if (Der.putOid zs).length=0∨1000<(Der.putOid zs).length then[42,3] else Der.putOid zs
def Zc.lname (s:List UInt8):List UInt8:=Ref.seq [Der.write 12 s]
theorem fN {W W':World} {lo:Nat} {v:Value} {xs:List UInt8} (h:az W lo W.heap.size v xs) (hb:Below W.heap.size W W'):az W' lo W'.heap.size v xs:=(h.below hb nl_).mono nl_ hb.size
theorem aB (w:World) (o:Obj):Below w.heap.size w (w.alloc o):=br_.alloc nl_ _
set_option maxHeartbeats 1000000 in
theorem pF (A:Option Addr) (n c:Nat) (zs:List Nat) (w:World) (h:eT w w.heap.size A n c zs) (hn:n≤17592186044416) :
 Calls Tryz.prog 38 #[.slice A n c] w (aO (Zc.koid zs) w):=by
 have H:=hd1 h;clear h
 go_enter Tryz.func38,Tryz.ntmps38
 go_wp2_with fail
 refine(tV A n c zs w H.out hn).mono ?_;rintro e w1 ⟨A1,n1,c1,rfl,ho1,hb1⟩;have hk:Zc.koid zs=if n1=0∨1000<n1 then[42,3] else Der.putOid zs:=by unfold Zc.koid;rw[aM ho1]
 have qd:=hb1.size;have H1:=hd3 ho1 hb1 hk;clear ho1 hb1 hk;have qc:az (w1.alloc (.cells #[.int .u8 42,.int .u8 3] 5)) w.heap.size (w1.alloc (.cells #[.int .u8 42,.int .u8 3] 5)).heap.size (.slice (some ⟨w1.heap.size,0,none⟩) 2 2) [42,3]:=(az.lit w1 [42,3] [.int .u8 42,.int .u8 3] 2 rfl rfl ab).mono qd ag;have HL:=hd1 qc;clear qc
 by_cases h0:n1=0
 ·have qg:((n1:Int)==0)=true:=by simp[h0]
  have hK:Zc.koid zs=[42,3]:=by rw[H1.2.2,if_pos (.inl h0)]
  have HK:=hd1 hK;clear h0 hK
  go_wp2
  go_ret
  exact⟨_,_,_,rfl,by rw[HK.out];exact HL.out,H1.2.1.alloc qd _⟩
 ·have qg:((n1:Int)==0)=false:=by simp[h0]
  by_cases h1:1000<n1
  ·have qh:(1000:Int)<(n1:Int):=ab
   have hK:Zc.koid zs=[42,3]:=by rw[H1.2.2,if_pos (.inr h1)]
   have HK:=hd1 hK;clear h0 h1 hK
   go_wp2
   go_ret
   exact⟨_,_,_,rfl,by rw[HK.out];exact HL.out,H1.2.1.alloc qd _⟩
  ·have qh:¬(1000:Int)<(n1:Int):=ab
   have hK:Zc.koid zs=Der.putOid zs:=by rw[H1.2.2,if_neg ab]
   have HK:=hd1 hK;clear h0 h1 hK
   go_wp2
   go_ret
   exact⟨_,_,_,rfl,by rw[HK.out];exact H1.1,H1.2.1⟩
set_option maxHeartbeats 1000000 in
theorem vY (s:List UInt8) (w:World) (hs:s.length≤1000) :
 Calls Tryz.prog 61 #[.string ⟨s.toArray⟩] w (aO (Zc.lname s) w):=by
 have qh:=fun W=>kq W s
 have qk:=fun W=>ia W s
 have HS:=hd2 (it w s) (mw w s ab)
 go_enter Tryz.func61,Tryz.ntmps61
 go_wp2_with fail
 refine(aL 12 12 rfl _ _ _ s _ HS.2 ab).mono ?_;rintro en w2 ⟨A2,n2,c2,rfl,ho2,hb2⟩;have qc:Below w.heap.size w w2:=HS.1.trans (hb2.mono HS.1.size);have qg:=qc.size;have qd:=aM ho2;have H2:=hd3 ho2 qc qd;clear ho2 hb2 qc qd
 go_wp2_with fail
 refine(bu _ 1 1 [(.slice A2 n2 c2,Der.write 12 s)] _ (dn.lit w2 _ _ _ _ 1 rfl rfl rfl ab (fun v xs hm=>?_)) ab ?_).mono ?_
 ·simp only[List.mem_cons,List.not_mem_nil,or_false,Prod.mk.injEq]at hm
  obtain⟨rfl,rfl⟩:=hm;exact aJ.mk H2.1.rdx
 ·have:=aC 12 s ab
  simp only[aZ,List.map_cons,List.map_nil,List.flatten_cons,List.flatten_nil,List.append_nil];omega
 rintro en w3 ⟨A3,n3,c3,rfl,ho3,hb3⟩;have H3:=hd2 ho3 hb3;clear ho3 hb3
 go_wp2
 go_ret
 exact⟨_,_,_,rfl,H3.1.mono ai nl_,H2.2.1.trans ((aB w2 _).trans (H3.2.mono ag) |>.mono qg)⟩
def Zc.attrK (k:List UInt8):List UInt8:=Ref.seq [Der.write 6 Zc.kind,Der.write 49 (Der.write 6 k)]
def Zc.attrD (d:List UInt8):List UInt8:=Ref.seq [Der.write 6 Zc.digest,Der.write 49 (Der.write 4 d)]
def uB (k s:List UInt8) (w:World) (e:Ending) (w':World):Prop:=
 ∃S:List (List UInt8),S.Perm [Zc.attrK k,Zc.attrD s]∧eo S∧aO (Der.write 49 S.flatten) w e w'
theorem f9 (a b:List UInt8) (h:a.length+b.length<4294967296):(Ref.seq [a,b]).length≤a.length+b.length+6:=by
 have:=aC 48 [a,b].flatten (by simpa using h);simp only[List.flatten_cons,List.flatten_nil,List.append_nil,List.length_append]at this;simp only[Ref.seq,List.flatten_cons,List.flatten_nil,List.append_nil];omega
theorem sC {k s:List UInt8} (hk:k.length≤1000) (hs:s.length≤1000) :
 (Der.write 6 Zc.kind).length≤15∧(Der.write 6 k).length≤1006∧(Der.write 49 (Der.write 6 k)).length≤1012∧(Zc.attrK k).length≤1033∧
 (Der.write 6 Zc.digest).length≤15∧(Der.write 4 s).length≤1006∧(Der.write 49 (Der.write 4 s)).length≤1012∧(Zc.attrD s).length≤1033:=by
 have a1:=aC 6 Zc.kind aj;have a2:=aC 6 k ab;have a3:=aC 49 (Der.write 6 k) ab;have b1:=aC 6 Zc.digest aj;have b2:=aC 4 s ab;have b3:=aC 49 (Der.write 4 s) ab;have h1:Zc.kind.length=9:=rfl;have h2:Zc.digest.length=9:=rfl;have a4:=f9 (Der.write 6 Zc.kind) (Der.write 49 (Der.write 6 k)) ab;have b4:=f9 (Der.write 6 Zc.digest) (Der.write 49 (Der.write 4 s)) ab;unfold Zc.attrK Zc.attrD;omega
set_option maxHeartbeats 4000000 in
theorem mh (A B:Option Addr) (n m c d:Nat) (k s:List UInt8) (w:World) (h1:Rd w w.heap.size A n c k) (h2:Rd w w.heap.size B m d s) (hn:n≤1000) (hm:m≤1000) :
 Calls Tryz.prog 62 #[.slice A n c,.slice B m d] w (uB k s w):=by
 have hL:=sC (k:=k) (s:=s) (by rw[h1.len];exact hn) (by rw[h2.len];exact hm);have H0:=hd3 h1 h2 hL;clear h1 h2 hL;have j6:=ft
 go_enter Tryz.func62,Tryz.ntmps62
 go_wp2_with fail
 refine(aL 6 6 rfl _ 9 9 Zc.kind _ (Rd.conv w Zc.kind [.int .u8 42,.int .u8 134,.int .u8 72,.int .u8 134,.int .u8 247,.int .u8 13,.int .u8 1,.int .u8 9,.int .u8 3] 9 (9,10) rfl rfl ab) ab).mono ?_;rintro en w1 ⟨A1,n1,c1,rfl,ho,hb⟩;have hB:Below w.heap.size w w1:=(aB w _).trans (hb.mono ag);have q3:=hB.size;have q1:w.heap.size≤w1.heap.size:=by have:=hb.size;simp at this;omega
 have qg:Below w.heap.size w w1:=(aB w _).trans (hb.mono ag);have H1:=hd2 (show az w1 w.heap.size w1.heap.size (.slice A1 n1 c1) (Der.write 6 Zc.kind) from ho.mono (by simp<;>omega) nl_) hB;have j3:=hd1 qg;clear ho hb hB qg
 go_wp2_with fail
 refine(aL 6 6 rfl _ _ _ k _ (H0.1.up H1.2) ab).mono ?_;rintro en w2 ⟨A2,n2,c2,rfl,ho,hb⟩;have hB:Below w.heap.size w w2:=H1.2.trans (hb.mono q3);have q4:=hB.size;have j7:n2≤1006:=by have:=aM ho;have:=H0.2.2;omega
 have H2:=hd2 (show az w2 w.heap.size w2.heap.size (.slice A2 n2 c2) (Der.write 6 k) from ho.mono ab nl_) hB;have qk:=hd1 hb;clear ho hb hB
 go_wp2_with fail
 refine(aL 49 49 rfl _ _ _ _ _ H2.1.rdx ab).mono ?_;rintro en w3 ⟨A3,n3,c3,rfl,ho,hb⟩;have hB:Below w.heap.size w w3:=H2.2.trans (hb.mono q4);have q5:=hB.size;have H3:=hd2 (show az w3 w.heap.size w3.heap.size (.slice A3 n3 c3) (Der.write 49 (Der.write 6 k)) from ho.mono ab nl_) hB;have HU:=hd1 (fN (fN H1.1 qk.out) hb);have j4:=hd1 hb;clear ho hb hB
 go_wp2_with fail
 refine(bu _ 2 2 [(.slice A1 n1 c1,Der.write 6 Zc.kind),(.slice A3 n3 c3,Der.write 49 (Der.write 6 k))] _ (jm w3 _ _ _ _ (aJ.mk HU.out.rdx) (aJ.mk H3.1.rdx)) ab ?_).mono ?_
 ·rw[iy]
  have:=H0.2.2;omega
 rintro en w4 ⟨A4,n4,c4,rfl,ho,hb⟩;have hK:Below w3.heap.size w3 w4:=(aB w3 _).trans (hb.mono ag);have hB:Below w.heap.size w w4:=H3.2.trans (hK.mono q5);have q6:=hB.size;have H4:=hd2 (show az w4 w.heap.size w4.heap.size (.slice A4 n4 c4) (Zc.attrK k) from ho.mono ai nl_) hB;have j5:=hd1 hK;clear ho hb hB hK
 go_wp2_with fail
 refine(aL 6 6 rfl _ 9 9 Zc.digest _ (Rd.conv w4 Zc.digest [.int .u8 42,.int .u8 134,.int .u8 72,.int .u8 134,.int .u8 247,.int .u8 13,.int .u8 1,.int .u8 9,.int .u8 4] 9 (9,10) rfl rfl ab) ab).mono ?_;rintro en w5 ⟨A5,n5,c5,rfl,ho,hb⟩;have hB:Below w.heap.size w w5:=H4.2.trans (((aB w4 _).trans (hb.mono ag)).mono q6);have q7:=hB.size;have q2:w4.heap.size≤w5.heap.size:=by have:=hb.size;simp at this;omega
 have qh:Below w4.heap.size w4 w5:=(aB w4 _).trans (hb.mono ag);have H5:=hd2 (show az w5 w.heap.size w5.heap.size (.slice A5 n5 c5) (Der.write 6 Zc.digest) from ho.mono (by simp<;>omega) nl_) hB;have qs:=hd1 qh;clear ho hb hB qh
 go_wp2_with fail
 refine(aL 4 4 rfl _ _ _ s _ (H0.2.1.up H5.2) ab).mono ?_;rintro en w6 ⟨A6,n6,c6,rfl,ho,hb⟩;have hB:Below w.heap.size w w6:=H5.2.trans (hb.mono q7);have q9:=hB.size;have j8:n6≤1006:=by have:=aM ho;have:=H0.2.2;omega
 have H6:=hd2 (show az w6 w.heap.size w6.heap.size (.slice A6 n6 c6) (Der.write 4 s) from ho.mono ab nl_) hB;have qd:=hd1 hb;clear ho hb hB
 go_wp2_with fail
 refine(aL 49 49 rfl _ _ _ _ _ H6.1.rdx ab).mono ?_;rintro en w7 ⟨A7,n7,c7,rfl,ho,hb⟩;have hB:Below w.heap.size w w7:=H6.2.trans (hb.mono q9);have j0:=hB.size;have H7:=hd2 (show az w7 w.heap.size w7.heap.size (.slice A7 n7 c7) (Der.write 49 (Der.write 4 s)) from ho.mono ab nl_) hB;have HU:=hd1 (fN (fN H5.1 qd.out) hb);have qv:=hd1 hb;clear ho hb hB
 go_wp2_with fail
 refine(bu _ 2 2 [(.slice A5 n5 c5,Der.write 6 Zc.digest),(.slice A7 n7 c7,Der.write 49 (Der.write 4 s))] _ (jm w7 _ _ _ _ (aJ.mk HU.out.rdx) (aJ.mk H7.1.rdx)) ab ?_).mono ?_
 ·rw[iy]
  have:=H0.2.2;omega
 rintro en w8 ⟨A8,n8,c8,rfl,ho,hb⟩;have hK:Below w7.heap.size w7 w8:=(aB w7 _).trans (hb.mono ag);have hB:Below w.heap.size w w8:=H7.2.trans (hK.mono j0);have j1:=hB.size;have H8:=hd2 (show az w8 w.heap.size w8.heap.size (.slice A8 n8 c8) (Zc.attrD s) from ho.mono ai nl_) hB;have q0:=hd1 hK;clear ho hb hB hK;have HV:=hd1 (fN (fN (fN (fN H4.1 qs.out) qd.out) qv.out) q0.out)
 go_wp2_with fail
 refine(nZ _ 2 2 [(.slice A4 n4 c4,Zc.attrK k),(.slice A8 n8 c8,Zc.attrD s)] _ (jm w8 _ _ _ _ (aJ.mk HV.out.rdx) (aJ.mk H8.1.rdx)) ab ?_).mono ?_
 ·rw[iy]
  have:=H0.2.2;omega
 rintro en w9 ⟨S,hp,hord,A9,n9,c9,rfl,ho,hb⟩;have yd:n9≤2066:=by
  have h1:=aM ho;have h2:=congrArg (fun l=>l) (pT hp);have h3:=iy (.slice A4 n4 c4) (.slice A8 n8 c8) (Zc.attrK k) (Zc.attrD s);have h4:=H0.2.2;omega
 have hK:Below w8.heap.size w8 w9:=(aB w8 _).trans (hb.mono ag);have hB:Below w.heap.size w w9:=H8.2.trans (hK.mono j1);have j2:=hB.size;have H9:=hd4 ho hB hp hord;clear ho hb hB hK hp hord
 go_wp2_with fail
 refine(aL 49 49 rfl _ _ _ _ _ H9.1.rdx ab).mono ?_;rintro en w10 ⟨A10,n10,c10,rfl,ho,hb⟩;have qc:=hd2 (show az w10 w.heap.size w10.heap.size (.slice A10 n10 c10) (Der.write 49 (aZ S)) from ho.mono ab nl_) (H9.2.1.trans (hb.mono j2));clear ho hb
 go_wp2
 go_ret
 exact⟨S.map (fun p:Value×List UInt8=>p.2),H9.2.2.1.map _,H9.2.2.2,_,_,_,rfl,qc.1,qc.2⟩
end Go.Proofs.YtmpkpphfoidbeaaGreatDoor
