import Derived.ArgAppend
import Derived.Test.YtmpkpphfoidbeaaGreatDoorV02
set_option linter.unusedVariables false
set_option linter.unusedSimpArgs false
namespace Go.Proofs.YtmpkpphfoidbeaaGreatDoor
open Go.RowKit
section
section
set_option maxRecDepth 100000
structure Tm where
 y:Nat
 mo:Nat
 d:Nat
 h:Nat
 mi:Nat
 s:Nat
 deriving DecidableEq
def Tm.v (t:Tm):Value:=.agg #[.int .u16 (t.y:Int),.int .u8 (t.mo:Int),.int .u8 (t.d:Int),.int .u8 (t.h:Int),.int .u8 (t.mi:Int),.int .u8 (t.s:Int)]
def Stamp.days (y m:Nat):Nat:=if m=2∧y % 4=0∧(y % 100≠0∨y % 400=0) then 29 else [0,31,28,31,30,31,30,31,31,30,31,30,31].getD m 0
def Stamp.right (t:Tm):Bool:=decide (1≤t.d)&&decide (t.d≤Stamp.days t.y t.mo)&&decide (1900≤t.y)&&decide (t.y≤9999)&&decide (t.h<24)&&decide (t.mi<60)&&decide (t.s<60)
theorem xJ (y m:Nat) (w:World) (hm:13≤m) (hb:m<256):Calls Tryz.prog 196 #[.int .u16 (y:Int),.int .u8 (m:Int)] w fun e w'=>e=.returned (.int .u8 (Stamp.days y m:Int))∧Below w.heap.size w w':=by
 have hd:Stamp.days y m=0:=by
  unfold Stamp.days;rw[if_neg ab,List.getD_eq_getElem?_getD,List.getElem?_eq_none ai]
  rfl
 rw[hd];have qc:(13:Int)≤m:=ab
 clear hd
 go_enter Tryz.func196,Tryz.ntmps196
 go_wp2
 go_ret
 exact⟨rfl,aa⟩
theorem sW (y m z:Nat) (w:World) (hm:m<13) (h2:((m:Int)==2)=false) (hz:Hid ([0,31,28,31,30,31,30,31,31,30,31,30,31].getD m 0=z)) (hc:(#[.int .u8 0,.int .u8 31,.int .u8 28,.int .u8 31,.int .u8 30,.int .u8 31,.int .u8 30,.int .u8 31,.int .u8 31,.int .u8 30,.int .u8 31,.int .u8 30,.int .u8 31]:Array Value)[m]? = some (.int .u8 (z:Int))) :
 Calls Tryz.prog 196 #[.int .u16 (y:Int),.int .u8 (m:Int)] w fun e w'=>e=.returned (.int .u8 (Stamp.days y m:Int))∧Below w.heap.size w w':=by
 have hd:Hid (Stamp.days y m=z):=hd1 (by
  unfold Stamp.days;rw[if_neg (by simp at h2;omega),hz.out])
 rw[hd.out];have qc:¬(13:Int)≤m:=ab
 go_enter Tryz.func196,Tryz.ntmps196
 go_wp2
 go_ret
 refine⟨?_,aa⟩
 congr 1
 rw[List.getElem?_toArray,List.getElem?_eq_getElem (by simpa using hm)]at hc;exact Option.some.inj hc
theorem xK (y:Nat) (w:World) (hy:y<65536) :
 Calls Tryz.prog 196 #[.int .u16 (y:Int),.int .u8 2] w fun e w'=>e=.returned (.int .u8 (Stamp.days y 2:Int))∧Below w.heap.size w w':=by
 by_cases h4:y % 4=0
 ·have e4:((y:Int) % 4==0)=true:=ai
  by_cases h100:y % 100=0
  ·have qc:((y:Int) % 100 != 0)=false:=ai
   by_cases h400:y % 400=0
   ·have qd:((y:Int) % 400==0)=true:=ai
    rw[show Stamp.days y 2=29 from if_pos ⟨rfl,h4,.inr h400⟩];clear h4 h100 h400
    go_enter Tryz.func196,Tryz.ntmps196
    go_wp2
    go_ret
    exact⟨rfl,aa⟩
   ·have qd:((y:Int) % 400==0)=false:=ai
    rw[show Stamp.days y 2=28 from if_neg (fun h=>h.2.2.elim (fun h=>h h100) h400)];clear h4 h100 h400
    go_enter Tryz.func196,Tryz.ntmps196
    go_wp2
    go_ret
    exact⟨rfl,aa⟩
  ·have qc:((y:Int) % 100 != 0)=true:=ai
   rw[show Stamp.days y 2=29 from if_pos ⟨rfl,h4,.inl h100⟩];clear h4 h100
   go_enter Tryz.func196,Tryz.ntmps196
   go_wp2
   go_ret
   exact⟨rfl,aa⟩
 ·have e4:((y:Int) % 4==0)=false:=ai
  rw[show Stamp.days y 2=28 from if_neg (fun h=>h4 h.2.1)];clear h4
  go_enter Tryz.func196,Tryz.ntmps196
  go_wp2
  go_ret
  exact⟨rfl,aa⟩
theorem xI (y m:Nat) (w:World) (hy:y<65536) (hm:m<256) :
 Calls Tryz.prog 196 #[.int .u16 (y:Int),.int .u8 (m:Int)] w fun e w'=>e=.returned (.int .u8 (Stamp.days y m:Int))∧Below w.heap.size w w':=by
 by_cases h13:13≤m
 ·exact xJ y m w h13 hm
 ·by_cases h2:m=2
  ·subst h2
   exact xK y w hy
  ·refine sW y m _ w ab ai (hd1 rfl) ?_
   have:m<13:=ab
   rcases m with _|_|_|_|_|_|_|_|_|_|_|_|_|m<;>first|rfl|omega
end
section
set_option maxRecDepth 100000
theorem wB (y mo h mi s:Nat) (w:World) :
 Calls Tryz.prog 192 #[Tm.v ⟨y,mo,0,h,mi,s⟩] w fun e w'=>e=.returned (.bool false)∧Below w.heap.size w w':=by
 dsimp only[Tm.v];have h0:decide ((0:Int)<(0:Nat))=false:=rfl
 go_enter Tryz.func192,Tryz.ntmps192
 go_wp2
 go_quiet (fail)
 by_cases h1:(1900:Int)≤y
 ·by_cases h2:(y:Int)≤9999
  ·go_wp2
   go_ret
   exact⟨rfl,aa⟩
  ·go_wp2
   go_ret
   exact⟨rfl,aa⟩
 ·go_wp2
  go_ret
  exact⟨rfl,aa⟩
theorem nY (t:Tm) (w:World) (hy:t.y<65536) (hm:t.mo<256) :
 Calls Tryz.prog 192 #[t.v] w fun e w'=>e=.returned (.bool (Stamp.right t))∧Below w.heap.size w w':=by
 obtain⟨y,mo,d,h,mi,s⟩:=t
 by_cases hd:d=0
 ·subst hd
  exact wB y mo h mi s w
 dsimp only[Tm.v]at hy hm ⊢;have qg:0<d:=ab
 have hq:Hid (∀q,(decide (d≤Stamp.days y mo)&&decide (1900≤y)&&decide (y≤9999)&&decide (h<24)&&decide (mi<60)&&decide (s<60))=q→Stamp.right ⟨y,mo,d,h,mi,s⟩=q):=hd1 (by
  rintro q rfl;unfold Stamp.right;dsimp only;rw[show decide (1≤d)=true from decide_eq_true ab,Bool.true_and])
 obtain⟨D,hD⟩:∃D,Stamp.days y mo=D:=⟨_,rfl⟩
 rw[hD]at hq;have HD:=hd1 hD;clear hD hd;have qc:w.heap.size<w.heap.size+1:=ab
 go_enter Tryz.func192,Tryz.ntmps192
 go_wp2
 go_region_held3 (fun w'=>w'.cell? ⟨w.heap.size,0,none⟩=some (.int .u16 (y:Int))∧w'.cell? ⟨w.heap.size,1,none⟩=some (.int .u8 (mo:Int))∧w'.cell? ⟨w.heap.size,2,none⟩=some (.int .u8 (d:Int))) (go_keep)
  (first|(go_at_call 196;((with_reducible refine(xI y mo _ hy hm).mono ?_);rintro e w1 ⟨rfl,hb1⟩);rw[HD.out];simp only[World.size_drew,World.size_alloc]at hb1;have k0:w1.cell? ⟨w.heap.size,0,none⟩=some (.int .u16 (y:Int)):=(hb1.cell (p:=⟨w.heap.size,0,none⟩) qc).trans (by simp[go_sem]);have k1:w1.cell? ⟨w.heap.size,1,none⟩=some (.int .u8 (mo:Int)):=(hb1.cell (p:=⟨w.heap.size,1,none⟩) qc).trans (by simp[go_sem]);have k2:w1.cell? ⟨w.heap.size,2,none⟩=some (.int .u8 (d:Int)):=(hb1.cell (p:=⟨w.heap.size,2,none⟩) qc).trans (by simp[go_sem])))
 have qd:Below w.heap.size w w1:=Below.trans aa (hb1.mono ab);have k3:w1.cell? ⟨w.heap.size,3,none⟩=some (.int .u8 (h:Int)):=(hb1.cell (p:=⟨w.heap.size,3,none⟩) qc).trans (by simp[go_sem]);have k4:w1.cell? ⟨w.heap.size,4,none⟩=some (.int .u8 (mi:Int)):=(hb1.cell (p:=⟨w.heap.size,4,none⟩) qc).trans (by simp[go_sem]);have k5:w1.cell? ⟨w.heap.size,5,none⟩=some (.int .u8 (s:Int)):=(hb1.cell (p:=⟨w.heap.size,5,none⟩) qc).trans (by simp[go_sem]);have HB:=hd1 qd;clear qd hb1
 by_cases c1:(1900:Int)≤y
 ·by_cases c2:(y:Int)≤9999
  ·by_cases c3:(d:Int)≤D
   ·by_cases c4:(h:Int)<24
    ·by_cases c5:(mi:Int)<60
     ·by_cases c6:(s:Int)<60
      ·go_wp2
       go_ret
       exact⟨by rw[hq.out true ai];rfl,HB.out⟩
      ·go_wp2
       go_ret
       exact⟨by rw[hq.out false ai];rfl,HB.out⟩
     ·go_wp2
      go_ret
      exact⟨by rw[hq.out false ai];rfl,HB.out⟩
    ·go_wp2
     go_ret
     exact⟨by rw[hq.out false ai];rfl,HB.out⟩
   ·go_wp2
    go_ret
    exact⟨by rw[hq.out false ai];rfl,HB.out⟩
  ·go_wp2
   go_ret
   exact⟨by rw[hq.out false ai];rfl,HB.out⟩
 ·go_wp2
  go_ret
  exact⟨by rw[hq.out false ai];rfl,HB.out⟩
end
section
set_option maxRecDepth 100000
def bR (c:UInt8):Bool:=decide (c.toNat<48)||decide (57<c.toNat)
theorem wO (c:UInt8) (w:World):Calls Tryz.prog 190 #[.int .u8 (c.toNat:Int)] w fun e w'=>e=.returned (.bool (bR c))∧w'=w:=by
 by_cases h1:(c.toNat:Int)<48
 ·have hq:bR c=true:=by unfold bR;simp;omega
  rw[hq]
  go_enter Tryz.func190,Tryz.ntmps190
  go_wp2
  go_ret
  exact⟨rfl,rfl⟩
 ·have hq:bR c=decide ((57:Int)<c.toNat):=by
   unfold bR;rw[show decide (c.toNat<48)=false from by simp;omega,Bool.false_or];exact decide_eq_decide.2 ab
  rw[hq];clear hq
  go_enter Tryz.func190,Tryz.ntmps190
  go_wp2
  go_ret
  exact⟨rfl,rfl⟩
theorem yK (y:Nat) (hy:y<100) (w:World):Calls Tryz.prog 181 #[.int .i64 (y:Int)] w fun e w'=>e=.returned (.int .i64 ((if 50≤y then 1900+y else 2000+y:Nat):Int))∧w'=w:=by
 by_cases h1:50≤y
 ·have qc:(50:Int)≤y:=ab
  rw[if_pos h1]
  go_enter Tryz.func181,Tryz.ntmps181
  go_wp2
  go_ret
  exact⟨by congr 2,rfl⟩
 ·have qc:¬(50:Int)≤y:=ab
  rw[if_neg h1]
  go_enter Tryz.func181,Tryz.ntmps181
  go_wp2
  go_ret
  exact⟨by congr 2,rfl⟩
theorem xT (y:Nat) (w:World):Calls Tryz.prog 180 #[.int .i64 (y:Int)] w fun e w'=>e=.returned (.int .i64 (y:Int))∧w'=w:=by
 go_enter Tryz.func180,Tryz.ntmps180
 go_wp2
 go_ret
 exact⟨rfl,rfl⟩
theorem oD (A:Option Addr) (n c:Nat) (xs:List UInt8) (B:Nat) (w:World) (h:Rd w B A n c xs) :
 Calls Tryz.prog 195 #[.slice A n c,.func (.func 190) #[] #[]] w fun e w'=>w'=w∧∃z:Int,e=.returned (.int .i64 z)∧(decide (0≤z)=xs.any bR):=by
 have hl:=h.len;have qg:=h.cap;have qd:=h.capm;have HX:=hd2 h hl;clear h hl
 go_enter Tryz.func195,Tryz.ntmps195
 go_wp2
 go_loopw [8] (fun i wr=>∃k:Nat,k≤n∧i=.int .i64 k∧wr=w∧(xs.take k).any bR=false) (fun i _=>n - (intOf i).toNat)
 case atStart=>exact⟨0,Nat.zero_le _,rfl,rfl,rfl⟩
 case round=>
  obtain⟨k,hk,rfl,rfl,hz⟩:=hrel
  by_cases hlt:k<n
  ·have qc:(k:Int)<n:=ab
   obtain⟨g,o,rfl,hg,hcell⟩:=HX.1.at_ ab;obtain⟨x,hx⟩:∃x,xs[k]? = some x:=⟨_,List.getElem?_eq_getElem (by have:=HX.2;omega)⟩
   have qh:=hcell k x hx;have HZ:=hd2 hz hx;clear hz hx hcell
   go_wp2_with fail
   refine(wO x _).mono ?_;rintro e w' ⟨rfl,rfl⟩
   cases hq:bR x with
   | true=>
    have HQ:=hd1 hq;clear hq
    go_wp2
    go_ret
    refine⟨rfl,k,rfl,?_⟩;rw[decide_eq_true ab]
    symm
    rw[List.any_eq_true];exact⟨x,List.mem_of_getElem? HZ.2,HQ.out⟩
   | false=>
    have HQ:=hd1 hq;clear hq
    go_wp2
    go_roundw
    case rel=>exact⟨k+1,ab,by go_num,trivial,by rw[df HZ.2,List.any_append,HZ.1];simp[HQ.out]⟩
    case measure=>simp[intOf];omega
  ·obtain rfl:n=k:=ab
   have qk:¬(n:Int)<n:=ab
   have HZ:=hd1 hz;clear hz
   go_wp2
   go_ret
   refine⟨rfl,-1,rfl,?_⟩;have e:=HZ.out;rw[List.take_of_length_le (by have:=HX.2;omega)]at e;rw[e]
   rfl
theorem ew (A:Option Addr) (n c:Nat) (xs:List UInt8) (B:Nat) (w:World) (h:Rd w B A n c xs) :
 Calls Tryz.prog 189 #[.slice A n c,.func (.func 190) #[] #[]] w fun e w'=>w'=w∧e=.returned (.bool (xs.any bR)):=by
 go_enter Tryz.func189,Tryz.ntmps189
 go_wp2_with fail
 refine(oD A n c xs B _ h).mono ?_;rintro e w' ⟨rfl,z,rfl,hz⟩;have HZ:=hd1 hz;clear hz
 go_wp2
 go_ret
 exact⟨rfl,by rw[←HZ.out];rfl⟩
end
section
set_option maxRecDepth 100000
def Stamp.dig (l:List UInt8):Nat:=l.foldl (fun a x=>a*10+(x.toNat - 48)) 0
theorem xL (l:List UInt8) (x:UInt8):Stamp.dig (l++[x])=Stamp.dig l*10+(x.toNat - 48):=by simp[Stamp.dig,List.foldl_append]
theorem lK (l:List UInt8) (h:l.any bR=false):Stamp.dig l<10 ^ l.length:=by
 have key:∀(r l:List UInt8),l.any bR=false→r.length=0∨True→∀a,l.foldl (fun a x=>a*10+(x.toNat - 48)) a<(a+1)*10 ^ l.length:=by
  intro _ l
  induction l with
  | nil=>intro _ _ a;simp
  | cons x l ih=>
   intro h _ a;simp only[List.any_cons,Bool.or_eq_false_iff]at h;have h1:=ih h.2 (.inr trivial) (a*10+(x.toNat - 48));have hx:x.toNat≤57:=by
    have:=h.1;unfold bR at this;simp at this;omega
   simp only[List.foldl_cons,List.length_cons,Nat.pow_succ];refine Nat.lt_of_lt_of_le h1 ?_;rw[Nat.mul_comm (10 ^ l.length) 10,←Nat.mul_assoc];exact Nat.mul_le_mul_right _ ab
 have:=key [] l h (.inr trivial) 0
 simpa [Stamp.dig]using this
theorem jk (A:Option Addr) (m c:Nat) (xs:List UInt8) (B p q n at_:Nat) (w:World) (h:Rd w B A m c xs) (hB:B≤q) (hp:w.cell? ⟨p,0,none⟩=some (.slice A m c)) (hpq:p<q)
 (hq:aw w q 3 #[.int .i64 (at_:Int)]) (hn:n≤4) (hat:at_+n≤m) (hm:m≤100) (hd:((xs.drop at_).take n).any bR=false) :
 Calls Tryz.prog 191 #[.int .i64 (n:Int),.pointer (some ⟨p,0,none⟩),.pointer (some ⟨q,0,none⟩)] w fun e w'=>
  e=.returned (.int .i64 (Stamp.dig ((xs.drop at_).take n):Int))∧w.grownBy w' (some q)∧w'.heap.size=w.heap.size∧aw w' q 3 #[.int .i64 ((at_+n:Nat):Int)]:=by
 have hl:=h.len;have q6:=hq.lt;have HX:=hd4 h hl hd hq;clear h hl hd hq
 go_enter Tryz.func191,Tryz.ntmps191
 go_wp2
 go_loopw [0,4] (fun v u wr=>∃k:Nat,k≤n∧v=.int .i64 ((n - k:Nat):Int)∧u=.int .i64 (Stamp.dig ((xs.drop at_).take k):Int)∧w.grownBy wr (some q)∧wr.heap.size=w.heap.size∧aw wr q 3 #[.int .i64 ((at_+k:Nat):Int)]) (fun v _ _=>(intOf v).toNat)
 case atStart=>exact⟨0,Nat.zero_le _,rfl,rfl,World.grownBy.refl w _,rfl,HX.2.2.2⟩
 case round=>
  obtain⟨k,hk,rfl,rfl,hg,hs,hb⟩:=hrel
  by_cases hlt':k<n
  ·have q0:(0:Int)<((n - k:Nat):Int):=ab
   obtain⟨g,o,rfl,hgB,hcell⟩:=HX.1.at_ ab;obtain⟨x,hx⟩:∃x,xs[at_+k]? = some x:=⟨_,List.getElem?_eq_getElem (by have:=HX.2.1;omega)⟩
   have q2:wr.cell? ⟨g,o+(at_+k),none⟩=some (.int .u8 (x.toNat:Int)):=(World.cell?_of_block (hg.block g ab (fun e=>by injection e with e;omega))).trans (hcell (at_+k) x hx);have q1:wr.cell? ⟨p,0,none⟩=some (.slice (some ⟨g,o,none⟩) m c):=(World.cell?_of_block (hg.block p ab (fun e=>by injection e with e;omega))).trans hp;obtain⟨hc0,hf0⟩:=hb.facts;have qv:((xs.drop at_).take n)[k]? = some x:=gd hlt' hx;have qg:(xs.drop at_).take (k+1)=(xs.drop at_).take k++[x]:=df (by rw[List.getElem?_drop];exact hx);have qk:bR x=false:=by
    have:=HX.2.2.1;rw[List.any_eq_false]at this
    simpa using this x (List.mem_of_getElem? qv)
   have qc:(48:Int)≤x.toNat∧(x.toNat:Int)≤57:=by
    unfold bR at qk;simp at qk;omega
   have qd:((xs.drop at_).take k).any bR=false:=by
    have h1:=HX.2.2.1;rw[List.any_eq_false]at h1 ⊢;intro y hy;refine h1 y ?_;rw[show k=min k n from by omega,←List.take_take]at hy;exact List.mem_of_mem_take hy
   have qs:=lK _ qd;have qh:Stamp.dig ((xs.drop at_).take k)<10000:=Nat.lt_of_lt_of_le qs (Nat.le_trans (Nat.pow_le_pow_right ab (show _≤4 by simp;omega)) ab);obtain⟨V,hV⟩:∃V,Stamp.dig ((xs.drop at_).take k)=V:=⟨_,rfl⟩
   rw[hV]at qh ⊢;have q7:=qc.1;have q9:=qc.2;have HK:=hd5 hg hs hb qg hV;have q4:(0:Int)≤((at_+k:Nat):Int):=ab
   have q5:((at_+k:Nat):Int)<m:=ab
   clear hg hs hb qv qg hV qk qc qd qs hcell hx
   go_wp2
   refine⟨⟨k+1,ab,by congr 1;omega,?_,bM HK.1 0 _,by simpa using HK.2.1,?_⟩,by simp[intOf];omega⟩
   ·rw[HK.2.2.2.1,xL,HK.2.2.2.2]
    congr 1
    omega
   ·have:=HK.2.2.1.set_ 0 (.int .i64 ((at_:Int)+(k:Int)+1))
    simpa [Int.add_assoc]using this
  ·obtain rfl:n=k:=ab
   have q3:¬(0:Int)<((n - n:Nat):Int):=ab
   have HK:=hd3 hg hs hb;clear hg hs hb
   go_wp2
   go_ret
   exact⟨rfl,HK.out⟩
end
section
set_option maxRecDepth 100000
def Stamp.at2 (b:List UInt8) (k:Nat):Nat:=Stamp.dig ((b.drop k).take 2)
def Stamp.tm (n:Nat) (f:Nat→Nat) (b:List UInt8):Tm:=⟨f (Stamp.dig ((b.drop 0).take n)),Stamp.at2 b n,Stamp.at2 b (n+2),Stamp.at2 b (n+4),Stamp.at2 b (n+6),Stamp.at2 b (n+8)⟩
def Stamp.told (n:Nat) (f:Nat→Nat) (b:List UInt8):Option Tm:=
 if b.length=n+11∧b[n+10]? = some 90∧(b.take (n+10)).any bR=false∧Stamp.right (Stamp.tm n f b)=true then some (Stamp.tm n f b) else none
def Tm.zero:Tm:=⟨0,0,0,0,0,0⟩
def dD (o:Option Tm) (w:World) (e:Ending) (w':World):Prop:=Below w.heap.size w w'∧((o=none∧e=.returned (.tuple #[Tm.zero.v,.bool false]))∨∃t,o=some t∧e=.returned (.tuple #[t.v,.bool true]))
def Stamp.year2 (y:Nat):Nat:=if 50≤y then 1900+y else 2000+y
def Stamp.cell (n:Nat) (b:List UInt8) (k j:Nat):Value:=if j<k then .int .u8 (Stamp.at2 b (n+2*j):Int) else .int .u8 0
def Stamp.cells (Y n:Nat) (b:List UInt8) (k:Nat):Array Value:=#[.int .u16 (Y:Int),Stamp.cell n b k 0,Stamp.cell n b k 1,Stamp.cell n b k 2,Stamp.cell n b k 3,Stamp.cell n b k 4]
theorem gY {fn:Func} {t:Tmp} {ty:TypeId} (h:fn.results=#[.cell t ty]) (tmps:Array Value) (P:Program) (w:World) (ad:Addr) (v:Value) (ha:tmps.getD t undef=.pointer (some ad)) (hl:(loadVar ty ad).run P w=.ok v w) :
 (results fn tmps).run P w=.ok v w:=by
 have qc:=ha;simp only[Array.getD_eq_getD_getElem?]at qc;simp[results,h,qc,hl,asAddr]
theorem cI {fn:Func} {t u:Tmp} {ty:TypeId} (h:fn.results=#[.cell t ty,.tmp u]) (tmps:Array Value) (P:Program) (w:World) (ad:Addr) (v:Value) (ha:tmps.getD t undef=.pointer (some ad)) (hl:(loadVar ty ad).run P w=.ok v w) :
 (results fn tmps).run P w=.ok (.tuple #[v,tmps.getD u undef]) w:=by
 have qc:=ha;simp only[Array.getD_eq_getD_getElem?]at qc;simp[results,h,qc,hl,asAddr]
theorem dI (w:World) (b:Nat) (v0 v1 v2 v3 v4 v5:Value) (h:aw w b 70 #[v0,v1,v2,v3,v4,v5]):(loadVar 70 ⟨b,0,none⟩).run Tryz.prog w=.ok (.agg #[v0,v1,v2,v3,v4,v5]) w:=by
 obtain⟨k,_⟩:=h.facts;have k0:=k 0;have k1:=k 1;have k2:=k 2;have k3:=k 3;have k4:=k 4;have k5:=k 5;simp only[List.getElem?_toArray,List.getElem?_cons_zero,List.getElem?_cons_succ]at k0 k1 k2 k3 k4 k5;clear k h;simp[go_sem,k0,k1,k2,k3,k4,k5]
structure oT (n Y:Nat) (sl:Value) (b:List UInt8) (w:World) (k:Nat) (wr:World):Prop where
 bel:Below w.heap.size w wr
 size:wr.heap.size=w.heap.size+5
 b0:aw wr w.heap.size 22 #[sl]
 b1:aw wr (w.heap.size+1) 70 #[.int .u16 0,.int .u8 0,.int .u8 0,.int .u8 0,.int .u8 0,.int .u8 0]
 b2:aw wr (w.heap.size+1+1) 3 #[.int .i64 ((n+2*k:Nat):Int)]
 b3:aw wr (w.heap.size+1+1+1) 70 (Stamp.cells Y n b k)
 b4:aw wr (w.heap.size+1+1+1+1) 225 #[.pointer (some ⟨w.heap.size+1+1+1,1,none⟩),.pointer (some ⟨w.heap.size+1+1+1,2,none⟩),.pointer (some ⟨w.heap.size+1+1+1,3,none⟩),.pointer (some ⟨w.heap.size+1+1+1,4,none⟩),.pointer (some ⟨w.heap.size+1+1+1,5,none⟩)]
theorem lG {b:List UInt8} {k:Nat} (h:((b.drop k).take 2).any bR=false):Stamp.at2 b k<100:=by
 have h1:=lK _ h;have h2:(10:Nat) ^ ((b.drop k).take 2).length≤10 ^ 2:=Nat.pow_le_pow_right ab ai;unfold Stamp.at2;omega
theorem wV (A:Option Addr) (m c:Nat) (xs:List UInt8) (w:World) (h:Rd w w.heap.size A m c xs) (hl:m≠15) :
 Calls Tryz.prog 179 #[.slice A m c,.int .i64 4,.func (.func 180) #[] #[]] w (dD (Stamp.told 4 id xs) w):=by
 have hn:Stamp.told 4 id xs=none:=if_neg (fun h'=>hl (h.len.symm.trans h'.1));rw[hn];have qc:((m:Int) != 15)=true:=ai
 clear hn h
 go_enter Tryz.func179,Tryz.ntmps179
 go_wp2
 refine bodyPost_ret (v:=.tuple #[Tm.zero.v,.bool false]) (by simp[results,Tryz.results179,go_sem,Tm.v,Tm.zero]) rfl ?_;exact⟨aa,.inl ⟨rfl,rfl⟩⟩
theorem uk (b o c:Nat) (x:UInt8) (xs:List UInt8) (w:World) (h:Rd w w.heap.size (some ⟨b,o,none⟩) 15 c xs) (hx:xs[14]? = some x) (hl:x≠90) :
 Calls Tryz.prog 179 #[.slice (some ⟨b,o,none⟩) 15 c,.int .i64 4,.func (.func 180) #[] #[]] w (dD (Stamp.told 4 id xs) w):=by
 have hn:Stamp.told 4 id xs=none:=if_neg (fun h'=>hl (by have:=hx.symm.trans h'.2.1;injection this));rw[hn];obtain⟨b',o',e,hb,hcell⟩:=h.at_ ab;injection e with e
 injection e with e1 e2
 subst e1 e2;have hc:=hcell 14 x hx;have qc:((x.toNat:Int) != 90)=true:=by
  simp only[bne_iff_ne,ne_eq];intro e;exact hl (UInt8.toNat.inj (by rw[show(90:UInt8).toNat=90 from rfl];omega))
 have hB:=hb;clear hn h hcell hx hl
 go_enter Tryz.func179,Tryz.ntmps179
 go_wp2
 refine bodyPost_ret (v:=.tuple #[Tm.zero.v,.bool false]) (by simp[results,Tryz.results179,go_sem,Tm.v,Tm.zero]) rfl ?_;exact⟨aa,.inl ⟨rfl,rfl⟩⟩
theorem wU (b o c:Nat) (xs:List UInt8) (w:World) (h:Rd w w.heap.size (some ⟨b,o,none⟩) 15 c xs) (hx:xs[14]? = some 90) (hd:(xs.take 14).any bR=true) :
 Calls Tryz.prog 179 #[.slice (some ⟨b,o,none⟩) 15 c,.int .i64 4,.func (.func 180) #[] #[]] w (dD (Stamp.told 4 id xs) w):=by
 have hn:Stamp.told 4 id xs=none:=if_neg (fun h'=>by have:=h'.2.2.1;rw[hd]at this;cases this);rw[hn];obtain⟨b',o',e,hb,hcell⟩:=h.at_ ab;injection e with e
 injection e with e1 e2
 subst e1 e2;have hc:w.cell? ⟨b,o+14,none⟩=some (.int .u8 90):=hcell 14 90 hx;have qd:=h.cap;have qc:=h.capm;have HX:=hd2 (h.upto 14 ab) hd;have hB:=hb;clear hn h hcell hx hd
 go_enter Tryz.func179,Tryz.ntmps179
 go_wp2_with fail
 refine(ew (some ⟨b,o,none⟩) 14 c (xs.take 14) w.heap.size _ ((HX.1.alloc nl_ _).alloc ag _)).mono ?_;rintro e w' ⟨rfl,rfl⟩;rw[HX.2]
 go_wp2
 refine bodyPost_ret (v:=.tuple #[Tm.zero.v,.bool false]) (by simp[results,Tryz.results179,go_sem,Tm.v,Tm.zero]) rfl ?_;exact⟨aa,.inl ⟨rfl,rfl⟩⟩
theorem wR (A:Option Addr) (m c:Nat) (xs:List UInt8) (w:World) (h:Rd w w.heap.size A m c xs) (hl:m≠13) :
 Calls Tryz.prog 179 #[.slice A m c,.int .i64 2,.func (.func 181) #[] #[]] w (dD (Stamp.told 2 Stamp.year2 xs) w):=by
 have hn:Stamp.told 2 Stamp.year2 xs=none:=if_neg (fun h'=>hl (h.len.symm.trans h'.1));rw[hn];have qc:((m:Int) != 13)=true:=ai
 clear hn h
 go_enter Tryz.func179,Tryz.ntmps179
 go_wp2
 refine bodyPost_ret (v:=.tuple #[Tm.zero.v,.bool false]) (by simp[results,Tryz.results179,go_sem,Tm.v,Tm.zero]) rfl ?_;exact⟨aa,.inl ⟨rfl,rfl⟩⟩
theorem ui (b o c:Nat) (x:UInt8) (xs:List UInt8) (w:World) (h:Rd w w.heap.size (some ⟨b,o,none⟩) 13 c xs) (hx:xs[12]? = some x) (hl:x≠90) :
 Calls Tryz.prog 179 #[.slice (some ⟨b,o,none⟩) 13 c,.int .i64 2,.func (.func 181) #[] #[]] w (dD (Stamp.told 2 Stamp.year2 xs) w):=by
 have hn:Stamp.told 2 Stamp.year2 xs=none:=if_neg (fun h'=>hl (by have:=hx.symm.trans h'.2.1;injection this));rw[hn];obtain⟨b',o',e,hb,hcell⟩:=h.at_ ab;injection e with e
 injection e with e1 e2
 subst e1 e2;have hc:=hcell 12 x hx;have qc:((x.toNat:Int) != 90)=true:=by
  simp only[bne_iff_ne,ne_eq];intro e;exact hl (UInt8.toNat.inj (by rw[show(90:UInt8).toNat=90 from rfl];omega))
 have hB:=hb;clear hn h hcell hx hl
 go_enter Tryz.func179,Tryz.ntmps179
 go_wp2
 refine bodyPost_ret (v:=.tuple #[Tm.zero.v,.bool false]) (by simp[results,Tryz.results179,go_sem,Tm.v,Tm.zero]) rfl ?_;exact⟨aa,.inl ⟨rfl,rfl⟩⟩
theorem wQ (b o c:Nat) (xs:List UInt8) (w:World) (h:Rd w w.heap.size (some ⟨b,o,none⟩) 13 c xs) (hx:xs[12]? = some 90) (hd:(xs.take 12).any bR=true) :
 Calls Tryz.prog 179 #[.slice (some ⟨b,o,none⟩) 13 c,.int .i64 2,.func (.func 181) #[] #[]] w (dD (Stamp.told 2 Stamp.year2 xs) w):=by
 have hn:Stamp.told 2 Stamp.year2 xs=none:=if_neg (fun h'=>by have:=h'.2.2.1;rw[hd]at this;cases this);rw[hn];obtain⟨b',o',e,hb,hcell⟩:=h.at_ ab;injection e with e
 injection e with e1 e2
 subst e1 e2;have hc:w.cell? ⟨b,o+12,none⟩=some (.int .u8 90):=hcell 12 90 hx;have qd:=h.cap;have qc:=h.capm;have HX:=hd2 (h.upto 12 ab) hd;have hB:=hb;clear hn h hcell hx hd
 go_enter Tryz.func179,Tryz.ntmps179
 go_wp2_with fail
 refine(ew (some ⟨b,o,none⟩) 12 c (xs.take 12) w.heap.size _ ((HX.1.alloc nl_ _).alloc ag _)).mono ?_;rintro e w' ⟨rfl,rfl⟩;rw[HX.2]
 go_wp2
 refine bodyPost_ret (v:=.tuple #[Tm.zero.v,.bool false]) (by simp[results,Tryz.results179,go_sem,Tm.v,Tm.zero]) rfl ?_;exact⟨aa,.inl ⟨rfl,rfl⟩⟩
end
end
section
section
set_option maxRecDepth 100000
theorem az.grown {w w':World} {lo hi:Nat} {v:Value} {xs:List UInt8} {row:Option Nat} (h:az w lo hi v xs) (hg:w.grownBy w' row) (hne:∀q,v.ownBlock=some q→row≠some q):az w' lo hi v xs:=by
 refine⟨h.1.kept hg ?_,h.2⟩
 cases hv:v.ownBlock with
 | none=>exact .inl rfl
 | some q=>exact .inr (fun e=>hne q hv e.symm)
theorem az.lt_ {w:World} {lo hi q:Nat} {v:Value} {xs:List UInt8} (h:az w lo hi v xs) (hq:v.ownBlock=some q):lo≤q∧q<hi:=⟨(h.1.lt q hq).1,h.2 q hq⟩
end
section
set_option maxRecDepth 100000
theorem i9 {l:List (Value×List UInt8)} (h:bQ l) {i j:Nat} {p q:Value×List UInt8} (hi:l[i]? = some p) (hj:l[j]? = some q) (hne:i≠j):∀g,p.1.ownBlock=some g→q.1.ownBlock≠some g:=by
 obtain⟨hil,hip⟩:=List.getElem?_eq_some_iff.1 hi;obtain⟨hjl,hjq⟩:=List.getElem?_eq_some_iff.1 hj;intro g h1 h2;have hp:=List.pairwise_iff_getElem.1 h;rcases Nat.lt_or_gt_of_ne hne with hlt|hlt
 ·exact hp i j hil hjl hlt g (by rw[hip];exact h1) (by rw[hjq];exact h2)
 ·exact hp j i hjl hil hlt g (by rw[hjq];exact h2) (by rw[hip];exact h1)
theorem aI.lt_ {e:TypeId} {size n:Nat} {w:World} {lo hi q:Nat} {v:Value} {cs:List Value} (h:aI e size w lo hi v n cs) (hq:v.ownBlock=some q):lo≤q∧q<hi:=⟨(h.1.lt q hq).1,h.2 q hq⟩
theorem fH (A A':Option Addr) (n c n' c':Nat) (xs:List UInt8) (B B':Nat) (w:World) (h:Rd w B A n c xs) (h':Rd w B' A' n' c' xs) :
 Calls Tryz.prog 23 #[.slice A n c,.slice A' n' c'] w fun e w'=>e=.returned (.bool true)∧w'=w:=by
 have:=qA A A' n c n' c' xs xs B B' w h h';rw[xQ]at this;exact this
end
section
set_option maxRecDepth 100000
theorem Rd.of_own {w:World} {lo hi n c:Nat} {A:Option Addr} {xs:List UInt8} (h:az w lo hi (.slice A n c) xs):Rd w hi A n c xs:=by
 obtain⟨_,_,_,e,hr⟩:=h.rd;injection e with ea eb ec
 subst ea eb ec;exact hr
end
end
end Go.Proofs.YtmpkpphfoidbeaaGreatDoor
