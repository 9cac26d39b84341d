import Derived.BigRegion
import Derived.Deep.RegionHeld3
import Derived.LoopIn
import Derived.LoopNIn
import Derived.OwnWalkIn
import Derived.RangeFuncBound
import Derived.RangeFuncCalls
import Derived.RangeFuncLeaves
import Derived.RangeFuncNested
import Derived.Shelf.Abstract
import Derived.Shelf.RegionOpen
import Derived.StillTailTactics
import Derived.Stop.RegionWithIn
import Derived.TacticsInMore
import Derived.Test.YtmpkpphfoidbeaaGreatDoorV01
set_option linter.unusedVariables false
set_option linter.unusedSimpArgs false
namespace Go.Proofs.YtmpkpphfoidbeaaGreatDoor
open Go.RowKit
section
section
def dB (xs:List UInt8) (w:World) (e:Ending) (w':World):Prop:=
 ∃(f n:Int) (ok:Bool),e=.returned (.tuple #[.int .i64 f,.int .i64 n,.bool ok])∧(∃k,w'=w.drewN k)∧
  (ok=true→∃f' n':Nat,f=f'∧n=n'∧Der.hdr xs=some (f',n'))∧(ok=false→Der.hdr xs=none)
theorem fU {xs:List UInt8} {w w':World} {f n:Int} (h:Der.hdr xs=none) (hw:∃k,w'=w.drewN k):dB xs w (.returned (.tuple #[.int .i64 f,.int .i64 n,.bool false])) w':=
 ⟨f,n,false,rfl,hw,(fun h=>by cases h),fun _=>h⟩
theorem pk {xs:List UInt8} {w w':World} {f n:Int} {f' n':Nat} (h:Der.hdr xs=some (f',n')) (hf:f=f') (hn:n=n') (hw:∃k,w'=w.drewN k):dB xs w (.returned (.tuple #[.int .i64 f,.int .i64 n,.bool true])) w':=
 ⟨f,n,true,rfl,hw,fun _=>⟨f',n',hf,hn,h⟩,fun h=>by cases h⟩
theorem xX {xs:List UInt8} {w:World} {k m:Nat} (h:Der.hdr xs=if Der.be ((xs.drop 2).take m)<128 then none else some (2+m,Der.be ((xs.drop 2).take m))) (hk:k=m) :
 dB xs w (.returned (.tuple #[.int .i64 (2+(m:Int)),.int .i64 (Der.be (((xs.drop 2).take m).take k):Int),.bool (decide (128≤(Der.be (((xs.drop 2).take m).take k):Int)))])) w:=by
 subst hk;rw[List.take_take,Nat.min_self]
 by_cases h1:Der.be ((xs.drop 2).take k)<128
 ·rw[if_pos h1]at h
  rw[decide_eq_false ab];exact fU h ⟨0,rfl⟩
 ·rw[if_neg h1]at h
  rw[decide_eq_true ab];exact pk h ab rfl ⟨0,rfl⟩
theorem tp (A:Option Addr) (n c:Nat) (xs:List UInt8) (B:Nat) (w:World) (h:Rd w B A n c xs) (hn:n<2) :
 Calls Tryz.prog 103 #[.slice A n c] w (dB xs w):=by
 have hx:Der.hdr xs=none:=by
  have hl:=h.len
  match xs,hl with
  | [],_=>simp[Der.hdr,Der.lenOf]
  | [_],_=>simp[Der.hdr,Der.lenOf]
  | _::_::_,hl=>simp at hl;omega
 have H:=hd1 hx;clear hx h;have h2:((n:Int)<2):=ab
 go_enter Tryz.func103,Tryz.ntmps103
 go_wp2
 go_ret3
 exact fU H.out ⟨0,rfl⟩
theorem xW (b o n c:Nat) (x0:UInt8) (xs:List UInt8) (w:World) (hn:2≤n)
 (h0:w.cell? ⟨b,o,none⟩=some (.int .u8 (x0.toNat:Int))) (hx:Hid (Der.hdr xs=none)) (ht:Hid (x0.toNat % 32=31)) :
  Calls Tryz.prog 103 #[.slice (some ⟨b,o,none⟩) n c] w (dB xs w):=by
 have qd:¬((n:Int)<2):=ab
 have qc:(0:Int)<n:=ab
 have hb:(bits .and .u8 (x0.toNat:Int) 31==31)=true:=by rw[i8,ht.out];rfl
 go_enter Tryz.func103,Tryz.ntmps103
 go_wp2
 go_ret3
 exact fU hx.out ⟨0,rfl⟩
theorem tn (b o n c:Nat) (x0 x1:UInt8) (xs:List UInt8) (w:World) (hn:2≤n)
 (h0:w.cell? ⟨b,o,none⟩=some (.int .u8 (x0.toNat:Int))) (h1:w.cell? ⟨b,o+1,none⟩=some (.int .u8 (x1.toNat:Int)))
 (ht:Hid (x0.toNat % 32≠31)) (hl:(x1.toNat:Int)<128) (hx:Hid (Der.hdr xs=some (2,x1.toNat))) :
  Calls Tryz.prog 103 #[.slice (some ⟨b,o,none⟩) n c] w (dB xs w):=by
 have qd:¬((n:Int)<2):=ab
 have qc:(1:Int)<n:=ab
 have hb:(bits .and .u8 (x0.toNat:Int) 31==31)=false:=by rw[i8];have:=ht.out;simp;omega
 go_enter Tryz.func103,Tryz.ntmps103
 go_wp2
 go_quiet (fail)
 go_wp2
 go_ret3
 exact pk hx.out rfl rfl ⟨_,rfl⟩
theorem ou (b o n c:Nat) (x0:UInt8) (m:Nat) (xs:List UInt8) (w:World) (hn:2≤n) (hm:m<128)
 (h0:w.cell? ⟨b,o,none⟩=some (.int .u8 (x0.toNat:Int))) (h1:w.cell? ⟨b,o+1,none⟩=some (.int .u8 ((m:Int)+128)))
 (ht:Hid (x0.toNat % 32≠31)) (hx:Hid (Der.hdr xs=none)) (hno:m=0) :
  Calls Tryz.prog 103 #[.slice (some ⟨b,o,none⟩) n c] w (dB xs w):=by
 subst hno;have qd:¬((n:Int)<2):=ab
 have qc:(1:Int)<n:=ab
 have hb:(bits .and .u8 (x0.toNat:Int) 31==31)=false:=by rw[i8];have:=ht.out;simp;omega
 go_enter Tryz.func103,Tryz.ntmps103
 go_wp2
 go_ret3
 exact fU hx.out ⟨0,rfl⟩
set_option maxRecDepth 100000 in
theorem oz (b o n c:Nat) (x0:UInt8) (m:Nat) (xs:List UInt8) (w:World) (hn:2≤n) (hm:m<128)
 (h0:w.cell? ⟨b,o,none⟩=some (.int .u8 (x0.toNat:Int))) (h1:w.cell? ⟨b,o+1,none⟩=some (.int .u8 ((m:Int)+128)))
 (ht:Hid (x0.toNat % 32≠31)) (hx:Hid (Der.hdr xs=none)) (hno:4<m) :
  Calls Tryz.prog 103 #[.slice (some ⟨b,o,none⟩) n c] w (dB xs w):=by
 have qd:¬((n:Int)<2):=ab
 have qc:(1:Int)<n:=ab
 have hb:(bits .and .u8 (x0.toNat:Int) 31==31)=false:=by rw[i8];have:=ht.out;simp;omega
 have e0:((m:Int)==0)=false:=ai
 go_enter Tryz.func103,Tryz.ntmps103
 go_wp2
 go_ret3
 exact fU hx.out ⟨0,rfl⟩
set_option maxRecDepth 100000 in
theorem oA (b o n c:Nat) (x0:UInt8) (m:Nat) (xs:List UInt8) (w:World) (hn:2≤n) (hm:m≤4)
 (h0:w.cell? ⟨b,o,none⟩=some (.int .u8 (x0.toNat:Int))) (h1:w.cell? ⟨b,o+1,none⟩=some (.int .u8 ((m:Int)+128)))
 (ht:Hid (x0.toNat % 32≠31)) (hx:Hid (Der.hdr xs=none)) (hm0:0<m) (hno:n<2+m) :
  Calls Tryz.prog 103 #[.slice (some ⟨b,o,none⟩) n c] w (dB xs w):=by
 have qd:¬((n:Int)<2):=ab
 have qc:(1:Int)<n:=ab
 have hb:(bits .and .u8 (x0.toNat:Int) 31==31)=false:=by rw[i8];have:=ht.out;simp;omega
 have e0:((m:Int)==0)=false:=ai
 have e1:¬(4:Int)<m:=ab
 have e2:(n:Int)<2+m:=ab
 go_enter Tryz.func103,Tryz.ntmps103
 go_wp2
 go_ret3
 exact fU hx.out ⟨0,rfl⟩
set_option maxRecDepth 100000 in
theorem oB (b o n c:Nat) (x0:UInt8) (m:Nat) (xs:List UInt8) (w:World) (hn:2+m≤n) (hm:m≤4)
 (h0:w.cell? ⟨b,o,none⟩=some (.int .u8 (x0.toNat:Int))) (h1:w.cell? ⟨b,o+1,none⟩=some (.int .u8 ((m:Int)+128))) (h2:w.cell? ⟨b,o+2,none⟩=some (.int .u8 0))
 (ht:Hid (x0.toNat % 32≠31)) (hx:Hid (Der.hdr xs=none)) (hm0:0<m) :
  Calls Tryz.prog 103 #[.slice (some ⟨b,o,none⟩) n c] w (dB xs w):=by
 have qd:¬((n:Int)<2):=ab
 have qc:(2:Int)<n:=ab
 have hb:(bits .and .u8 (x0.toNat:Int) 31==31)=false:=by rw[i8];have:=ht.out;simp;omega
 have e0:((m:Int)==0)=false:=ai
 have e1:¬(4:Int)<m:=ab
 have e2:¬(n:Int)<2+m:=ab
 go_enter Tryz.func103,Tryz.ntmps103
 go_wp2
 go_ret3
 exact fU hx.out ⟨0,rfl⟩
set_option maxRecDepth 100000 in
set_option maxHeartbeats 400000 in
theorem vJ (b o n c:Nat) (x0 x2:UInt8) (m:Nat) (xs:List UInt8) (B:Nat) (w:World) (hr:Rd w B (some ⟨b,o,none⟩) n c xs) (hn:2+m≤n) (hm:m≤4)
 (h0:w.cell? ⟨b,o,none⟩=some (.int .u8 (x0.toNat:Int))) (h1:w.cell? ⟨b,o+1,none⟩=some (.int .u8 ((m:Int)+128))) (h2:w.cell? ⟨b,o+2,none⟩=some (.int .u8 (x2.toNat:Int)))
 (ht:Hid (x0.toNat % 32≠31)) (hm0:0<m) (hx2:((x2.toNat:Int)==0)=false)
 (hx:Hid (Der.hdr xs=if Der.be ((xs.drop 2).take m)<128 then none else some (2+m,Der.be ((xs.drop 2).take m)))) :
  Calls Tryz.prog 103 #[.slice (some ⟨b,o,none⟩) n c] w (dB xs w):=by
 have qg:=hr.cap;have q2:=hr.capm;have qk:¬((n:Int)<2):=ab
 have qc:(2:Int)<n:=ab
 have hb:(bits .and .u8 (x0.toNat:Int) 31==31)=false:=by rw[i8];have:=ht.out;simp;omega
 have e0:((m:Int)==0)=false:=ai
 have e1:¬(4:Int)<m:=ab
 have e2:¬(n:Int)<2+m:=ab
 go_enter Tryz.func103,Tryz.ntmps103
 go_wp2
 go_loop [3,55] (fun t i=>∃k:Nat,k≤m∧i=.int .i64 k∧t=.int .i64 (Der.be (((xs.drop 2).take m).take k))) (fun _ i=>m - (intOf i).toNat)
 case atStart=>exact⟨0,Nat.zero_le _,rfl,rfl⟩
 case round=>
  obtain⟨k,hk,rfl,rfl⟩:=hrel
  by_cases hlt:k<m
  ·obtain⟨x,hx',hc'⟩:=hr.get (k:=2+k) ab
   have q1:w.cell? ⟨b,o+2+k,none⟩=some (.int .u8 (x.toNat:Int)):=by rw[Nat.add_assoc];exact hc'
   clear hc';have HX:=hd1 (gd hlt hx');clear hx';have q4:(x.toNat:Int)<256:=by have:=x.toNat_lt;omega
   have qd:=Der.be_lt (((xs.drop 2).take m).take k);have qv:256 ^ (((xs.drop 2).take m).take k).length≤256 ^ 3:=Nat.pow_le_pow_right ab ai;have q0:(Der.be (((xs.drop 2).take m).take k):Int)<16777216:=ab
   clear qd qv;have qs:(k:Int)<m:=ab
   go_wp2
   go_round
   case rel=>
    refine⟨k+1,ab,by go_num,?_⟩;rw[zx _ _ ab x.toNat_lt,df HX.out,Der.be_snoc]
   case measure=>simp[intOf];omega
  ·have q3:¬(k:Int)<m:=ab
   go_wp2
   go_ret3
   have qh:k=m:=ab
   exact xX hx.out qh
theorem xV (A:Option Addr) (n c:Nat) (xs:List UInt8) (B:Nat) (w:World) (h:Rd w B A n c xs) :
 Calls Tryz.prog 103 #[.slice A n c] w (dB xs w):=by
 by_cases hn:n<2
 ·exact tp A n c xs B w h hn
 have qd:2≤n:=ab
 obtain⟨b,o,rfl,hbB,hcell⟩:=h.at_ ab;have hl:=h.len
 match xs,hl with
 | [],hl=>simp at hl;omega
 | [_],hl=>simp at hl;omega
 | x0::x1::r,hl=>
  simp only[List.length_cons]at hl;have h0:w.cell? ⟨b,o,none⟩=some (.int .u8 (x0.toNat:Int)):=by simpa using hcell 0 x0 rfl
  have h1:w.cell? ⟨b,o+1,none⟩=some (.int .u8 (x1.toNat:Int)):=hcell 1 x1 rfl
  by_cases ht:x0.toNat % 32=31
  ·exact xW b o n c x0 _ w qd h0 (by simp[Hid,Der.hdr,Der.tagBad,ht]) ht
  have qg:Der.tagBad (x0::x1::r)=false:=by simp[Der.tagBad,ht]
  by_cases hs:x1.toNat<128
  ·exact tn b o n c x0 x1 _ w qd h0 h1 ht ab (by simp[Hid,Der.hdr,qg,Der.lenOf,hs])
  obtain⟨m,hm⟩:∃m,x1.toNat=m+128:=⟨x1.toNat - 128,ab⟩
  have qh:=x1.toNat_lt;have qc:w.cell? ⟨b,o+1,none⟩=some (.int .u8 ((m:Int)+128)):=by rw[h1,hm];rfl
  have hh:Der.hdr (x0::x1::r)=if m=0∨4<m∨r.length<m∨r.headD 0=0 then none else if Der.be (r.take m)<128 then none else some (2+m,Der.be (r.take m)):=by
   simp only[Der.hdr,qg,Der.lenOf,hm,Bool.false_eq_true,if_false,Nat.add_sub_cancel];rw[if_neg ab];have e1:(m+128=128)=(m=0):=propext ab;have e2:(132<m+128)=(4<m):=propext ab;simp only[e1,e2]
  by_cases m0:m=0
  ·exact ou b o n c x0 m _ w qd ab h0 qc ht (by rw[Hid,hh,if_pos ab]) m0
  by_cases m4:4<m
  ·exact oz b o n c x0 m _ w qd ab h0 qc ht (by rw[Hid,hh,if_pos ab]) m4
  by_cases ml:r.length<m
  ·exact oA b o n c x0 m _ w qd ab h0 qc ht (by rw[Hid,hh,if_pos ab]) ab ab
  match r,hl,hcell,hh,ml with
  | [],_,_,_,ml=>simp at ml;omega
  | x2::r,hl,hcell,hh,ml=>
   simp only[List.length_cons]at ml hl;have h2:w.cell? ⟨b,o+2,none⟩=some (.int .u8 (x2.toNat:Int)):=hcell 2 x2 rfl
   by_cases z:x2=0
   ·subst z
    exact oB b o n c x0 m _ w ab ab h0 qc h2 ht (by rw[Hid,hh,if_pos ag]) ab
   ·have zn:x2.toNat≠0:=fun e=>z (UInt8.toNat_inj.1 e)
    refine vJ b o n c x0 x2 m _ B w h ab ab h0 qc h2 ht ab ai ?_;rw[Hid,hh,if_neg (by simp[z];omega)]
    rfl
end
section
set_option maxRecDepth 100000
theorem yV {W w1:World} (hb:Below W.heap.size W w1):(∀b o,b<W.heap.size→w1.cell? ⟨b,o,none⟩=W.cell? ⟨b,o,none⟩)∧(∀b o,b<W.heap.size→w1.frozen? ⟨b,o,none⟩=W.frozen? ⟨b,o,none⟩):=
 ⟨fun b o h=>hb.cell (p:=⟨b,o,none⟩) h,fun b o h=>hb.frozen (p:=⟨b,o,none⟩) h⟩
def oY (B:Nat) (xs:List UInt8) (w:World) (e:Ending) (w':World):Prop:=
 Below w.heap.size w w'∧
 ((Der.elem xs=none∧e=.returned (.tuple #[.agg #[.int .u8 0,.slice none 0 0,.slice none 0 0],.slice none 0 0,.bool false]))∨
  ∃t body raw rest A1 n1 c1 A2 n2 c2 A3 n3 c3,Der.elem xs=some (t,body,raw,rest)∧
   e=.returned (.tuple #[.agg #[.int .u8 (t.toNat:Int),.slice A1 n1 c1,.slice A2 n2 c2],.slice A3 n3 c3,.bool true])∧
   Rd w B A1 n1 c1 body∧Rd w B A2 n2 c2 raw∧Rd w B A3 n3 c3 rest)
theorem jM {xs:List UInt8} (h:Der.hdr xs=none):Der.elem xs=none:=by simp[Der.elem,h]
theorem xP {xs:List UInt8} {B:Nat} {w w':World} {t:UInt8} {body raw rest:List UInt8} {A1 A2 A3:Option Addr} {n1 n2 n3 c1 c2 c3:Nat} (h:Der.elem xs=some (t,body,raw,rest)) (hb:Below w.heap.size w w')
 (h1:Rd w B A1 n1 c1 body) (h2:Rd w B A2 n2 c2 raw) (h3:Rd w B A3 n3 c3 rest) :
 oY B xs w (.returned (.tuple #[.agg #[.int .u8 (t.toNat:Int),.slice A1 n1 c1,.slice A2 n2 c2],.slice A3 n3 c3,.bool true])) w':=
 ⟨hb,.inr ⟨t,body,raw,rest,_,_,_,_,_,_,_,_,_,h,rfl,h1,h2,h3⟩⟩
theorem rD {xs:List UInt8} {f n:Nat} (h:Der.hdr xs=some (f,n)):Der.lenOf xs=some (f,n):=by
 unfold Der.hdr at h
 split at h
 ·cases h
 ·exact h
set_option maxHeartbeats 400000 in
theorem iz (A:Option Addr) (n c:Nat) (xs:List UInt8) (B:Nat) (w:World) (h:Rd w B A n c xs) (hB:B≤w.heap.size) :
 Calls Tryz.prog 70 #[.slice A n c] w (oY B xs w):=by
 have qs:=h.cap;have q1:=h.capm;have hl:=h.len
 go_enter Tryz.func70,Tryz.ntmps70
 go_wp2_with fail
 refine(xV A n c xs B _ (h.alloc hB _)).mono ?_;rintro e w' ⟨f,k,ok,rfl,⟨nd,rfl⟩,hyes,qc⟩
 cases ok with
 | false=>
  have qg:=hd1 (jM (qc rfl));clear hyes qc
  go_wp2
  exact bodyPost_ret (v:=.tuple #[.agg #[.int .u8 0,.slice none 0 0,.slice none 0 0],.slice none 0 0,.bool false]) (by simp[results,Tryz.results70,go_sem]) rfl ⟨aa,.inl ⟨qg.out,rfl⟩⟩
 | true=>
  obtain⟨f',n',rfl,rfl,hd⟩:=hyes rfl;clear qc hyes;obtain⟨hf2,hf6,hfl,hn32⟩:=Der.lenOf_bd (rD hd);rw[hl]at hfl;have qh:Der.elem xs=if n'≤n - f' then some (xs.headD 0,(xs.take (f'+n')).drop f',xs.take (f'+n'),xs.drop (f'+n')) else none:=by
   simp[Der.elem,hd,hl]
  have qd:=hd1 qh;clear qh hd
  by_cases hfit:n'≤n - f'
  ·have qv:¬((n:Int) - f'<n'):=ab
   obtain⟨b,o,rfl,hbB,hcell⟩:=h.at_ ab;have q0:b<w.heap.size:=ab
   have h0:w.cell? ⟨b,o,none⟩=some (.int .u8 ((xs.headD 0).toNat:Int)):=by
    have hx:xs[0]? = some (xs.headD 0):=by cases xs with
     | nil=>simp at hl;omega
     | cons x r=>rfl
    simpa using hcell 0 _ hx
   obtain⟨A1,hr1,c1,d1⟩:=rV h f' (f'+n') (f':Int) ((f':Int)+(n':Int)) rfl ab ab ab;obtain⟨A2,hr2,c2,d2⟩:=cQ h (f'+n') ((f':Int)+(n':Int)) ab ab;have qk:=h.upto (f'+n') ab;have el:=qd.out;rw[if_pos hfit]at el;have HX:=hd4 el hr1 hr2 qk;clear h hcell hl el hr1 hr2 qk qd
   go_wp2
   go_region
   go_wp2
   exact bodyPost_ret (v:=.tuple #[.agg #[.int .u8 ((xs.headD 0).toNat:Int),.slice A1 (f'+n' - f') (c - f'),.slice (some ⟨b,o,none⟩) (f'+n') c],.slice A2 (n - (f'+n')) (c - (f'+n')),.bool true]) (by simp[results,Tryz.results70,go_sem]) rfl
    (xP HX.1 aa HX.2.1 HX.2.2.2 HX.2.2.1)
  ·have qv:((n:Int) - f'<n'):=ab
   have qc:=qd.out;rw[if_neg hfit]at qc;have qg:=hd1 qc;clear qc
   go_wp2
   exact bodyPost_ret (v:=.tuple #[.agg #[.int .u8 0,.slice none 0 0,.slice none 0 0],.slice none 0 0,.bool false]) (by simp[results,Tryz.results70,go_sem]) rfl ⟨aa,.inl ⟨qg.out,rfl⟩⟩
end
section
open Go.RowKit Go.Shelf
attribute [local go_sem] Oper.semAt_some
set_option maxRecDepth 100000
def Der.seqF:Nat→List UInt8→List (Option (UInt8×List UInt8×List UInt8))
 | 0,_=>[]
 | k+1,xs=>if xs=[] then[] else match Der.elem xs with
  | none=>[none]
  | some (t,body,raw,rest)=>some (t,body,raw)::Der.seqF k rest
def Der.seq (xs:List UInt8):List (Option (UInt8×List UInt8×List UInt8)):=Der.seqF xs.length xs
theorem il {xs:List UInt8} {t:UInt8} {body raw rest:List UInt8} (h:Der.elem xs=some (t,body,raw,rest)):rest.length<xs.length:=by
 unfold Der.elem at h
 split at h
 ·rename_i f n hd
  split at h
  ·simp only[Option.some.injEq,Prod.mk.injEq]at h
   obtain⟨_,rfl,rfl,rfl⟩:=h;have:=Der.lenOf_bd (rD hd);simp;omega
  ·cases h
 ·cases h
theorem oe:∀(k:Nat) (xs:List UInt8),xs.length≤k→Der.seqF (k+1) xs=Der.seqF k xs
 | 0,xs,h=>by
  have:xs=[]:=List.eq_nil_of_length_eq_zero ab;subst this;rfl
 | k+1,xs,h=>by
  rw[Der.seqF,Der.seqF]
  by_cases e:xs=[]
  ·rw[if_pos e,if_pos e]
  ·rw[if_neg e,if_neg e]
   cases he:Der.elem xs with
   | none=>rfl
   | some x=>
    obtain⟨t,body,raw,rest⟩:=x;have hr:=il he;simp only;rw[oe k rest ab]
theorem qP {k:Nat} {xs:List UInt8} (h:xs.length≤k):Der.seqF k xs=Der.seq xs:=by
 have key:∀j,Der.seqF (xs.length+j) xs=Der.seq xs:=by
  intro j
  induction j with
  | zero=>rfl
  | succ j ih=>rw[←Nat.add_assoc,oe _ _ ab,ih]
 have:=key (k - xs.length)
 rwa [show xs.length+(k - xs.length)=k from by omega]at this
theorem rY:Der.seq []=[]:=rfl
theorem lf {xs:List UInt8} (hx:xs≠[]) (h:Der.elem xs=none):Der.seq xs=[none]:=by
 have hl:0<xs.length:=List.length_pos_iff.2 hx;unfold Der.seq;rw[show xs.length=xs.length - 1+1 from by omega,Der.seqF,if_neg hx,h]
theorem lg {xs:List UInt8} {t:UInt8} {body raw rest:List UInt8} (hx:xs≠[]) (h:Der.elem xs=some (t,body,raw,rest)):Der.seq xs=some (t,body,raw)::Der.seq rest:=by
 have hl:0<xs.length:=List.length_pos_iff.2 hx;have hr:=il h;unfold Der.seq;rw[show xs.length=xs.length - 1+1 from by omega,Der.seqF,if_neg hx,h];simp only;rw[qP ab]
 rfl
structure cF where
 dat:Option (UInt8×List UInt8×List UInt8)
 v:Value
 ok:Bool
def cF.good (n₀:Nat) (w₀:World) (x:cF):Prop:=
 (x.dat=none∧x.v=.agg #[.int .u8 0,.slice none 0 0,.slice none 0 0]∧x.ok=false)∨
 ∃t body raw A1 n1 c1 A2 n2 c2,x.dat=some (t,body,raw)∧x.v=.agg #[.int .u8 (t.toNat:Int),.slice A1 n1 c1,.slice A2 n2 c2]∧x.ok=true∧Rd w₀ n₀ A1 n1 c1 body∧Rd w₀ n₀ A2 n2 c2 raw
def uA {β:Type} (Bn:Nat) (J:β→World→Prop):Prop:=∀s X Y,J s X→X.grownBy Y (some Bn)→J s Y
theorem jw {w w':World} (h:Below w.heap.size w w') (r:Option Nat):w.grownBy w' r:=⟨h.os,h.tape,h.output,h.size,fun k hk _=>h.block k hk⟩
theorem _root_.Go.World.grownBy.alloc {w w':World} {r:Option Nat} (h:w.grownBy w' r) (o:Obj):w.grownBy (w'.alloc o) r:=
 ⟨h.os,h.tape,h.output,Nat.le_trans h.size ag,fun i hi hne=>(Below.heap_alloc w' o i (Nat.lt_of_lt_of_le hi h.size)).trans (h.block i hi hne)⟩
set_option maxHeartbeats 2000000 in
theorem xM (n:Nat) (hn:1≤n) (l Bn n₀:Nat) (w₀:World) (A:Option Addr) (m c:Nat) (xs:List UInt8) (hr:Rd w₀ n₀ A m c xs) (J Jx:List cF→World→Prop)
 (hJ:uA Bn J) (hJx:uA Bn Jx) (hJb:∀s X,J s X→Below n₀ w₀ X∧n₀≤X.heap.size)
 (hY:∀pre x W1,J pre W1→x.good n₀ w₀→(∃tl,Der.seq xs=(pre++[x]).map (·.dat)++tl)→YieldAt Fence.wide (n - 1) Tryz.prog l #[x.v,.bool x.ok] W1 fun e W'=>
   (e=.returned (.bool true)∧J (pre++[x]) W'∧W'.heap[Bn]? = W1.heap[Bn]?)∨(e=.returned (.bool false)∧Jx (pre++[x]) W'))
 (W:World) (hW:aw W Bn 22 #[.slice A m c]) (h0:J [] W) :
 CallsIn Fence.wide n Tryz.prog 131 #[.func (.yield l) #[] #[],.pointer (some ⟨Bn,0,none⟩)] W fun e W'=>(∃v,e=.returned v)∧
  ((∃ys,ys.map (·.dat)=Der.seq xs∧J ys W')∨(∃pre,Jx pre W')):=by
 refine callsIn_of_wp Tryz.func131 rfl trivial ?_ rfl;simp only[Tryz.ntmps131,List.size_toArray,List.length_cons,List.length_nil,Nat.reduceAdd,Nat.reduceSub,Array.replicate_succ,Array.replicate_zero,List.push_toArray,List.append_toArray,List.nil_append,List.cons_append]
 gi_wp2
 gi_loopw [3] (fun _ wr=>∃(pre:List cF) (ys:List UInt8) (A':Option Addr) (m' c':Nat),Der.seq xs=pre.map (·.dat)++Der.seq ys∧Rd w₀ n₀ A' m' c' ys∧aw wr Bn 22 #[.slice A' m' c']∧J pre wr)
  (fun _ wr=>match wr.cell? ⟨Bn,0,none⟩ with|some (.slice _ m' _)=>m'|_=>0)
 case atStart=>exact⟨[],xs,A,m,c,rfl,hr,hW,h0⟩
 case round=>
  obtain⟨pre,ys,A',m',c',hs,hy,hB,hj⟩:=hrel;obtain⟨hc0,hf0⟩:=hB.facts
  by_cases hlt:0<m'
  ·have q4:(0:Int)<m':=ab
   have qh:ys≠[]:=by rintro rfl;have:=hy.len;simp at this;omega
   obtain⟨hbl,hsz⟩:=hJb _ _ hj;have q2:=hy.below hbl;have HH:=hd5 hs hy hj hbl q2;have qg:=hd3 hY hJ hJx;clear hs hy hj hbl q2 hY hJ hJx h0
   gi_wp2_with fail
   refine⟨trivial,(callsIn_wide.2 (iz A' m' c' ys n₀ wr HH.2.2.2.2 hsz)).mono ?_⟩;rintro e w2 ⟨hb2,⟨hno,rfl⟩|⟨t,body,raw,rest,A1,n1,c1,A2,n2,c2,A3,n3,c3,hel,rfl,h1,h2,h3⟩⟩
   ·have q0:=hd1 hno
    clear hno hc0 hf0;have qd:=qg.2.1 _ _ _ HH.2.2.1 ((jw hb2 (some Bn)).alloc (.cells #[.int .u8 0,.slice none 0 0,.slice none 0 0] 84));obtain⟨fn,tmps,assign,body,hyld,hR⟩:=qg.1 pre ⟨none,.agg #[.int .u8 0,.slice none 0 0,.slice none 0 0],false⟩ _ qd (.inl ⟨rfl,rfl,rfl⟩) ⟨[],by rw[HH.1,lf qh q0.out];simp⟩;dsimp only at hyld;have q3:=hd1 qd;clear qd
    gi_wp2
    refine hR.mono ?_;rintro e W3 (⟨rfl,hj3,hB3⟩|⟨rfl,hx3⟩)
    ·have HR:=hd1 hj3
     clear hj3 hB3
     gi_wp2
     refine bodyPost_ret (results_none rfl _ _ _) rfl ?_;exact⟨⟨_,rfl⟩,.inl ⟨_,by rw[HH.1,lf qh q0.out];simp,HR.out⟩⟩
    ·have HR:=hd1 hx3
     clear hx3
     gi_wp2
     refine bodyPost_ret (results_none rfl _ _ _) rfl ?_;exact⟨⟨_,rfl⟩,.inr ⟨_,HR.out⟩⟩
   ·have qv:n3<m':=by
     have:=il hel;rw[h3.len,HH.2.1.len]at this;exact this
    have qc:∀{A:Option Addr} {n c:Nat} {zs:List UInt8},Rd wr n₀ A n c zs→Rd w₀ n₀ A n c zs:=fun h=>h.keep fun p hp=>(HH.2.2.2.1.cell hp).symm
    have HX:=hd4 hel (qc h1) (qc h2) (qc h3);clear hc0 hf0 hel h1 h2 h3 qc;have qd:=qg.2.1 _ _ _ HH.2.2.1 ((jw hb2 (some Bn)).alloc (.cells #[.int .u8 (t.toNat:Int),.slice A1 n1 c1,.slice A2 n2 c2] 84));obtain⟨fn,tmps,assign,body',hyld,hR⟩:=qg.1 pre ⟨some (t,body,raw),.agg #[.int .u8 (t.toNat:Int),.slice A1 n1 c1,.slice A2 n2 c2],true⟩ _ qd
     (.inr ⟨t,body,raw,A1,n1,c1,A2,n2,c2,rfl,rfl,rfl,HX.2.1,HX.2.2.1⟩) ⟨Der.seq rest,by rw[HH.1,lg qh HX.1];simp⟩
    dsimp only at hyld;have q3:=hd1 qd;clear qd;have qk:=(hB.below hb2 hB.lt).alloc (.cells #[.int .u8 (t.toNat:Int),.slice A1 n1 c1,.slice A2 n2 c2] 84)
    gi_wp2
    refine hR.mono ?_;rintro e W3 (⟨rfl,hj3,hB3⟩|⟨rfl,hx3⟩)
    ·have qs:aw W3 Bn 22 #[.slice A' m' c']:=hB3.trans qk
     obtain⟨hc4,hf4⟩:=qs.facts;have HR:=hd2 hj3 qs;clear hj3 hB3 qs qk
     gi_wp2
     go_roundw
     case rel=>
      exact⟨pre++[⟨some (t,body,raw),.agg #[.int .u8 (t.toNat:Int),.slice A1 n1 c1,.slice A2 n2 c2],true⟩],rest,A3,n3,c3,by rw[HH.1,lg qh HX.1];simp,HX.2.2.2,
       by simpa using HR.2.set_ 0 (.slice A3 n3 c3),qg.2.1 _ _ _ HR.1 (grownBy_setCell' _ _ _)⟩
     case measure=>
      have e1:(W3.setCell ⟨Bn,0,none⟩ (.slice A3 n3 c3)).cell? ⟨Bn,0,none⟩=some (.slice A3 n3 c3):=by
       have:=(HR.2.set_ 0 (.slice A3 n3 c3)).cell 0
       simpa using this
      have e2:=hB.cell 0;simp only[e1,e2]
      simpa using qv
    ·have HR:=hd1 hx3
     clear hx3 qk
     gi_wp2
     refine bodyPost_ret (results_none rfl _ _ _) rfl ?_;exact⟨⟨_,rfl⟩,.inr ⟨_,HR.out⟩⟩
  ·obtain rfl:m'=0:=ab
   have q1:ys=[]:=List.eq_nil_of_length_eq_zero hy.len;have HH:=hd3 hs q1 hj;clear hs q1 hj hy hY hJ hJx h0
   gi_wp2
   go_end0
   exact⟨⟨_,rfl⟩,.inl ⟨pre,by rw[HH.1,HH.2.1,rY];simp,HH.2.2⟩⟩
end
section
open Go.RowKit Go.Shelf
attribute [local go_sem] Oper.semAt_some
set_option maxRecDepth 100000
def bB {β:Type} (Bn N:Nat) (I:β→World→Prop):Prop:=
 ∀s X Y row,I s X→X.grownBy Y row→(∀r,row=some r→r=Bn∨(N≤r∧∃o:Obj,X.heap[r]? = some o∧o.isCells=false))→I s Y
theorem bB.putObj {β:Type} {Bn N:Nat} {I:β→World→Prop} (h:bB Bn N I) {s:β} {W:World} {l:Nat} {o:Obj} (o':Obj) (hs:I s W) (hN:N≤l) (hl:W.heap[l]? = some o) (ho:o.isCells=false):I s (W.putObj l o'):=
 h s W _ (some l) hs (grownBy_putObj' W l o') fun r e=>by cases e;exact .inr ⟨hN,o,hl,ho⟩
theorem bB.alloc {β:Type} {Bn N:Nat} {I:β→World→Prop} (h:bB Bn N I) {s:β} {W:World} (o:Obj) (hs:I s W):I s (W.alloc o):=
 h s W _ none hs (World.grownBy_alloc W o none) fun r e=>by cases e
theorem bB.and {β:Type} {Bn N:Nat} {I I':β→World→Prop} (h:bB Bn N I) (h':bB Bn N I'):bB Bn N (fun s W=>I s W∧I' s W):=
 fun s X Y row hs hg hr=>⟨h s X Y row hs.1 hg hr,h' s X Y row hs.2 hg hr⟩
theorem bB.pure_ {β:Type} (Bn N:Nat) (p:β→Prop):bB Bn N (fun s (_:World)=>p s):=fun _ _ _ _ hs _ _=>hs
theorem bB.blk {β:Type} {Bn N g:Nat} (t:TypeId) (cs:β→Array Value) (hne:g≠Bn):bB Bn N (fun s W=>aw W g t (cs s)):=by
 intro s X Y row hs hg hr;refine hs.grown hg fun e=>?_
 rcases hr g e.symm with rfl|⟨_,o,ho,hc⟩
 ·exact hne rfl
 ·unfold aw at hs
  rw[hs]at ho
  cases ho
  cases hc
theorem bB.below {β:Type} {Bn N n₀:Nat} {w₀:World} (h1:n₀≤Bn) (h2:n₀≤N) (h3:n₀≤w₀.heap.size):bB Bn N (fun(_:β) W=>Below n₀ w₀ W):=by
 intro s X Y row hs hg hr;refine hs.grown hg (Nat.le_trans h3 hs.size) fun k e=>?_
 rcases hr k e with rfl|⟨h,_⟩
 ·exact h1
 ·omega
def BQ {α:Type} (Bn N:Nat) (I:List α→World→Prop) (Ix:Code→List α→World→Prop) (xs:List α) (W:World):Exit→Act→World→Prop
 | .normal,_,W'=>KeepsFrom N W W'∧W'.heap[Bn]? = W.heap[Bn]?∧I xs W'
 | .ret,_,W'=>KeepsFrom N W W'∧Ix .ret xs W'
 | .exit id,_,W'=>KeepsFrom N W W'∧Ix (.exit id) xs W'
 | .goto t,_,W'=>KeepsFrom N W W'∧Ix (.goto t) xs W'
 | .panic _,_,_=>False
 | .outgrown,_,_=>False
theorem cY {W:World} {l k:Nat} {o:Obj} (h:k≠l):(W.putObj l o).heap[k]? = W.heap[k]?:=World.putObj_heap_other h
theorem gu {n:Nat} {ps:Array Tmp} {assign body:Code} {Q:Exit→Act→World→Prop} {a:Act} {w:World} {g:Operand} (h1:3≤n) (Bn:Nat)
 (hg:a.eval g=.func (.func 131) #[] #[.pointer (some ⟨Bn,0,none⟩)]) (hps:ps.size=2)
 (n₀:Nat) (w₀:World) (A:Option Addr) (m c:Nat) (xs:List UInt8) (hB:aw w Bn 22 #[.slice A m c]) (hr:Rd w₀ n₀ A m c xs)
 (I:List cF→World→Prop) (Ix:Code→List cF→World→Prop) (hI:bB Bn w.heap.size I) (hIx:∀c,bB Bn w.heap.size (Ix c))
 (hIb:∀s X,I s X→Below n₀ w₀ X∧n₀≤X.heap.size) (h0:I [] w)
 (Ax:cF→Act→World→Prop) (hAx:∀x a',bB Bn w.heap.size (fun(_:Unit) W=>Ax x a' W))
 (hassign:∀(l:Nat) (pre:List cF) (x:cF) (W:World) (K:Act→World→Prop),I pre W→x.good n₀ w₀→(∀a' W',KeepsFrom w.heap.size W W'→W'.heap[Bn]? = W.heap[Bn]?→I pre W'→Ax x a' W'→K a' W')→
   assign.wpIn (Fence.wide.inRound l) (n - 1 - 1) Tryz.prog (Exit.then K (fun _ _ _=>False)) {tmps:=(ps.zip #[x.v,.bool x.ok]).foldl (fun t (p,v)=>t.setIfInBounds p v) a.tmps,defers:=[]} W)
 (hbody:∀(l:Nat) (pre:List cF) (x:cF) (a':Act) (W:World),w.heap.size≤l→(∃r,W.heap[l]? = some (.loop r))→I pre W→Ax x a' W→x.good n₀ w₀→(∃tl,Der.seq xs=(pre++[x]).map (·.dat)++tl)→
   body.wpIn (Fence.wide.inRound l) (n - 1 - 1) Tryz.prog (BQ Bn w.heap.size I Ix (pre++[x]) W) a' W)
 (hdone:∀(D:Nat) (ys:List cF) (W:World),w.heap.size≤D→ys.map (·.dat)=Der.seq xs→I ys W→W.heap[D]? = some (.deferred (some []))→Q .normal {a with defers:={target:=.collected D,args:=#[]}::a.defers} W)
 (hstop:∀(D:Nat) (c:Code) (pre:List cF) (W:World),w.heap.size≤D→Ix c pre W→W.heap[D]? = some (.deferred (some []))→c.wpIn Fence.wide n Tryz.prog Q {a with defers:={target:=.collected D,args:=#[]}::a.defers} W) :
 (Code.rangeFunc g ps assign body).wpIn Fence.wide n Tryz.prog Q a w:=by
 refine wpIn_rangeFunc ?_;intro fn hfn;obtain⟨rec,hrec⟩:∃rec:LoopState→Option Code→Loop,rec=fun st pe=>{state:=st,pending:=pe,fn,tmps:=a.tmps,params:=ps,assign,body,defers:=w.heap.size}:=⟨_,rfl⟩
 obtain⟨W1,hW1⟩:∃W1,(w.alloc (.deferred (some []))).alloc (.loop (rec .ready none))=W1:=⟨_,rfl⟩
 have q1:W1.heap[w.heap.size+1]? = some (.loop (rec .ready none)):=by
  rw[←hW1];have:=World.alloc_heap_new (w.alloc (.deferred (some []))) (.loop (rec .ready none));rwa [World.size_alloc]at this
 have q0:W1.heap[w.heap.size]? = some (.deferred (some [])):=by
  rw[←hW1];exact(Below.heap_alloc _ _ _ ag).trans (World.alloc_heap_new w _)
 have qv:I [] W1:=by rw[←hW1];exact hI.alloc _ (hI.alloc _ h0)
 have qk:aw W1 Bn 22 #[.slice A m c]:=by rw[←hW1];exact(hB.alloc _).alloc _
 have qs:=hB.lt;refine⟨w.heap.size+1,[{target:=.collected w.heap.size,args:=#[]}],W1,{target:=.fn (.func 131) #[.pointer (some ⟨Bn,0,none⟩)],args:=#[.func (.yield (w.heap.size+1)) #[] #[]]},W1,131,
  #[.func (.yield (w.heap.size+1)) #[] #[]]++#[.pointer (some ⟨Bn,0,none⟩)],W1,?_,?_,?_,?_,fun _=>by omega,?_⟩
 ·rw[←hW1,hrec];exact run_enterLoop_outer _ _ _ _ _
 ·simp only[resolve,hg]
  simp[go_sem]
 ·intro f' _;trivial
 ·simp[invoke,go_sem]
 ·refine(xM (n - 1) ab (w.heap.size+1) Bn n₀ w₀ A m c xs hr
   (fun pre W=>I pre W∧W.heap[w.heap.size+1]? = some (.loop (rec .ready none))∧W.heap[w.heap.size]? = some (.deferred (some [])))
   (fun pre W=>∃c,Ix c pre W∧W.heap[w.heap.size+1]? = some (.loop (rec .done (some c)))∧W.heap[w.heap.size]? = some (.deferred (some [])))
   ?hJ ?hJx ?hJb ?round W1 qk ⟨qv,q1,q0⟩).mono ?behind
  case hJ=>
   rintro s X Y ⟨hi,hl,hk⟩ hgr;exact⟨hI s X Y _ hi hgr (fun r e=>.inl (by injection e with e;exact e.symm)),(hgr.block _ (Array.getElem?_eq_some_iff.1 hl).1 ai).trans hl,(hgr.block _ (Array.getElem?_eq_some_iff.1 hk).1 ai).trans hk⟩
  case hJx=>
   rintro s X Y ⟨c,hi,hl,hk⟩ hgr;exact⟨c,hIx c s X Y _ hi hgr (fun r e=>.inl (by injection e with e;exact e.symm)),(hgr.block _ (Array.getElem?_eq_some_iff.1 hl).1 ai).trans hl,(hgr.block _ (Array.getElem?_eq_some_iff.1 hk).1 ai).trans hk⟩
  case hJb=>exact fun s X h=>hIb s X h.1
  case round=>
   rintro pre x W ⟨hi,hl,hk⟩ hgood htl;have q4:w.heap.size+1<W.heap.size:=(Array.getElem?_eq_some_iff.1 hl).1;have hy:=run_yield (P:=Tryz.prog) (args:=#[x.v,.bool x.ok]) hl (by rw[hrec];exact hps.symm);rw[hrec]at hy;refine⟨fn,_,assign,body,hy,roundIn_of_wpIn hfn (hassign _ pre x W _ hi hgood ?_)⟩;clear hy;intro a' Wa hkfa hBa hia hax;have qd:=hkfa.same _ _ ab hl rfl;have q3:=hkfa.same _ _ nl_ hk rfl;have qg:w.heap.size+1<Wa.heap.size:=(Array.getElem?_eq_some_iff.1 qd).1;refine⟨_,run_beginRound qd (by rw[hrec]),?_⟩;have qh:(Wa.putObj (w.heap.size+1) (.loop {rec .ready none with state:=.busy})).heap[w.heap.size+1]? = some (.loop {rec .ready none with state:=.busy}):=World.putObj_heap_same qg;have q2:(Wa.putObj (w.heap.size+1) (.loop {rec .ready none with state:=.busy})).heap[w.heap.size]? = some (.deferred (some [])):=(cY ab).trans q3;refine wpIn_mono (hbody _ pre x a' _ ab ⟨_,qh⟩ (hI.putObj _ hia ab qd rfl) ((hAx x a').putObj (s:=()) _ hax ab qd rfl) hgood htl) ?_;have fin:∀(jump:Option Code) (W3:World),KeepsFrom w.heap.size (Wa.putObj (w.heap.size+1) (.loop {rec .ready none with state:=.busy})) W3→
    (Instr.endRound (w.heap.size+1) jump).run Tryz.prog W3=.ok (.bool jump.isNone) (W3.putObj (w.heap.size+1) (.loop (rec (if jump.isNone then .ready else .done) jump)))∧
    W3.heap[w.heap.size+1]? = some (.loop {rec .ready none with state:=.busy})∧
    (W3.putObj (w.heap.size+1) (.loop (rec (if jump.isNone then .ready else .done) jump))).heap[w.heap.size+1]? = some (.loop (rec (if jump.isNone then .ready else .done) jump))∧
    (W3.putObj (w.heap.size+1) (.loop (rec (if jump.isNone then .ready else .done) jump))).heap[w.heap.size]? = some (.deferred (some [])):=fun jump W3 hk3=>by
    have qc:=hk3.same _ _ ab qh rfl;have:=run_endRound (P:=Tryz.prog) jump qc;rw[hrec]at this ⊢;exact⟨this,by rw[hrec]at qc;exact qc,World.putObj_heap_same (Array.getElem?_eq_some_iff.1 qc).1,(cY ab).trans (hk3.same _ _ nl_ q2 rfl)⟩
   rintro e a3 W3 hp
   cases e with
   | normal=>
    obtain⟨hk3,hB3,hi3⟩:=hp;obtain⟨hr3,qc,hl4,hk4⟩:=fin none W3 hk3;refine⟨_,_,hr3,.inl ⟨rfl,⟨hI.putObj _ hi3 ab qc rfl,hl4,hk4⟩,?_⟩⟩;rw[cY ab,hB3,cY ab,hBa]
   | ret=>
    obtain⟨hk3,hi3⟩:=hp;obtain⟨hr3,qc,hl4,hk4⟩:=fin (some .ret) W3 hk3;exact⟨_,_,hr3,.inr ⟨rfl,.ret,(hIx _).putObj _ hi3 ab qc rfl,hl4,hk4⟩⟩
   | exit id=>
    obtain⟨hk3,hi3⟩:=hp;obtain⟨hr3,qc,hl4,hk4⟩:=fin (some (.exit id)) W3 hk3;exact⟨_,_,hr3,.inr ⟨rfl,.exit id,(hIx _).putObj _ hi3 ab qc rfl,hl4,hk4⟩⟩
   | goto t=>
    obtain⟨hk3,hi3⟩:=hp;obtain⟨hr3,qc,hl4,hk4⟩:=fin (some (.goto t)) W3 hk3;exact⟨_,_,hr3,.inr ⟨rfl,.goto t,(hIx _).putObj _ hi3 ab qc rfl,hl4,hk4⟩⟩
   | panic ch=>exact hp.elim
   | outgrown=>exact hp.elim
  case behind=>
   rintro e W2 ⟨⟨v,rfl⟩,(⟨ys,hS,hi,hl,hk⟩|⟨pre,c',hi,hl,hk⟩)⟩
   ·exact⟨none,_,by have:=run_endLoop (P:=Tryz.prog) hl (by rw[hrec];simp);rw[hrec]at this;exact this,hdone _ ys _ nl_ hS (hI.putObj _ hi ab hl rfl) ((cY ab).trans hk)⟩
   ·exact⟨some c',_,by have:=run_endLoop (P:=Tryz.prog) hl (by rw[hrec];simp);rw[hrec]at this;exact this,hstop _ c' pre _ nl_ ((hIx c').putObj _ hi ab hl rfl) ((cY ab).trans hk)⟩
end
section
open Go.RowKit Go.Shelf
attribute [local go_sem] Oper.semAt_some
set_option maxRecDepth 100000
def Der.leaf (t:UInt8) (b:List UInt8):Bool:=t.toNat / 32 % 2==0||b.isEmpty
def Der.firstBad (f:UInt8→List UInt8→Nat):List (Option (UInt8×List UInt8×List UInt8))→Nat
 | []=>0
 | none::_=>9
 | some (t,b,_)::r=>if f t b=0 then Der.firstBad f r else f t b
def Der.thr:Nat→UInt8→List UInt8→Nat
 | 0,t,b=>if Der.leaf t b then 0 else 10
 | k+1,t,b=>if Der.leaf t b then 0 else if (Der.seq b).any (·.isNone) then 9 else Der.firstBad (Der.thr k) (Der.seq b)
def xp (A:Option Addr) (n c:Nat) (w:World) (e:Ending) (w':World):Prop:=
 e=.returned (.func (.func 131) #[] #[.pointer (some ⟨w.heap.size,0,none⟩)])∧Below w.heap.size w w'∧aw w' w.heap.size 22 #[.slice A n c]∧w'.heap.size=w.heap.size+1
theorem je (A:Option Addr) (n c:Nat) (w:World):Calls Tryz.prog 104 #[.slice A n c] w (xp A n c w):=by
 have qc:∀(fn:Fn) (first cap:Array Value) (w:World),(Instr.makeFunc fn first cap).run Tryz.prog w=.ok (.func fn first cap) w:=fun _ _ _ _=>rfl
 go_enter Tryz.func104,Tryz.ntmps104
 go_wp2
 go_ret
 exact⟨rfl,aa,aw.new _ _ _,ag⟩
theorem oU (t:UInt8):bits .and .u8 (t.toNat:Int) 32=((t.toNat / 32 % 2*32:Nat):Int):=by
 rw[show(32:Int)=((32:Nat):Int) from rfl,u8_and_nat _ _ t.toNat_lt ab]
 congr 1
 have h:∀x:Fin 256,x.val&&& 32=x.val / 32 % 2*32:=by decide
 exact h ⟨t.toNat,t.toNat_lt⟩
def iH (v:Nat) (w:World) (e:Ending) (w':World):Prop:=e=.returned (.int .i64 (v:Int))∧Below w.heap.size w w'
theorem iT {v V:Nat} (h:v=V) {w w':World} (hb:Below w.heap.size w w'):iH V w (.returned (.int .i64 (v:Int))) w':=by subst h;exact⟨rfl,hb⟩
theorem jZ (t:UInt8) (A1 A2:Option Addr) (n1 c1 n2 c2:Nat) (d:Int) (body:List UInt8) (B:Nat) (w:World) (h1:Rd w B A1 n1 c1 body) (hl:Der.leaf t body=true) :
 Calls Tryz.prog 71 #[.agg #[.int .u8 (t.toNat:Int),.slice A1 n1 c1,.slice A2 n2 c2],.int .i64 d] w (iH 0 w):=by
 have hn:=h1.len;clear h1
 by_cases ht:t.toNat / 32 % 2=0
 ·have e1:(bits .and .u8 (t.toNat:Int) 32==0)=true:=by rw[oU,ht];rfl
  clear hl hn
  go_enter Tryz.func71,Tryz.ntmps71
  go_wp2
  exact bodyPost_ret (v:=.int .i64 0) (by simp[results,Tryz.results71,go_sem]) rfl ⟨rfl,aa⟩
 ·have e1:(bits .and .u8 (t.toNat:Int) 32==0)=false:=by rw[oU];simp;omega
  have h0:body=[]:=by simpa [Der.leaf,ht]using hl
  subst h0;obtain rfl:n1=0:=by simpa using hn.symm
  clear hl hn
  go_enter Tryz.func71,Tryz.ntmps71
  go_wp2
  exact bodyPost_ret (v:=.int .i64 0) (by simp[results,Tryz.results71,go_sem]) rfl ⟨rfl,aa⟩
theorem qo (t:UInt8) (A1 A2:Option Addr) (n1 c1 n2 c2:Nat) (body:List UInt8) (B:Nat) (w:World) (h1:Rd w B A1 n1 c1 body) (hl:Der.leaf t body=false) :
 Calls Tryz.prog 71 #[.agg #[.int .u8 (t.toNat:Int),.slice A1 n1 c1,.slice A2 n2 c2],.int .i64 16] w (iH 10 w):=by
 have hn:=h1.len;clear h1;simp only[Der.leaf,Bool.or_eq_false_iff,beq_eq_false_iff_ne,List.isEmpty_eq_false_iff]at hl;have e1:(bits .and .u8 (t.toNat:Int) 32==0)=false:=by rw[oU];simp;omega
 have qc:0<body.length:=List.length_pos_iff.2 hl.2;have e2:((n1:Int)==0)=false:=ai
 clear hl hn qc
 go_enter Tryz.func71,Tryz.ntmps71
 go_wp2
 exact bodyPost_ret (v:=.int .i64 10) (by simp[results,Tryz.results71,go_sem]) rfl ⟨rfl,aa⟩
def dS (vs:Array Value) (ev d:Int) (w:World) (W:World):Prop:=
 Below w.heap.size w W∧aw W w.heap.size 84 vs∧aw W (w.heap.size+1) 3 #[.int .i64 d]∧aw W (w.heap.size+2) 29 #[.int .i64 ev]
theorem dS.own {β:Type} (vs:Array Value) (ev d:Int) (w:World) (Bn N:Nat) (h1:w.heap.size+3≤Bn) (h2:w.heap.size≤N):bB Bn N (fun(_:β) W=>dS vs ev d w W):=
 (bB.below ab h2 nl_).and ((bB.blk _ _ ab).and ((bB.blk _ _ ab).and (bB.blk _ _ ab)))
theorem dS.store {vs:Array Value} {ev ev' d:Int} {w W:World} (h:dS vs ev d w W):dS vs ev' d w (W.setCell ⟨w.heap.size+2,0,none⟩ (.int .i64 ev')):=
 ⟨h.1.setCell ag _,h.2.1.far ag _,h.2.2.1.far ag _,by simpa using h.2.2.2.set_ 0 (.int .i64 ev')⟩
theorem dS.later {vs:Array Value} {ev d:Int} {w W W':World} (h:dS vs ev d w W) (hb:Below W.heap.size W W'):dS vs ev d w W':=
 ⟨h.1.trans (hb.mono h.1.size),h.2.1.below hb h.2.1.lt,h.2.2.1.below hb h.2.2.1.lt,h.2.2.2.below hb h.2.2.2.lt⟩
theorem dS.put {vs:Array Value} {ev d:Int} {w W:World} (h:dS vs ev d w W) {D:Nat} {o:Obj} (o':Obj) (hD:W.heap[D]? = some o) (ho:o.isCells=false) (hge:w.heap.size≤D):dS vs ev d w (W.putObj D o'):=by
 have hg:=grownBy_putObj' W D o';have qc:=(Array.getElem?_eq_some_iff.1 hD).1;have key:∀{g:Nat} {t:TypeId} {cs:Array Value},aw W g t cs→aw (W.putObj D o') g t cs:=fun hb=>hb.grown hg (fun e=>by
  injection e with e;subst e;unfold aw at hb;rw[hb]at hD;cases hD;cases ho)
 exact⟨h.1.grown hg h.1.size (fun k e=>by injection e with e;omega),key h.2.1,key h.2.2.1,key h.2.2.2⟩
theorem bB.at_ {β:Type} {Bn N D:Nat} (o:Obj) (hD:D<N) (hne:D≠Bn):bB Bn N (fun(_:β) W=>W.heap[D]? = some o):=by
 intro s X Y row hs hg hr;refine(hg.block D (Array.getElem?_eq_some_iff.1 hs).1 fun e=>?_).trans hs;rcases hr D e.symm with e|⟨h,_⟩
 ·exact hne e
 ·omega
theorem bB.size {β:Type} (Bn N c:Nat):bB Bn N (fun(_:β) W=>c≤W.heap.size):=fun _ _ _ _ hs hg _=>Nat.le_trans hs hg.size
theorem fK {N:Nat} {W W':World} (h:Below W.heap.size W W'):KeepsFrom N W W':=⟨h.size,fun k _ _ hk _=>(h.block k (Array.getElem?_eq_some_iff.1 hk).1).trans hk⟩
theorem mK {n₀:Nat} {w₀:World} {ys:List cF} (h:∀x∈ys,cF.ok x=true) (hg:∀x∈ys,cF.good n₀ w₀ x):(ys.map (·.dat)).any (·.isNone)=false:=by
 rw[List.any_eq_false];intro d hd;obtain⟨x,hx,rfl⟩:=List.mem_map.1 hd;rcases hg x hx with⟨_,_,e⟩|⟨t,b,r,_,_,_,_,_,_,e,_⟩
 ·rw[h x hx]at e;cases e
 ·simp[e]
def cF.bad (f:UInt8→List UInt8→Nat) (x:cF) (v:Nat):Prop:=∃t b r,x.dat=some (t,b,r)∧f t b=v
theorem jN {f:UInt8→List UInt8→Nat}:∀{l:List cF},(∀x∈l,x.bad f 0)→Der.firstBad f (l.map (·.dat))=0
 | [],_=>rfl
 | x::l,h=>by
  obtain⟨t,b,r,e,hz⟩:=h x ag;simp only[List.map_cons,e,Der.firstBad,hz,if_true];exact jN fun y hy=>h y (by simp[hy])
theorem jO {f:UInt8→List UInt8→Nat} {x:cF} {v:Nat} (hx:x.bad f v) (hv:v≠0) (tl:List (Option (UInt8×List UInt8×List UInt8))) :
 ∀{l:List cF},(∀x∈l,x.bad f 0)→Der.firstBad f ((l++[x]).map (·.dat)++tl)=v
 | [],_=>by
  obtain⟨t,b,r,e,hz⟩:=hx;simp only[List.nil_append,List.map_cons,List.map_nil,e,List.cons_append,Der.firstBad,hz,if_neg hv]
 | y::l,h=>by
  obtain⟨t,b,r,e,hz⟩:=h y ag;have:=jO hx hv tl (l:=l) fun z hz=>h z (by simp[hz])
  simp only[List.cons_append,List.map_cons,e,Der.firstBad,hz,if_true];exact this
def lu (w:World) (Bn:Nat) (x:cF) (Bx:Nat) (W:World):Prop:=
 w.heap.size+3≤Bx∧Bx≠Bn∧∃cs,x.v=.agg cs∧aw W Bx 84 cs
theorem lu.own {β:Type} (w:World) (Bn N:Nat) (x:cF) (Bx:Nat):bB Bn N (fun(_:β) W=>lu w Bn x Bx W):=by
 rintro s X Y row ⟨h1,h2,cs,e,hb⟩ hg hr;exact⟨h1,h2,cs,e,bB.blk (β:=Unit) 84 (fun _=>cs) h2 () X Y row hb hg hr⟩
set_option maxHeartbeats 2000000 in
theorem qT (k:Nat):∀(d:Nat),d+k=16→∀(t:UInt8) (A1 A2:Option Addr) (n1 c1 n2 c2:Nat) (body:List UInt8) (w:World),Rd w w.heap.size A1 n1 c1 body→
 Calls Tryz.prog 71 #[.agg #[.int .u8 (t.toNat:Int),.slice A1 n1 c1,.slice A2 n2 c2],.int .i64 (d:Int)] w (iH (Der.thr k t body) w):=by
 induction k with
 | zero=>
  intro d hd t A1 A2 n1 c1 n2 c2 body w h1;obtain rfl:d=16:=ab
  by_cases hl:Der.leaf t body=true
  ·rw[Der.thr,if_pos hl];exact jZ t A1 A2 n1 c1 n2 c2 _ body _ w h1 hl
  ·rw[Der.thr,if_neg hl];exact qo t A1 A2 n1 c1 n2 c2 body _ w h1 (by simpa using hl)
 | succ k ih=>
  intro d hd t A1 A2 n1 c1 n2 c2 body w h1
  by_cases hl:Der.leaf t body=true
  ·rw[Der.thr,if_pos hl];exact jZ t A1 A2 n1 c1 n2 c2 _ body _ w h1 hl
  rw[Der.thr,if_neg hl];obtain⟨V,hV⟩:∃V,(if (Der.seq body).any (·.isNone) then 9 else Der.firstBad (Der.thr k) (Der.seq body))=V:=⟨_,rfl⟩
  rw[hV];have HV:=hd1 hV;clear hV;simp only[Der.leaf,Bool.or_eq_true,beq_iff_eq,List.isEmpty_iff,not_or]at hl;have hn:=h1.len;have e1:(bits .and .u8 (t.toNat:Int) 32==0)=false:=by rw[oU];simp;omega
  have j0:0<body.length:=List.length_pos_iff.2 hl.2;have e2:((n1:Int)==0)=false:=ai
  have e3:((d:Int)==16)=false:=ai
  have yh:=hd1 ih;clear hl hn j0 ih;refine(callsIn_wide (n:=5)).1 ?_;refine callsIn_of_wp_marks Tryz.func71 rfl trivial ?_ rfl;simp only[Tryz.ntmps71,List.size_toArray,List.length_cons,List.length_nil,Nat.reduceAdd,Nat.reduceSub,Array.replicate_succ,Array.replicate_zero,List.push_toArray,List.append_toArray,List.nil_append,List.cons_append];have j5:=((aw.new w 84 #[.int .u8 (t.toNat:Int),.slice A1 n1 c1,.slice A2 n2 c2]).alloc (.cells #[.int .i64 (d:Int)] 3)).alloc (.cells #[.int .i64 0] 29);have q1:=(aw.new (w.alloc (.cells #[.int .u8 (t.toNat:Int),.slice A1 n1 c1,.slice A2 n2 c2] 84)) 3 #[.int .i64 (d:Int)]).alloc (.cells #[.int .i64 0] 29);have q2:=aw.new ((w.alloc (.cells #[.int .u8 (t.toNat:Int),.slice A1 n1 c1,.slice A2 n2 c2] 84)).alloc (.cells #[.int .i64 (d:Int)] 3)) 29 #[.int .i64 0];simp only[World.size_alloc]at q1 q2
  gi_wp2_with fail
  refine⟨trivial,(callsIn_wide.2 (je A1 n1 c1 _)).mono ?_⟩;rintro e w1 ⟨rfl,hb1,hBn,hz1⟩;simp only[World.size_alloc]at hb1 hBn hz1;have q5:Below w.heap.size w w1:=Below.trans aa (hb1.mono ab);have qh:=j5.below hb1 ab;have qk:=q1.below hb1 ab;have qs:=q2.below hb1 ab;clear hb1 j5 q1 q2;obtain⟨vs,hvs⟩:∃vs:Array Value,vs=#[.int .u8 (t.toNat:Int),.slice A1 n1 c1,.slice A2 n2 c2]:=⟨_,rfl⟩
  have yv:dS vs 0 d w w1:=⟨q5,by rw[hvs];exact qh,qk,qs⟩
  have y4:w.heap.size+4≤w1.heap.size:=ab
  have HN:=hd2 hvs hBn;clear qk qs hBn hz1 qh hvs
  gi_wp2_with fail
  refine gu ab (w.heap.size+3) rfl rfl w.heap.size w A1 n1 c1 body HN.2 h1
   (fun pre W=>(∀x∈pre,cF.ok x=true∧cF.good w.heap.size w x)∧dS vs 0 d w W) (fun c pre W=>(c=.ret∧∃x∈pre,cF.ok x=false∧cF.good w.heap.size w x∧x.dat∈Der.seq body)∧dS vs 9 d w W)
   ((bB.pure_ _ _ _).and (dS.own _ _ _ _ _ _ ab ab)) (fun c=>(bB.pure_ _ _ _).and (dS.own _ _ _ _ _ _ ab ab))
   (fun s X h=>⟨h.2.1,h.2.1.size⟩) ⟨(fun x hx=>by cases hx),yv⟩
   (fun x a' _=>∃u0 u1 u5 u7 u8 u9 u10 u11 u12 u13 u14 u15 u16 u17 u18 u19 u20 u21 u22 u23 u24 u25 u26 u27 u28 u29 u30 u31 u32 u33 u34 u35 u36 u37 u38 u39:Value,a' = {tmps:=#[u0,u1,.pointer (some ⟨w.heap.size,0,none⟩),.pointer (some ⟨w.heap.size+1,0,none⟩),.pointer (some ⟨w.heap.size+2,0,none⟩),u5,.bool x.ok,u7,u8,u9,u10,u11,u12,u13,u14,u15,u16,u17,u18,u19,u20,u21,u22,u23,u24,u25,u26,u27,u28,u29,u30,u31,u32,u33,u34,u35,u36,u37,u38,u39],defers:=[]}) (fun x a'=>bB.pure_ _ _ _) ?assign ?body ?done ?stop
  case assign=>
   intro l pre x W K hi hg hK
   gi_wp2
   exact hK _ _ (KeepsFrom.refl _ _) rfl hi ⟨_,_,_,_,_,_,_,_,_,_,_,_,_,_,_,_,_,_,_,_,_,_,_,_,_,_,_,_,_,_,_,_,_,_,_,_,rfl⟩
  case body=>
   rintro l pre x a' W hlN ⟨r,hr⟩ ⟨hok,hi⟩ ⟨u0,u1,u5,u7,u8,u9,u10,u11,u12,u13,u14,u15,u16,u17,u18,u19,u20,u21,u22,u23,u24,u25,u26,u27,u28,u29,u30,u31,u32,u33,u34,u35,u36,u37,u38,u39,rfl⟩ hg htl
   cases hxo:x.ok with
   | true=>
    have HO:=hd4 hok hxo hg hi;clear hok hxo hg hi htl hr
    gi_wp2
    refine⟨KeepsFrom.refl _ _,rfl,fun y hy=>?_,HO.2.2.2⟩;rcases List.mem_append.1 hy with hy|hy
    ·exact HO.1 y hy
    ·obtain rfl:=List.mem_singleton.1 hy
     exact⟨HO.2.1,HO.2.2.1⟩
   | false=>
    obtain⟨hc2,hf2⟩:=hi.2.2.2.facts;have HO:=hd4 htl hxo hg hi;clear hok hxo hg hi htl hr
    gi_wp2
    refine⟨(KeepsOthers.setCell _ _ _).from _,⟨rfl,x,ag,HO.2.1,HO.2.2.1,?_⟩,HO.2.2.2.store⟩;obtain⟨tl,htl⟩:=HO.1;rw[htl];simp
  case stop=>
   rintro D c pre W hD ⟨⟨rfl,x,hx,hxo,hg,hxs⟩,hi⟩ hK;have hp:=hi.put (.deferred none) hK rfl ab;obtain⟨hc2,hf2⟩:=hp.2.2.2.facts;have qc:(Der.seq body).any (·.isNone)=true:=by
    rw[List.any_eq_true];refine⟨_,hxs,?_⟩;rcases hg with⟨e,_⟩|⟨_,_,_,_,_,_,_,_,_,_,_,e,_⟩
    ·rw[e];rfl
    ·rw[hxo]at e;cases e
   have HP:=hd3 hp qc hK;clear hp qc hK hi
   gi_wp2
   refine⟨ag,.inl ⟨_,_,rfl,run_takeDeferred HP.2.2,?_⟩⟩;refine⟨.int .i64 9,by simp[results,Tryz.results71,go_sem,hc2],?_⟩;have hv:=HV.out;rw[if_pos HP.2.1]at hv;exact iT (v:=9) hv HP.1.1
  case done=>
   rintro D ys W hD hys ⟨hok,hi⟩ hK;have qc:(Der.seq body).any (·.isNone)=false:=by
    rw[←hys];exact mK (fun x hx=>(hok x hx).1) (fun x hx=>(hok x hx).2)
   obtain⟨hc0,hf0⟩:=hi.2.1.facts;have q4:=(Array.getElem?_eq_some_iff.1 hK).1;have HW:=hd4 hi hK qc HN.1;have q6:W.cell? ⟨w.heap.size,1,none⟩=some (.slice A1 n1 c1):=by rw[hc0,HN.1];rfl
   have hv:=HV.out;rw[if_neg (by rw[qc];simp)]at hv;have j3:=hd2 hv hys;clear hi hK qc hok hys hc0 hv
   gi_wp2_with fail
   refine⟨trivial,(callsIn_wide.2 (je A1 n1 c1 _)).mono ?_⟩;rintro e w3 ⟨rfl,hb3,hBn3,hz3⟩;have y0:=HW.1.later hb3;have j7:w3.heap[D]? = some (.deferred (some [])):=(hb3.block D q4).trans HW.2.1;have j2:=hd2 hBn3 j7;have y5:w.heap.size+4≤W.heap.size:=ab
   have y2:w.heap.size+4≤w3.heap.size:=ab
   have q3:D<w3.heap.size:=ab
   have qv:D≠W.heap.size:=ab
   have j1:W.heap.size+1≤w3.heap.size:=ab
   clear hBn3 j7 hz3 hb3 q6 hf0
   gi_wp2_with fail
   refine gu ab W.heap.size rfl rfl w.heap.size w A1 n1 c1 body j2.1 h1
    (fun pre W'=>(∀x∈pre,x.bad (Der.thr k) 0)∧dS vs 0 d w W'∧W'.heap[D]? = some (.deferred (some []))∧W.heap.size+1≤W'.heap.size)
    (fun c pre W'=>(c=.ret∧∃v,v≠0∧Der.firstBad (Der.thr k) (Der.seq body)=v∧dS vs v d w W')∧W'.heap[D]? = some (.deferred (some [])))
    ((bB.pure_ _ _ _).and ((dS.own _ _ _ _ _ _ ab ab).and ((bB.at_ _ ab qv).and (bB.size _ _ _)))) ?hIx
    (fun s X h=>⟨h.2.1.1,h.2.1.1.size⟩) ⟨(fun x hx=>by cases hx),y0,j2.2,j1⟩
    (fun x a' W'=>∃Bx,(∃u0 u1 u5 u6 u8 u9 u10 u11 u12 u13 u14 u15 u16 u17 u18 u19 u20 u21 u22 u23 u24 u25 u26 u27 u28 u29 u30 u31 u32 u33 u34 u35 u36 u37 u38 u39:Value,a' = {tmps:=#[u0,u1,.pointer (some ⟨w.heap.size,0,none⟩),.pointer (some ⟨w.heap.size+1,0,none⟩),.pointer (some ⟨w.heap.size+2,0,none⟩),u5,u6,.pointer (some ⟨Bx,0,none⟩),u8,u9,u10,u11,u12,u13,u14,u15,u16,u17,u18,u19,u20,u21,u22,u23,u24,u25,u26,u27,u28,u29,u30,u31,u32,u33,u34,u35,u36,u37,u38,u39],defers:=[]})∧lu w W.heap.size x Bx W') ?hAx ?assign2 ?body2 ?done2 ?stop2
   case hIx=>
    rintro c s X Y row ⟨⟨hc,v,hv,hf,hI⟩,hat⟩ hg hr;exact⟨⟨hc,v,hv,hf,dS.own (β:=Unit) vs v d w _ w3.heap.size ab ab () X Y row hI hg hr⟩,bB.at_ (β:=Unit) _ (N:=w3.heap.size) q3 qv () X Y row hat hg hr⟩
   case hAx=>
    rintro x a' s X Y row ⟨Bx,hx,hb⟩ hg hr;exact⟨Bx,hx,lu.own (β:=Unit) w _ w3.heap.size x Bx () X Y row hb hg hr⟩
   case assign2=>
    intro l pre x W' K hi hg hK';have qd:∀cs,x.v=.agg cs→KeepsFrom w3.heap.size W' (W'.alloc (.cells cs 84))∧(W'.alloc (.cells cs 84)).heap[W.heap.size]? = W'.heap[W.heap.size]?∧
     ((∀x∈pre,x.bad (Der.thr k) 0)∧dS vs 0 d w (W'.alloc (.cells cs 84))∧(W'.alloc (.cells cs 84)).heap[D]? = some (.deferred (some []))∧W.heap.size+1≤(W'.alloc (.cells cs 84)).heap.size)∧
     lu w W.heap.size x W'.heap.size (W'.alloc (.cells cs 84)):=by
     intro cs hcs;obtain⟨hz,hI,hD',hsz⟩:=hi;exact⟨(KeepsOthers.alloc _ _).from _,Below.heap_alloc _ _ _ ab,⟨hz,hI.later (br_.alloc nl_ _),(Below.heap_alloc _ _ _ (Array.getElem?_eq_some_iff.1 hD').1).trans hD',ai⟩,
      by omega,ab,cs,hcs,aw.new _ _ _⟩
    rcases hg with⟨_,hxv,_⟩|⟨t',b',r',A4,n4,c4,A5,n5,c5,_,hxv,_,_,_⟩
    ·have HF:=hd1 (qd _ hxv)
     rw[hxv];clear qd hxv hi
     gi_wp2
     exact hK' _ _ HF.1 HF.2.1 HF.2.2.1 ⟨W'.heap.size,⟨_,_,_,_,_,_,_,_,_,_,_,_,_,_,_,_,_,_,_,_,_,_,_,_,_,_,_,_,_,_,_,_,_,_,_,_,rfl⟩,HF.2.2.2⟩
    ·have HF:=hd1 (qd _ hxv)
     rw[hxv];clear qd hxv hi
     gi_wp2
     exact hK' _ _ HF.1 HF.2.1 HF.2.2.1 ⟨W'.heap.size,⟨_,_,_,_,_,_,_,_,_,_,_,_,_,_,_,_,_,_,_,_,_,_,_,_,_,_,_,_,_,_,_,_,_,_,_,_,rfl⟩,HF.2.2.2⟩
   case body2=>
    rintro l pre x a' W' hlN ⟨r,hr⟩ ⟨hz,hi,hK,hsz⟩ ⟨Bx,⟨u0,u1,u5,u6,u8,u9,u10,u11,u12,u13,u14,u15,u16,u17,u18,u19,u20,u21,u22,u23,u24,u25,u26,u27,u28,u29,u30,u31,u32,u33,u34,u35,u36,u37,u38,u39,rfl⟩,hBx1,hBx2,cs,hcs,hBlk⟩ hg ⟨tl,htl⟩;have yd:x.dat≠none:=by
     intro e;have h1:=HW.2.2.1;rw[List.any_eq_false]at h1;exact h1 none (by rw[htl,←e];simp) rfl
    rcases hg with⟨e,_⟩|⟨t',b',r',A4,n4,c4,A5,n5,c5,hdat,hxv,_,hr4,hr5⟩
    ·exact absurd e yd
    obtain rfl:cs=#[.int .u8 (t'.toNat:Int),.slice A4 n4 c4,.slice A5 n5 c5]:=by rw[hxv]at hcs;injection hcs with hcs;exact hcs.symm
    obtain⟨hcx,hfx⟩:=hBlk.facts;obtain⟨hcd,hfd⟩:=hi.2.2.1.facts;have q9:=yh.out (d+1) ab t' A4 A5 n4 c4 n5 c5 b' W' (hr4.up hi.1);rw[show((d+1:Nat):Int)=(d:Int)+1 from by omega]at q9;have HC:=hd1 q9;have HX:=hd5 hz hi hK htl hdat;have y3:(d:Int)<16:=ab
    have j6:=(Array.getElem?_eq_some_iff.1 hK).1;clear q9 hz hi hK htl hdat hxv hcs yd hr hr4 hr5
    gi_wp2_with fail
    refine⟨trivial,(CallsIn.inRound l (callsIn_wide.2 HC.out)).mono ?_⟩;rintro e w5 ⟨rfl,hb5⟩;have q7:=HX.2.1.later hb5;obtain⟨hce,hfe⟩:=q7.2.2.2.facts;have yy:=hb5.size;have HB:=hd2 hb5 q7;clear hb5 q7 hcd hfd hcx hfx;obtain⟨q,hq⟩:∃q,Der.thr k t' b'=q:=⟨_,rfl⟩
    rw[hq];have HQ:=hd1 hq;clear hq
    by_cases hq0:q=0
    ·have y1:((q:Int) != 0)=false:=ai
     gi_wp2
     refine⟨fK HB.1,HB.1.block _ ab,fun y hy=>?_,HB.2,(HB.1.block _ j6).trans HX.2.2.1,ab⟩;rcases List.mem_append.1 hy with hy|hy
     ·exact HX.1 y hy
     ·obtain rfl:=List.mem_singleton.1 hy
      exact⟨t',b',r',HX.2.2.2.2,by rw[HQ.out,hq0]⟩
    ·have y1:((q:Int) != 0)=true:=ai
     gi_wp2
     refine⟨(fK HB.1).trans ((KeepsOthers.setCell _ _ _).from _),⟨rfl,q,hq0,?_,HB.2.store⟩,(Below.heap_setCell _ _ _ _ ai).trans ((HB.1.block _ j6).trans HX.2.2.1)⟩;rw[HX.2.2.2.1];exact jO ⟨t',b',r',HX.2.2.2.2,HQ.out⟩ hq0 tl HX.1
   case done2=>
    rintro D2 zs W' hD2 hzs ⟨hz,hi,hK,_⟩ hK2;obtain⟨hc2,hf2⟩:=hi.2.2.2.facts;have j8:dS vs 0 d w (W'.setCell ⟨w.heap.size+2,0,none⟩ (.int .i64 0)):=hi.store;have j4:(W'.setCell ⟨w.heap.size+2,0,none⟩ (.int .i64 0)).heap[D]? = some (.deferred (some [])):=(Below.heap_setCell _ _ _ _ ai).trans hK;have q0:(W'.setCell ⟨w.heap.size+2,0,none⟩ (.int .i64 0)).heap[D2]? = some (.deferred (some [])):=(Below.heap_setCell _ _ _ _ ai).trans hK2;have hp:=j8.put (.deferred none) q0 rfl ab;have qg:=(cY (o:=.deferred none) (show D≠D2 by omega)).trans j4;have hq:=hp.put (.deferred none) qg rfl ab;obtain⟨hc4,hf4⟩:=hq.2.2.2.facts;have HP:=hd5 hq q0 qg hz hzs;clear hi j8 hK hK2 j4 q0 hp qg hq hz hzs
    gi_wp2
    refine⟨ag,.inl ⟨_,_,rfl,run_takeDeferred HP.2.1,ag,.inl ⟨_,_,rfl,run_takeDeferred HP.2.2.1,?_⟩⟩⟩;refine⟨.int .i64 0,by simp[results,Tryz.results71,go_sem,hc4],?_⟩;have hv:=j3.1;rw[←HP.2.2.2.2,jN HP.2.2.2.1]at hv;exact iT (v:=0) hv HP.1.1
   case stop2=>
    rintro D2 c pre W' hD2 ⟨⟨rfl,v,hv0,hvf,hi⟩,hK⟩ hK2;have hp:=hi.put (.deferred none) hK2 rfl ab;have qg:=(cY (o:=.deferred none) (show D≠D2 by omega)).trans hK;have hq:=hp.put (.deferred none) qg rfl ab;obtain⟨hc4,hf4⟩:=hq.2.2.2.facts;have HP:=hd4 hq hK2 qg hvf;clear hi hK hK2 hp qg hq hvf hv0
    gi_wp2
    refine⟨ag,.inl ⟨_,_,rfl,run_takeDeferred HP.2.1,ag,.inl ⟨_,_,rfl,run_takeDeferred HP.2.2.1,?_⟩⟩⟩;refine⟨.int .i64 (v:Int),by simp[results,Tryz.results71,go_sem,hc4],?_⟩;have hv:=j3.1;rw[HP.2.2.2]at hv;exact iT hv HP.1.1
end
section
set_option maxRecDepth 100000
def y9 (t:UInt8) (body raw:List UInt8) (w:World) (e:Ending) (w':World):Prop:=
 ∃A1 n1 c1 A2 n2 c2,e=.returned (.agg #[.int .u8 (t.toNat:Int),.slice A1 n1 c1,.slice A2 n2 c2])∧bN w' w.heap.size w'.heap.size [(.slice A1 n1 c1,body),(.slice A2 n2 c2,raw)]∧Below w.heap.size w w'
set_option maxHeartbeats 400000 in
theorem kj (t:UInt8) (A1 A2:Option Addr) (n1 c1 n2 c2:Nat) (body raw:List UInt8) (w:World) (h1:Rd w w.heap.size A1 n1 c1 body) (h2:Rd w w.heap.size A2 n2 c2 raw)
 (hn1:n1≤1099511627776) (hn2:n2≤1099511627776) :
 Calls Tryz.prog 72 #[.agg #[.int .u8 (t.toNat:Int),.slice A1 n1 c1,.slice A2 n2 c2]] w (y9 t body raw w):=by
 go_enter Tryz.func72,Tryz.ntmps72
 go_wp2
 go_region_held3 (fun w'=>w'.cell? ⟨w.heap.size,0,none⟩=some (.int .u8 (t.toNat:Int))∧w'.cell? ⟨w.heap.size,1,none⟩=some (.slice A1 n1 c1)∧w'.cell? ⟨w.heap.size,2,none⟩=some (.slice A2 n2 c2)) (go_keep)
  (first
    | (go_at_call 73;((with_reducible refine(cu A1 n1 c1 body _ (h1.up aa) ab).mono ?_);rintro e w1 ⟨A3,n3,c3,rfl,hv1,hb1⟩);have qc:Below w.heap.size w w1:=Below.trans aa (hb1.mono ai);obtain⟨hk1,hf1⟩:=yV hb1;have qh:w1.cell? ⟨w.heap.size,0,none⟩=some (.int .u8 (t.toNat:Int)):=(by rw[hk1 _ _ ai];simp[go_sem]);have qk:w1.cell? ⟨w.heap.size,1,none⟩=some (.slice A1 n1 c1):=(by rw[hk1 _ _ ai];simp[go_sem]);have qs:w1.cell? ⟨w.heap.size,2,none⟩=some (.slice A2 n2 c2):=(by rw[hk1 _ _ ai];simp[go_sem]);have qg:w.heap.size+1<w1.heap.size:=by have:=hb1.size;simp at this;omega)
    | (go_at_call 73;((with_reducible refine(cu A2 n2 c2 raw _ (h2.up aa) ab).mono ?_);rintro e w2 ⟨A4,n4,c4,rfl,hv2,hb2⟩);have q2:Below w.heap.size w w2:=Below.trans aa (hb2.mono (by first|(simp;done)|(simp;omega)|exact qc.size));obtain⟨hk2,hf2⟩:=yV hb2;have qv:w2.cell? ⟨w.heap.size,0,none⟩=some (.int .u8 (t.toNat:Int)):=(by rw[hk2 _ _ (by first|(simp;done)|omega)];assumption);have q0:w2.cell? ⟨w.heap.size,1,none⟩=some (.slice A1 n1 c1):=(by rw[hk2 _ _ (by first|(simp;done)|omega)];assumption);have q1:w2.cell? ⟨w.heap.size,2,none⟩=some (.slice A2 n2 c2):=(by rw[hk2 _ _ (by first|(simp;done)|omega)];assumption);have q5:w.heap.size+1<w2.heap.size:=by have:=hb2.size;omega))
 go_wp2
 have qd:=hv1.mono (lo':=w.heap.size+2) (hi':=w1.heap.size) ag nl_;have q3:=hb1.size;simp at q3;have q4:=hb2.size;have p0:w2.cell? ⟨w.heap.size+1,0,none⟩=some (.int .u8 0):=by rw[hk2 _ _ qg,hk1 _ _ ag];simp[go_sem]
 have p1:w2.cell? ⟨w.heap.size+1,1,none⟩=some (.slice none 0 0):=by rw[hk2 _ _ qg,hk1 _ _ ag];simp[go_sem]
 have p2:w2.cell? ⟨w.heap.size+1,2,none⟩=some (.slice none 0 0):=by rw[hk2 _ _ qg,hk1 _ _ ag];simp[go_sem]
 refine bodyPost_ret (v:=.agg #[.int .u8 (t.toNat:Int),.slice A3 n3 c3,.slice A4 n4 c4]) (by simp[results,Tryz.results72,go_sem,p0,p1,p2]) rfl
  ⟨_,_,_,_,_,_,rfl,⟨w1.heap.size,ab,((((qd.below hb2 nl_).setCell ag _).setCell ag _).setCell ag _).mono ab nl_,
    _,by simpa using q4,((((hv2.setCell ai _).setCell ai _).setCell ai _).mono nl_ ag),Nat.le_refl _⟩,aa⟩
end
section
set_option maxRecDepth 100000
theorem fB:(Tryz.prog.info? 84).map (fun i=>(i.zero,i.size,i.bytes))=some (some (.agg #[.int .u8 0,.slice none 0 0,.slice none 0 0]),3,56):=by kernel_rfl
structure EI where
 t:UInt8
 vb:Value
 body:List UInt8
 vr:Value
 raw:List UInt8
def EI.cells (x:EI):List Value:=[.int .u8 (x.t.toNat:Int),x.vb,x.vr]
def EI.dat (x:EI):UInt8×List UInt8×List UInt8:=(x.t,x.body,x.raw)
def EI.rows (x:EI):List (Value×List UInt8):=[(x.vb,x.body),(x.vr,x.raw)]
def bQ (l:List (Value×List UInt8)):Prop:=l.Pairwise fun a b=>∀g,a.1.ownBlock=some g→b.1.ownBlock≠some g
def aU (w:World) (lo hi:Nat) (v:Value) (l:List EI):Prop:=
 aI 84 3 w lo hi v l.length (l.flatMap EI.cells)∧(∀p∈l.flatMap EI.rows,az w lo hi p.1 p.2)∧bQ (l.flatMap EI.rows)
def au (lo:Nat) (w w':World):Prop:=∀g cs t,lo≤g→w.heap[g]? = some (.cells cs t (0,0))→w'.heap[g]? = some (.cells cs t (0,0))
theorem az.keepRows {w w':World} {lo hi:Nat} {v:Value} {xs:List UInt8} (h:az w lo hi v xs) (hk:au lo w w'):az w' lo hi v xs:=by
 refine⟨⟨h.1.1,?_⟩,h.2⟩;rcases h.1.2 with e|⟨g,cap,cur,rfl,hb,hg,r⟩
 ·exact .inl e
 ·exact .inr ⟨g,cap,cur,rfl,hb,hk _ _ _ hb hg,r⟩
theorem aI.keepRows {e:TypeId} {size n:Nat} {w w':World} {lo hi:Nat} {v:Value} {cs:List Value} (h:aI e size w lo hi v n cs) (hk:au lo w w'):aI e size w' lo hi v n cs:=by
 refine⟨⟨h.1.1,?_⟩,h.2⟩;rcases h.1.2 with e|⟨g,cap,cur,rfl,hb,hg,r⟩
 ·exact .inl e
 ·exact .inr ⟨g,cap,cur,rfl,hb,hk _ _ _ hb hg,r⟩
theorem aU.keepRows {w w':World} {lo hi:Nat} {v:Value} {l:List EI} (h:aU w lo hi v l) (hk:au lo w w'):aU w' lo hi v l:=
 ⟨h.1.keepRows hk,fun p hp=>(h.2.1 p hp).keepRows hk,h.2.2⟩
theorem aU.mono {w:World} {lo hi lo' hi':Nat} {v:Value} {l:List EI} (h:aU w lo hi v l) (h1:lo'≤lo) (h2:hi≤hi'):aU w lo' hi' v l:=
 ⟨h.1.mono h1 h2,fun p hp=>(h.2.1 p hp).mono h1 h2,h.2.2⟩
theorem aU.nil_ {w:World} {lo hi:Nat}:aU w lo hi (.slice none 0 0) []:=⟨aI.nil_,fun p hp=>by simp at hp,List.Pairwise.nil⟩
theorem au.below {lo B:Nat} {w w':World} (h:Below B w w') (hB:w.heap.size≤B):au lo w w':=by
 intro g cs t _ hg;have qc:=(Array.getElem?_eq_some_iff.1 hg).1;exact(h.block g ab).trans hg
theorem au.alloc {lo:Nat} (w:World) (o:Obj):au lo w (w.alloc o):=au.below (br_.alloc nl_ o) nl_
theorem au.setCell {lo:Nat} {w:World} {p:Addr} (hp:p.block<lo) (u:Value):au lo w (w.setCell p u):=by
 intro g cs t h1 hg;exact(Below.heap_setCell w p u g ab).trans hg
theorem au.put {lo:Nat} {w:World} {D:Nat} {o:Obj} (o':Obj) (hD:w.heap[D]? = some o) (ho:o.isCells=false):au lo w (w.putObj D o'):=by
 intro g cs t _ hg;have qc:g≠D:=by rintro rfl;rw[hg]at hD;cases hD;cases ho
 exact(cY qc).trans hg
theorem au.trans {lo:Nat} {a b c:World} (h:au lo a b) (h':au lo b c):au lo a c:=fun g cs t h1 h2=>h' g cs t h1 (h g cs t h1 h2)
theorem au.ownX {X Y:World} {row:Option Nat} {lo Bn N:Nat} (hB:Bn<lo) (hg:X.grownBy Y row) (hr:∀r,row=some r→r=Bn∨(N≤r∧∃o:Obj,X.heap[r]? = some o∧o.isCells=false)):au lo X Y:=by
 intro g cs t h1 h2;have qc:=(Array.getElem?_eq_some_iff.1 h2).1;refine(hg.block g qc fun e=>?_).trans h2;rcases hr g e.symm with rfl|⟨_,o,ho,hc⟩
 ·omega
 ·rw[h2]at ho;cases ho;cases hc
theorem aU.snoc {w w':World} {lo:Nat} {v v':Value} {l:List EI} {x:EI} {mid:Nat} (h:aU w lo mid v l) (hx:bN w mid w.heap.size x.rows)
 (hown:aI 84 3 w' lo w'.heap.size v' (l.length+1) (l.flatMap EI.cells++x.cells)) (hg:w.grownBy w' v.ownBlock) (hlo:lo≤mid):aU w' lo w'.heap.size v' (l++[x]):=by
 have qc:∀(p:Value×List UInt8) (a b:Nat),az w a b p.1 p.2→b≤w.heap.size→az w' a b p.1 p.2:=by
  intro p a b hp hb;refine⟨⟨hp.1.1,?_⟩,hp.2⟩;rcases hp.1.2 with e|⟨g,cap,cur,e,hb',hg',r⟩
  ·exact .inl e
  ·refine .inr ⟨g,cap,cur,e,hb',(hg.block g ((Array.getElem?_eq_some_iff.1 hg').1) fun e'=>?_).trans hg',r⟩
   rcases h.1.1.2 with⟨rfl,_⟩|⟨g2,cap2,cur2,rfl,hb2,hg2,_⟩
   ·simp[Value.ownBlock]at e'
   ·simp only[Value.ownBlock,Option.some.injEq]at e'
    subst e';rw[hg2]at hg';injection hg' with hg'
    injection hg' with _ ht
    revert ht
    decide
 obtain⟨m1,h1,hb1,m2,h2,hb2,h3⟩:=hx;have hm:m2≤w.heap.size:=h3;have qd:=hg.size;refine⟨by simpa using hown,?_,?_⟩
 ·intro p hp
  rw[List.flatMap_append,List.mem_append]at hp;rcases hp with hp|hp
  ·have:=h.2.1 p hp
   exact(qc p _ _ this ab).mono nl_ ab
  ·simp only[List.flatMap_cons,List.flatMap_nil,List.append_nil,EI.rows,List.mem_cons,List.not_mem_nil,or_false]at hp
   rcases hp with rfl|rfl
   ·exact(qc (x.vb,x.body) _ _ hb1 ab).mono hlo ab
   ·exact(qc (x.vr,x.raw) _ _ hb2 ab).mono ab ab
 ·unfold bQ
  rw[List.flatMap_append,List.pairwise_append];refine⟨h.2.2,?_,?_⟩
  ·simp only[List.flatMap_cons,List.flatMap_nil,List.append_nil,EI.rows,List.pairwise_cons,List.mem_cons,List.not_mem_nil,or_false,forall_eq,List.Pairwise.nil,and_true,false_implies,implies_true]
   intro g e1 e2;have a1:=hb1.2 g e1;have a2:=(hb2.1.lt g e2).1;omega
  ·intro a ha b hb g e1 e2
   have a1:=(h.2.1 a ha).2 g e1;simp only[List.flatMap_cons,List.flatMap_nil,List.append_nil,EI.rows,List.mem_cons,List.not_mem_nil,or_false]at hb;rcases hb with rfl|rfl
   ·have a2:=(hb1.1.lt g e2).1;omega
   ·have a2:=(hb2.1.lt g e2).1;omega
theorem eX (w:World) (t:TypeId) (a b c:Value):aF (w.alloc (.cells #[a,b,c] t)) (w.heap.size+1) 3 (some ⟨w.heap.size,0,none⟩) 1 [a,b,c]:=by
 refine⟨rfl,fun _=>⟨_,rfl,ag,fun j x hx=>?_⟩⟩;rw[Addr.add_lit];have:=(aw.new w t #[a,b,c]).cell (0+j);rw[this,Nat.zero_add]
 simpa using hx
theorem fZ {F:Fence} {N:Nat} {P:Program} {w:World} {ops:Array Oper} {o:Oper} {a:Act} {K:Act→World→Prop} {Q:Exit→Act→World→Prop} {E:Prop} (hgd:o.guard=none) (s x:Operand) (t:TypeId)
 (ho:o.op=.call {callee:=.builtin .append,args:=#[s,x],argTypes:=#[t,t]})
 (e:TypeId) (z:Value) (size bytes:Nat) (hinfo:(P.info? e).map (fun i=>(i.zero,i.size,i.bytes))=some (some z,size,bytes)) (ht:P.underlying t=some (.slice e)) (hzs:z.cells.size=size) (hsz:0<size)
 (lo hi:Nat) (v:Value) (n:Nat) (xs:List Value) (hs:a.eval s=v) (hown:aI e size w lo hi v n xs) (hlo:lo≤w.heap.size)
 (B:Nat) (A:Option Addr) (m c:Nat) (news:List Value) (hx:a.eval x=.slice A m c) (hr:aF w B size A m news) (h1:∀u∈news,u.oneCell'=true) (h63:n+m≤9223372036854775807) (hlen:(n+m)*bytes≤140737488355328)
 (h:∀v' w',aI e size w' lo w'.heap.size v' (n+m) (xs++news)→w.grownBy w' v.ownBlock→(v'.ownBlock=v.ownBlock∨v'.ownBlock=some w.heap.size)→Below lo w w'→K (a.put o.dst v') w') :
 if Region.wanted o (yielded ops a.tmps)=true then Oper.wpIn F N P o a w K Q else E:=by
 have hw:Region.wanted o (yielded ops a.tmps)=true:=by simp[Region.wanted,hgd]
 rw[if_pos hw];obtain⟨i0,hi0,hz0,hz1,hz2⟩:=info_parts hinfo;obtain⟨v',w',hrun,g1,g2,g3⟩:=iP (P:=P) w lo t o.type e i0 z size bytes ht hi0 hz0 hz1 hz2 hzs hsz v n xs hown.1 B A m c news hr h1 (by simp only[maxLen];omega) hlen hlo;unfold Oper.wpIn;refine⟨?_,?_⟩
 ·simp[Oper.about,ho,resolve,Target.leads,Sem.run_pure]
 ·rw[Oper.semAt_plain F _ _ (by rw[ho];intro c hc';cases hc')]
  simp[execOp,ho,resolve,invoke,builtin,hs,hx,hrun,Result.andThen];exact h v' w' (aI.of g1) g2 g3 (br_.grown g2 hlo fun k hk=>(hown.1.lt k hk).1)
end
section
set_option maxRecDepth 100000
def jC (er:Int) (xs:List UInt8) (w:World) (e:Ending) (w':World):Prop:=
 Below w.heap.size w w'∧
 ((Der.elem xs=none∧e=.returned (.tuple #[.agg #[.int .u8 0,.slice none 0 0,.slice none 0 0],.slice none 0 0,.int .i64 er]))∨
  ∃t body raw rest A1 n1 c1 A2 n2 c2 A3 n3 c3,Der.elem xs=some (t,body,raw,rest)∧
   e=.returned (.tuple #[.agg #[.int .u8 (t.toNat:Int),.slice A1 n1 c1,.slice A2 n2 c2],.slice A3 n3 c3,.int .i64 0])∧
   bN w' w.heap.size w'.heap.size [(.slice A1 n1 c1,body),(.slice A2 n2 c2,raw),(.slice A3 n3 c3,rest)])
theorem fp {xs:List UInt8} {t:UInt8} {body raw rest:List UInt8} (h:Der.elem xs=some (t,body,raw,rest)):body.length≤xs.length∧raw.length≤xs.length∧rest.length≤xs.length∧raw++rest=xs:=by
 unfold Der.elem at h
 split at h
 ·split at h
  ·simp only[Option.some.injEq,Prod.mk.injEq]at h
   obtain⟨_,rfl,rfl,rfl⟩:=h;refine⟨ai,ai,ag,List.take_append_drop _ _⟩
  ·cases h
 ·cases h
set_option maxHeartbeats 400000 in
theorem jR (A:Option Addr) (n c:Nat) (xs:List UInt8) (w:World) (h:Rd w w.heap.size A n c xs) (hn:n≤1099511627776) :
 Calls Tryz.prog 45 #[.slice A n c] w (jC 9 xs w):=by
 have hl:=h.len;have qs:=aw.new w 84 #[.int .u8 0,.slice none 0 0,.slice none 0 0]
 go_enter Tryz.func45,Tryz.ntmps45
 go_wp2_with fail
 refine(iz A n c xs _ _ (h.up aa) nl_).mono ?_;rintro e w1 ⟨hb1,⟨hno,rfl⟩|⟨t,body,raw,rest,A1,n1,c1,A2,n2,c2,A3,n3,c3,hel,rfl,h1,h2,h3⟩⟩
 all_goals
  have qv:Below w.heap.size w w1:=Below.trans aa (hb1.mono ag);obtain⟨hc1,hf1,hB1,hz1⟩:=qs.box hb1 ag
 ·have qk:=hd1 hno
  clear hno hl
  go_wp2
  refine bodyPost_ret (v:=.tuple #[.agg #[.int .u8 0,.slice none 0 0,.slice none 0 0],.slice none 0 0,.int .i64 9]) (by simp[results,Tryz.results45,go_sem,hc1,hz1]) rfl ⟨aa,.inl ⟨qk.out,rfl⟩⟩
 ·have q1:=fp hel
  have qh:=hd1 hel
  replace h1:=h1.up hb1
  replace h2:=h2.up hb1
  replace h3:=h3.up hb1
  have q2:n1≤1099511627776:=by have:=h1.len;omega
  have q3:n2≤1099511627776:=by have:=h2.len;omega
  have q4:n3≤1099511627776:=by have:=h3.len;omega
  clear hel hl q1
  go_wp2_with fail
  refine(kj t A1 A2 n1 c1 n2 c2 body raw _ (h1.up aa) (h2.up aa) q2 q3).mono ?_;rintro e w2 ⟨A4,n4,c4,A5,n5,c5,rfl,ho,hb2⟩;have q5:=hb2.size;simp at q5;have qg:Below w.heap.size w w2:=Below.trans aa (hb2.mono ai);have qc:Below w1.heap.size w1 w2:=Below.trans aa (hb2.mono ag)
  replace h3:=h3.up qc
  replace ho:=ho.mono (lo':=w1.heap.size) (hi':=w2.heap.size) ag nl_
  obtain⟨hc2,hf2,hB2,hz2⟩:=hB1.box qc hz1;clear hc1 hf1
  go_wp2_with fail
  refine(cu A3 n3 c3 rest _ h3 q4).mono ?_;rintro e w3 ⟨A6,n6,c6,rfl,ho3,hb3⟩;have q6:=hb3.size;have q0:Below w.heap.size w w3:=Below.trans qg (hb3.mono ab);obtain⟨hc3,hf3,hB3,hz3⟩:=hB2.box hb3 hz2;clear hc2 hf2
  go_wp2
  refine bodyPost_ret (v:=.tuple #[.agg #[.int .u8 (t.toNat:Int),.slice A4 n4 c4,.slice A5 n5 c5],.slice A6 n6 c6,.int .i64 0]) (by simp[results,Tryz.results45,go_sem,hc3]) rfl
   ⟨aa,.inr ⟨_,_,_,_,_,_,_,_,_,_,_,_,_,qh.out,rfl,?_⟩⟩
  have qd:=(ho.below hb3 nl_).append (bN.one ho3 q6);exact((((qd.setCell ai _).setCell ai _).setCell ai _).mono ab ag)
end
section
open Go.RowKit Go.Shelf
attribute [local go_sem] Oper.semAt_some
set_option maxRecDepth 100000
def qZ (xs:List UInt8) (w:World) (e:Ending) (w':World):Prop:=
 Below w.heap.size w w'∧
 (((Der.seq xs).any (·.isNone)=true∧e=.returned (.tuple #[.slice none 0 0,.int .i64 9]))∨
  ∃l A n c,Der.seq xs=(l:List EI).map (fun x=>some x.dat)∧e=.returned (.tuple #[.slice A n c,.int .i64 0])∧aU w' w.heap.size w'.heap.size (.slice A n c) l)
def gG (N:Nat) (w:World) (pre:List cF) (W:World):Prop:=
 Below w.heap.size w W∧aw W (w.heap.size+1) 29 #[.int .i64 0]∧
 ∃v l,aw W w.heap.size 80 #[v]∧pre.map (·.dat)=(l:List EI).map (fun x=>some x.dat)∧aU W N W.heap.size v l∧N≤W.heap.size
theorem qj:∀(k:Nat) (xs:List UInt8),(Der.seqF k xs).length≤k
 | 0,_=>by simp[Der.seqF]
 | k+1,xs=>by
  rw[Der.seqF]
  split
  ·simp
  ·split
   ·simp
   ·simp only[List.length_cons]
    have:=qj k (by assumption);omega
theorem ld:∀(k:Nat) (xs:List UInt8) (t:UInt8) (b r:List UInt8),some (t,b,r)∈Der.seqF k xs→b.length≤xs.length∧r.length≤xs.length
 | 0,_,_,_,_,h=>by simp[Der.seqF]at h
 | k+1,xs,t,b,r,h=>by
  rw[Der.seqF]at h
  split at h
  ·simp at h
  ·split at h
   ·simp at h
   ·rename_i t' b' r' rest he
    have hl:=fp he;rcases List.mem_cons.1 h with h|h
    ·simp only[Option.some.injEq,Prod.mk.injEq]at h
     obtain⟨rfl,rfl,rfl⟩:=h;exact⟨hl.1,hl.2.1⟩
    ·have:=ld k rest t b r h
     omega
theorem gG.own (w:World) (Bn N:Nat) (h1:w.heap.size+2≤Bn) (h2:Bn<N):bB Bn N (gG N w):=by
 rintro s X Y row ⟨hb,he,v,l,hv,hd,ho,hN⟩ hg hr;exact⟨bB.below (β:=Unit) ab ab nl_ () X Y row hb hg hr,bB.blk (β:=Unit) _ (fun _=>_) ab () X Y row he hg hr,v,l,bB.blk (β:=Unit) _ (fun _=>#[v]) ab () X Y row hv hg hr,hd,
  (ho.keepRows (au.ownX h2 hg hr)).mono nl_ hg.size,Nat.le_trans hN hg.size⟩
theorem gG.put {N:Nat} {w W:World} {pre:List cF} (h:gG N w pre W) {D:Nat} {o:Obj} (o':Obj) (hD:W.heap[D]? = some o) (ho:o.isCells=false) (hge:w.heap.size≤D):gG N w pre (W.putObj D o'):=by
 obtain⟨hb,he,v,l,hv,hd,hE,hN⟩:=h;have hg:=grownBy_putObj' W D o';have qc:=hg.size;have key:∀{g:Nat} {t:TypeId} {cs:Array Value},aw W g t cs→aw (W.putObj D o') g t cs:=fun hb=>hb.grown hg (fun e=>by
  injection e with e;subst e;unfold aw at hb;rw[hb]at hD;cases hD;cases ho)
 exact⟨hb.grown hg hb.size (fun k e=>by injection e with e;omega),key he,v,l,key hv,hd,(hE.keepRows (au.put o' hD ho)).mono nl_ qc,ab⟩
theorem ii {w w1 W w5 w6:World} {l':List EI} {pre:List cF} {x:cF} {v v6:Value} {t':UInt8} {b' r':List UInt8} {A6 A7:Option Addr} {n6 c6 n7 c7:Nat}
 (hb:Below w.heap.size w W) (he:aw W (w.heap.size+1) 29 #[.int .i64 0]) (hv:aw W w.heap.size 80 #[v]) (hE:aU W w1.heap.size W.heap.size v l') (hok:∀x∈pre,cF.ok x=true)
 (hd:pre.map (·.dat)=l'.map (fun x=>some x.dat)) (hxd:x.dat=some (t',b',r')) (hxo:x.ok=true) (hN:w1.heap.size≤W.heap.size) (hs1:w1.heap.size=w.heap.size+3)
 (ho5:bN w5 W.drew.heap.size w5.heap.size [(.slice A6 n6 c6,b'),(.slice A7 n7 c7,r')]) (hb5:Below W.drew.heap.size W.drew w5)
 (hown6:aI 84 3 w6 w1.heap.size w6.heap.size v6 (l'.length+1) (l'.flatMap EI.cells++[.int .u8 (t'.toNat:Int),.slice A6 n6 c6,.slice A7 n7 c7]))
 (hg6:(w5.alloc (.cells #[.int .u8 (t'.toNat:Int),.slice A6 n6 c6,.slice A7 n7 c7] 84)).grownBy w6 v.ownBlock)
 (hb6:Below w1.heap.size (w5.alloc (.cells #[.int .u8 (t'.toNat:Int),.slice A6 n6 c6,.slice A7 n7 c7] 84)) w6) :
 KeepsFrom w1.heap.size W (w6.setCell ⟨w.heap.size,0,none⟩ v6)∧(w6.setCell ⟨w.heap.size,0,none⟩ v6).heap[w.heap.size+2]? = W.heap[w.heap.size+2]?∧(∀y∈pre++[x],cF.ok y=true)∧gG w1.heap.size w (pre++[x]) (w6.setCell ⟨w.heap.size,0,none⟩ v6):=by
 have qg:aU (w5.alloc (.cells #[.int .u8 (t'.toNat:Int),.slice A6 n6 c6,.slice A7 n7 c7] 84)) w1.heap.size W.heap.size v l':=
  hE.keepRows (au.trans (au.below (Below.drew br_) nl_) (au.trans (au.below hb5 nl_) (au.alloc _ _)))
 have qc:bN (w5.alloc (.cells #[.int .u8 (t'.toNat:Int),.slice A6 n6 c6,.slice A7 n7 c7] 84)) W.heap.size (w5.alloc (.cells #[.int .u8 (t'.toNat:Int),.slice A6 n6 c6,.slice A7 n7 c7] 84)).heap.size
  (EI.rows ⟨t',.slice A6 n6 c6,b',.slice A7 n7 c7,r'⟩):=(ho5.alloc nl_ _).mono nl_ ag
 have qh:=aU.snoc (x:=⟨t',.slice A6 n6 c6,b',.slice A7 n7 c7,r'⟩) qg qc hown6 hg6 hN;have q3:W.heap.size≤w5.heap.size:=hb5.size;have q0:=hb6.size;simp at q0;have qk:Below w.heap.size w w6:=((Below.drew hb).trans (hb5.mono (by have:=hb.size;simpa using this))).trans (Below.trans (br_.alloc (by have:=hb.size;omega) _) (hb6.mono ab));have q2:=hv.lt;have qv:=he.lt;have q1:=(((hv.drew).below hb5 q2).alloc (.cells #[.int .u8 (t'.toNat:Int),.slice A6 n6 c6,.slice A7 n7 c7] 84)).below hb6 ab;have qs:=(((he.drew).below hb5 qv).alloc (.cells #[.int .u8 (t'.toNat:Int),.slice A6 n6 c6,.slice A7 n7 c7] 84)).below hb6 ab;have qd:∀(j:Nat) (o:Obj),v.ownBlock=some j→(w5.alloc (.cells #[.int .u8 (t'.toNat:Int),.slice A6 n6 c6,.slice A7 n7 c7] 84)).heap[j]? = some o→o.isCells=true:=by
  intro j o hj ho;rcases qg.1.1.2 with⟨rfl,_⟩|⟨g2,cap2,cur2,rfl,hb2,hg2,_⟩
  ·simp[Value.ownBlock]at hj
  ·simp only[Value.ownBlock,Option.some.injEq]at hj
   subst hj;rw[hg2]at ho
   cases ho
   rfl
 refine⟨(((((KeepsOthers.drew W).from _).trans (fK hb5)).trans ((KeepsOthers.alloc _ _).from _)).trans ((KeepsOthers.of_grownBy hg6 qd).from _)).trans ((KeepsOthers.setCell _ _ _).from _),?_,?_,?_⟩
 ·rw[Below.heap_setCell _ _ _ _ ag,hb6.block _ ab,Below.heap_alloc _ _ _ ab,hb5.block _ ai]
  rfl
 ·intro y hy
  rcases List.mem_append.1 hy with hy|hy
  ·exact hok y hy
  ·obtain rfl:=List.mem_singleton.1 hy
   exact hxo
 ·refine⟨qk.setCell ag _,qs.far ag _,v6,l'++[⟨t',.slice A6 n6 c6,b',.slice A7 n7 c7,r'⟩],by simpa using q1.set_ 0 v6,?_,(qh.keepRows (au.setCell ai _)).mono nl_ ag,ai⟩
  rw[List.map_append,List.map_append,hd];simp[hxd,EI.dat]
set_option maxHeartbeats 4000000 in
theorem mI (A1:Option Addr) (n1 c1:Nat) (xs:List UInt8) (w:World) (h1:Rd w w.heap.size A1 n1 c1 xs) (hn:n1≤1099511627) :
 Calls Tryz.prog 74 #[.slice A1 n1 c1] w (qZ xs w):=by
 have yd:=h1.len;refine(callsIn_wide (n:=5)).1 ?_;refine callsIn_of_wp_marks Tryz.func74 rfl trivial ?_ rfl;simp only[Tryz.ntmps74,List.size_toArray,List.length_cons,List.length_nil,Nat.reduceAdd,Nat.reduceSub,Array.replicate_succ,Array.replicate_zero,List.push_toArray,List.append_toArray,List.nil_append,List.cons_append];have j4:=(aw.new w 80 #[.slice none 0 0]).alloc (.cells #[.int .i64 0] 29);have q6:=aw.new (w.alloc (.cells #[.slice none 0 0] 80)) 29 #[.int .i64 0];simp only[World.size_alloc]at q6
 gi_wp2_with fail
 refine⟨trivial,(callsIn_wide.2 (je A1 n1 c1 _)).mono ?_⟩;rintro e w1 ⟨rfl,hb1,hBn,hz1⟩;simp only[World.size_alloc]at hb1 hBn hz1;have q9:Below w.heap.size w w1:=Below.trans aa (hb1.mono ab);have qk:=j4.below hb1 ab;have qs:=q6.below hb1 ab;clear hb1 j4 q6;have yv:gG w1.heap.size w [] w1:=⟨q9,qs,_,[],qk,rfl,aU.nil_,Nat.le_refl _⟩
 have q3:w1.heap.size=w.heap.size+3:=ab
 have HN:=hd1 hBn;have HL:=hd1 yd;clear qs hBn hz1 qk yd
 gi_wp2_with fail
 refine gu ab (w.heap.size+2) rfl rfl w.heap.size w A1 n1 c1 xs HN.out h1
  (fun pre W=>(∀x∈pre,cF.ok x=true)∧gG w1.heap.size w pre W)
  (fun c pre W=>c=.ret∧(Der.seq xs).any (·.isNone)=true∧Below w.heap.size w W∧aw W (w.heap.size+1) 29 #[.int .i64 9]∧aw W w.heap.size 80 #[.slice none 0 0])
  ((bB.pure_ _ _ _).and (gG.own _ _ _ ab ab)) (fun c=>(bB.pure_ _ _ _).and ((bB.pure_ _ _ _).and ((bB.below ab ab nl_).and ((bB.blk _ _ ab).and (bB.blk _ _ ab)))))
  (fun s X h=>⟨h.2.1,h.2.1.size⟩) ⟨(fun x hx=>by cases hx),yv⟩
  (fun x a' W=>∃Bx,(∃u0 u1 u6 u7 u8 u9 u10 u11 u12 u13 u14 u15 u16 u17:Value,a' = {tmps:=#[u0,u1,.pointer (some ⟨w.heap.size,0,none⟩),.pointer (some ⟨w.heap.size+1,0,none⟩),.pointer (some ⟨Bx,0,none⟩),.bool x.ok,u6,u7,u8,u9,u10,u11,u12,u13,u14,u15,u16,u17],defers:=[]})∧(w.heap.size+3≤Bx∧∃cs,x.v=.agg cs∧aw W Bx 84 cs)) ?hAx ?assign ?body ?done ?stop
 case hAx=>
  rintro x a' s X Y row ⟨Bx,hx,h3,cs,e,hb⟩ hg hr;exact⟨Bx,hx,h3,cs,e,bB.blk (β:=Unit) 84 (fun _=>cs) ab () X Y row hb hg hr⟩
 case assign=>
  intro l pre x W' K hi hg hK';have qg:∀cs,x.v=.agg cs→KeepsFrom w1.heap.size W' (W'.alloc (.cells cs 84))∧(W'.alloc (.cells cs 84)).heap[w.heap.size+2]? = W'.heap[w.heap.size+2]?∧
   ((∀x∈pre,cF.ok x=true)∧gG w1.heap.size w pre (W'.alloc (.cells cs 84)))∧
   (w.heap.size+3≤W'.heap.size∧∃cs',x.v=.agg cs'∧aw (W'.alloc (.cells cs 84)) W'.heap.size 84 cs'):=by
   intro cs hcs;obtain⟨hz,hb,he,v,l',hv,hd,hE,hN⟩:=hi;exact⟨(KeepsOthers.alloc _ _).from _,Below.heap_alloc _ _ _ ab,⟨hz,hb.alloc ab _,he.alloc _,v,l',hv.alloc _,hd,(hE.keepRows (au.alloc _ _)).mono nl_ ag,ai⟩,
    by omega,cs,hcs,aw.new _ _ _⟩
  rcases hg with⟨_,hxv,hxo⟩|⟨t',b',r',A4,n4,c4,A5,n5,c5,_,hxv,hxo,_,_⟩
  ·have HF:=hd1 (qg _ hxv)
   rw[hxv];have q5:=hd1 hxo;clear qg hxv hi
   gi_wp2
   exact hK' _ _ HF.1 HF.2.1 HF.2.2.1 ⟨W'.heap.size,by rw[q5.out];exact⟨_,_,_,_,_,_,_,_,_,_,_,_,_,_,rfl⟩,HF.2.2.2⟩
  ·have HF:=hd1 (qg _ hxv)
   rw[hxv];have q5:=hd1 hxo;clear qg hxv hi
   gi_wp2
   exact hK' _ _ HF.1 HF.2.1 HF.2.2.1 ⟨W'.heap.size,by rw[q5.out];exact⟨_,_,_,_,_,_,_,_,_,_,_,_,_,_,rfl⟩,HF.2.2.2⟩
 case body=>
  rintro l pre x a' W hlN ⟨r,hr⟩ ⟨hok,hb,he,v,l',hv,hd,hE,hN⟩ ⟨Bx,⟨u0,u1,u6,u7,u8,u9,u10,u11,u12,u13,u14,u15,u16,u17,rfl⟩,h3,cs,hcs,hBlk⟩ hg ⟨tl,htl⟩;obtain⟨hcv,hfv⟩:=hv.facts;obtain⟨hce,hfe⟩:=he.facts;have q4:=hv.lt;have q2:=he.lt;rcases hg with⟨hxd,hxv,hxo⟩|⟨t',b',r',A4,n4,c4,A5,n5,c5,hxd,hxv,hxo,hr4,hr5⟩
  ·have qd:(Der.seq xs).any (·.isNone)=true:=by
    rw[htl,List.map_append,List.map_cons,hxd];simp
   have HO:=hd4 hb he hv qd;clear hb he hv hok hd hE hr htl hcs hBlk hxd hxv qd
   gi_wp2
   refine⟨((KeepsOthers.setCell _ _ _).trans (KeepsOthers.setCell _ _ _)).from _,rfl,HO.2.2.2,(HO.1.setCell ag _).setCell ag _,?_,?_⟩
   ·simpa using(HO.2.1.far ag _).set_ 0 (.int .i64 9)
   ·simpa using(HO.2.2.1.set_ 0 (.slice none 0 0)).far ag _
  ·obtain rfl:cs=#[.int .u8 (t'.toNat:Int),.slice A4 n4 c4,.slice A5 n5 c5]:=by rw[hxv]at hcs;injection hcs with hcs;exact hcs.symm
   obtain⟨hcx,hfx⟩:=hBlk.facts;have HX:=hd11 hb he hv hE hok hd hxd hxo htl hr4 hr5;clear hb he hv hE hok hd hr htl hcs hBlk hxd hxv hr4 hr5
   gi_wp2
   have y3:pre.length=l'.length:=by have:=congrArg List.length HX.2.2.2.2.2.1;simpa using this
   have y2:l'.length+1≤n1:=by
    have h1:=congrArg List.length HX.2.2.2.2.2.2.2.2.1;have h2:=qj xs.length xs;have h3:=HL.out;rw[show Der.seqF xs.length xs=Der.seq xs from rfl]at h2;simp at h1;omega
   have q0:(some (t',b',r'))∈Der.seq xs:=by rw[HX.2.2.2.2.2.2.2.2.1,List.map_append,List.map_cons,HX.2.2.2.2.2.2.1];simp
   have yy:=ld xs.length xs t' b' r' q0;have j1:n4≤1099511627776:=by have h1:=HX.2.2.2.2.2.2.2.2.2.1.len;have h2:=HL.out;omega
   have j2:n5≤1099511627776:=by have h1:=HX.2.2.2.2.2.2.2.2.2.2.len;have h2:=HL.out;omega
   clear q0 yy;refine wpIn_region_any ao ?_
   try (change wpAnyIn _ _ _ _ _ _ _ _ _ (World.drew _))
   refine wpAnyIn_ready (rs:=[0,1]) ao ag (AllReadyIn.cons rfl (fun K hK=>?_) (AllReadyIn.cons rfl (fun K hK=>?_) AllReadyIn.nil))
   ·go_simp
    refine hK _ _ ?_;clear hK K;refine wpAnyIn_ready (rs:=[1]) ao ag (AllReadyIn.cons rfl (fun K hK=>?_) AllReadyIn.nil)
    go_simp
    refine hK _ _ ?_;clear hK K;refine wpAnyIn_ready (rs:=[2]) ao ag (AllReadyIn.cons rfl (fun K hK=>?_) AllReadyIn.nil)
    go_simp
    refine⟨trivial,(CallsIn.inRound l (callsIn_wide.2 (kj t' A4 A5 n4 c4 n5 c5 b' r' _ (HX.2.2.2.2.2.2.2.2.2.1.up (Below.drew HX.1)) (HX.2.2.2.2.2.2.2.2.2.2.up (Below.drew HX.1)) j1 j2))).mono ?_⟩;rintro e w5 ⟨A6,n6,c6,A7,n7,c7,rfl,ho5,hb5⟩;obtain⟨hcv5,hfv5,hBv5,hzv5⟩:=(HX.2.2.1.drew).box hb5 q4;obtain⟨hce5,hfe5,hBe5,hze5⟩:=(HX.2.1.drew).box hb5 q2;have H5:=hd4 ho5 hb5 hBv5 hBe5;clear ho5 hb5 hBv5 hBe5 hcv hfv hce hfe hcx hfx;refine hK _ _ ?_;clear hK K;refine wpAnyIn_ready (rs:=[3]) ao ag (AllReadyIn.cons rfl (fun K hK=>?_) AllReadyIn.nil)
    go_simp
    refine hK _ _ ?_;clear hK K;refine wpAnyIn_ready (rs:=[4]) ao ag (AllReadyIn.cons rfl (fun K hK=>?_) AllReadyIn.nil);have qc:aI 84 3 (w5.alloc (.cells #[.int .u8 (t'.toNat:Int),.slice A6 n6 c6,.slice A7 n7 c7] 84)) w1.heap.size W.heap.size v l'.length (l'.flatMap EI.cells):=HX.2.2.2.1.1.keepRows (au.trans (au.below (Below.drew br_) nl_) (au.trans (au.below H5.2.1 nl_) (au.alloc _ _)));have qh:=hd1 qc;clear qc;refine fZ rfl (.tmp 12) (.tmp 15) 80 rfl 84 _ 3 56 fB Tryz.underlying80 rfl ab w1.heap.size W.heap.size v l'.length (l'.flatMap EI.cells) aq qh.out ai _ _ 1 1 [.int .u8 (t'.toNat:Int),.slice A6 n6 c6,.slice A7 n7 c7] aq (eX w5 84 _ _ _) (by simp[Value.oneCell']) ab ab ?_;intro v6 w6 hown6 hg6 hat6 hb6;obtain⟨Av6,cv6,rfl,_,_,_,_⟩:=hown6.shape;obtain⟨hcv6,hfv6,hBv6,hzv6⟩:=(H5.2.2.1.alloc (.cells #[.int .u8 (t'.toNat:Int),.slice A6 n6 c6,.slice A7 n7 c7] 84)).box hb6 ab;obtain⟨hce6,hfe6,hBe6,hze6⟩:=(H5.2.2.2.alloc (.cells #[.int .u8 (t'.toNat:Int),.slice A6 n6 c6,.slice A7 n7 c7] 84)).box hb6 ab;have H6:=hd5 hown6 hg6 hb6 hBv6 hBe6;clear hown6 hg6 hat6 hb6 hBv6 hBe6 hcv5 hfv5 hce5 hfe5;refine hK _ _ ?_;clear hK K;refine wpAnyIn_ready (rs:=[5]) ao ag (AllReadyIn.cons rfl (fun K hK=>?_) AllReadyIn.nil)
    go_simp
    refine hK _ _ ?_;clear hK K;refine wpAnyIn_done ao ?_ _;exact ii HX.1 HX.2.1 HX.2.2.1 HX.2.2.2.1 HX.2.2.2.2.1 HX.2.2.2.2.2.1 HX.2.2.2.2.2.2.1 HX.2.2.2.2.2.2.2.1 hN q3 H5.1 H5.2.1 H6.1 H6.2.1 H6.2.2.1
   ·go_simp
    refine hK _ _ ?_;clear hK K;refine wpAnyIn_ready (rs:=[0,2]) ao ag (AllReadyIn.cons rfl (fun K hK=>?_) (AllReadyIn.cons rfl (fun K hK=>?_) AllReadyIn.nil))
    ·go_simp
     refine hK _ _ ?_;clear hK K;refine wpAnyIn_ready (rs:=[2]) ao ag (AllReadyIn.cons rfl (fun K hK=>?_) AllReadyIn.nil)
     go_simp
     refine⟨trivial,(CallsIn.inRound l (callsIn_wide.2 (kj t' A4 A5 n4 c4 n5 c5 b' r' _ (HX.2.2.2.2.2.2.2.2.2.1.up (Below.drew HX.1)) (HX.2.2.2.2.2.2.2.2.2.2.up (Below.drew HX.1)) j1 j2))).mono ?_⟩;rintro e w5 ⟨A6,n6,c6,A7,n7,c7,rfl,ho5,hb5⟩;obtain⟨hcv5,hfv5,hBv5,hzv5⟩:=(HX.2.2.1.drew).box hb5 q4;obtain⟨hce5,hfe5,hBe5,hze5⟩:=(HX.2.1.drew).box hb5 q2;have H5:=hd4 ho5 hb5 hBv5 hBe5;clear ho5 hb5 hBv5 hBe5 hcv hfv hce hfe hcx hfx;refine hK _ _ ?_;clear hK K;refine wpAnyIn_ready (rs:=[3]) ao ag (AllReadyIn.cons rfl (fun K hK=>?_) AllReadyIn.nil)
     go_simp
     refine hK _ _ ?_;clear hK K;refine wpAnyIn_ready (rs:=[4]) ao ag (AllReadyIn.cons rfl (fun K hK=>?_) AllReadyIn.nil);have qc:aI 84 3 (w5.alloc (.cells #[.int .u8 (t'.toNat:Int),.slice A6 n6 c6,.slice A7 n7 c7] 84)) w1.heap.size W.heap.size v l'.length (l'.flatMap EI.cells):=HX.2.2.2.1.1.keepRows (au.trans (au.below (Below.drew br_) nl_) (au.trans (au.below H5.2.1 nl_) (au.alloc _ _)));have qh:=hd1 qc;clear qc;refine fZ rfl (.tmp 12) (.tmp 15) 80 rfl 84 _ 3 56 fB Tryz.underlying80 rfl ab w1.heap.size W.heap.size v l'.length (l'.flatMap EI.cells) aq qh.out ai _ _ 1 1 [.int .u8 (t'.toNat:Int),.slice A6 n6 c6,.slice A7 n7 c7] aq (eX w5 84 _ _ _) (by simp[Value.oneCell']) ab ab ?_;intro v6 w6 hown6 hg6 hat6 hb6;obtain⟨Av6,cv6,rfl,_,_,_,_⟩:=hown6.shape;obtain⟨hcv6,hfv6,hBv6,hzv6⟩:=(H5.2.2.1.alloc (.cells #[.int .u8 (t'.toNat:Int),.slice A6 n6 c6,.slice A7 n7 c7] 84)).box hb6 ab;obtain⟨hce6,hfe6,hBe6,hze6⟩:=(H5.2.2.2.alloc (.cells #[.int .u8 (t'.toNat:Int),.slice A6 n6 c6,.slice A7 n7 c7] 84)).box hb6 ab;have H6:=hd5 hown6 hg6 hb6 hBv6 hBe6;clear hown6 hg6 hat6 hb6 hBv6 hBe6 hcv5 hfv5 hce5 hfe5;refine hK _ _ ?_;clear hK K;refine wpAnyIn_ready (rs:=[5]) ao ag (AllReadyIn.cons rfl (fun K hK=>?_) AllReadyIn.nil)
     go_simp
     refine hK _ _ ?_;clear hK K;refine wpAnyIn_done ao ?_ _;exact ii HX.1 HX.2.1 HX.2.2.1 HX.2.2.2.1 HX.2.2.2.2.1 HX.2.2.2.2.2.1 HX.2.2.2.2.2.2.1 HX.2.2.2.2.2.2.2.1 hN q3 H5.1 H5.2.1 H6.1 H6.2.1 H6.2.2.1
    ·go_simp
     refine⟨trivial,(CallsIn.inRound l (callsIn_wide.2 (kj t' A4 A5 n4 c4 n5 c5 b' r' _ (HX.2.2.2.2.2.2.2.2.2.1.up (Below.drew HX.1)) (HX.2.2.2.2.2.2.2.2.2.2.up (Below.drew HX.1)) j1 j2))).mono ?_⟩;rintro e w5 ⟨A6,n6,c6,A7,n7,c7,rfl,ho5,hb5⟩;obtain⟨hcv5,hfv5,hBv5,hzv5⟩:=(HX.2.2.1.drew).box hb5 q4;obtain⟨hce5,hfe5,hBe5,hze5⟩:=(HX.2.1.drew).box hb5 q2;have H5:=hd4 ho5 hb5 hBv5 hBe5;clear ho5 hb5 hBv5 hBe5 hcv hfv hce hfe hcx hfx;refine hK _ _ ?_;clear hK K;refine wpAnyIn_ready (rs:=[0,3]) ao ag (AllReadyIn.cons rfl (fun K hK=>?_) (AllReadyIn.cons rfl (fun K hK=>?_) AllReadyIn.nil))
     ·go_simp
      refine hK _ _ ?_;clear hK K;refine wpAnyIn_ready (rs:=[3]) ao ag (AllReadyIn.cons rfl (fun K hK=>?_) AllReadyIn.nil)
      go_simp
      refine hK _ _ ?_;clear hK K;refine wpAnyIn_ready (rs:=[4]) ao ag (AllReadyIn.cons rfl (fun K hK=>?_) AllReadyIn.nil);have qc:aI 84 3 (w5.alloc (.cells #[.int .u8 (t'.toNat:Int),.slice A6 n6 c6,.slice A7 n7 c7] 84)) w1.heap.size W.heap.size v l'.length (l'.flatMap EI.cells):=HX.2.2.2.1.1.keepRows (au.trans (au.below (Below.drew br_) nl_) (au.trans (au.below H5.2.1 nl_) (au.alloc _ _)));have qh:=hd1 qc;clear qc;refine fZ rfl (.tmp 12) (.tmp 15) 80 rfl 84 _ 3 56 fB Tryz.underlying80 rfl ab w1.heap.size W.heap.size v l'.length (l'.flatMap EI.cells) aq qh.out ai _ _ 1 1 [.int .u8 (t'.toNat:Int),.slice A6 n6 c6,.slice A7 n7 c7] aq (eX w5 84 _ _ _) (by simp[Value.oneCell']) ab ab ?_;intro v6 w6 hown6 hg6 hat6 hb6;obtain⟨Av6,cv6,rfl,_,_,_,_⟩:=hown6.shape;obtain⟨hcv6,hfv6,hBv6,hzv6⟩:=(H5.2.2.1.alloc (.cells #[.int .u8 (t'.toNat:Int),.slice A6 n6 c6,.slice A7 n7 c7] 84)).box hb6 ab;obtain⟨hce6,hfe6,hBe6,hze6⟩:=(H5.2.2.2.alloc (.cells #[.int .u8 (t'.toNat:Int),.slice A6 n6 c6,.slice A7 n7 c7] 84)).box hb6 ab;have H6:=hd5 hown6 hg6 hb6 hBv6 hBe6;clear hown6 hg6 hat6 hb6 hBv6 hBe6 hcv5 hfv5 hce5 hfe5;refine hK _ _ ?_;clear hK K;refine wpAnyIn_ready (rs:=[5]) ao ag (AllReadyIn.cons rfl (fun K hK=>?_) AllReadyIn.nil)
      go_simp
      refine hK _ _ ?_;clear hK K;refine wpAnyIn_done ao ?_ _;exact ii HX.1 HX.2.1 HX.2.2.1 HX.2.2.2.1 HX.2.2.2.2.1 HX.2.2.2.2.2.1 HX.2.2.2.2.2.2.1 HX.2.2.2.2.2.2.2.1 hN q3 H5.1 H5.2.1 H6.1 H6.2.1 H6.2.2.1
     ·go_simp
      refine hK _ _ ?_;clear hK K;refine wpAnyIn_ready (rs:=[0]) ao ag (AllReadyIn.cons rfl (fun K hK=>?_) AllReadyIn.nil)
      go_simp
      refine hK _ _ ?_;clear hK K;refine wpAnyIn_ready (rs:=[4]) ao ag (AllReadyIn.cons rfl (fun K hK=>?_) AllReadyIn.nil);have qc:aI 84 3 (w5.alloc (.cells #[.int .u8 (t'.toNat:Int),.slice A6 n6 c6,.slice A7 n7 c7] 84)) w1.heap.size W.heap.size v l'.length (l'.flatMap EI.cells):=HX.2.2.2.1.1.keepRows (au.trans (au.below (Below.drew br_) nl_) (au.trans (au.below H5.2.1 nl_) (au.alloc _ _)));have qh:=hd1 qc;clear qc;refine fZ rfl (.tmp 12) (.tmp 15) 80 rfl 84 _ 3 56 fB Tryz.underlying80 rfl ab w1.heap.size W.heap.size v l'.length (l'.flatMap EI.cells) aq qh.out ai _ _ 1 1 [.int .u8 (t'.toNat:Int),.slice A6 n6 c6,.slice A7 n7 c7] aq (eX w5 84 _ _ _) (by simp[Value.oneCell']) ab ab ?_;intro v6 w6 hown6 hg6 hat6 hb6;obtain⟨Av6,cv6,rfl,_,_,_,_⟩:=hown6.shape;obtain⟨hcv6,hfv6,hBv6,hzv6⟩:=(H5.2.2.1.alloc (.cells #[.int .u8 (t'.toNat:Int),.slice A6 n6 c6,.slice A7 n7 c7] 84)).box hb6 ab;obtain⟨hce6,hfe6,hBe6,hze6⟩:=(H5.2.2.2.alloc (.cells #[.int .u8 (t'.toNat:Int),.slice A6 n6 c6,.slice A7 n7 c7] 84)).box hb6 ab;have H6:=hd5 hown6 hg6 hb6 hBv6 hBe6;clear hown6 hg6 hat6 hb6 hBv6 hBe6 hcv5 hfv5 hce5 hfe5;refine hK _ _ ?_;clear hK K;refine wpAnyIn_ready (rs:=[5]) ao ag (AllReadyIn.cons rfl (fun K hK=>?_) AllReadyIn.nil)
      go_simp
      refine hK _ _ ?_;clear hK K;refine wpAnyIn_done ao ?_ _;exact ii HX.1 HX.2.1 HX.2.2.1 HX.2.2.2.1 HX.2.2.2.2.1 HX.2.2.2.2.2.1 HX.2.2.2.2.2.2.1 HX.2.2.2.2.2.2.2.1 hN q3 H5.1 H5.2.1 H6.1 H6.2.1 H6.2.2.1
 case done=>
  rintro D ys W hD hys ⟨hok,hb,he,v,l',hv,hd,hE,hN⟩ hK;obtain⟨Av,cv,rfl,_,_,_,_⟩:=hE.1.shape;obtain⟨hcv,hfv⟩:=hv.facts;obtain⟨hce,hfe⟩:=he.facts;have q4:=hv.lt;have q2:=he.lt;have j3:aw ((W.setCell ⟨w.heap.size,0,none⟩ (.slice Av l'.length cv)).setCell ⟨w.heap.size+1,0,none⟩ (.int .i64 0)) w.heap.size 80 #[.slice Av l'.length cv]:=by
   simpa using(hv.set_ 0 (.slice Av l'.length cv)).far (p:=⟨w.heap.size+1,0,none⟩) ag (.int .i64 0)
  have j0:aw ((W.setCell ⟨w.heap.size,0,none⟩ (.slice Av l'.length cv)).setCell ⟨w.heap.size+1,0,none⟩ (.int .i64 0)) (w.heap.size+1) 29 #[.int .i64 0]:=by
   simpa using(he.far (p:=⟨w.heap.size,0,none⟩) ag (.slice Av l'.length cv)).set_ 0 (.int .i64 0)
  have j7:Below w.heap.size w ((W.setCell ⟨w.heap.size,0,none⟩ (.slice Av l'.length cv)).setCell ⟨w.heap.size+1,0,none⟩ (.int .i64 0)):=(hb.setCell ag _).setCell ag _;have q7:aU ((W.setCell ⟨w.heap.size,0,none⟩ (.slice Av l'.length cv)).setCell ⟨w.heap.size+1,0,none⟩ (.int .i64 0)) w1.heap.size W.heap.size (.slice Av l'.length cv) l':=
   hE.keepRows (au.trans (au.setCell ai _) (au.setCell ai _))
  have q1:((W.setCell ⟨w.heap.size,0,none⟩ (.slice Av l'.length cv)).setCell ⟨w.heap.size+1,0,none⟩ (.int .i64 0)).heap[D]? = some (.deferred (some [])):=
   (Below.heap_setCell _ _ _ _ ai).trans ((Below.heap_setCell _ _ _ _ ai).trans hK)
  have j6:gG w1.heap.size w ys ((W.setCell ⟨w.heap.size,0,none⟩ (.slice Av l'.length cv)).setCell ⟨w.heap.size+1,0,none⟩ (.int .i64 0)):=⟨j7,j0,_,l',j3,hd,q7.mono nl_ ag,by simpa using hN⟩
  have hP:=j6.put (.deferred none) q1 rfl ab;have hg:=grownBy_putObj' ((W.setCell ⟨w.heap.size,0,none⟩ (.slice Av l'.length cv)).setCell ⟨w.heap.size+1,0,none⟩ (.int .i64 0)) D (.deferred none);obtain⟨hcv4,hfv4⟩:=(j3.grown hg ai).facts;obtain⟨hce4,hfe4⟩:=(j0.grown hg ai).facts;have qv:=hP.1;have j5:=(q7.keepRows (au.put (.deferred none) q1 rfl)).mono (lo':=w.heap.size) (hi':=(((W.setCell ⟨w.heap.size,0,none⟩ (.slice Av l'.length cv)).setCell ⟨w.heap.size+1,0,none⟩ (.int .i64 0)).putObj D (.deferred none)).heap.size) ab ag;have HP:=hd5 qv j5 q1 hys hd;clear hb he hv hE hK j7 j0 j3 q7 q1 j6 hP hg qv j5 hys hd hok
  gi_wp2
  refine⟨ag,.inl ⟨_,_,rfl,run_takeDeferred HP.2.2.1,?_⟩⟩;refine⟨.tuple #[.slice Av l'.length cv,.int .i64 0],by simp[results,Tryz.results74,go_sem,hcv4,hce4],HP.1,.inr ⟨l',_,_,_,?_,rfl,HP.2.1⟩⟩;rw[←HP.2.2.2.1,HP.2.2.2.2]
 case stop=>
  rintro D c pre W hD ⟨rfl,qd,hb,he,hv⟩ hK;have hg:=grownBy_putObj' W D (.deferred none);have y0:w.heap.size≠D:=ab
  have y1:w.heap.size+1≠D:=ab
  have qv:=hb.grown hg hb.size (fun k e=>by injection e with e;omega);have yh:aw (W.putObj D (.deferred none)) w.heap.size 80 #[.slice none 0 0]:=hv.grown hg ai;have j8:aw (W.putObj D (.deferred none)) (w.heap.size+1) 29 #[.int .i64 9]:=he.grown hg ai;obtain⟨hcv,hfv⟩:=yh.facts;obtain⟨hce,hfe⟩:=j8.facts;have HP:=hd3 qv qd hK;clear qv qd hK hb he hv yh j8 hg
  gi_wp2
  refine⟨ag,.inl ⟨_,_,rfl,run_takeDeferred HP.2.2,?_⟩⟩;refine⟨.tuple #[.slice none 0 0,.int .i64 9],by simp[results,Tryz.results74,go_sem,hcv,hce],HP.1,.inl ⟨HP.2.1,rfl⟩⟩
end
end
end Go.Proofs.YtmpkpphfoidbeaaGreatDoor
