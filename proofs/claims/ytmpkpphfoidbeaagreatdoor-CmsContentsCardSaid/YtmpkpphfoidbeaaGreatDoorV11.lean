import Derived.Laws.IdiomStrings
import Derived.Lib.SlBytesConst
import Derived.Outline
import Derived.Test.YtmpkpphfoidbeaaGreatDoorV10
set_option linter.unusedVariables false
set_option linter.unusedSimpArgs false
namespace Go.Proofs.YtmpkpphfoidbeaaGreatDoor
open Go.RowKit
section
section
set_option maxRecDepth 100000
def Ref.seq (l:List (List UInt8)):List UInt8:=Der.write 48 l.flatten
theorem bu (A:Option Addr) (n c:Nat) (l:List (Value×List UInt8)) (w:World) (h:dn w w.heap.size A n c l) (hn:n≤1099511627776) (ht:(aZ l).length≤1099511627000) :
 Calls Tryz.prog 32 #[.slice A n c] w (aO (Ref.seq (l.map (·.2))) w):=by
 have H:=hd1 h;clear h
 go_enter Tryz.func32,Tryz.ntmps32
 go_wp2_with fail
 refine(qF A n c l _ H.out hn ab).mono ?_;rintro e w1 ⟨A1,n1,c1,rfl,ho1,hb1⟩;have qc:=aM ho1;have H1:=hd2 ho1 hb1;clear ho1 hb1
 go_wp2_with fail
 refine(cZ 48 A1 n1 c1 (aZ l) _ (H1.1.rdx) ab).mono ?_;rintro e w2 ⟨A2,n2,c2,rfl,ho2,hb2⟩;have H2:=hd2 ho2 hb2;clear ho2 hb2
 go_wp2
 go_ret
 exact⟨A2,n2,c2,rfl,H2.1.mono H1.2.size nl_,H1.2.trans (H2.2.mono H1.2.size)⟩
theorem aC (t:UInt8) (b:List UInt8) (h:b.length<4294967296):(Der.write t b).length≤b.length+6∧b.length+2≤(Der.write t b).length:=by
 have h1:=Der.write_len t b;have h2:=Der.lenB_len b.length h;have h3:0<(Der.lenB b.length).length:=by unfold Der.lenB;split<;>simp
 omega
theorem Rd.conv (w:World) (xs:List UInt8) (cs:List Value) (n:Nat) (fr:Nat×Nat) (hc:cs=xs.map bv) (hl:xs.length=n) (hn:n≤1000) :
 Rd (w.alloc (.cells cs.toArray 5 fr)) (w.alloc (.cells cs.toArray 5 fr)).heap.size (some ⟨w.heap.size,0,none⟩) n n xs:=by
 subst hc hl;refine⟨rfl,Nat.le_refl _,ab,(fun e=>by cases e),fun _=>⟨_,_,rfl,ag⟩,ag,fun _=>⟨_,rfl,ag,fun j u hu=>?_⟩⟩;rw[Addr.add_lit,Nat.zero_add];exact(cell_of_row _ _ j _ _ _ (heap_alloc_new w _)).trans (by simpa using hu)
theorem ft (W:World) (C:Array Value) (n c:Nat):(convert 22 22 (.slice (some ⟨W.heap.size,0,none⟩) n c)).run Tryz.prog (W.alloc (.cells C 5))=.ok (.slice (some ⟨W.heap.size,0,none⟩) n c) (W.alloc (.cells C 5 (C.size,C.size+1))):=
 Lib.run_convert_bytes_const W 22 5 C n c Tryz.underlying22 Tryz.underlying5
def Ref.signAlg:List UInt8:=[48,13,6,9,42,134,72,134,247,13,1,1,11,5,0]
def Ref.wr (tbs sig:List UInt8):List UInt8:=Ref.seq [tbs,Ref.signAlg,Der.write 3 (0::sig)]
set_option maxHeartbeats 1000000 in
theorem wA (A1 A2:Option Addr) (n1 c1 n2 c2:Nat) (tbs sig:List UInt8) (w:World) (h1:Rd w w.heap.size A1 n1 c1 tbs) (h2:Rd w w.heap.size A2 n2 c2 sig) (hn1:n1≤1000000000) (hn2:n2≤1000000000) :
 Calls Tryz.prog 68 #[.slice A1 n1 c1,.slice A2 n2 c2] w (aO (Ref.wr tbs sig) w):=by
 have H:=hd2 h1 h2;have HA:=hd2 (az.lit w [0] [.int .u8 0] 1 rfl rfl ab) ((h2.alloc nl_ (.cells #[.int .u8 0] 5)).rds);clear h1 h2;have q1:=ft
 go_enter Tryz.func68,Tryz.ntmps68
 go_wp2_with (first
  | (at_builtin
     refine aP rfl (.tmp 7) (.tmp 8) rfl w.heap.size (w.heap.size+1) _ [0] rfl HA.1 ag _ A2 n2 c2 sig rfl HA.2 (by simp<;>omega) ?_;intro v2 w2 ho2 hg2 hat2 hb2;obtain⟨B2,m2,d2,rfl,hr2⟩:=ho2.rd;have HR:=hd3 hr2 (Below.trans aa hb2:Below w.heap.size w w2) hr2.len;clear ho2 hg2 hat2 hb2 hr2)
  | fail)
 have qd:=Rd.conv w2 Ref.signAlg [.int .u8 48,.int .u8 13,.int .u8 6,.int .u8 9,.int .u8 42,.int .u8 134,.int .u8 72,.int .u8 134,.int .u8 247,.int .u8 13,.int .u8 1,.int .u8 1,.int .u8 11,.int .u8 5,.int .u8 0] 15 (15,16) rfl rfl ab;have qc:Below w2.heap.size w2 (w2.alloc (.cells #[.int .u8 48,.int .u8 13,.int .u8 6,.int .u8 9,.int .u8 42,.int .u8 134,.int .u8 72,.int .u8 134,.int .u8 247,.int .u8 13,.int .u8 1,.int .u8 1,.int .u8 11,.int .u8 5,.int .u8 0] 5 (15,16))):=br_.alloc nl_ _;have qh:=(HR.1).up qc;have qg:=(H.1.up HR.2.1).up qc;obtain⟨W3,hW3⟩:∃W3,(w2.alloc (.cells #[.int .u8 48,.int .u8 13,.int .u8 6,.int .u8 9,.int .u8 42,.int .u8 134,.int .u8 72,.int .u8 134,.int .u8 247,.int .u8 13,.int .u8 1,.int .u8 1,.int .u8 11,.int .u8 5,.int .u8 0] 5 (15,16)))=W3:=⟨_,rfl⟩
 rw[hW3]at qd qh qg qc ⊢;have q0:=HR.2.1.size;have q2:=qc.size;have qk:=HR.2.2;have HX:=hd4 qd qg qc qk;have qv:m2≤1099511627000:=by have:=H.2.len;simp at qk;omega
 clear hW3 qd qg qc qk;refine(cZ 3 B2 m2 d2 ([0]++sig) _ qh qv).mono ?_;rintro e w3 ⟨A3,n3,c3,rfl,ho3,hb3⟩;have q3:=hb3.size;have qs:(Der.write 3 ([0]++sig)).length=n3:=aM ho3;have HY:=hd3 ho3 hb3 qs;clear ho3 hb3 qh qs
 go_wp2_with fail
 refine(bu _ 3 3 [(.slice A1 n1 c1,tbs),(.slice (some ⟨w2.heap.size,0,none⟩) 15 15,Ref.signAlg),(.slice A3 n3 c3,Der.write 3 ([0]++sig))] _ (dn.lit w3 _ _ _ _ 3 rfl rfl rfl ab ?_) ab ?_).mono ?_
 ·intro v xs hm
  simp only[List.mem_cons,List.not_mem_nil,or_false,Prod.mk.injEq]at hm;rcases hm with⟨rfl,rfl⟩|⟨rfl,rfl⟩|⟨rfl,rfl⟩
  ·exact aJ.mk (HX.2.1.up HY.2.1)
  ·exact aJ.mk (HX.1.up HY.2.1)
  ·exact aJ.mk HY.1.rdx
 ·have h1:=aC 3 ([0]++sig) (by have:=H.2.len;simp;omega)
  have h2:=H.1.len;have h3:=H.2.len;simp[aZ,Ref.signAlg]at h1 ⊢;omega
 rintro e w4 ⟨A4,n4,c4,rfl,ho4,hb4⟩;have H4:=hd2 ho4 hb4;clear ho4 hb4
 go_wp2
 go_ret
 exact⟨A4,n4,c4,rfl,H4.1.mono ai nl_,((HR.2.1.trans (HX.2.2.1.mono q0)).trans (HY.2.1.mono ab)).trans (Below.trans (br_.alloc ab _) (H4.2.mono ai))⟩
end
section
set_option maxRecDepth 100000
def fv (w:World) (xs:List UInt8):World:=w.drew.alloc (.cells (bytesRow ⟨xs.toArray⟩ (grownCap w xs.length 0 5)) 5 ((bytesRow ⟨xs.toArray⟩ (grownCap w xs.length 0 5)).size,(bytesRow ⟨xs.toArray⟩ (grownCap w xs.length 0 5)).size+1))
theorem kq (w:World) (xs:List UInt8):(convert 9 22 (.string ⟨xs.toArray⟩)).run Tryz.prog w=.ok (.slice (some ⟨w.heap.size,0,none⟩) xs.length (grownCap w xs.length 0 5)) (fv w xs):=
 run_bytes_of_string w 9 22 5 ⟨xs.toArray⟩ Tryz.underlying9 Tryz.underlying22 Tryz.underlying5
theorem it (w:World) (xs:List UInt8):Below w.heap.size w (fv w xs):=((Below.refl _ w).drew).alloc ag _
theorem ia (w:World) (xs:List UInt8):(fv w xs).heap.size=w.heap.size+1:=by simp[fv]
theorem mw (w:World) (xs:List UInt8) (hl:xs.length≤9223372036854775807):Rd (fv w xs) (fv w xs).heap.size (some ⟨w.heap.size,0,none⟩) xs.length (grownCap w xs.length 0 5) xs:=by
 refine⟨rfl,grownCap_ge _ _ _ _,?_,(fun e=>by cases e),fun _=>⟨_,_,rfl,by simp[ia]⟩,ag,fun _=>⟨_,rfl,by simp[ia],fun j u hu=>?_⟩⟩
 ·have:=grownCap_le_maxLen w xs.length 0 5 (by simp only[maxLen];omega)
  simpa [maxLen]using this
 ·rw[Addr.add_lit,Nat.zero_add]
  refine(cell_of_row _ _ j _ _ _ (heap_alloc_new w.drew _)).trans ?_;simp only[List.getElem?_map]at hu;unfold bytesRow;have hj:j<xs.length:=by
   rcases Nat.lt_or_ge j xs.length with h|h
   ·exact h
   ·rw[List.getElem?_eq_none (by simpa using h)]at hu;cases hu
  rw[Array.getElem?_append_left (by simpa using hj)];rw[List.getElem?_eq_getElem hj]at hu;simp only[Option.map_some,Option.some.injEq]at hu;subst hu;simp[bv,hj]
def Ref.ext (name body:List UInt8):List UInt8:=Ref.seq [Der.write 6 name,Der.write 4 body]
set_option maxHeartbeats 1000000 in
theorem tT (name:List UInt8) (A:Option Addr) (n c:Nat) (body:List UInt8) (w:World) (h:Rd w w.heap.size A n c body) (hn:n≤1000000000) (hm:name.length≤1000000000) :
 Calls Tryz.prog 91 #[.string ⟨name.toArray⟩,.slice A n c] w (aO (Ref.ext name body) w):=by
 have H:=hd1 h;clear h;have qk:=fun W=>kq W name
 have qs:=ia w name;have HS:=hd2 (it w name) (mw w name ab)
 go_enter Tryz.func91,Tryz.ntmps91
 go_wp2_with fail
 refine(cZ 6 _ _ _ name _ HS.2 ab).mono ?_;rintro e w2 ⟨A2,n2,c2,rfl,ho2,hb2⟩;have qg:=hb2.size;have qc:(Der.write 6 name).length=n2:=aM ho2;have HY:=hd3 ho2 hb2 qc;clear ho2 hb2 qc
 go_wp2_with fail
 refine(cZ 4 A n c body _ ((H.out.up HS.1).up HY.2.1) ab).mono ?_;rintro e w3 ⟨A3,n3,c3,rfl,ho3,hb3⟩;have qh:=hb3.size;have qd:(Der.write 4 body).length=n3:=aM ho3;have HZ:=hd3 ho3 hb3 qd;clear ho3 hb3 qd
 go_wp2_with fail
 refine(bu _ 2 2 [(.slice A2 n2 c2,Der.write 6 name),(.slice A3 n3 c3,Der.write 4 body)] _ (dn.lit w3 _ _ _ _ 2 rfl rfl rfl ab ?_) ab ?_).mono ?_
 ·intro v xs hm
  simp only[List.mem_cons,List.not_mem_nil,or_false,Prod.mk.injEq]at hm;rcases hm with⟨rfl,rfl⟩|⟨rfl,rfl⟩
  ·exact aJ.mk (HY.1.rdx.up HZ.2.1)
  ·exact aJ.mk HZ.1.rdx
 ·have h1:=aC 6 name ab
  have h2:=aC 4 body (by have:=H.out.len;omega);have h3:=H.out.len;simp[aZ]at h1 h2 ⊢;omega
 rintro e w4 ⟨A4,n4,c4,rfl,ho4,hb4⟩;have H4:=hd2 ho4 hb4;clear ho4 hb4
 go_wp2
 go_ret
 exact⟨A4,n4,c4,rfl,H4.1.mono ai nl_,((HS.1.trans (HY.2.1.mono ab)).trans (HZ.2.1.mono ab)).trans (Below.trans (br_.alloc ab _) (H4.2.mono ai))⟩
end
section
set_option maxRecDepth 100000
theorem yF {w:World} {ops:Array Oper} {o:Oper} {a:Act} {K:Act→World→Prop} {Q:Exit→Act→World→Prop} {E:Prop} (hgd:o.guard=none) (s x:Operand)
 (ho:o.op=.call {callee:=.builtin .append,args:=#[s,x],argTypes:=#[22,22]})
 (lo hi:Nat) (v:Value) (xs:List UInt8) (hs:a.eval s=v) (hown:az w lo hi v xs) (hlo:lo≤w.heap.size)
 (B:Nat) (A:Option Addr) (m c:Nat) (news:List UInt8) (hx:a.eval x=.slice A m c) (hr:aF w B 1 A m (news.map bv)) (hlen:xs.length+m≤35184372088832)
 (h:∀v' w',az w' lo w'.heap.size v' (xs++news)→w.grownBy w' v.ownBlock→(v'.ownBlock=v.ownBlock∨v'.ownBlock=some w.heap.size)→Below lo w w'→K (a.put o.dst v') w') :
 if Region.wanted o (yielded ops a.tmps)=true then Oper.wp Tryz.prog o a w K Q else E:=by
 obtain⟨i0,hi0,hz0,hz1,hz2⟩:=info_parts eG;have hm:news.length=m:=by have:=hr.1;simp at this;omega
 refine ir w hgd s x 22 ho lo 5 i0 _ 1 1 Tryz.underlying22 hi0 hz0 hz1 hz2 rfl ab v xs.length (xs.map bv) hs hown.1 B A m c (news.map bv) hx hr (jH news) (by simp only[maxLen];omega) ab hlo ?_;intro v' w' h1 h2 h3;exact h v' w' (az.of (by rw[List.map_append];exact h1)) h2 h3 (br_.grown h2 hlo fun k hk=>(hown.1.lt k hk).1)
def Ref.two (x:Nat):List UInt8:=[UInt8.ofNat (48+x / 10 % 10),UInt8.ofNat (48+x % 10)]
theorem Bz (x:Nat) (hx:x<65536):(Ref.two x).map bv=[.int .u8 (IntKind.u8.wrap (IntKind.i64.wrap (48+(IntKind.i64.wrap ((x:Int) / 10)).tmod 10))),.int .u8 (IntKind.u8.wrap (IntKind.i64.wrap (48+(x:Int).tmod 10)))]:=by
 have h1:(UInt8.ofNat (48+x / 10 % 10)).toNat=48+x / 10 % 10:=by
  rw[UInt8.toNat_ofNat'];omega
 have h2:(UInt8.ofNat (48+x % 10)).toNat=48+x % 10:=by
  rw[UInt8.toNat_ofNat'];omega
 have w1:∀y:Int,0≤y→y<65536→IntKind.i64.wrap y=y:=fun y h1 h2=>by
  rw[IntKind.wrap_i64];omega
 have w2:∀y:Int,0≤y→y<256→IntKind.u8.wrap y=y:=fun y h1 h2=>Int.emod_eq_of_lt h1 h2
 have t1:∀y:Int,0≤y→y.tmod 10=y % 10:=fun y h=>Int.tmod_eq_emod_of_nonneg h
 simp only[Ref.two,List.map_cons,List.map_nil,bv,h1,h2];rw[w1 ((x:Int) / 10) ab ab,t1 _ ab,t1 _ ab,w1 _ ab ab,w1 _ ab ab,w2 _ ab ab,w2 _ ab ab]
 rfl
theorem tQ (w:World) (x:Nat) (hx:x<65536):aF (w.alloc (.cells #[.int .u8 (IntKind.u8.wrap (IntKind.i64.wrap (48+(IntKind.i64.wrap ((x:Int) / 10)).tmod 10))),.int .u8 (IntKind.u8.wrap (IntKind.i64.wrap (48+(x:Int).tmod 10)))] 5)).drew (w.alloc (.cells #[.int .u8 (IntKind.u8.wrap (IntKind.i64.wrap (48+(IntKind.i64.wrap ((x:Int) / 10)).tmod 10))),.int .u8 (IntKind.u8.wrap (IntKind.i64.wrap (48+(x:Int).tmod 10)))] 5)).heap.size 1 (some ⟨w.heap.size,0,none⟩) 2 ((Ref.two x).map bv):=by
 rw[Bz x hx];exact aF.drewN (aV w _ _ _ rfl) 1
def Ref.nums (t:Tm):List Nat:=[t.y / 100,t.y % 100,t.mo,t.d,t.h,t.mi,t.s]
def Ref.general (t:Tm):List UInt8:=Der.write 24 ((Ref.nums t).flatMap Ref.two++[90])
def Tm.fits (t:Tm):Prop:=t.y<65536∧t.ok8
set_option maxHeartbeats 2000000 in
theorem tU (t:Tm) (ht:t.fits) (w:World):Calls Tryz.prog 93 #[t.v] w (aO (Ref.general t) w):=by
 obtain⟨y,mo,d,h,mi,s⟩:=t;obtain⟨hy,h1,h2,h3,h4,h5⟩:=ht;dsimp only at hy h1 h2 h3 h4 h5;unfold Tm.v
 go_enter Tryz.func93,Tryz.ntmps93
 have qd:=aw.new (w.alloc (.cells #[.int .u16 (y:Int),.int .u8 (mo:Int),.int .u8 (d:Int),.int .u8 (h:Int),.int .u8 (mi:Int),.int .u8 (s:Int)] 70)) 3 #[.int .i64 ((y:Int) / 100),.int .i64 ((y:Int) % 100),.int .i64 (mo:Int),.int .i64 (d:Int),.int .i64 (h:Int),.int .i64 (mi:Int),.int .i64 (s:Int)];simp only[World.size_alloc]at qd;have qk:Below w.heap.size w ((w.alloc (.cells #[.int .u16 (y:Int),.int .u8 (mo:Int),.int .u8 (d:Int),.int .u8 (h:Int),.int .u8 (mi:Int),.int .u8 (s:Int)] 70)).alloc (.cells #[.int .i64 ((y:Int) / 100),.int .i64 ((y:Int) % 100),.int .i64 (mo:Int),.int .i64 (d:Int),.int .i64 (h:Int),.int .i64 (mi:Int),.int .i64 (s:Int)] 3)):=by(repeat (first|exact Below.refl _ _|assumption|(refine Below.setCell ?_ al _)|(refine Below.alloc ?_ al _)|(refine ar ?_ _)|(refine Below.drew ?_)))
 go_wp2
 obtain⟨W,hW⟩:∃W,((w.alloc (.cells #[.int .u16 (y:Int),.int .u8 (mo:Int),.int .u8 (d:Int),.int .u8 (h:Int),.int .u8 (mi:Int),.int .u8 (s:Int)] 70)).alloc (.cells #[.int .i64 ((y:Int) / 100),.int .i64 ((y:Int) % 100),.int .i64 (mo:Int),.int .i64 (d:Int),.int .i64 (h:Int),.int .i64 (mi:Int),.int .i64 (s:Int)] 3))=W:=⟨_,rfl⟩
 rw[hW]at qd qk ⊢;have q1:w.heap.size+1<W.heap.size:=qd.lt;obtain⟨l,hl⟩:∃l,Ref.nums ⟨y,mo,d,h,mi,s⟩=l:=⟨_,rfl⟩
 have qc:∀(k x:Nat),l[k]? = some x→W.cell? ⟨w.heap.size+1,k,none⟩=some (.int .i64 (x:Int)):=by
  intro k x hx;rw[qd.cell k];subst hl;unfold Ref.nums at hx
  match k,hx with
  | 0,hx|1,hx|2,hx|3,hx|4,hx|5,hx|6,hx=>simp only[List.getElem?_cons_zero,List.getElem?_cons_succ,Option.some.injEq]at hx;subst hx;simp
  | k+7,hx=>simp at hx
 have qg:l.length=7:=by subst hl;rfl
 have qs:∀x∈l,x<65536:=by
  subst hl;intro x hx;simp only[Ref.nums,List.mem_cons,List.not_mem_nil,or_false]at hx;omega
 have HX:=hd5 hl qc qg qs qk;clear hW qd qk hl qc qg qs
 go_loopw [3,5] (fun v i wr=>∃k:Nat,k≤7∧i=.int .i64 k∧az wr W.heap.size wr.heap.size v ((l.take k).flatMap Ref.two)∧Below W.heap.size W wr) (fun _ i _=>7 - (intOf i).toNat)
 case atStart=>exact⟨0,ab,rfl,az.nil_,Below.refl _ _⟩
 case round=>
  obtain⟨k,hk,rfl,ho,hb⟩:=hrel;have q5:=hb.size
  by_cases hlt:k<7
  ·have q0:(k:Int)<7:=ab
   obtain⟨x,hx⟩:∃x,l[k]? = some x:=⟨_,List.getElem?_eq_getElem (by rw[HX.2.2.1];exact hlt)⟩
   have q2:=HX.2.2.2.1 x (List.mem_of_getElem? hx);have kc:wr.cell? ⟨w.heap.size+1,k,none⟩=some (.int .i64 (x:Int)):=(hb.cell (p:=⟨w.heap.size+1,k,none⟩) q1).trans (HX.2.1 k x hx);have qv:(l.take (k+1)).flatMap Ref.two=(l.take k).flatMap Ref.two++Ref.two x:=by
    rw[List.take_add_one,hx,List.flatMap_append];simp
   have qh:((l.take k).flatMap Ref.two).length≤14:=by
    have:∀l:List Nat,(l.flatMap Ref.two).length=2*l.length:=fun l=>by induction l with
     | nil=>rfl
     | cons a l ih=>rw[List.flatMap_cons,List.length_append,ih];simp[Ref.two];omega
    rw[this,List.length_take];omega
   have HO:=hd4 ho hb qv qh;clear ho hb qv qh hx
   go_wp2
   go_region_held3 (fun w'=>w'.cell? ⟨w.heap.size+1,k,none⟩=some (.int .i64 (x:Int)))
    (first|go_keep|((refine(hb6.cell (p:=⟨w.heap.size+1,k,none⟩) ai).trans ?_);go_keep))
    (((refine yF aq (.tmp 36) (.tmp 52) aq W.heap.size wr.heap.size _ ((l.take k).flatMap Ref.two) aq ((HO.1.alloc nl_ _).drewN 1) ai _ _ 2 2 (Ref.two x) aq (tQ wr x q2) (by have:=HO.2.2.2;omega) ?_);intro v6 w6 ho6 hg6 hat6 hb6;obtain⟨A6,n6,c6,rfl,_⟩:=ho6.rd))
   go_wp2
   go_roundw
   case rel=>exact⟨k+1,ab,by go_num,by rw[HO.2.2.1];exact ho6,HO.2.1.trans (Below.trans aa hb6)⟩
   case measure=>simp[intOf];omega
  ·obtain rfl:k=7:=ab
   have ht:l.take 7=l:=List.take_of_length_le (by have:=HX.2.2.1;omega);rw[ht]at ho;have qh:(l.flatMap Ref.two).length=14:=by
    rw[←HX.1];rfl
   obtain⟨Av,nv,cv,rfl,_⟩:=ho.rd;have HO:=hd3 ho hb qh;clear ho hb ht qh
   go_wp2_with (first
    | (at_builtin
       refine aP rfl (.tmp 54) (.tmp 55) rfl W.heap.size wr.heap.size _ (l.flatMap Ref.two) rfl (HO.1.alloc nl_ _) ai _ _ 1 1 [90] rfl (aV wr _ [.int .u8 90] _ rfl) (by have:=HO.2.2;omega) ?_;intro v2 w2 ho2 hg2 hat2 hb2;obtain⟨B2,m2,d2,rfl,hr2⟩:=ho2.rd;have HR:=hd3 hr2 (HO.2.1.trans (Below.trans (br_.alloc ab (.cells _ 5)) hb2)) hr2.len;clear ho2 hg2 hat2 hb2 hr2)
    | fail)
   have q3:m2=15:=by have h1:=HR.2.2;have h2:=HO.2.2;rw[List.length_append,h2,List.length_singleton]at h1;omega
   have q4:=HR.2.1.size;refine(cZ 24 B2 m2 d2 (l.flatMap Ref.two++[90]) _ HR.1 ab).mono ?_;rintro e w3 ⟨A3,n3,c3,rfl,ho3,hb3⟩;have H3:=hd2 ho3 hb3;clear ho3 hb3
   go_wp2
   go_ret
   exact⟨A3,n3,c3,rfl,by unfold Ref.general;rw[HX.1];exact H3.1.mono ab nl_,HX.2.2.2.2.trans ((HR.2.1.mono ab).trans (H3.2.mono ab))⟩
end
section
set_option maxRecDepth 100000
def Ref.top (u:Nat):Nat→Nat
 | 0=>1
 | n+1=>if 0<n∧u / 2 ^ n % 2=0 then Ref.top u n else n+1
def Ref.lay (u:Nat) (cs:List UInt8):Nat→List UInt8
 | 0=>cs
 | k+1=>let c:=Ref.lay u cs k;c.set (1+k / 8) ((c.getD (1+k / 8) 0)||| UInt8.ofNat (u / 2 ^ k % 2*2 ^ (7 - k % 8)))
def Ref.ub0 (n:Nat):List UInt8:=UInt8.ofNat ((8 - n % 8) % 8)::List.replicate ((n+7) / 8) 0
def Ref.ubits (u:Nat):List UInt8:=Der.write 3 (Ref.lay u (Ref.ub0 (Ref.top u 9)) (Ref.top u 9))
def fS (n:Nat):Array Value:=((List.replicate n (0:UInt8)).map bv).toArray
theorem yO (n:Nat):madeCells #[Value.int .u8 0] (n*1)=fS n:=by
 unfold madeCells fS
 apply Array.ext
 ·simp
 ·intro i h1 h2
  have hm:i % #[Value.int .u8 0].size=0:=by simp[Nat.mod_one]
  simp[bv,Nat.mod_one]
theorem oc (n:Nat) (hn:n≤1099511627776) (w:World) :
 (Instr.makeSlice 22 (.int .i64 (n:Int)) (.int .i64 (n:Int))).run Tryz.prog w=.ok (.slice (some ⟨w.heap.size,0,none⟩) n n) (w.alloc (.cells (fS n) 5)):=by
 obtain⟨i0,hi0,hz0,hz1,hz2⟩:=info_parts eG;have hr:=run_make (P:=Tryz.prog) w 22 5 i0 _ Tryz.underlying22 hi0 hz0 .i64 .i64 n n ab ab (by rw[hz2];omega) ab;simp only[Int.toNat_natCast,hz1]at hr;rw[hr];rw[show(Value.int .u8 0).cells=#[Value.int .u8 0] from rfl,yO]
end
end
section
set_option maxRecDepth 100000
def fG (xs:List UInt8) (k:Nat) (ys:List UInt8):Prop:=
 ys.length=xs.length∧∀t,t<xs.length→ys[t]? = if t<k∨xs.length≤t+k then xs[xs.length - 1 - t]? else xs[t]?
theorem fG.zero (xs:List UInt8):fG xs 0 xs:=⟨rfl,fun t ht=>by rw[if_neg ab]⟩
theorem fG.done {xs ys:List UInt8} {k:Nat} (h:fG xs k ys) (hk:xs.length≤2*k+1):ys=xs.reverse:=by
 apply List.ext_getElem?
 intro t
 by_cases ht:t<xs.length
 ·rw[h.2 t ht,List.getElem?_reverse ht]
  split
  ·rfl
  ·congr 1;omega
 ·rw[List.getElem?_eq_none (by rw[h.1];omega),List.getElem?_eq_none ai]
theorem fG.step {xs ys:List UInt8} {k j:Nat} {a b:UInt8} (h:fG xs k ys) (hj:j+k+1=xs.length) (hkj:k<j) (ha:ys[k]? = some a) (hb:ys[j]? = some b) :
 fG xs (k+1) ((ys.set k b).set j a):=by
 refine⟨by simpa using h.1,fun t ht=>?_⟩;have qd:=h.2 k ab;have qc:=h.2 j ab;rw[if_neg ab]at qd qc;have hl:=h.1
 by_cases e1:t=j
 ·subst e1
  rw[List.getElem?_set_self ai,if_pos ab,←ha,qd]
  congr 1;omega
 ·rw[List.getElem?_set_ne ab]
  by_cases e2:t=k
  ·subst e2
   rw[List.getElem?_set_self ab,if_pos ab,←hb,qc]
   congr 1;omega
  ·rw[List.getElem?_set_ne ab,h.2 t ht]
   by_cases e3:t<k∨xs.length≤t+k
   ·rw[if_pos e3,if_pos ab]
   ·rw[if_neg e3,if_neg ab]
def uK (lo hi g n c:Nat) (xs:List UInt8) (w:World) (k:Nat) (wr:World):Prop:=
 ∃ys,fG xs k ys∧az wr lo hi (.slice (some ⟨g,0,none⟩) n c) ys∧w.grownBy wr (some g)∧wr.heap.size=w.heap.size
def rf (lo hi:Nat) (A:Option Addr) (n c:Nat) (xs:List UInt8) (w:World) (e:Ending) (w':World):Prop:=
 e=.returned (.tuple #[])∧az w' lo hi (.slice A n c) xs.reverse∧w.grownBy w' (Value.ownBlock (.slice A n c))∧w'.heap.size=w.heap.size
theorem oI (lo hi:Nat) (A:Option Addr) (n c:Nat) (xs:List UInt8) (w:World) (h:az w lo hi (.slice A n c) xs) (hx:xs.length≤1) (hn:n≤1) :
 Calls Tryz.prog 106 #[.slice A n c] w (rf lo hi A n c xs w):=by
 have hr:xs.reverse=xs:=by
  match xs,hx with
  | [],_=>rfl
  | [_],_=>rfl
  | _::_::_,hx=>simp at hx
 have HR:=hd2 h hr;have qc:¬(0:Int)<(n:Int) - 1:=ab
 clear h hr
 go_enter Tryz.func106,Tryz.ntmps106
 go_wp2
 refine wp_loop_rounds 1 ?_;rw[rounds_succ]
 go_wp2
 go_end0
 exact⟨rfl,by rw[HR.2];exact HR.1,World.grownBy.refl _ _,rfl⟩
set_option maxHeartbeats 1000000 in
theorem kJ (lo hi:Nat) (A:Option Addr) (n c:Nat) (xs:List UInt8) (w:World) (h:az w lo hi (.slice A n c) xs) (hn:n≤1099511627776) :
 Calls Tryz.prog 106 #[.slice A n c] w (rf lo hi A n c xs w):=by
 obtain⟨A',n',c',e',hr⟩:=h.rd;injection e' with ea en ec
 subst ea en ec;have hl:=hr.len
 by_cases hs:n≤1
 ·exact oI lo hi A n c xs w h ab hs
 obtain⟨g,cap,e,_,_⟩:=h.1.form ab;injection e with ea en ec
 subst ea ec;have qc:uK lo hi g n c xs w 0 w:=⟨xs,fG.zero xs,h,World.grownBy.refl _ _,rfl⟩
 have HL:=hd1 hl;clear h hr en hl
 go_enter Tryz.func106,Tryz.ntmps106
 go_wp2
 go_loopw [2,3] (fun i j wr=>∃k m:Nat,k≤m+1∧m+k+1=n∧i=.int .i64 k∧j=.int .i64 m∧uK lo hi g n c xs w k wr) (fun i _ _=>n - (intOf i).toNat)
 case atStart=>exact⟨0,n - 1,ab,ab,rfl,by rw[show((n - 1:Nat):Int)=(n:Int) - 1 from by omega],qc⟩
 case round=>
  obtain⟨k,m,hkm,hn2,rfl,rfl,ys,hmid,ho,hg,hz⟩:=hrel
  by_cases hlt:k<m
  ·have qd:ys.length=n:=hmid.1.trans HL.out
   obtain⟨a,ha,hca⟩:=ho.cellAt qd (j:=k) ab;obtain⟨b,hb,hcb⟩:=ho.cellAt qd (j:=m) ab;have qs:∀o,wr.frozen? ⟨g,o,none⟩=false:=by
    have h1:=ho.1;rw[qd]at h1;exact h1.frozenAt
   have qg:(k:Int)<m:=ab
   have qv:(k:Int)<n:=ab
   have q0:(m:Int)<n:=ab
   have qh:¬k=m:=ab
   have qk:¬m=k:=ab
   have HM:=hd7 hmid ho hg hz ha hb qd;have HN:=hd1 hn2;clear hmid ho hg hz hn2 ha hb qd
   go_wp2
   go_region
   go_wp2
   go_roundw
   case rel=>
    obtain⟨h1,h2,h3,h4,h5,h6,h7⟩:=HM.out;have h8:=HN.out;have hx:=HL.out;exact⟨k+1,m - 1,ab,ab,by go_num,by rw[show((m - 1:Nat):Int)=(m:Int) - 1 from by omega],_,h1.step ab hlt h5 h6,
     ((h2.drewN 1).stored h7 k b).stored (by simpa using h7) m a,bM (bM (gf h3 1) _ _) _ _,by simpa using h4⟩
   case measure=>simp[intOf];omega
  ·have qg:¬(k:Int)<m:=ab
   have HM:=hd4 hmid ho hg hz;have HN:=hd1 hn2;clear hmid ho hg hz hn2
   go_wp2
   go_end0
   have hx:=HL.out;have q1:=HN.out;exact⟨rfl,by rw[←HM.1.done ab];exact HM.2.1,HM.2.2.1,HM.2.2.2⟩
end
section
set_option maxRecDepth 100000
namespace Der
def sevT (n:Nat):List UInt8:=if n=0 then[] else UInt8.ofNat (128+n % 128)::sevT (n / 128)
termination_by n
decreasing_by omega
theorem sevT_zero:sevT 0=[]:=by rw[sevT];rfl
theorem sevT_pos {n:Nat} (h:0<n):sevT n=UInt8.ofNat (128+n % 128)::sevT (n / 128):=by rw[sevT,if_neg ab]
def sevL (n:Nat):List UInt8:=UInt8.ofNat (n % 128)::sevT (n / 128)
def sev (n:Nat):List UInt8:=(sevL n).reverse
theorem sevT_le:∀(k n:Nat),n<128 ^ k→(sevT n).length≤k
 | 0,n,h=>by simp at h;subst h;rw[sevT_zero];simp
 | k+1,n,h=>by
  rcases Nat.eq_zero_or_pos n with h0|h0
  ·subst h0;rw[sevT_zero];simp
  ·rw[sevT_pos h0,List.length_cons]
   have:=sevT_le k (n / 128) (by rw[Nat.pow_succ]at h;omega);omega
theorem sev_len (n:Nat) (h:n<18446744073709551616):(sev n).length≤10:=by
 have:=sevT_le 9 (n / 128) (by rw[show 128 ^ 9=9223372036854775808 from rfl];omega);simp[sev,sevL];omega
end Der
def mG (g:Nat) (xs:List UInt8) (n:Nat) (w:World) (e:Ending) (w':World):Prop:=
 e=.returned (.tuple #[])∧∃v',aw w' g 22 #[v']∧az w' (g+1) w'.heap.size v' (xs++Der.sev n)∧Below g w w'
def uM (w:World) (N m:Nat) (v:Value) (wr:World):Prop:=
 ∃ys,ys++Der.sevT m=Der.sevL N∧az wr w.heap.size wr.heap.size v ys∧Below w.heap.size w wr
theorem my (a:Nat) (ha:a<18446744073709551616):bits .and .u64 (a:Int) 127=((a % 128:Nat):Int):=by
 show IntKind.u64.wrap ((BitVec.ofInt 64 (a:Int)&&& BitVec.ofInt 64 ((127:Nat):Int)).toNat:Int)=_;rw[BitVec.toNat_and,ip a ha,ip 127 ab];rw[show(127:Nat)=2 ^ 7 - 1 from rfl,Nat.and_two_pow_sub_one_eq_mod];simp only[IntKind.wrap,IntKind.bits,IntKind.signed];simp;omega
theorem yJ (r:Nat) (h:r<128):bits .or .u8 128 (r:Int)=128+(r:Int):=by
 have key:∀x:Fin 128,bits .or .u8 128 ((x.val:Nat):Int)=128+((x.val:Nat):Int):=ac
 exact key ⟨r,h⟩
theorem yW {n:Nat} (h:n<256):bv (UInt8.ofNat n)=.int .u8 (n:Int):=by
 simp only[bv,UInt8.toNat_ofNat'];rw[Nat.mod_eq_of_lt ab]
theorem Bs (g:Nat) {xs:List UInt8} {n:Nat} {w w':World} (h:∃v',aw w' g 22 #[v']∧az w' (g+1) w'.heap.size v' (xs++Der.sev n)∧Below g w w'):mG g xs n w (.returned (.tuple #[])) w':=⟨rfl,h⟩
set_option maxHeartbeats 2000000 in
theorem rT (g N:Nat) (v:Value) (xs:List UInt8) (w:World) (hB:aw w g 22 #[v]) (ho:az w (g+1) w.heap.size v xs) (hN:N<18446744073709551616) (hx:xs.length≤17592186044416) :
 Calls Tryz.prog 105 #[.int .u64 (N:Int),.pointer (some ⟨g,0,none⟩)] w (mG g xs N w):=by
 have qs:=hB.lt;have qv:=Der.sev_len N hN;have H:=hd3 hB ho qv;clear hB ho qv;obtain⟨r,hr⟩:∃r,N % 128=r:=⟨_,rfl⟩
 have j0:(r:Int)<128:=ab
 have e0:=my N hN;rw[hr]at e0;have e1:(r:Int) % 256=r:=ab
 have qd:uM w N (N / 128) (.slice (some ⟨w.heap.size,0,none⟩) 1 1) (w.alloc (.cells #[.int .u8 (r:Int)] 5)):=by
  refine⟨[UInt8.ofNat (N % 128)],rfl,?_,br_.alloc nl_ _⟩;have hl:=World.ownsRow_lit (e:=5) (base:=w.heap.size) (size:=1) w #[.int .u8 (r:Int)] 1 nl_ (by simp[maxLen]) rfl;have hb:bv (UInt8.ofNat (N % 128))=.int .u8 (r:Int):=by rw[hr];exact yW ab
  refine az.of (n:=1) ?_;rw[List.map_singleton,hb];exact hl
 have q2:=hd1 qd;clear qd hr
 go_enter Tryz.func105,Tryz.ntmps105
 go_wp2
 clear e0 e1
 go_loopw [0,3] (fun n v wr=>∃m:Nat,m<18446744073709551616∧n=.int .u64 (m:Int)∧uM w N m v wr) (fun n _ _=>(intOf n).toNat)
 case atStart=>exact⟨N / 128,ab,by go_num,q2.out⟩
 case round=>
  obtain⟨m,hm,rfl,ys,hys,hoy,hb⟩:=hrel;have q3:=hb.size;have q5:ys.length≤20:=by
   have h1:=congrArg List.length hys;have h2:=H.2.2;unfold Der.sev at h2;rw[List.length_append]at h1;rw[List.length_reverse]at h2;omega
  by_cases h0:0<m
  ·have q6:(0:Int)<m:=ab
   obtain⟨q,hq⟩:∃q,m % 128=q:=⟨_,rfl⟩
   have q9:(q:Int)<128:=ab
   have e0:=my m hm;rw[hq]at e0;have e1:(q:Int) % 256=q:=ab
   have e2:=yJ q ab;have qk:Hid (aF (wr.alloc (.cells #[.int .u8 (128+(q:Int))] 5)) (wr.heap.size+1) 1 (some ⟨wr.heap.size,0,none⟩) 1 ([UInt8.ofNat (128+q)].map bv)):=by
    have qc:bv (UInt8.ofNat (128+q))=.int .u8 (128+(q:Int)):=by
     rw[yW ab];simp
    rw[List.map_singleton,qc];exact aF.one wr 5 _
   rw[Der.sevT_pos h0,hq]at hys;have HY:=hd3 hys hoy hb;clear hys hoy hb hq
   go_wp2_with
    (at_builtin
     refine aP rfl (.tmp 14) (.tmp 19) rfl w.heap.size wr.heap.size _ ys rfl (HY.2.1.alloc nl_ _) ai _ _ 1 1 [UInt8.ofNat (128+q)] rfl qk.out ab ?_;intro v2 w2 ho2 hg2 hat2 qc)
   go_roundw
   case rel=>exact⟨m / 128,ab,by go_num,ys++[UInt8.ofNat (128+q)],by rw[List.append_assoc];exact HY.1,ho2,HY.2.2.trans (Below.trans aa qc)⟩
   case measure=>simp[intOf];omega
  ·obtain rfl:m=0:=ab
   rw[Der.sevT_zero,List.append_nil]at hys;subst hys;obtain⟨Ay,ny,cy,rfl,hry⟩:=hoy.rd;have q7:ny≤20:=by rw[←hry.len];exact q5
   have HY:=hd2 hoy hb;clear hoy hb hry
   go_wp2_with fail
   refine(kJ _ _ _ _ _ _ _ HY.1 ab).mono ?_;rintro e w2 ⟨rfl,ho2,hg2,hs2⟩;have qc:Below w.heap.size w w2:=HY.2.grown hg2 q3 (fun k hk=>(HY.1.lt_ hk).1);obtain⟨hc2,hf2⟩:=(H.1.below qc qs).facts;have qh:Below w.heap.size w w2:=qc;have q0:=H.2.1.below qc nl_;have HZ:=hd4 ho2 qc q0 (H.1.below qc qs);have q4:w.heap.size≤w2.heap.size:=qc.size;clear ho2 hg2 qc qh q0
   go_wp2_with
    (at_builtin
     refine aP rfl (.tmp 23) (.tmp 24) rfl (g+1) w.heap.size _ xs rfl HZ.2.2.1 ab _ _ ny cy _ rfl (Rd.of_own HZ.1).rds ab ?_;intro v3 w3 ho3 hg3 hat3 hb3;have HV:=hd2 ho3 hb3;have qg:=HZ.2.2.2.below hb3 ab;obtain⟨hc3,hf3⟩:=qg.facts;have q1:=hd1 qg;obtain⟨A3,n3,c3,rfl,_⟩:=ho3.rd;clear ho3 hg3 hat3 hb3 qg hc2 hf2)
   go_end0
   exact Bs g ⟨_,by simpa using q1.out.set_ 0 _,(HV.1.setCell ag _).mono nl_ ag,((HZ.2.1.mono ab).trans (HV.2.mono ab)).setCell ag _⟩
end
end Go.Proofs.YtmpkpphfoidbeaaGreatDoor
