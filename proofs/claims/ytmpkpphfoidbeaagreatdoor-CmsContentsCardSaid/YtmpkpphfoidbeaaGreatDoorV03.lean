import Derived.Test.YtmpkpphfoidbeaaGreatDoorV02
set_option linter.unusedVariables false
set_option linter.unusedSimpArgs false
namespace Go.Proofs.YtmpkpphfoidbeaaGreatDoor
open Go.RowKit
section
section
set_option maxRecDepth 100000
def Der.int:List UInt8→Option (List UInt8)
 | []=>none
 | b0::r=>if 128≤b0.toNat then none else if b0.toNat=0 then
  match r with
  | []=>some []
  | b1::_=>if b1.toNat<128 then none else some r
  else some (b0::r)
def gA (xs:List UInt8) (w:World) (e:Ending) (w':World):Prop:=
 Below w.heap.size w w'∧
 ((Der.int xs=none∧e=.returned (.tuple #[.slice none 0 0,.bool false]))∨
  ∃ys A n c,Der.int xs=some ys∧e=.returned (.tuple #[.slice A n c,.bool true])∧az w' w.heap.size w'.heap.size (.slice A n c) ys)
theorem vM (b o n c:Nat) (x0:UInt8) (xs:List UInt8) (w:World) (h:Rd w w.heap.size (some ⟨b,o,none⟩) n c xs) (hn:n≤1099511627776) (h0:0<n)
 (hc0:w.cell? ⟨b,o,none⟩=some (.int .u8 (x0.toNat:Int))) (h8:¬(128:Int)≤x0.toNat) (hz:((x0.toNat:Int)==0)=false) (hx:Hid (Der.int xs=some xs)) :
 Calls Tryz.prog 112 #[.slice (some ⟨b,o,none⟩) n c] w (gA xs w):=by
 have qd:((n:Int)==0)=false:=ai
 by_cases h1:1<n
 ·have qc:(1:Int)<n:=ab
  go_enter Tryz.func112,Tryz.ntmps112
  go_wp2_with fail
  refine(cu _ n c xs w h hn).mono ?_;rintro e w1 ⟨A1,n1,c1,rfl,ho1,hb1⟩
  go_wp2
  go_ret2
  exact⟨hb1,.inr ⟨_,_,_,_,hx.out,rfl,ho1⟩⟩
 ·have qc:¬(1:Int)<n:=ab
  go_enter Tryz.func112,Tryz.ntmps112
  go_wp2_with fail
  refine(cu _ n c xs w h hn).mono ?_;rintro e w1 ⟨A1,n1,c1,rfl,ho1,hb1⟩
  go_wp2
  go_ret2
  exact⟨hb1,.inr ⟨_,_,_,_,hx.out,rfl,ho1⟩⟩
theorem zy (b o n c:Nat) (x0:UInt8) (xs:List UInt8) (w:World) (h0:0<n)
 (hc0:w.cell? ⟨b,o,none⟩=some (.int .u8 (x0.toNat:Int))) (h8:(128:Int)≤x0.toNat) (hx:Hid (Der.int xs=none)) :
 Calls Tryz.prog 112 #[.slice (some ⟨b,o,none⟩) n c] w (gA xs w):=by
 have qc:((n:Int)==0)=false:=ai
 go_enter Tryz.func112,Tryz.ntmps112
 go_wp2
 go_ret2
 exact⟨Below.refl _ _,.inl ⟨hx.out,rfl⟩⟩
theorem zA (A:Option Addr) (c:Nat) (xs:List UInt8) (w:World) (hx:Hid (Der.int xs=none)) :
 Calls Tryz.prog 112 #[.slice A 0 c] w (gA xs w):=by
 go_enter Tryz.func112,Tryz.ntmps112
 go_wp2
 go_ret2
 exact⟨Below.refl _ _,.inl ⟨hx.out,rfl⟩⟩
theorem pm (b o n c:Nat) (x1:UInt8) (xs:List UInt8) (w:World) (h0:1<n)
 (hc0:w.cell? ⟨b,o,none⟩=some (.int .u8 0)) (hc1:w.cell? ⟨b,o+1,none⟩=some (.int .u8 (x1.toNat:Int))) (h8:(x1.toNat:Int)<128) (hx:Hid (Der.int xs=none)) :
 Calls Tryz.prog 112 #[.slice (some ⟨b,o,none⟩) n c] w (gA xs w):=by
 have qg:((n:Int)==0)=false:=ai
 have qd:(1:Int)<n:=ab
 have qc:0<n:=ab
 go_enter Tryz.func112,Tryz.ntmps112
 go_wp2
 go_ret2
 exact⟨Below.refl _ _,.inl ⟨hx.out,rfl⟩⟩
theorem rF (b o n c:Nat) (xs:List UInt8) (w:World) (h:Rd w w.heap.size (some ⟨b,o,none⟩) n c xs) (hn:n≤1099511627776) (h0:0<n)
 (hc0:w.cell? ⟨b,o,none⟩=some (.int .u8 0)) (h8:1<n→∃x1:UInt8,w.cell? ⟨b,o+1,none⟩=some (.int .u8 (x1.toNat:Int))∧¬(x1.toNat:Int)<128) (hx:Hid (Der.int xs=some (xs.drop 1))) :
 Calls Tryz.prog 112 #[.slice (some ⟨b,o,none⟩) n c] w (gA xs w):=by
 have qd:((n:Int)==0)=false:=ai
 obtain⟨A1,hr1,_,hcut⟩:=cQ h 1 1 rfl ab
 by_cases h1:1<n
 ·obtain⟨x1,hc1,h9⟩:=h8 h1
  clear h8;have qc:(1:Int)<n:=ab
  go_enter Tryz.func112,Tryz.ntmps112
  go_wp2_with fail
  refine(cu A1 (n - 1) (c - 1) _ w hr1 ab).mono ?_;rintro e w1 ⟨A1,n1,c1,rfl,ho1,hb1⟩
  go_wp2
  go_ret2
  exact⟨hb1,.inr ⟨_,_,_,_,hx.out,rfl,ho1⟩⟩
 ·clear h8
  have qc:¬(1:Int)<n:=ab
  go_enter Tryz.func112,Tryz.ntmps112
  go_wp2_with fail
  refine(cu A1 (n - 1) (c - 1) _ w hr1 ab).mono ?_;rintro e w1 ⟨A1,n1,c1,rfl,ho1,hb1⟩
  go_wp2
  go_ret2
  exact⟨hb1,.inr ⟨_,_,_,_,hx.out,rfl,ho1⟩⟩
theorem rE (A:Option Addr) (n c:Nat) (xs:List UInt8) (w:World) (h:Rd w w.heap.size A n c xs) (hn:n≤1099511627776) :
 Calls Tryz.prog 112 #[.slice A n c] w (gA xs w):=by
 have hl:=h.len;rcases xs with _|⟨x0,r⟩
 ·obtain rfl:n=0:=by simpa using hl.symm
  exact zA A c [] w (hd1 rfl)
 have h0:0<n:=by simp at hl;omega
 obtain⟨b,o,rfl,hb,hcell⟩:=h.at_ h0;have qc:=hcell 0 x0 rfl;rw[Nat.add_zero]at qc
 by_cases h8:128≤x0.toNat
 ·exact zy b o n c x0 _ w h0 qc ab (hd1 (by simp[Der.int,h8]))
 by_cases hz:x0.toNat=0
 ·rw[hz]at qc
  rcases r with _|⟨x1,r⟩
  ·exact rF b o n c _ w h hn h0 qc (fun h1=>by simp at hl;omega) (hd1 (by simp[Der.int,hz]))
  ·have qd:=hcell 1 x1 rfl
   by_cases h9:x1.toNat<128
   ·exact pm b o n c x1 _ w (by simp at hl;omega) qc qd ab (hd1 (by simp[Der.int,hz,h9]))
   ·exact rF b o n c _ w h hn h0 qc (fun _=>⟨x1,qd,ab⟩) (hd1 (by simp[Der.int,hz,h9]))
 ·exact vM b o n c x0 _ w h hn h0 qc ab ai (hd1 (by simp[Der.int,h8,hz]))
end
section
set_option maxRecDepth 100000
def Der.bits:List UInt8→Option (List UInt8×Nat)
 | []=>none
 | b0::r=>if 7<b0.toNat∨(0<b0.toNat∧r=[]) then none
  else if ((b0::r).getLastD 0).toNat % 2 ^ b0.toNat=0 then some (r,b0.toNat) else none
def bS (xs:List UInt8) (w:World) (e:Ending) (w':World):Prop:=
 Below w.heap.size w w'∧
 ((Der.bits xs=none∧e=.returned (.tuple #[.slice none 0 0,.int .i64 0,.bool false]))∨
  ∃ys k A n c,Der.bits xs=some (ys,k)∧e=.returned (.tuple #[.slice A n c,.int .i64 (k:Int),.bool true])∧az w' w.heap.size w'.heap.size (.slice A n c) ys)
theorem xA (x:UInt8) (k:Nat) (hk:k≤7):bits .and .u8 (x.toNat:Int) ((2 ^ k - 1:Nat):Int)=((x.toNat % 2 ^ k:Nat):Int):=by
 have h2:2 ^ k≤2 ^ 7:=Nat.pow_le_pow_right ab hk;rw[u8_and_nat _ _ x.toNat_lt ab,Nat.and_two_pow_sub_one_eq_mod]
theorem xC (A:Option Addr) (c:Nat) (xs:List UInt8) (w:World) (hx:Hid (Der.bits xs=none)) :
 Calls Tryz.prog 156 #[.slice A 0 c] w (bS xs w):=by
 go_enter Tryz.func156,Tryz.ntmps156
 go_wp2
 go_ret3
 exact⟨Below.refl _ _,.inl ⟨hx.out,rfl⟩⟩
theorem xB (b o n c:Nat) (x0:UInt8) (xs:List UInt8) (w:World) (h0:0<n)
 (hc0:w.cell? ⟨b,o,none⟩=some (.int .u8 (x0.toNat:Int))) (h8:(7:Int)<x0.toNat) (hx:Hid (Der.bits xs=none)) :
 Calls Tryz.prog 156 #[.slice (some ⟨b,o,none⟩) n c] w (bS xs w):=by
 have qc:((n:Int)==0)=false:=ai
 go_enter Tryz.func156,Tryz.ntmps156
 go_wp2
 go_ret3
 exact⟨Below.refl _ _,.inl ⟨hx.out,rfl⟩⟩
theorem sF (b o c:Nat) (x0:UInt8) (xs:List UInt8) (w:World)
 (hc0:w.cell? ⟨b,o,none⟩=some (.int .u8 (x0.toNat:Int))) (h7:¬(7:Int)<x0.toNat) (h8:(0:Int)<x0.toNat) (hx:Hid (Der.bits xs=none)) :
 Calls Tryz.prog 156 #[.slice (some ⟨b,o,none⟩) 1 c] w (bS xs w):=by
 go_enter Tryz.func156,Tryz.ntmps156
 go_wp2
 go_ret3
 exact⟨Below.refl _ _,.inl ⟨hx.out,rfl⟩⟩
set_option maxHeartbeats 400000 in
theorem uV (b o n c m:Nat) (x0 xl:UInt8) (xs:List UInt8) (w:World) (h0:0<n) (hm:m<n)
 (hc0:w.cell? ⟨b,o,none⟩=some (.int .u8 0)) (hcl:w.cell? ⟨b,o+m,none⟩=some (.int .u8 (xl.toNat:Int))) (hw:IntKind.i64.wrap ((n:Int) - 1)=(m:Int)) (hml:(m:Int)<n) (hbt:(bits .and .u8 (xl.toNat:Int) 0 != 0)=true) (hx:Hid (Der.bits xs=none)) :
 Calls Tryz.prog 156 #[.slice (some ⟨b,o,none⟩) n c] w (bS xs w):=by
 have qc:((n:Int)==0)=false:=ai
 go_enter Tryz.func156,Tryz.ntmps156
 go_wp2
 go_quiet (fail)
 go_wp2
 go_ret3
 exact⟨aa,.inl ⟨hx.out,rfl⟩⟩
set_option maxHeartbeats 400000 in
theorem sH (b o n c m:Nat) (x0 xl:UInt8) (r:List UInt8) (w:World) (h:Rd w w.heap.size (some ⟨b,o,none⟩) n c (x0::r)) (hn:n≤1099511627776) (h0:0<n) (hm:m<n)
 (hc0:w.cell? ⟨b,o,none⟩=some (.int .u8 0)) (hcl:w.cell? ⟨b,o+m,none⟩=some (.int .u8 (xl.toNat:Int))) (hw:IntKind.i64.wrap ((n:Int) - 1)=(m:Int)) (hml:(m:Int)<n) (hbt:(bits .and .u8 (xl.toNat:Int) 0 != 0)=false) (hx:Hid (Der.bits (x0::r)=some (r,0))) :
 Calls Tryz.prog 156 #[.slice (some ⟨b,o,none⟩) n c] w (bS (x0::r) w):=by
 have qc:((n:Int)==0)=false:=ai
 obtain⟨A1,hr1,_,hcut⟩:=cQ h 1 1 rfl ab;have HR:=hd1 hr1;clear hr1 h
 go_enter Tryz.func156,Tryz.ntmps156
 go_wp2
 go_quiet (fail)
 go_wp2_with fail
 refine(cu A1 (n - 1) (c - 1) _ _ (HR.out.drewN _) ab).mono ?_;rintro e w1 ⟨A1,n1,c1,rfl,ho1,hb1⟩
 go_wp2
 go_ret3
 exact⟨Below.trans aa hb1,.inr ⟨_,_,_,_,_,hx.out,rfl,ho1⟩⟩
set_option maxHeartbeats 400000 in
theorem uW (b o n c m:Nat) (x0 xl:UInt8) (xs:List UInt8) (w:World) (h0:0<n) (hm:m<n)
 (hc0:w.cell? ⟨b,o,none⟩=some (.int .u8 1)) (hcl:w.cell? ⟨b,o+m,none⟩=some (.int .u8 (xl.toNat:Int)))
 (hn1:((n:Int)==1)=false) (hw:IntKind.i64.wrap ((n:Int) - 1)=(m:Int)) (hml:(m:Int)<n) (hbt:(bits .and .u8 (xl.toNat:Int) 1 != 0)=true) (hx:Hid (Der.bits xs=none)) :
 Calls Tryz.prog 156 #[.slice (some ⟨b,o,none⟩) n c] w (bS xs w):=by
 have qc:((n:Int)==0)=false:=ai
 go_enter Tryz.func156,Tryz.ntmps156
 go_wp2
 go_quiet (fail)
 go_wp2
 go_ret3
 exact⟨aa,.inl ⟨hx.out,rfl⟩⟩
set_option maxHeartbeats 400000 in
theorem sI (b o n c m:Nat) (x0 xl:UInt8) (r:List UInt8) (w:World) (h:Rd w w.heap.size (some ⟨b,o,none⟩) n c (x0::r)) (hn:n≤1099511627776) (h0:0<n) (hm:m<n)
 (hc0:w.cell? ⟨b,o,none⟩=some (.int .u8 1)) (hcl:w.cell? ⟨b,o+m,none⟩=some (.int .u8 (xl.toNat:Int)))
 (hn1:((n:Int)==1)=false) (hw:IntKind.i64.wrap ((n:Int) - 1)=(m:Int)) (hml:(m:Int)<n) (hbt:(bits .and .u8 (xl.toNat:Int) 1 != 0)=false) (hx:Hid (Der.bits (x0::r)=some (r,1))) :
 Calls Tryz.prog 156 #[.slice (some ⟨b,o,none⟩) n c] w (bS (x0::r) w):=by
 have qc:((n:Int)==0)=false:=ai
 obtain⟨A1,hr1,_,hcut⟩:=cQ h 1 1 rfl ab;have HR:=hd1 hr1;clear hr1 h
 go_enter Tryz.func156,Tryz.ntmps156
 go_wp2
 go_quiet (fail)
 go_wp2_with fail
 refine(cu A1 (n - 1) (c - 1) _ _ (HR.out.drewN _) ab).mono ?_;rintro e w1 ⟨A1,n1,c1,rfl,ho1,hb1⟩
 go_wp2
 go_ret3
 exact⟨Below.trans aa hb1,.inr ⟨_,_,_,_,_,hx.out,rfl,ho1⟩⟩
set_option maxHeartbeats 400000 in
theorem uX (b o n c m:Nat) (x0 xl:UInt8) (xs:List UInt8) (w:World) (h0:0<n) (hm:m<n)
 (hc0:w.cell? ⟨b,o,none⟩=some (.int .u8 2)) (hcl:w.cell? ⟨b,o+m,none⟩=some (.int .u8 (xl.toNat:Int)))
 (hn1:((n:Int)==1)=false) (hw:IntKind.i64.wrap ((n:Int) - 1)=(m:Int)) (hml:(m:Int)<n) (hbt:(bits .and .u8 (xl.toNat:Int) 3 != 0)=true) (hx:Hid (Der.bits xs=none)) :
 Calls Tryz.prog 156 #[.slice (some ⟨b,o,none⟩) n c] w (bS xs w):=by
 have qc:((n:Int)==0)=false:=ai
 go_enter Tryz.func156,Tryz.ntmps156
 go_wp2
 go_quiet (fail)
 go_wp2
 go_ret3
 exact⟨aa,.inl ⟨hx.out,rfl⟩⟩
set_option maxHeartbeats 400000 in
theorem sJ (b o n c m:Nat) (x0 xl:UInt8) (r:List UInt8) (w:World) (h:Rd w w.heap.size (some ⟨b,o,none⟩) n c (x0::r)) (hn:n≤1099511627776) (h0:0<n) (hm:m<n)
 (hc0:w.cell? ⟨b,o,none⟩=some (.int .u8 2)) (hcl:w.cell? ⟨b,o+m,none⟩=some (.int .u8 (xl.toNat:Int)))
 (hn1:((n:Int)==1)=false) (hw:IntKind.i64.wrap ((n:Int) - 1)=(m:Int)) (hml:(m:Int)<n) (hbt:(bits .and .u8 (xl.toNat:Int) 3 != 0)=false) (hx:Hid (Der.bits (x0::r)=some (r,2))) :
 Calls Tryz.prog 156 #[.slice (some ⟨b,o,none⟩) n c] w (bS (x0::r) w):=by
 have qc:((n:Int)==0)=false:=ai
 obtain⟨A1,hr1,_,hcut⟩:=cQ h 1 1 rfl ab;have HR:=hd1 hr1;clear hr1 h
 go_enter Tryz.func156,Tryz.ntmps156
 go_wp2
 go_quiet (fail)
 go_wp2_with fail
 refine(cu A1 (n - 1) (c - 1) _ _ (HR.out.drewN _) ab).mono ?_;rintro e w1 ⟨A1,n1,c1,rfl,ho1,hb1⟩
 go_wp2
 go_ret3
 exact⟨Below.trans aa hb1,.inr ⟨_,_,_,_,_,hx.out,rfl,ho1⟩⟩
set_option maxHeartbeats 400000 in
theorem uY (b o n c m:Nat) (x0 xl:UInt8) (xs:List UInt8) (w:World) (h0:0<n) (hm:m<n)
 (hc0:w.cell? ⟨b,o,none⟩=some (.int .u8 3)) (hcl:w.cell? ⟨b,o+m,none⟩=some (.int .u8 (xl.toNat:Int)))
 (hn1:((n:Int)==1)=false) (hw:IntKind.i64.wrap ((n:Int) - 1)=(m:Int)) (hml:(m:Int)<n) (hbt:(bits .and .u8 (xl.toNat:Int) 7 != 0)=true) (hx:Hid (Der.bits xs=none)) :
 Calls Tryz.prog 156 #[.slice (some ⟨b,o,none⟩) n c] w (bS xs w):=by
 have qc:((n:Int)==0)=false:=ai
 go_enter Tryz.func156,Tryz.ntmps156
 go_wp2
 go_quiet (fail)
 go_wp2
 go_ret3
 exact⟨aa,.inl ⟨hx.out,rfl⟩⟩
set_option maxHeartbeats 400000 in
theorem sK (b o n c m:Nat) (x0 xl:UInt8) (r:List UInt8) (w:World) (h:Rd w w.heap.size (some ⟨b,o,none⟩) n c (x0::r)) (hn:n≤1099511627776) (h0:0<n) (hm:m<n)
 (hc0:w.cell? ⟨b,o,none⟩=some (.int .u8 3)) (hcl:w.cell? ⟨b,o+m,none⟩=some (.int .u8 (xl.toNat:Int)))
 (hn1:((n:Int)==1)=false) (hw:IntKind.i64.wrap ((n:Int) - 1)=(m:Int)) (hml:(m:Int)<n) (hbt:(bits .and .u8 (xl.toNat:Int) 7 != 0)=false) (hx:Hid (Der.bits (x0::r)=some (r,3))) :
 Calls Tryz.prog 156 #[.slice (some ⟨b,o,none⟩) n c] w (bS (x0::r) w):=by
 have qc:((n:Int)==0)=false:=ai
 obtain⟨A1,hr1,_,hcut⟩:=cQ h 1 1 rfl ab;have HR:=hd1 hr1;clear hr1 h
 go_enter Tryz.func156,Tryz.ntmps156
 go_wp2
 go_quiet (fail)
 go_wp2_with fail
 refine(cu A1 (n - 1) (c - 1) _ _ (HR.out.drewN _) ab).mono ?_;rintro e w1 ⟨A1,n1,c1,rfl,ho1,hb1⟩
 go_wp2
 go_ret3
 exact⟨Below.trans aa hb1,.inr ⟨_,_,_,_,_,hx.out,rfl,ho1⟩⟩
set_option maxHeartbeats 400000 in
theorem uZ (b o n c m:Nat) (x0 xl:UInt8) (xs:List UInt8) (w:World) (h0:0<n) (hm:m<n)
 (hc0:w.cell? ⟨b,o,none⟩=some (.int .u8 4)) (hcl:w.cell? ⟨b,o+m,none⟩=some (.int .u8 (xl.toNat:Int)))
 (hn1:((n:Int)==1)=false) (hw:IntKind.i64.wrap ((n:Int) - 1)=(m:Int)) (hml:(m:Int)<n) (hbt:(bits .and .u8 (xl.toNat:Int) 15 != 0)=true) (hx:Hid (Der.bits xs=none)) :
 Calls Tryz.prog 156 #[.slice (some ⟨b,o,none⟩) n c] w (bS xs w):=by
 have qc:((n:Int)==0)=false:=ai
 go_enter Tryz.func156,Tryz.ntmps156
 go_wp2
 go_quiet (fail)
 go_wp2
 go_ret3
 exact⟨aa,.inl ⟨hx.out,rfl⟩⟩
set_option maxHeartbeats 400000 in
theorem sL (b o n c m:Nat) (x0 xl:UInt8) (r:List UInt8) (w:World) (h:Rd w w.heap.size (some ⟨b,o,none⟩) n c (x0::r)) (hn:n≤1099511627776) (h0:0<n) (hm:m<n)
 (hc0:w.cell? ⟨b,o,none⟩=some (.int .u8 4)) (hcl:w.cell? ⟨b,o+m,none⟩=some (.int .u8 (xl.toNat:Int)))
 (hn1:((n:Int)==1)=false) (hw:IntKind.i64.wrap ((n:Int) - 1)=(m:Int)) (hml:(m:Int)<n) (hbt:(bits .and .u8 (xl.toNat:Int) 15 != 0)=false) (hx:Hid (Der.bits (x0::r)=some (r,4))) :
 Calls Tryz.prog 156 #[.slice (some ⟨b,o,none⟩) n c] w (bS (x0::r) w):=by
 have qc:((n:Int)==0)=false:=ai
 obtain⟨A1,hr1,_,hcut⟩:=cQ h 1 1 rfl ab;have HR:=hd1 hr1;clear hr1 h
 go_enter Tryz.func156,Tryz.ntmps156
 go_wp2
 go_quiet (fail)
 go_wp2_with fail
 refine(cu A1 (n - 1) (c - 1) _ _ (HR.out.drewN _) ab).mono ?_;rintro e w1 ⟨A1,n1,c1,rfl,ho1,hb1⟩
 go_wp2
 go_ret3
 exact⟨Below.trans aa hb1,.inr ⟨_,_,_,_,_,hx.out,rfl,ho1⟩⟩
set_option maxHeartbeats 400000 in
theorem vf (b o n c m:Nat) (x0 xl:UInt8) (xs:List UInt8) (w:World) (h0:0<n) (hm:m<n)
 (hc0:w.cell? ⟨b,o,none⟩=some (.int .u8 5)) (hcl:w.cell? ⟨b,o+m,none⟩=some (.int .u8 (xl.toNat:Int)))
 (hn1:((n:Int)==1)=false) (hw:IntKind.i64.wrap ((n:Int) - 1)=(m:Int)) (hml:(m:Int)<n) (hbt:(bits .and .u8 (xl.toNat:Int) 31 != 0)=true) (hx:Hid (Der.bits xs=none)) :
 Calls Tryz.prog 156 #[.slice (some ⟨b,o,none⟩) n c] w (bS xs w):=by
 have qc:((n:Int)==0)=false:=ai
 go_enter Tryz.func156,Tryz.ntmps156
 go_wp2
 go_quiet (fail)
 go_wp2
 go_ret3
 exact⟨aa,.inl ⟨hx.out,rfl⟩⟩
set_option maxHeartbeats 400000 in
theorem sM (b o n c m:Nat) (x0 xl:UInt8) (r:List UInt8) (w:World) (h:Rd w w.heap.size (some ⟨b,o,none⟩) n c (x0::r)) (hn:n≤1099511627776) (h0:0<n) (hm:m<n)
 (hc0:w.cell? ⟨b,o,none⟩=some (.int .u8 5)) (hcl:w.cell? ⟨b,o+m,none⟩=some (.int .u8 (xl.toNat:Int)))
 (hn1:((n:Int)==1)=false) (hw:IntKind.i64.wrap ((n:Int) - 1)=(m:Int)) (hml:(m:Int)<n) (hbt:(bits .and .u8 (xl.toNat:Int) 31 != 0)=false) (hx:Hid (Der.bits (x0::r)=some (r,5))) :
 Calls Tryz.prog 156 #[.slice (some ⟨b,o,none⟩) n c] w (bS (x0::r) w):=by
 have qc:((n:Int)==0)=false:=ai
 obtain⟨A1,hr1,_,hcut⟩:=cQ h 1 1 rfl ab;have HR:=hd1 hr1;clear hr1 h
 go_enter Tryz.func156,Tryz.ntmps156
 go_wp2
 go_quiet (fail)
 go_wp2_with fail
 refine(cu A1 (n - 1) (c - 1) _ _ (HR.out.drewN _) ab).mono ?_;rintro e w1 ⟨A1,n1,c1,rfl,ho1,hb1⟩
 go_wp2
 go_ret3
 exact⟨Below.trans aa hb1,.inr ⟨_,_,_,_,_,hx.out,rfl,ho1⟩⟩
set_option maxHeartbeats 400000 in
theorem vh (b o n c m:Nat) (x0 xl:UInt8) (xs:List UInt8) (w:World) (h0:0<n) (hm:m<n)
 (hc0:w.cell? ⟨b,o,none⟩=some (.int .u8 6)) (hcl:w.cell? ⟨b,o+m,none⟩=some (.int .u8 (xl.toNat:Int)))
 (hn1:((n:Int)==1)=false) (hw:IntKind.i64.wrap ((n:Int) - 1)=(m:Int)) (hml:(m:Int)<n) (hbt:(bits .and .u8 (xl.toNat:Int) 63 != 0)=true) (hx:Hid (Der.bits xs=none)) :
 Calls Tryz.prog 156 #[.slice (some ⟨b,o,none⟩) n c] w (bS xs w):=by
 have qc:((n:Int)==0)=false:=ai
 go_enter Tryz.func156,Tryz.ntmps156
 go_wp2
 go_quiet (fail)
 go_wp2
 go_ret3
 exact⟨aa,.inl ⟨hx.out,rfl⟩⟩
set_option maxHeartbeats 400000 in
theorem sN (b o n c m:Nat) (x0 xl:UInt8) (r:List UInt8) (w:World) (h:Rd w w.heap.size (some ⟨b,o,none⟩) n c (x0::r)) (hn:n≤1099511627776) (h0:0<n) (hm:m<n)
 (hc0:w.cell? ⟨b,o,none⟩=some (.int .u8 6)) (hcl:w.cell? ⟨b,o+m,none⟩=some (.int .u8 (xl.toNat:Int)))
 (hn1:((n:Int)==1)=false) (hw:IntKind.i64.wrap ((n:Int) - 1)=(m:Int)) (hml:(m:Int)<n) (hbt:(bits .and .u8 (xl.toNat:Int) 63 != 0)=false) (hx:Hid (Der.bits (x0::r)=some (r,6))) :
 Calls Tryz.prog 156 #[.slice (some ⟨b,o,none⟩) n c] w (bS (x0::r) w):=by
 have qc:((n:Int)==0)=false:=ai
 obtain⟨A1,hr1,_,hcut⟩:=cQ h 1 1 rfl ab;have HR:=hd1 hr1;clear hr1 h
 go_enter Tryz.func156,Tryz.ntmps156
 go_wp2
 go_quiet (fail)
 go_wp2_with fail
 refine(cu A1 (n - 1) (c - 1) _ _ (HR.out.drewN _) ab).mono ?_;rintro e w1 ⟨A1,n1,c1,rfl,ho1,hb1⟩
 go_wp2
 go_ret3
 exact⟨Below.trans aa hb1,.inr ⟨_,_,_,_,_,hx.out,rfl,ho1⟩⟩
set_option maxHeartbeats 400000 in
theorem vj (b o n c m:Nat) (x0 xl:UInt8) (xs:List UInt8) (w:World) (h0:0<n) (hm:m<n)
 (hc0:w.cell? ⟨b,o,none⟩=some (.int .u8 7)) (hcl:w.cell? ⟨b,o+m,none⟩=some (.int .u8 (xl.toNat:Int)))
 (hn1:((n:Int)==1)=false) (hw:IntKind.i64.wrap ((n:Int) - 1)=(m:Int)) (hml:(m:Int)<n) (hbt:(bits .and .u8 (xl.toNat:Int) 127 != 0)=true) (hx:Hid (Der.bits xs=none)) :
 Calls Tryz.prog 156 #[.slice (some ⟨b,o,none⟩) n c] w (bS xs w):=by
 have qc:((n:Int)==0)=false:=ai
 go_enter Tryz.func156,Tryz.ntmps156
 go_wp2
 go_quiet (fail)
 go_wp2
 go_ret3
 exact⟨aa,.inl ⟨hx.out,rfl⟩⟩
set_option maxHeartbeats 400000 in
theorem sO (b o n c m:Nat) (x0 xl:UInt8) (r:List UInt8) (w:World) (h:Rd w w.heap.size (some ⟨b,o,none⟩) n c (x0::r)) (hn:n≤1099511627776) (h0:0<n) (hm:m<n)
 (hc0:w.cell? ⟨b,o,none⟩=some (.int .u8 7)) (hcl:w.cell? ⟨b,o+m,none⟩=some (.int .u8 (xl.toNat:Int)))
 (hn1:((n:Int)==1)=false) (hw:IntKind.i64.wrap ((n:Int) - 1)=(m:Int)) (hml:(m:Int)<n) (hbt:(bits .and .u8 (xl.toNat:Int) 127 != 0)=false) (hx:Hid (Der.bits (x0::r)=some (r,7))) :
 Calls Tryz.prog 156 #[.slice (some ⟨b,o,none⟩) n c] w (bS (x0::r) w):=by
 have qc:((n:Int)==0)=false:=ai
 obtain⟨A1,hr1,_,hcut⟩:=cQ h 1 1 rfl ab;have HR:=hd1 hr1;clear hr1 h
 go_enter Tryz.func156,Tryz.ntmps156
 go_wp2
 go_quiet (fail)
 go_wp2_with fail
 refine(cu A1 (n - 1) (c - 1) _ _ (HR.out.drewN _) ab).mono ?_;rintro e w1 ⟨A1,n1,c1,rfl,ho1,hb1⟩
 go_wp2
 go_ret3
 exact⟨Below.trans aa hb1,.inr ⟨_,_,_,_,_,hx.out,rfl,ho1⟩⟩
theorem yb {xs:List UInt8} {m:Nat} (h:xs.length=m+1):xs[m]? = some (xs.getLastD 0):=by
 rw[List.getLastD_eq_getLast?,List.getLast?_eq_getElem?,show xs.length - 1=m from by omega,List.getElem?_eq_getElem ab]
 rfl
theorem pg (A:Option Addr) (n c:Nat) (xs:List UInt8) (w:World) (h:Rd w w.heap.size A n c xs) (hn:n≤1099511627776) :
 Calls Tryz.prog 156 #[.slice A n c] w (bS xs w):=by
 have hl:=h.len;rcases xs with _|⟨x0,r⟩
 ·obtain rfl:n=0:=by simpa using hl.symm
  exact xC A c [] w (hd1 rfl)
 have h0:0<n:=by simp at hl;omega
 obtain⟨b,o,rfl,hb,hcell⟩:=h.at_ h0;have qd:=hcell 0 x0 rfl;rw[Nat.add_zero]at qd
 by_cases h8:7<x0.toNat
 ·exact xB b o n c x0 _ w h0 qd ab (hd1 (by simp[Der.bits,h8]))
 by_cases h1:0<x0.toNat∧r=[]
 ·obtain⟨h1,rfl⟩:=h1
  obtain rfl:n=1:=by simpa using hl.symm
  exact sF b o c x0 _ w qd ab ab (hd1 (by simp[Der.bits,h1]))
 obtain⟨m,rfl⟩:∃m,n=m+1:=⟨n - 1,ab⟩
 obtain⟨xl,hxl⟩:∃xl,(x0::r).getLastD 0=xl:=⟨_,rfl⟩
 have qh:=hcell m xl (by rw[yb (by simpa using hl),hxl]);have hw:IntKind.i64.wrap (((m+1:Nat):Int) - 1)=(m:Int):=by rw[IntKind.wrap_i64];omega
 have qg:0<x0.toNat→((((m+1:Nat):Int))==1)=false:=by
  intro h0;have:r≠[]:=fun e=>h1 ⟨h0,e⟩
  have:=List.length_pos_iff.2 this;simp at hl;simp;omega
 have qc:xl.toNat % 2 ^ x0.toNat=0→Der.bits (x0::r)=some (r,x0.toNat):=by
  intro e;rw[Der.bits,if_neg (by rintro(h|h);exact h8 h;exact h1 h),hxl,if_pos e]
 have qs:xl.toNat % 2 ^ x0.toNat≠0→Der.bits (x0::r)=none:=by
  intro e;rw[Der.bits,if_neg (by rintro(h|h);exact h8 h;exact h1 h),hxl,if_neg e]
 have qv:=fun k (hk:k≤7)=>xA xl k hk
 have qk:(m:Int)<(m+1:Nat):=ab
 have hk:x0.toNat=0∨x0.toNat=1∨x0.toNat=2∨x0.toNat=3∨x0.toNat=4∨x0.toNat=5∨x0.toNat=6∨x0.toNat=7:=ab
 rcases hk with hk|hk|hk|hk|hk|hk|hk|hk
 ·rw[hk]at qd qc qs qg
  have hm:=qv 0 ab
  by_cases hz:xl.toNat % 2 ^ 0=0
  ·rw[hz]at hm
   exact sH b o (m+1) c m x0 xl r w h hn h0 ab qd qh  hw qk (by rw[show(0:Int)=((2 ^ 0 - 1:Nat):Int) from rfl,hm];rfl) (hd1 (qc hz))
  ·exact uV b o (m+1) c m x0 xl _ w h0 ab qd qh  hw qk (by rw[show(0:Int)=((2 ^ 0 - 1:Nat):Int) from rfl,hm];simp only[bne_iff_ne,ne_eq];omega) (hd1 (qs hz))
 ·rw[hk]at qd qc qs qg
  have hm:=qv 1 ab
  by_cases hz:xl.toNat % 2 ^ 1=0
  ·rw[hz]at hm
   exact sI b o (m+1) c m x0 xl r w h hn h0 ab qd qh (qg ab) hw qk (by rw[show(1:Int)=((2 ^ 1 - 1:Nat):Int) from rfl,hm];rfl) (hd1 (qc hz))
  ·exact uW b o (m+1) c m x0 xl _ w h0 ab qd qh (qg ab) hw qk (by rw[show(1:Int)=((2 ^ 1 - 1:Nat):Int) from rfl,hm];simp only[bne_iff_ne,ne_eq];omega) (hd1 (qs hz))
 ·rw[hk]at qd qc qs qg
  have hm:=qv 2 ab
  by_cases hz:xl.toNat % 2 ^ 2=0
  ·rw[hz]at hm
   exact sJ b o (m+1) c m x0 xl r w h hn h0 ab qd qh (qg ab) hw qk (by rw[show(3:Int)=((2 ^ 2 - 1:Nat):Int) from rfl,hm];rfl) (hd1 (qc hz))
  ·exact uX b o (m+1) c m x0 xl _ w h0 ab qd qh (qg ab) hw qk (by rw[show(3:Int)=((2 ^ 2 - 1:Nat):Int) from rfl,hm];simp only[bne_iff_ne,ne_eq];omega) (hd1 (qs hz))
 ·rw[hk]at qd qc qs qg
  have hm:=qv 3 ab
  by_cases hz:xl.toNat % 2 ^ 3=0
  ·rw[hz]at hm
   exact sK b o (m+1) c m x0 xl r w h hn h0 ab qd qh (qg ab) hw qk (by rw[show(7:Int)=((2 ^ 3 - 1:Nat):Int) from rfl,hm];rfl) (hd1 (qc hz))
  ·exact uY b o (m+1) c m x0 xl _ w h0 ab qd qh (qg ab) hw qk (by rw[show(7:Int)=((2 ^ 3 - 1:Nat):Int) from rfl,hm];simp only[bne_iff_ne,ne_eq];omega) (hd1 (qs hz))
 ·rw[hk]at qd qc qs qg
  have hm:=qv 4 ab
  by_cases hz:xl.toNat % 2 ^ 4=0
  ·rw[hz]at hm
   exact sL b o (m+1) c m x0 xl r w h hn h0 ab qd qh (qg ab) hw qk (by rw[show(15:Int)=((2 ^ 4 - 1:Nat):Int) from rfl,hm];rfl) (hd1 (qc hz))
  ·exact uZ b o (m+1) c m x0 xl _ w h0 ab qd qh (qg ab) hw qk (by rw[show(15:Int)=((2 ^ 4 - 1:Nat):Int) from rfl,hm];simp only[bne_iff_ne,ne_eq];omega) (hd1 (qs hz))
 ·rw[hk]at qd qc qs qg
  have hm:=qv 5 ab
  by_cases hz:xl.toNat % 2 ^ 5=0
  ·rw[hz]at hm
   exact sM b o (m+1) c m x0 xl r w h hn h0 ab qd qh (qg ab) hw qk (by rw[show(31:Int)=((2 ^ 5 - 1:Nat):Int) from rfl,hm];rfl) (hd1 (qc hz))
  ·exact vf b o (m+1) c m x0 xl _ w h0 ab qd qh (qg ab) hw qk (by rw[show(31:Int)=((2 ^ 5 - 1:Nat):Int) from rfl,hm];simp only[bne_iff_ne,ne_eq];omega) (hd1 (qs hz))
 ·rw[hk]at qd qc qs qg
  have hm:=qv 6 ab
  by_cases hz:xl.toNat % 2 ^ 6=0
  ·rw[hz]at hm
   exact sN b o (m+1) c m x0 xl r w h hn h0 ab qd qh (qg ab) hw qk (by rw[show(63:Int)=((2 ^ 6 - 1:Nat):Int) from rfl,hm];rfl) (hd1 (qc hz))
  ·exact vh b o (m+1) c m x0 xl _ w h0 ab qd qh (qg ab) hw qk (by rw[show(63:Int)=((2 ^ 6 - 1:Nat):Int) from rfl,hm];simp only[bne_iff_ne,ne_eq];omega) (hd1 (qs hz))
 ·rw[hk]at qd qc qs qg
  have hm:=qv 7 ab
  by_cases hz:xl.toNat % 2 ^ 7=0
  ·rw[hz]at hm
   exact sO b o (m+1) c m x0 xl r w h hn h0 ab qd qh (qg ab) hw qk (by rw[show(127:Int)=((2 ^ 7 - 1:Nat):Int) from rfl,hm];rfl) (hd1 (qc hz))
  ·exact vj b o (m+1) c m x0 xl _ w h0 ab qd qh (qg ab) hw qk (by rw[show(127:Int)=((2 ^ 7 - 1:Nat):Int) from rfl,hm];simp only[bne_iff_ne,ne_eq];omega) (hd1 (qs hz))
end
section
set_option maxRecDepth 100000
theorem ef:(Tryz.prog.info? 65).map (fun i=>(i.zero,i.size,i.bytes))=some (some (.int .u64 0),1,8):=by kernel_rfl
def uv (x:Nat):Value:=.int .u64 (x:Int)
theorem eY (xs:List Nat):∀u∈xs.map uv,u.oneCell'=true:=by
 intro u hu;obtain⟨_,_,rfl⟩:=List.mem_map.1 hu
 rfl
structure Der.OidS where
 arcs:List Nat
 n:Nat
 begun:Bool
def Der.oidStep (s:Der.OidS) (c:UInt8):Option Der.OidS:=
 if 144115188075855872≤s.n∨(s.begun=false∧c.toNat=128) then none
 else if 128≤c.toNat then some ⟨s.arcs,s.n*128+c.toNat % 128,true⟩
 else if s.arcs=[] then some ⟨[min ((s.n*128+c.toNat % 128) / 40) 2,(s.n*128+c.toNat % 128) - 40*min ((s.n*128+c.toNat % 128) / 40) 2],0,false⟩
 else some ⟨s.arcs++[s.n*128+c.toNat % 128],0,false⟩
def Der.oidFrom (s:Der.OidS):List UInt8→Option Der.OidS
 | []=>some s
 | c::r=>match Der.oidStep s c with
  | none=>none
  | some s'=>Der.oidFrom s' r
def Der.oid (xs:List UInt8):Option (List Nat):=match Der.oidFrom ⟨[],0,false⟩ xs with
 | none=>none
 | some s=>if s.begun∨s.arcs=[] then none else some s.arcs
def iW (w:World) (lo hi:Nat) (v:Value) (zs:List Nat):Prop:=aI 65 1 w lo hi v zs.length (zs.map uv)
def y8 (xs:List UInt8) (w:World) (e:Ending) (w':World):Prop:=
 Below w.heap.size w w'∧
 ((Der.oid xs=none∧e=.returned (.tuple #[.slice none 0 0,.bool false]))∨
  ∃arcs v,Der.oid xs=some arcs∧e=.returned (.tuple #[v,.bool true])∧iW w' w.heap.size w'.heap.size v arcs)
def uH (xs:List UInt8) (w:World) (k:Nat) (s:Der.OidS) (v:Value) (wr:World):Prop:=
 Der.oidFrom ⟨[],0,false⟩ xs=Der.oidFrom s (xs.drop k)∧iW wr w.heap.size wr.heap.size v s.arcs∧Below w.heap.size w wr∧s.arcs.length≤k+1
set_option maxHeartbeats 2000000 in
theorem rO (A:Option Addr) (n c:Nat) (xs:List UInt8) (w:World) (h:Rd w w.heap.size A n c xs) (hn:n≤1099511627776) :
 Calls Tryz.prog 107 #[.slice A n c] w (y8 xs w):=by
 have hl:=h.len;have q5:uH xs w 0 ⟨[],0,false⟩ (.slice none 0 0) w:=⟨rfl,aI.nil_,Below.refl _ _,ag⟩
 have HL:=hd1 hl;clear hl
 go_enter Tryz.func107,Tryz.ntmps107
 go_wp2
 go_loopw [2,4,5,11] (fun v u b i wr=>∃(k:Nat) (s:Der.OidS),k≤n∧i=.int .i64 k∧u=.int .u64 (s.n:Int)∧b=.bool s.begun∧s.n<18446744073709551616∧uH xs w k s v wr) (fun _ _ _ i _=>n - (intOf i).toNat)
 case atStart=>exact⟨0,⟨[],0,false⟩,ab,rfl,rfl,rfl,ag,q5⟩
 case round=>
  obtain⟨k,⟨arcs,N,bg⟩,hk,rfl,rfl,rfl,hN,hs,ho,hb,hal⟩:=hrel;dsimp only at hN ho hal ⊢;obtain⟨A5,c5,rfl,hc5,hcm5,hn5,hr5⟩:=ho.shape
  by_cases hlt:k<n
  ·have yd:0<n:=ab
   obtain⟨b,o,rfl,hbB,hcell⟩:=h.at_ yd;have q7:k<xs.length:=by have:=HL.out;omega
   obtain⟨x,hx⟩:∃x,xs[k]? = some x:=⟨xs[k],List.getElem?_eq_getElem q7⟩
   have j6:wr.cell? ⟨b,o+k,none⟩=some (.int .u8 (x.toNat:Int)):=(hb.cell (p:=⟨b,o+k,none⟩) hbB).trans (hcell k x hx);have j7:(k:Int)<n:=ab
   have hdr:xs.drop k=x::xs.drop (k+1):=by
    rw[List.drop_eq_getElem_cons q7]
    congr 1
    rw[List.getElem?_eq_getElem q7]at hx;injection hx
   rw[hdr]at hs;have y0:=x.toNat_lt
   by_cases hbig:144115188075855872≤N
   ·have q2:Der.oid xs=none:=by
     unfold Der.oid;rw[hs,Der.oidFrom,Der.oidStep,if_pos (.inl hbig)]
    have q0:=hd2 q2 hb;have q1:(144115188075855872:Int)≤N:=ab
    clear q2 hs ho hdr hx hcell hb hn5 hr5 HL
    go_wp2
    go_ret2
    exact⟨q0.2,.inl ⟨q0.1,rfl⟩⟩
   ·have q1:¬(144115188075855872:Int)≤N:=ab
    by_cases h80:bg=false∧x.toNat=128
    ·obtain⟨rfl,hx8⟩:=h80
     have q2:Der.oid xs=none:=by
      unfold Der.oid;rw[hs,Der.oidFrom,Der.oidStep,if_pos (.inr ⟨rfl,hx8⟩)]
     have q0:=hd2 q2 hb;rw[hx8]at j6;clear q2 hs ho hdr hx hcell hb hn5 hr5 HL hx8
     go_wp2
     go_ret2
     exact⟨q0.2,.inl ⟨q0.1,rfl⟩⟩
    ·have j4:Der.oidFrom ⟨arcs,N,bg⟩ (x::xs.drop (k+1))=match Der.oidStep ⟨arcs,N,bg⟩ x with
      | none=>none
      | some s'=>Der.oidFrom s' (xs.drop (k+1)):=rfl
     rw[j4]at hs;have qk:bg=false→((x.toNat:Int)==128)=false:=by
      rintro rfl;have ys:x.toNat≠128:=fun e=>h80 ⟨rfl,e⟩
      simp;omega
     obtain⟨M,hM⟩:∃M,N*128+x.toNat % 128=M:=⟨_,rfl⟩
     have qs:Der.oidStep ⟨arcs,N,bg⟩ x=if 128≤x.toNat then some ⟨arcs,M,true⟩
      else if arcs=[] then some ⟨[min (M / 40) 2,M - 40*min (M / 40) 2],0,false⟩
      else some ⟨arcs++[M],0,false⟩:=by
      unfold Der.oidStep;rw[if_neg (fun h=>h.elim (fun h=>hbig h) (fun h=>h80 h))];dsimp only;rw[hM]
     rw[qs]at hs;have j2:M<18446744073709551616:=ab
     have yv:bits .or .u64 ((N:Int)*128) (IntKind.u64.wrap (bits .and .u8 (x.toNat:Int) 127))=(M:Int):=by
      rw[AZ,show IntKind.u64.wrap ((x.toNat % 128:Nat):Int)=((x.toNat % 128:Nat):Int) from by simp only[IntKind.wrap,IntKind.bits,IntKind.signed];simp;omega,z9 _ _ ab ab,hM]
     have HS:=hd3 hs ho hb;have q6:=hd1 j2;clear j4 qs hs ho hdr hx hcell hn5 hr5 hb HL h80 hM hN j2 hbig
     by_cases hx8:128≤x.toNat
     ·have j1:(128:Int)≤x.toNat:=ab
      have hs:=HS.1;rw[if_pos hx8]at hs;have qg:=hd1 hs;clear hs
      cases bg with
      | true=>
       clear qk
       go_wp2
       go_roundw
       case rel=>exact⟨k+1,⟨arcs,M,true⟩,ab,by go_num,rfl,rfl,q6.out,qg.out,HS.2.1,HS.2.2,ak⟩
       case measure=>simp[intOf];omega
      | false=>
       have qv:=qk rfl;clear qk
       go_wp2
       go_roundw
       case rel=>exact⟨k+1,⟨arcs,M,true⟩,ab,by go_num,rfl,rfl,q6.out,qg.out,HS.2.1,HS.2.2,ak⟩
       case measure=>simp[intOf];omega
     ·have j1:¬(128:Int)≤x.toNat:=ab
      have hs:=HS.1;rw[if_neg hx8]at hs
      by_cases he:arcs=[]
      ·subst he
       rw[if_pos rfl]at hs;have qg:=hd1 hs;clear hs;have qh:Hid (w.heap.size≤wr.heap.size):=HS.2.2.size;obtain⟨T,hT⟩:∃T,M / 40=T:=⟨_,rfl⟩
       have hq:((M:Int) / 40)=(T:Int):=ab
       have j3:=q6.out
       by_cases hT2:2<T
       ·obtain⟨R,hR⟩:∃R,M - 80=R:=⟨_,rfl⟩
        have hs:=qg.out;rw[show min (M / 40) 2=2 from by omega,show M - 40*2=R from by omega]at hs;have qg:=hd1 hs;have j5:(2:Int)<T:=ab
        have yy:IntKind.u64.wrap (T:Int)=(T:Int):=by simp only[IntKind.wrap,IntKind.bits,IntKind.signed];simp;omega
        have j0:IntKind.u64.wrap ((M:Int) - 80)=(R:Int):=by simp only[IntKind.wrap,IntKind.bits,IntKind.signed];simp;omega
        have qd:Hid (aF (wr.alloc (.cells #[.int .u64 2] 65)) (wr.heap.size+1) 1 (some ⟨wr.heap.size,0,none⟩) 1 ([2].map uv)):=aF.one wr 65 _;clear hT hR hs j3
        cases bg with
        | true=>
         clear qk
         go_wp2_with (first
          | (at_builtin
             refine bn rfl (.tmp 39) (.tmp 41) 40 rfl 65 _ 1 8 ef Tryz.underlying40 rfl ab w.heap.size wr.heap.size _ 0 [] rfl (HS.2.1.alloc nl_ _) (by have:=qh.out;simp;omega) _ _ 1 1 ([2].map uv) rfl qd.out (eY _) ab ab ?_;intro v2 w2 ho2 hg2 hat2 hb2;have qc:Below w.heap.size w w2:=(HS.2.2.alloc qh.out _).trans hb2;obtain⟨A7,c7,rfl,_,_,_,_⟩:=ho2.shape)
          | (at_builtin
             refine bn rfl (.tmp 47) (.tmp 49) 40 rfl 65 _ 1 8 ef Tryz.underlying40 rfl ab w.heap.size w2.heap.size _ (0+1) ([]++[2].map uv) rfl (ho2.alloc nl_ _) (by have:=qc.size;simp;omega) _ _ 1 1 ([R].map uv) rfl (aF.one w2 65 _) (eY _) ab ab ?_;intro v3 w3 ho3 hg3 hat3 hb3))
         go_roundw
         case rel=>exact⟨k+1,⟨[2,R],0,false⟩,ab,by go_num,rfl,rfl,ag,qg.out,by unfold iW;simpa using ho3,(qc.alloc qc.size _).trans hb3,ag⟩
         case measure=>simp[intOf];omega
        | false=>
         have qv:=qk rfl;clear qk
         go_wp2_with (first
          | (at_builtin
             refine bn rfl (.tmp 39) (.tmp 41) 40 rfl 65 _ 1 8 ef Tryz.underlying40 rfl ab w.heap.size wr.heap.size _ 0 [] rfl (HS.2.1.alloc nl_ _) (by have:=qh.out;simp;omega) _ _ 1 1 ([2].map uv) rfl qd.out (eY _) ab ab ?_;intro v2 w2 ho2 hg2 hat2 hb2;have qc:Below w.heap.size w w2:=(HS.2.2.alloc qh.out _).trans hb2;obtain⟨A7,c7,rfl,_,_,_,_⟩:=ho2.shape)
          | (at_builtin
             refine bn rfl (.tmp 47) (.tmp 49) 40 rfl 65 _ 1 8 ef Tryz.underlying40 rfl ab w.heap.size w2.heap.size _ (0+1) ([]++[2].map uv) rfl (ho2.alloc nl_ _) (by have:=qc.size;simp;omega) _ _ 1 1 ([R].map uv) rfl (aF.one w2 65 _) (eY _) ab ab ?_;intro v3 w3 ho3 hg3 hat3 hb3))
         go_roundw
         case rel=>exact⟨k+1,⟨[2,R],0,false⟩,ab,by go_num,rfl,rfl,ag,qg.out,by unfold iW;simpa using ho3,(qc.alloc qc.size _).trans hb3,ag⟩
         case measure=>simp[intOf];omega
       ·obtain⟨R,hR⟩:∃R,M - 40*T=R:=⟨_,rfl⟩
        have hs:=qg.out;rw[show min (M / 40) 2=T from by omega,show M - 40*T=R from by omega]at hs;have qg:=hd1 hs;have j5:¬(2:Int)<T:=ab
        have j8:IntKind.u64.wrap (40*(T:Int))=40*(T:Int):=by simp only[IntKind.wrap,IntKind.bits,IntKind.signed];simp;omega
        have j0:IntKind.u64.wrap ((M:Int) - 40*(T:Int))=(R:Int):=by simp only[IntKind.wrap,IntKind.bits,IntKind.signed];simp;omega
        have qd:Hid (aF (wr.alloc (.cells #[.int .u64 (T:Int)] 65)) (wr.heap.size+1) 1 (some ⟨wr.heap.size,0,none⟩) 1 ([T].map uv)):=aF.one wr 65 _;clear hT hR hs j3
        cases bg with
        | true=>
         clear qk
         go_wp2_with (first
          | (at_builtin
             refine bn rfl (.tmp 39) (.tmp 41) 40 rfl 65 _ 1 8 ef Tryz.underlying40 rfl ab w.heap.size wr.heap.size _ 0 [] rfl (HS.2.1.alloc nl_ _) (by have:=qh.out;simp;omega) _ _ 1 1 ([T].map uv) rfl qd.out (eY _) ab ab ?_;intro v2 w2 ho2 hg2 hat2 hb2;have qc:Below w.heap.size w w2:=(HS.2.2.alloc qh.out _).trans hb2;obtain⟨A7,c7,rfl,_,_,_,_⟩:=ho2.shape)
          | (at_builtin
             refine bn rfl (.tmp 47) (.tmp 49) 40 rfl 65 _ 1 8 ef Tryz.underlying40 rfl ab w.heap.size w2.heap.size _ (0+1) ([]++[T].map uv) rfl (ho2.alloc nl_ _) (by have:=qc.size;simp;omega) _ _ 1 1 ([R].map uv) rfl (aF.one w2 65 _) (eY _) ab ab ?_;intro v3 w3 ho3 hg3 hat3 hb3))
         go_roundw
         case rel=>exact⟨k+1,⟨[T,R],0,false⟩,ab,by go_num,rfl,rfl,ag,qg.out,by unfold iW;simpa using ho3,(qc.alloc qc.size _).trans hb3,ag⟩
         case measure=>simp[intOf];omega
        | false=>
         have qv:=qk rfl;clear qk
         go_wp2_with (first
          | (at_builtin
             refine bn rfl (.tmp 39) (.tmp 41) 40 rfl 65 _ 1 8 ef Tryz.underlying40 rfl ab w.heap.size wr.heap.size _ 0 [] rfl (HS.2.1.alloc nl_ _) (by have:=qh.out;simp;omega) _ _ 1 1 ([T].map uv) rfl qd.out (eY _) ab ab ?_;intro v2 w2 ho2 hg2 hat2 hb2;have qc:Below w.heap.size w w2:=(HS.2.2.alloc qh.out _).trans hb2;obtain⟨A7,c7,rfl,_,_,_,_⟩:=ho2.shape)
          | (at_builtin
             refine bn rfl (.tmp 47) (.tmp 49) 40 rfl 65 _ 1 8 ef Tryz.underlying40 rfl ab w.heap.size w2.heap.size _ (0+1) ([]++[T].map uv) rfl (ho2.alloc nl_ _) (by have:=qc.size;simp;omega) _ _ 1 1 ([R].map uv) rfl (aF.one w2 65 _) (eY _) ab ab ?_;intro v3 w3 ho3 hg3 hat3 hb3))
         go_roundw
         case rel=>exact⟨k+1,⟨[T,R],0,false⟩,ab,by go_num,rfl,rfl,ag,qg.out,by unfold iW;simpa using ho3,(qc.alloc qc.size _).trans hb3,ag⟩
         case measure=>simp[intOf];omega
      ·rw[if_neg he]at hs
       have q4:0<arcs.length:=List.length_pos_iff.2 he;have q9:((arcs.length:Int)==0)=false:=ai
       have qg:=hd1 hs;clear hs;have qd:Hid (aF (wr.alloc (.cells #[.int .u64 (M:Int)] 65)) (wr.heap.size+1) 1 (some ⟨wr.heap.size,0,none⟩) 1 ([M].map uv)):=aF.one wr 65 _;have qh:Hid (w.heap.size≤wr.heap.size):=HS.2.2.size
       cases bg with
       | true=>
        clear qk
        go_wp2_with
         (at_builtin
          refine bn rfl (.tmp 47) (.tmp 49) 40 rfl 65 _ 1 8 ef Tryz.underlying40 rfl ab w.heap.size wr.heap.size _ arcs.length (arcs.map uv) rfl (HS.2.1.alloc nl_ _) (by have:=qh.out;simp;omega) _ _ 1 1 ([M].map uv) rfl qd.out (eY _) ab ab ?_;intro v2 w2 ho2 hg2 hat2 hb2)
        go_roundw
        case rel=>exact⟨k+1,⟨arcs++[M],0,false⟩,ab,by go_num,rfl,rfl,ag,qg.out,by unfold iW;simpa using ho2,(HS.2.2.alloc qh.out _).trans hb2,ai⟩
        case measure=>simp[intOf];omega
       | false=>
        have qv:=qk rfl;clear qk
        go_wp2_with
         (at_builtin
          refine bn rfl (.tmp 47) (.tmp 49) 40 rfl 65 _ 1 8 ef Tryz.underlying40 rfl ab w.heap.size wr.heap.size _ arcs.length (arcs.map uv) rfl (HS.2.1.alloc nl_ _) (by have:=qh.out;simp;omega) _ _ 1 1 ([M].map uv) rfl qd.out (eY _) ab ab ?_;intro v2 w2 ho2 hg2 hat2 hb2)
        go_roundw
        case rel=>exact⟨k+1,⟨arcs++[M],0,false⟩,ab,by go_num,rfl,rfl,ag,qg.out,by unfold iW;simpa using ho2,(HS.2.2.alloc qh.out _).trans hb2,ai⟩
        case measure=>simp[intOf];omega
  ·obtain rfl:k=n:=ab
   have hd:xs.drop k=[]:=List.drop_eq_nil_of_le (by rw[HL.out];omega);rw[hd,Der.oidFrom]at hs;have q3:Der.oid xs=if bg=true∨arcs=[] then none else some arcs:=by
    unfold Der.oid;rw[hs]
   have HH:=hd3 q3 ho hb;have yh:¬(k:Int)<k:=ab
   clear hd hs q3 ho hb hr5 hn5
   cases bg with
   | true=>
    go_wp2
    go_ret2
    exact⟨HH.2.2,.inl ⟨by have:=HH.1;simpa using this,rfl⟩⟩
   | false=>
    by_cases he:arcs=[]
    ·subst he
     go_wp2
     go_ret2
     exact⟨HH.2.2,.inl ⟨by have:=HH.1;simpa using this,rfl⟩⟩
    ·have q4:0<arcs.length:=List.length_pos_iff.2 he
     have q9:((arcs.length:Int)==0)=false:=ai
     have HE:=hd1 he;clear he q4
     go_wp2
     go_ret2
     exact⟨HH.2.2,.inr ⟨arcs,_,by rw[HH.1,if_neg (by simpa using HE.out)],rfl,HH.2.1⟩⟩
end
section
abbrev El:=UInt8×List UInt8×List UInt8
def El.none_:El:=(0,[],[])
def Der.all (xs:List UInt8):Option (List El):=if (Der.seq xs).any (·.isNone) then none else some ((Der.seq xs).filterMap id)
def Cert.must (b:Bool):Option Unit:=if b then some () else none
def Cert.body (u:Int) (x:El):Option (List UInt8):=(Cert.must ((x.1.toNat:Int)==u)).bind fun _=>some x.2.1
def Cert.parts (u lo hi:Int) (x:El):Option (List El):=(Cert.body u x).bind fun b=>(Der.all b).bind fun l=>(Cert.must (decide (lo≤(l.length:Int))&&decide ((l.length:Int)≤hi))).bind fun _=>some l
def Cert.only (xs:List UInt8):Option El:=match Der.elem xs with
 | none=>none
 | some (t,b,r,rest)=>if rest=[] then some (t,b,r) else none
def Cert.number (x:El):Option (List UInt8):=(Cert.body 2 x).bind Der.int
def Cert.small (lim:Int) (x:El):Option Nat:=(Cert.number x).bind fun b=>(Cert.must (decide ((Der.be b:Int)<lim))).bind fun _=>some (Der.be b)
def Cert.arcs (x:El):Option (List Nat):=(Cert.body 6 x).bind Der.oid
def Cert.whole (x:El):Option (List UInt8):=(Cert.body 3 x).bind fun b=>(Der.bits b).bind fun p=>(Cert.must (p.2==0)).bind fun _=>some p.1
def Cert.method (last:Nat) (x:El):Option Unit:=(Cert.parts 48 2 2 x).bind fun l=>(Cert.arcs (l.getD 0 El.none_)).bind fun a=>(Cert.must (a==[1,2,840,113549,1,1,last])).bind fun _=>Cert.must ((l.getD 1 El.none_).2.2==[5,0])
def Cert.key (x:El):Option (List UInt8×Nat):=(Cert.parts 48 2 2 x).bind fun l=>(Cert.method 1 (l.getD 0 El.none_)).bind fun _=>(Cert.whole (l.getD 1 El.none_)).bind fun b=>(Cert.only b).bind fun y=>
 (Cert.parts 48 2 2 y).bind fun m=>(Cert.number (m.getD 0 El.none_)).bind fun n=>(Cert.small 8589934592 (m.getD 1 El.none_)).bind fun e=>some (n,e)
theorem bI {b:Bool} (h:b=true):Cert.must b=some ():=by subst h;rfl
theorem cX {b:Bool} (h:b=false):Cert.must b=none:=by subst h;rfl
theorem kP {xs:List UInt8} (h:(Der.seq xs).any (·.isNone)=true):Der.all xs=none:=by unfold Der.all;rw[if_pos h]
theorem i6 {xs:List UInt8} {L:List El} (h:Der.seq xs=L.map some):Der.all xs=some L:=by
 unfold Der.all;rw[h,if_neg (by simp[List.any_map,Function.comp_def]),List.filterMap_map];simp
theorem jp {xs:List UInt8} {L:List El} (h:Der.all xs=some L):∀x∈L,x.2.1.length≤xs.length∧x.2.2.length≤xs.length:=by
 intro x hx;have hs:x∈(Der.seq xs).filterMap id:=by
  unfold Der.all at h
  split at h
  ·cases h
  ·injection h with h;rw[h];exact hx
 obtain⟨y,hy,e⟩:=List.mem_filterMap.1 hs;have e:y=some x:=e;subst e;obtain⟨t,b,r⟩:=x;exact ld _ _ t b r hy
theorem vm {u:Int} {x:El} {b:List UInt8} (h:Cert.body u x=some b):b=x.2.1∧(x.1.toNat:Int)=u:=by
 unfold Cert.body at h
 by_cases h1:((x.1.toNat:Int)==u)=true
 ·rw[bI h1]at h
  injection h with h
  exact⟨h.symm,by simpa using h1⟩
 ·rw[cX (by simpa using h1)]at h
  cases h
theorem ph {xs ys:List UInt8} {k:Nat} (h:Der.bits xs=some (ys,k)):ys.length≤xs.length:=by
 unfold Der.bits at h
 split at h
 ·cases h
 ·split at h
  ·cases h
  ·split at h
   ·injection h with h;injection h with h _;subst h;simp
   ·cases h
theorem xj {x:El} {ys:List UInt8} (h:Cert.whole x=some ys):ys.length≤x.2.1.length:=by
 unfold Cert.whole at h
 cases hb:Cert.body 3 x with
 | none=>rw[hb]at h;cases h
 | some b=>
  rw[hb]at h;obtain⟨rfl,_⟩:=vm hb;simp only[Option.bind_some]at h
  cases hp:Der.bits x.2.1 with
  | none=>rw[hp]at h;cases h
  | some p=>
   rw[hp]at h;simp only[Option.bind_some]at h
   by_cases h1:(p.2==0)=true
   ·rw[bI h1]at h
    injection h with h
    subst h;exact ph hp
   ·rw[cX (by simpa using h1)]at h
    cases h
theorem gU {xs:List UInt8} {x:El} (h:Cert.only xs=some x):x.2.1.length≤xs.length∧x.2.2=xs:=by
 unfold Cert.only at h
 split at h
 ·cases h
 ·rename_i t b r rest he
  split at h
  ·rename_i h0
   injection h with h
   subst h h0;have:=fp he;refine⟨this.1,?_⟩;have e:=this.2.2.2
   rwa [List.append_nil]at e
  ·cases h
end
section
set_option maxRecDepth 100000
theorem ij:∀(l:List EI) (k j:Nat) (x:EI),l[k]? = some x→j<3→(l.flatMap EI.cells)[3*k+j]? = x.cells[j]?
 | [],_,_,_,h,_=>by simp at h
 | y::l,0,j,x,h,hj=>by
  simp at h;subst h;rw[List.flatMap_cons,List.getElem?_append_left (by simp[EI.cells];omega)];simp
 | y::l,k+1,j,x,h,hj=>by
  simp at h;rw[List.flatMap_cons,List.getElem?_append_right (by simp[EI.cells];omega)];have:=ij l k j x h hj;rw[←this]
  congr 1
  simp[EI.cells];omega
theorem aU.get {w:World} {lo hi n c:Nat} {A:Option Addr} {l:List EI} (h:aU w lo hi (.slice A n c) l) {k:Nat} (hk:k<n) :
 ∃g t A1 n1 c1 body A2 n2 c2 raw,A=some ⟨g,0,none⟩∧g<hi∧l[k]? = some ⟨t,.slice A1 n1 c1,body,.slice A2 n2 c2,raw⟩∧
  w.cell? ⟨g,3*k,none⟩=some (.int .u8 (t.toNat:Int))∧w.cell? ⟨g,3*k+1,none⟩=some (.slice A1 n1 c1)∧w.cell? ⟨g,3*k+2,none⟩=some (.slice A2 n2 c2)∧
  Rd w hi A1 n1 c1 body∧Rd w hi A2 n2 c2 raw:=by
 obtain⟨A',c',e,_,_,_,hr⟩:=h.1.shape;injection e with e1 e2 e3
 subst e1 e2 e3;obtain⟨g,cap,e,hg,_⟩:=h.1.1.form ab;injection e with e1 e2 e3
 subst e1;have hx:l[k]? = some (l[k]):=List.getElem?_eq_getElem hk;have hm:=List.getElem_mem hk;have hb:=h.2.1 (l[k].vb,l[k].body) (List.mem_flatMap.2 ⟨_,hm,by simp[EI.rows]⟩);have hw:=h.2.1 (l[k].vr,l[k].raw) (List.mem_flatMap.2 ⟨_,hm,by simp[EI.rows]⟩);obtain⟨A1,n1,c1,f1,r1⟩:=hb.rd;obtain⟨A2,n2,c2,f2,r2⟩:=hw.rd;obtain⟨ad,e,hlt,hcell⟩:=hr.2 ab;injection e with e
 subst e;dsimp only at f1 f2 r1 r2;have c0:=hcell (3*k+0) _ ((ij l k 0 _ hx ab).trans rfl);have qc:=hcell (3*k+1) _ ((ij l k 1 _ hx ab).trans rfl);have qd:=hcell (3*k+2) _ ((ij l k 2 _ hx ab).trans rfl);rw[Addr.add_lit,Nat.zero_add]at c0 qc qd;refine⟨g,l[k].t,A1,n1,c1,l[k].body,A2,n2,c2,l[k].raw,rfl,hlt,?_,c0,?_,?_,r1,r2⟩
 ·rw[hx,←f1,←f2]
 ·rw[qc,f1]
 ·rw[qd,f2]
end
end
end Go.Proofs.YtmpkpphfoidbeaaGreatDoor
