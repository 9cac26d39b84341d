import Derived.Test.YtmpkpphfoidbeaaGreatDoorV13
set_option linter.unusedVariables false
set_option linter.unusedSimpArgs false
namespace Go.Proofs.YtmpkpphfoidbeaaGreatDoor
open Go.RowKit
section
section
set_option maxRecDepth 100000
def Ref.keyAlg:List UInt8:=[48,13,6,9,42,134,72,134,247,13,1,1,1,5,0]
def Ref.version:List UInt8:=[160,3,2,1,2]
def Ref.forHost:List UInt8:=[43,6,1,5,5,7,3,1]
def Ref.five (e:Nat):List UInt8:=[UInt8.ofNat (e / 4294967296 % 256),UInt8.ofNat (e / 16777216 % 256),UInt8.ofNat (e / 65536 % 256),UInt8.ofNat (e / 256 % 256),UInt8.ofNat (e % 256)]
def Ref.rsa (nn:List UInt8) (e:Nat):List UInt8:=Ref.seq [Der.write 2 (Der.putInt nn),Der.write 2 (Der.putInt (Ref.five e))]
def Ref.key (nn:List UInt8) (e:Nat):List UInt8:=Ref.seq [Ref.keyAlg,Der.write 3 ([0]++Ref.rsa nn e)]
def Ref.path (p:Int):List (List UInt8):=if 0≤p then[Der.write 2 (Der.putInt [UInt8.ofNat p.toNat])] else []
def Ref.exts (f:Fl):List (List UInt8):=
 (if f.ca then[Ref.ext [85,29,19] (Ref.seq ([1,1,255]::Ref.path f.path))] else [])++
 (if 0≤f.usage then[Ref.ext [85,29,15] (Ref.ubits f.usage.toNat)] else [])++
 (if f.code then[] else [Ref.ext [85,29,37] (Ref.seq [Der.write 6 Ref.forHost])])
def Ref.extra (f:Fl):List UInt8:=if Ref.exts f=[] then[] else Der.write 163 (Ref.seq (Ref.exts f))
def Ref.tbs (iss sub ser nn:List UInt8) (a b:Tm) (e:Nat) (f:Fl):List UInt8:=
 Ref.seq [Ref.version,Der.write 2 ser,Ref.signAlg,iss,Ref.seq [Ref.general a,Ref.general b],sub,Ref.key nn e,Ref.extra f]
theorem jm (w:World) (v1 v2:Value) (x1 x2:List UInt8) (h1:aJ w w.heap.size v1 x1) (h2:aJ w w.heap.size v2 x2) :
 dn (w.alloc (.cells #[v1,v2] 22)) (w.alloc (.cells #[v1,v2] 22)).heap.size (some ⟨w.heap.size,0,none⟩) 2 2 [(v1,x1),(v2,x2)]:=
 dn.lit w _ [(v1,x1),(v2,x2)] [v1,v2] _ 2 rfl rfl rfl ab (fun v xs hm=>by
  simp only[List.mem_cons,List.not_mem_nil,or_false,Prod.mk.injEq]at hm;rcases hm with⟨rfl,rfl⟩|⟨rfl,rfl⟩<;>assumption)
theorem iy (v1 v2:Value) (x1 x2:List UInt8):(aZ [(v1,x1),(v2,x2)]).length=x1.length+x2.length:=by simp[aZ]
theorem wY (u:Nat):∀n,1≤n→Ref.top u n≤n
 | 0,h=>by omega
 | n+1,_=>by
  unfold Ref.top
  split
  ·rename_i h
   have:=wY u n h.1;omega
  ·exact Nat.le_refl _
theorem xf (u:Nat):(Ref.ubits u).length≤20:=by
 have hl:∀cs k,(Ref.lay u cs k).length=cs.length:=fun cs k=>by
  induction k with
  | zero=>rfl
  | succ k ih=>unfold Ref.lay;rw[List.length_set];exact ih
 have h1:(Ref.lay u (Ref.ub0 (Ref.top u 9)) (Ref.top u 9)).length≤3:=by
  rw[hl];have:=wY u 9 ab;unfold Ref.ub0;simp;omega
 have h2:=aC 3 (Ref.lay u (Ref.ub0 (Ref.top u 9)) (Ref.top u 9)) ab;unfold Ref.ubits;omega
theorem bW (xs:List UInt8):(Der.putInt xs).length≤xs.length+1:=by
 have:=trim_len xs;unfold Der.putInt
 split
 ·rw[List.length_cons];omega
 ·omega
theorem kZ (nm body:List UInt8) (h1:nm.length≤10) (h2:body.length≤1000):(Ref.ext nm body).length≤nm.length+body.length+18:=by
 have a:=aC 6 nm ab;have b:=aC 4 body ab;have c:=aC 48 (Der.write 6 nm++Der.write 4 body) (by rw[List.length_append];omega);unfold Ref.ext Ref.seq;simp only[List.flatten_cons,List.flatten_nil,List.append_nil];rw[List.length_append]at c;omega
theorem nM (f:Fl):(Ref.exts f).flatten.length≤1000:=by
 have h1:(Ref.ext [85,29,19] (Ref.seq ([1,1,255]::Ref.path f.path))).length≤200:=by
  have a:(Ref.seq ([1,1,255]::Ref.path f.path)).length≤100:=by
   unfold Ref.seq Ref.path;have b:=bW [UInt8.ofNat f.path.toNat];have c:=aC 2 (Der.putInt [UInt8.ofNat f.path.toNat]) (by simp at b;omega)
   split
   ·have d:=aC 48 ([1,1,255]++Der.write 2 (Der.putInt [UInt8.ofNat f.path.toNat])) (by rw[List.length_append];simp at b ⊢;omega)
    rw[List.length_append]at d;simp only[List.flatten_cons,List.flatten_nil,List.append_nil];simp at b d ⊢;omega
   ·have d:=aC 48 [1,1,255] ag
    simp at d ⊢;omega
  have:=kZ [85,29,19] (Ref.seq ([1,1,255]::Ref.path f.path)) ag ab;simp at this;omega
 have h2:(Ref.ext [85,29,15] (Ref.ubits f.usage.toNat)).length≤200:=by
  have a:=xf f.usage.toNat;have:=kZ [85,29,15] (Ref.ubits f.usage.toNat) ag ab;simp at this;omega
 have h3:(Ref.ext [85,29,37] (Ref.seq [Der.write 6 Ref.forHost])).length≤200:=by
  have b:=aC 6 Ref.forHost aj;have e:Ref.forHost.length=8:=rfl;have d:=aC 48 (Der.write 6 Ref.forHost) ab;have a:(Ref.seq [Der.write 6 Ref.forHost]).length≤100:=by
   unfold Ref.seq;simp only[List.flatten_cons,List.flatten_nil,List.append_nil];omega
  have:=kZ [85,29,37] _ ag (show(Ref.seq [Der.write 6 Ref.forHost]).length≤1000 by omega);simp at this;omega
 unfold Ref.exts;simp only[List.flatten_append,List.length_append]
 split<;>split<;>split<;>simp<;>omega
theorem gE (t:Tm):(Ref.general t).length≤21:=by
 have h0:((Ref.nums t).flatMap Ref.two++[90]).length=15:=rfl;have h1:=aC 24 ((Ref.nums t).flatMap Ref.two++[90]) ab;unfold Ref.general;omega
theorem nL (f:Fl):(Ref.extra f).length≤1100:=by
 have h0:=nM f;unfold Ref.extra
 split
 ·simp
 ·have h1:=aC 48 (Ref.exts f).flatten ab
  have h2:=aC 163 (Ref.seq (Ref.exts f)) (by unfold Ref.seq;omega);unfold Ref.seq at h2;unfold Ref.seq;omega
theorem fu (x y:List UInt8) (n:Nat) (hn:x.length+y.length≤n) (hm:n<4294967296):(Ref.seq [x,y]).length≤n+6:=by
 have h:=aC 48 (x++y) (by rw[List.length_append];omega);rw[List.length_append]at h;unfold Ref.seq;simp only[List.flatten_cons,List.flatten_nil,List.append_nil];omega
theorem sY (x1 x2 x3 x4 x5 x6 x7 x8:List UInt8):([x1,x2,x3,x4,x5,x6,x7,x8]:List (List UInt8)).flatten.length=x1.length+x2.length+x3.length+x4.length+x5.length+x6.length+x7.length+x8.length:=by
 simp only[List.flatten_cons,List.flatten_nil,List.append_nil,List.length_append];omega
theorem z8 (ser iss sub bits ext:List UInt8) (a b:Tm) (h1:ser.length≤100000000) (h2:iss.length≤100000000) (h3:sub.length≤100000000) (h4:bits.length≤1000000001) (h5:ext.length≤1100) :
 ([Ref.version,Der.write 2 ser,Ref.signAlg,iss,Ref.seq [Ref.general a,Ref.general b],sub,Ref.seq [Ref.keyAlg,Der.write 3 bits],ext]:List (List UInt8)).flatten.length≤2000000000:=by
 have g1:=aC 2 ser ab;have g2:=gE a;have g3:=gE b;have g4:=fu (Ref.general a) (Ref.general b) 42 ab ab;have g5:=aC 3 bits ab;have g6:Ref.keyAlg.length=15:=rfl;have g7:=fu Ref.keyAlg (Der.write 3 bits) 1000000022 ab ab;have g8:Ref.version.length=5:=rfl;have g9:Ref.signAlg.length=15:=rfl;rw[sY];omega
def TJ (B p:Nat) (vser viss vsub vbits vext:Value) (ser iss sub bits ext:List UInt8) (a b:Tm):Nat→Value→World→Prop
 | 0,v,w=>dW (Ref.version.map bv) 5 v w∧∀g,v=.slice (some ⟨g,0,none⟩) 5 5→B≤g
 | 1,v,w=>aJ w w.heap.size v Ref.version
 | 2,v,_=>v=.pointer (some ⟨p,4,none⟩)
 | 3,v,_=>v=vser
 | 4,v,w=>aJ w w.heap.size v (Der.write 2 ser)
 | 5,v,w=>dW (Ref.signAlg.map bv) 15 v w∧∀g,v=.slice (some ⟨g,0,none⟩) 15 15→B≤g
 | 6,v,w=>aJ w w.heap.size v Ref.signAlg
 | 7,v,_=>v=.pointer (some ⟨p,2,none⟩)
 | 8,v,_=>v=viss
 | 9,v,_=>v=.pointer (some ⟨p,5,none⟩)
 | 10,v,_=>v=a.v
 | 11,v,w=>aJ w w.heap.size v (Ref.general a)
 | 12,v,_=>v=.pointer (some ⟨p,11,none⟩)
 | 13,v,_=>v=b.v
 | 14,v,w=>aJ w w.heap.size v (Ref.general b)
 | 15,v,w=>iY [Ref.general a,Ref.general b] 2 v w
 | 16,v,w=>aJ w w.heap.size v (Ref.seq [Ref.general a,Ref.general b])
 | 17,v,_=>v=.pointer (some ⟨p,3,none⟩)
 | 18,v,_=>v=vsub
 | 19,v,w=>dW (Ref.keyAlg.map bv) 15 v w∧∀g,v=.slice (some ⟨g,0,none⟩) 15 15→B≤g
 | 20,v,w=>aJ w w.heap.size v Ref.keyAlg
 | 21,v,_=>v=vbits
 | 22,v,w=>aJ w w.heap.size v (Der.write 3 bits)
 | 23,v,w=>iY [Ref.keyAlg,Der.write 3 bits] 2 v w
 | 24,v,w=>aJ w w.heap.size v (Ref.seq [Ref.keyAlg,Der.write 3 bits])
 | 25,v,_=>v=vext
 | 26,v,w=>iY [Ref.version,Der.write 2 ser,Ref.signAlg,iss,Ref.seq [Ref.general a,Ref.general b],sub,Ref.seq [Ref.keyAlg,Der.write 3 bits],ext] 8 v w
 | _,v,w=>az w B w.heap.size v (Ref.seq [Ref.version,Der.write 2 ser,Ref.signAlg,iss,Ref.seq [Ref.general a,Ref.general b],sub,Ref.seq [Ref.keyAlg,Der.write 3 bits],ext])
theorem yE (xs:List UInt8) (l:List (List UInt8)) (h:20≤l.flatten.length):15<(Ref.seq l).length:=by
 unfold Ref.seq;rw[Der.write_len];omega
theorem TJ.mono (B p:Nat) (vser viss vsub vbits vext:Value) (ser iss sub bits ext:List UInt8) (a b:Tm):∀i v w w',KR B w w'→TJ B p vser viss vsub vbits vext ser iss sub bits ext a b i v w→TJ B p vser viss vsub vbits vext ser iss sub bits ext a b i v w':=by
 intro i v w w' h hj
 match i,hj with
 | 0,hj|5,hj|19,hj=>exact⟨h.lit hj.1,hj.2⟩
 | 1,hj|4,hj|6,hj|11,hj|14,hj|16,hj|20,hj|22,hj|24,hj=>exact h.rdv hj
 | 2,hj|3,hj|7,hj|8,hj|9,hj|10,hj|12,hj|13,hj|17,hj|18,hj|21,hj|25,hj=>exact hj
 | 15,hj|23,hj|26,hj=>exact h.rows hj
 | n+27,hj=>exact h.own (yE [] _ (by simp[Ref.version,Ref.signAlg];omega)) hj
set_option maxHeartbeats 4000000 in
theorem tX (vr vt vg:Value) (A1 A2 A3 A4:Option Addr) (n1 c1 n2 c2 n3 c3 n4 c4:Nat) (iss sub ser nn:List UInt8) (a b:Tm) (e:Nat) (f:Fl) (w:World)
 (hr:vr.oneCell'=true) (ht:vt.oneCell'=true) (hg:vg.oneCell'=true)
 (h1:Rd w w.heap.size A1 n1 c1 iss) (h2:Rd w w.heap.size A2 n2 c2 sub) (h3:Rd w w.heap.size A3 n3 c3 ser) (h4:Rd w w.heap.size A4 n4 c4 nn) (hl1:n1≤100000000) (hl2:n2≤100000000) (hl3:n3≤100000000) (hl4:n4≤100000000)
 (ha:a.fits) (hb:b.fits) (he:e<18446744073709551616) (hp:f.path<256) (hu:f.usage<512) (hfl:f.ca=true∧f.path = -1∧f.usage = -1∧f.code=true) :
 Calls Tryz.prog 65 #[(⟨vr,vt,.slice A1 n1 c1,.slice A2 n2 c2,.slice A3 n3 c3,a,b,.slice A4 n4 c4,e,vg,f⟩:CV).val] w (aO (Ref.tbs iss sub ser nn a b e f) w):=by
 have H:=hd4 h1 h2 h3 h4;clear h1 h2 h3 h4;obtain⟨ay,amo,ad,ah,ami,as_⟩:=a;obtain⟨by_,bmo,bd,bh,bmi,bs⟩:=b;obtain⟨ca,path,usage,code⟩:=f;dsimp only at hp hu hfl;have HF:=hd1 hfl;clear hfl;unfold CV.val CV.cells;dsimp only;have HB:=hd1 (aw.new w 72 #[vr,vt,.slice A1 n1 c1,.slice A2 n2 c2,.slice A3 n3 c3,.int .u16 (ay:Int),.int .u8 (amo:Int),.int .u8 (ad:Int),.int .u8 (ah:Int),.int .u8 (ami:Int),.int .u8 (as_:Int),.int .u16 (by_:Int),.int .u8 (bmo:Int),.int .u8 (bd:Int),.int .u8 (bh:Int),.int .u8 (bmi:Int),.int .u8 (bs:Int),.slice A4 n4 c4,.int .u64 (e:Int),vg,.bool ca,.int .i64 path,.int .i64 usage,.bool code]);have qs:(Ref.five e).map bv=[.int .u8 ((e:Int) / 4294967296 % 256),.int .u8 ((e:Int) / 16777216 % 256),.int .u8 ((e:Int) / 65536 % 256),.int .u8 ((e:Int) / 256 % 256),.int .u8 ((e:Int) % 256)]:=by
  unfold Ref.five;simp only[List.map_cons,List.map_nil,bv,UInt8.toNat_ofNat'];simp only[List.cons.injEq,Value.int.injEq,true_and,and_true];omega
 have v0:Below w.heap.size w ((w.alloc (.cells #[vr,vt,.slice A1 n1 c1,.slice A2 n2 c2,.slice A3 n3 c3,.int .u16 (ay:Int),.int .u8 (amo:Int),.int .u8 (ad:Int),.int .u8 (ah:Int),.int .u8 (ami:Int),.int .u8 (as_:Int),.int .u16 (by_:Int),.int .u8 (bmo:Int),.int .u8 (bd:Int),.int .u8 (bh:Int),.int .u8 (bmi:Int),.int .u8 (bs:Int),.slice A4 n4 c4,.int .u64 (e:Int),vg,.bool ca,.int .i64 path,.int .i64 usage,.bool code] 72)).alloc (.cells #[.int .u8 ((e:Int) / 4294967296 % 256),.int .u8 ((e:Int) / 16777216 % 256),.int .u8 ((e:Int) / 65536 % 256),.int .u8 ((e:Int) / 256 % 256),.int .u8 ((e:Int) % 256)] 5)):=((Below.refl _ w).alloc nl_ _).alloc ag _;have q9:Below (w.heap.size+1) (w.alloc (.cells #[vr,vt,.slice A1 n1 c1,.slice A2 n2 c2,.slice A3 n3 c3,.int .u16 (ay:Int),.int .u8 (amo:Int),.int .u8 (ad:Int),.int .u8 (ah:Int),.int .u8 (ami:Int),.int .u8 (as_:Int),.int .u16 (by_:Int),.int .u8 (bmo:Int),.int .u8 (bd:Int),.int .u8 (bh:Int),.int .u8 (bmi:Int),.int .u8 (bs:Int),.slice A4 n4 c4,.int .u64 (e:Int),vg,.bool ca,.int .i64 path,.int .i64 usage,.bool code] 72)) ((w.alloc (.cells #[vr,vt,.slice A1 n1 c1,.slice A2 n2 c2,.slice A3 n3 c3,.int .u16 (ay:Int),.int .u8 (amo:Int),.int .u8 (ad:Int),.int .u8 (ah:Int),.int .u8 (ami:Int),.int .u8 (as_:Int),.int .u16 (by_:Int),.int .u8 (bmo:Int),.int .u8 (bd:Int),.int .u8 (bh:Int),.int .u8 (bmi:Int),.int .u8 (bs:Int),.slice A4 n4 c4,.int .u64 (e:Int),vg,.bool ca,.int .i64 path,.int .i64 usage,.bool code] 72)).alloc (.cells #[.int .u8 ((e:Int) / 4294967296 % 256),.int .u8 ((e:Int) / 16777216 % 256),.int .u8 ((e:Int) / 65536 % 256),.int .u8 ((e:Int) / 256 % 256),.int .u8 ((e:Int) % 256)] 5)):=br_.alloc ag _;have v5:=Rd.lit (w.alloc (.cells #[vr,vt,.slice A1 n1 c1,.slice A2 n2 c2,.slice A3 n3 c3,.int .u16 (ay:Int),.int .u8 (amo:Int),.int .u8 (ad:Int),.int .u8 (ah:Int),.int .u8 (ami:Int),.int .u8 (as_:Int),.int .u16 (by_:Int),.int .u8 (bmo:Int),.int .u8 (bd:Int),.int .u8 (bh:Int),.int .u8 (bmi:Int),.int .u8 (bs:Int),.slice A4 n4 c4,.int .u64 (e:Int),vg,.bool ca,.int .i64 path,.int .i64 usage,.bool code] 72)) 5 (Ref.five e) [.int .u8 ((e:Int) / 4294967296 % 256),.int .u8 ((e:Int) / 16777216 % 256),.int .u8 ((e:Int) / 65536 % 256),.int .u8 ((e:Int) / 256 % 256),.int .u8 ((e:Int) % 256)] (w.heap.size+1) 5 ag qs.symm rfl ab;have HP:=hd3 v0 q9 v5;clear qs v0 q9 v5
 go_enter Tryz.func65,Tryz.ntmps65
 go_wp2_with fail
 refine(fh _ 5 5 (Ref.five e) _ HP.2.2 ab).mono ?_;rintro en w2 ⟨B1,m1,d1,rfl,ho,hb2⟩;have j3:(Der.putInt (Ref.five e)).length=m1:=aM ho;have ko:m1≤6:=by have:=bW (Ref.five e);rw[j3]at this;simpa [Ref.five]using this
 have q0:=HP.1.trans (hb2.mono ai);have z0:=hd1 ((HB.out.below HP.2.1 ag).below hb2 ai);have H2:=hd3 ho q0 hb2;have kb:=q0.size;have j6:=hb2.size;simp only[World.size_alloc]at j6;clear ho hb2 q0 j3;have pa:w2.cell? ⟨w.heap.size,17,none⟩=some (.slice A4 n4 c4):=z0.out.cell 17
 go_upto_region 3 with fail
 obtain⟨W3,hW3⟩:∃W3,w2.alloc (.cells #[.slice B1 m1 d1] 22)=W3:=⟨_,rfl⟩
 obtain⟨gl,hgl⟩:∃gl,w2.heap.size=gl:=⟨_,rfl⟩
 have HL:=hd1 (aw.new w2 22 #[.slice B1 m1 d1]);have qc:Below w2.heap.size w2 (w2.alloc (.cells #[.slice B1 m1 d1] 22)):=br_.alloc nl_ _;have qk:=qc.size;rw[hW3]at HL qc qk ⊢;have kl:W3.cell? ⟨gl,0,none⟩=some (.slice B1 m1 d1):=by rw[←hgl];exact HL.out.cell 0
 have z5:gl<W3.heap.size:=by rw[←hgl];exact HL.out.lt
 have yv:=hd1 (z0.out.below qc ab);have vo:W3.cell? ⟨w.heap.size,17,none⟩=some (.slice A4 n4 c4):=yv.out.cell 17;have q7:=H2.2.1.trans (qc.mono kb);have v7:Rd W3 W3.heap.size A4 n4 c4 nn:=(H.2.2.2.below q7).more q7.size;have v6:Rd W3 W3.heap.size B1 m1 d1 (Der.putInt (Ref.five e)):=(H2.1.rdx).up qc;have kc:=q7.size;rw[hgl];have H3:=hd3 q7 v7 v6;have k6:w.heap.size<W3.heap.size:=yv.out.lt;clear hW3 HL qc q7 v7 v6 pa HP H2 z0 HB qk kb j6 hgl
 go_region_held2 (fun w'=>w'.cell? ⟨w.heap.size,17,none⟩=some (.slice A4 n4 c4)∧w'.cell? ⟨gl,0,none⟩=some (.slice B1 m1 d1)) (first|go_keep)
  (first
    | (go_at_call 42;((with_reducible refine(fh A4 n4 c4 nn _ H3.out.2.1.drew ab).mono ?_);rintro en w4 ⟨B2,m2,d2,rfl,ho4,hb4⟩);have ks:m2≤n4+1:=(by have h1:=bW nn;have h2:=H3.out.2.1.len;have h3:(Der.putInt nn).length=m2:=aM ho4;omega);have qd:Below W3.heap.size W3 w4:=Below.trans aa (hb4.mono nl_);have kv:=qd.size;have j8:w4.cell? ⟨w.heap.size,17,none⟩=some (.slice A4 n4 c4):=(qd.cell (p:=⟨w.heap.size,17,none⟩) am).trans an;have vp:w4.cell? ⟨gl,0,none⟩=some (.slice B1 m1 d1):=(qd.cell (p:=⟨gl,0,none⟩) am).trans an;have H4:=hd2 ho4 qd;clear ho4 hb4 qd)
    | (go_at_call 30;((with_reducible refine(aL 2 2 rfl B2 m2 d2 (Der.putInt nn) _ (H4.out.1.rdx) ab).mono ?_);rintro en w5 ⟨B3,m3,d3,rfl,ho5,hb5⟩);have kx:=hb5.size;have yd:w5.cell? ⟨w.heap.size,17,none⟩=some (.slice A4 n4 c4):=(hb5.cell (p:=⟨w.heap.size,17,none⟩) am).trans an;have vv:w5.cell? ⟨gl,0,none⟩=some (.slice B1 m1 d1):=(hb5.cell (p:=⟨gl,0,none⟩) am).trans an;have H5:=hd2 ho5 hb5;clear ho5 hb5)
    | (go_at_call 30;((with_reducible refine(aL 2 2 rfl B1 m1 d1 (Der.putInt (Ref.five e)) _ (((H3.out.2.2).up H4.out.2).up H5.out.2) ab).mono ?_);rintro en w6 ⟨B4,m4,d4,rfl,ho6,hb6⟩);have ky:=hb6.size;have yh:w6.cell? ⟨w.heap.size,17,none⟩=some (.slice A4 n4 c4):=(hb6.cell (p:=⟨w.heap.size,17,none⟩) am).trans an;have vw:w6.cell? ⟨gl,0,none⟩=some (.slice B1 m1 d1):=(hb6.cell (p:=⟨gl,0,none⟩) am).trans an;have H6:=hd2 ho6 hb6;clear ho6 hb6)
    | (go_at_call 32;((with_reducible refine(bu _ 2 2 [(.slice B3 m3 d3,Der.write 2 (Der.putInt nn)),(.slice B4 m4 d4,Der.write 2 (Der.putInt (Ref.five e)))] _ (jm w6 _ _ _ _ (aJ.mk (H5.out.1.rdx.up H6.out.2)) (aJ.mk H6.out.1.rdx)) ab (by rw[iy];have h1:=aC 2 (Der.putInt nn);have h2:=aC 2 (Der.putInt (Ref.five e));have h3:=bW nn;have h4:=bW (Ref.five e);have h5:=H3.out.2.1.len;have h6:(Ref.five e).length=5:=rfl;omega)).mono ?_);rintro en w7 ⟨B5,m5,d5,rfl,ho7,q4⟩);have qg:Below w6.heap.size w6 w7:=Below.trans aa (q4.mono ag);have kz:=qg.size;have v2:(Ref.rsa nn e).length=m5:=aM ho7;have ys:w7.cell? ⟨w.heap.size,17,none⟩=some (.slice A4 n4 c4):=(qg.cell (p:=⟨w.heap.size,17,none⟩) am).trans an;have vy:w7.cell? ⟨gl,0,none⟩=some (.slice B1 m1 d1):=(qg.cell (p:=⟨gl,0,none⟩) am).trans an;have H7:=hd3 (ho7:az w7 _ w7.heap.size (.slice B5 m5 d5) (Ref.rsa nn e)) qg v2;clear ho7 q4 qg v2))
 have p5:m5≤1000000000:=by
  have h0:=H7.2.2;have h1:=aC 2 (Der.putInt nn);have h2:=aC 2 (Der.putInt (Ref.five e));have h3:=bW nn;have h4:=bW (Ref.five e);have h5:=H3.2.1.len;have h6:(Ref.five e).length=5:=rfl;have h7:=aC 48 (Der.write 2 (Der.putInt nn)++Der.write 2 (Der.putInt (Ref.five e)));unfold Ref.rsa Ref.seq at h0;simp only[List.flatten_cons,List.flatten_nil,List.append_nil]at h0;rw[List.length_append]at h7;omega
 have q4:Below w.heap.size w w7:=((H3.1.trans (H4.2.mono kc)).trans (H5.2.mono ab)).trans ((H6.2.mono ab).trans (H7.2.1.mono ab));have z1:=hd1 (yv.out.below (((H4.2).trans (H5.2.mono ab)).trans ((H6.2.mono ab).trans (H7.2.1.mono ab))) ab);have HZ:=hd1 (az.lit w7 [0] [.int .u8 0] 1 rfl rfl ab);have v1:Rd w7 w7.heap.size B5 m5 d5 (Ref.rsa nn e):=H7.1.rdx;have z2:=hd2 q4 (v1.alloc nl_ (.cells #[.int .u8 0] 5)).rds;have ke:=hd1 H7.2.2;have j7:w.heap.size≤w7.heap.size:=q4.size;clear q4 v1 H7 H6 H5 H4 H3 yv vo kl j8 vp yd vv yh vw ys vy kc kv kx ky kz ko ks z5 k6
 go_upto_region 6 with(first
  | (at_builtin
     refine aP rfl (.tmp 48) (.tmp 49) rfl w7.heap.size (w7.heap.size+1) _ [0] rfl HZ.out ag _ B5 m5 d5 (Ref.rsa nn e) rfl z2.2 (by simp<;>omega) ?_;intro v8 w8 ho8 hg8 hat8 hb8;obtain⟨B6,m6,d6,rfl,hr8⟩:=ho8.rd;have qv:Below w7.heap.size w7 w8:=Below.trans aa hb8;have HR:=hd3 hr8 (z2.1.trans (qv.mono j7)) hr8.len;have q2:=hd1 (z1.out.below qv (by have:=z1.out.lt;omega));clear ho8 hg8 hat8 hb8 hr8 qv)
  | fail)
 have k0:=HR.2.1.size;have zz:w.heap.size<w8.heap.size:=q2.out.lt;clear z1 z2 HZ j7
 go_cut [7] from 8 (fun s7 wx=>s7=.slice none 0 0∧w8=wx)
 case first=>
  go_wp2_with fail
  go_meet
  exact⟨rfl,rfl⟩
 obtain⟨rfl,rfl⟩:=hcut;apply_assumption;refine wp_seq_k fun K hK=>?_
 go_cut [7] from 8 (fun s7 wx=>∃l,XS wx w8.heap.size s7 l∧l.map (·.2)=(if ca then[Ref.ext [85,29,19] (Ref.seq ([1,1,255]::Ref.path path))] else [])∧Below w8.heap.size w8 wx)
 case first=>
  have pb:w8.cell? ⟨w.heap.size,20,none⟩=some (.bool ca):=q2.out.cell 20
  cases ca
  ·exact absurd HF.1 aj
  ·have p4:=ft
   go_upto_region 8 with fail
   go_cut [8] from 9 (fun s8 wx=>∃l,XS wx w8.heap.size s8 l∧l.map (·.2)=[[1,1,255]]∧Below w8.heap.size w8 wx)
   case first=>
    go_wp2_with fail
    go_meet
    refine⟨[(.slice (some ⟨w8.heap.size,0,none⟩) 3 3,[1,1,255])],((XS.lit (w8.alloc (.cells #[.int .u8 1,.int .u8 1,.int .u8 255] 5 (3,4))) [(.slice (some ⟨w8.heap.size,0,none⟩) 3 3,[1,1,255])] [.slice (some ⟨w8.heap.size,0,none⟩) 3 3] _ 1 ag rfl rfl ab (fun p hp=>?_)).lower (lo':=w8.heap.size) ag),rfl,(br_.alloc nl_ _).alloc ag _⟩;obtain rfl:=List.mem_singleton.1 hp;exact aE.blk (heap_alloc_new w8 _) (Rd.conv w8 [1,1,255] [.int .u8 1,.int .u8 1,.int .u8 255] 3 (3,4) rfl rfl ab)
   obtain⟨lm,hxm,hlm,hbm⟩:=hcut;obtain⟨wm,hwm⟩:∃wm,wm=wc:=⟨_,rfl⟩
   subst hwm;have k3:=hbm.size;have HM:=hd3 hxm hlm hbm;have ps:wm.cell? ⟨w.heap.size,21,none⟩=some (.int .i64 path):=(q2.out.below hbm zz).cell 21;clear hxm hlm hbm pb;apply_assumption;refine wp_seq_k fun K hK=>?_
   go_cut [8] from 9 (fun s8 wy=>∃l,XS wy w8.heap.size s8 l∧l.map (·.2)=[1,1,255]::Ref.path path∧Below w8.heap.size w8 wy)
   case first=>
    have p6:¬0≤path:=by have:=HF.2.1;omega
    go_wp2_with fail
    go_meet
    exact⟨lm,HM.1,by rw[HM.2.1];unfold Ref.path;rw[if_neg ab],HM.2.2⟩
   obtain⟨le,hxe,hle,hbe⟩:=hcut;obtain⟨we,hwe⟩:∃we,we=wc:=⟨_,rfl⟩
   subst hwe;obtain⟨E1,f1,rfl,hre⟩:=hxe.rdl;have j1:aZ le=([1,1,255]::Ref.path path).flatten:=by unfold aZ;rw[hle]
   have j2:(aZ le).length≤100:=by
    rw[j1];unfold Ref.path
    split
    ·have h1:=aC 2 (Der.putInt [UInt8.ofNat path.toNat]) (by have:=bW [UInt8.ofNat path.toNat];simp at this;omega)
     have h2:=bW [UInt8.ofNat path.toNat];simp at h1 h2 ⊢;omega
    ·simp
   have kn:le.length≤2:=by
    have:=congrArg List.length hle;unfold Ref.path at this
    split at this<;>simp at this<;>omega
   have k2:=hbe.size;have HE:=hd3 hle hbe hre;clear hxe hle hbe hre j1 HM ps;apply_assumption
   go_wp2_with fail
   refine(bu E1 le.length f1 le _ HE.2.2 ab ab).mono ?_;rintro en wa ⟨Fa,fn,fc,rfl,hoa,hba⟩;have v3:(Ref.seq (le.map (·.2))).length=fn:=aM hoa;have kk:fn≤200:=by
    have h1:=aC 48 (aZ le) ab;have h2:Ref.seq (le.map (·.2))=Der.write 48 (aZ le):=rfl;rw[h2]at v3;omega
   have k1:=hba.size;have HA:=hd2 hoa hba;clear hoa hba v3
   go_wp2_with fail
   refine(tT [85,29,19] Fa fn fc _ _ HA.1.rdx ab ag).mono ?_;rintro en wb ⟨Fb,fm,fd,rfl,hob,hbb⟩;have p7:=hbb.size;have q5:=hd2 hob hbb;clear hob hbb
   go_wp2_with (first
    | (at_builtin
       refine fF rfl (.tmp 68) (.tmp 72) rfl w8.heap.size _ _ aq XS.nil_ ai _ _ _ aq (fA _ _ _) ag ((aE.ownx q5.1 nl_).alloc _) al ?_;intro v9 w9 hx9 hb9)
    | fail)
   go_meet
   refine⟨_,hx9,?_,?_⟩
   ·rw[List.nil_append,List.map_cons,List.map_nil,HE.1];rfl
   ·exact((HE.2.1.trans (HA.2.mono k2)).trans (q5.2.mono ab)).trans (Below.trans (br_.alloc ab _) hb9)
 case rest=>
  obtain⟨l1,hx1,hl1x,hb1x⟩:=hcut;obtain⟨wp,hwp⟩:∃wp,wp=wc:=⟨_,rfl⟩
  subst hwp;have z7:=hb1x.size;have j4:l1.length≤1:=by have:=congrArg List.length hl1x;simp only[List.length_map]at this;rw[this];split<;>simp
  have yy:=hd3 hx1 hl1x hb1x;have pv:wp.cell? ⟨w.heap.size,22,none⟩=some (.int .i64 usage):=(q2.out.below hb1x zz).cell 22;clear hx1 hl1x hb1x;apply_assumption;refine wp_seq_k fun K hK=>?_
  go_cut [7] from 8 (fun s7 wx=>∃l,XS wx w8.heap.size s7 l∧l.map (·.2)=(if ca then[Ref.ext [85,29,19] (Ref.seq ([1,1,255]::Ref.path path))] else [])++(if 0≤usage then[Ref.ext [85,29,15] (Ref.ubits usage.toNat)] else [])∧Below w8.heap.size w8 wx)
  case first=>
   have ma:¬0≤usage:=by have:=HF.2.2.1;omega
   go_wp2_with fail
   go_meet
   exact⟨l1,yy.1,by rw[yy.2.1,if_neg (show ¬0≤usage by omega),List.append_nil],yy.2.2⟩
  obtain⟨l2,hx2,hl2x,hb2x⟩:=hcut;obtain⟨wq,hwq⟩:∃wq,wq=wc:=⟨_,rfl⟩
  subst hwq;have va:=hb2x.size;have j5:l2.length≤2:=by have:=congrArg List.length hl2x;simp only[List.length_map,List.length_append]at this;rw[this];split<;>split<;>simp
  have zn:=hd3 hx2 hl2x hb2x;have p0:wq.cell? ⟨w.heap.size,23,none⟩=some (.bool code):=(q2.out.below hb2x zz).cell 23;clear hx2 hl2x hb2x yy pv z7 j4;apply_assumption;refine wp_seq_k fun K hK=>?_
  go_cut [7] from 8 (fun s7 wx=>∃l,XS wx w8.heap.size s7 l∧l.map (·.2)=Ref.exts ⟨ca,path,usage,code⟩∧Below w8.heap.size w8 wx)
  case first=>
   cases code
   ·exact absurd HF.2.2.2 aj
   ·go_wp2_with fail
    go_meet
    exact⟨l2,zn.1,by rw[zn.2.1];unfold Ref.exts;simp,zn.2.2⟩
  obtain⟨l3,hx3,hl3x,hb3x⟩:=hcut;obtain⟨wr,hwr⟩:∃wr,wr=wc:=⟨_,rfl⟩
  subst hwr;have ve:=hb3x.size;obtain⟨E1,f1,rfl,hre⟩:=hx3.rdl;have j1:aZ l3=(Ref.exts ⟨ca,path,usage,code⟩).flatten:=by unfold aZ;rw[hl3x]
  have j2:=nM ⟨ca,path,usage,code⟩;rw[←j1]at j2;obtain⟨n9,hn9⟩:∃n9,l3.length=n9:=⟨_,rfl⟩
  have v4:n9≤3:=by rw[←hn9];have:=congrArg List.length hl3x;simp only[List.length_map]at this;rw[this];unfold Ref.exts;simp only[List.length_append];split<;>split<;>split<;>simp
  have kd:n9=0↔Ref.exts ⟨ca,path,usage,code⟩=[]:=by rw[←hl3x,←hn9];simp
  rw[hn9]at hre ⊢;have q3:=hd4 hre hl3x hb3x kd;clear hre hl3x hb3x kd hx3 zn p0 j1 hn9 va j5;apply_assumption;refine wp_seq_k fun K hK=>?_
  go_cut [3] from 8 (fun s3 wx=>aJ wx wx.heap.size s3 (Ref.extra ⟨ca,path,usage,code⟩)∧Below w8.heap.size w8 wx)
  case first=>
   by_cases h0:0<n9
   ·have p3:(0:Int)<(n9:Int):=ab
    go_wp2_with fail
    refine(bu E1 n9 f1 l3 _ q3.1 ab ab).mono ?_;rintro en wa ⟨Fa,fn,fc,rfl,hoa,hba⟩;have kk:fn≤3000:=by
     have h1:(Ref.seq (l3.map (·.2))).length=fn:=aM hoa;have h2:=aC 48 (aZ l3) ab;have h3:Ref.seq (l3.map (·.2))=Der.write 48 (aZ l3):=rfl;rw[h3]at h1;omega
    have k1:=hba.size;have HA:=hd2 hoa hba;clear hoa hba
    go_wp2_with fail
    refine(aL 163 163 rfl Fa fn fc _ _ HA.1.rdx ab).mono ?_;rintro en wb ⟨Fb,fm,fd,rfl,hob,hbb⟩;have q5:=hd2 hob hbb;clear hob hbb
    go_wp2_with fail
    go_meet
    refine⟨?_,(q3.2.2.1.trans (HA.2.mono ve)).trans (q5.2.mono ab)⟩;have:Ref.extra ⟨ca,path,usage,code⟩=Der.write 163 (Ref.seq (l3.map (·.2))):=by
     unfold Ref.extra;rw[if_neg (fun h=>by have:=q3.2.2.2.2 h;omega),q3.2.1]
    rw[this];exact aJ.mk q5.1.rdx
   ·obtain rfl:n9=0:=ab
    go_wp2_with fail
    go_meet
    refine⟨?_,q3.2.2.1⟩;have:Ref.extra ⟨ca,path,usage,code⟩=[]:=by
     unfold Ref.extra;rw[if_pos (q3.2.2.2.1 trivial)]
    rw[this];exact aJ.mk Rd.none_
  obtain⟨hv3,hb3x⟩:=hcut;obtain⟨wz,q1⟩:∃wz,wz=wc:=⟨_,rfl⟩
  subst q1;apply_assumption
  go_upto_region 18 with fail
  have q6:=hd1 (q2.out.below hb3x zz);have k4:=hb3x.size;have q1:w.heap.size<wz.heap.size:=ab
  have qh:=HR.2.1.trans (hb3x.mono k0);have vi:∀W:World,Below wz.heap.size wz W→Rd W W.heap.size A3 n3 c3 ser:=fun W h=>((H.2.2.1.below qh).more qh.size).up h
  have z6:∀W:World,Below wz.heap.size wz W→Rd W W.heap.size A1 n1 c1 iss:=fun W h=>((H.1.below qh).more qh.size).up h
  have vn:∀W:World,Below wz.heap.size wz W→Rd W W.heap.size A2 n2 c2 sub:=fun W h=>((H.2.1.below qh).more qh.size).up h
  have j0:∀W:World,Below wz.heap.size wz W→Rd W W.heap.size B6 m6 d6 ([0]++Ref.rsa nn e):=fun W h=>(HR.1.up hb3x).up h
  have z4:∀W:World,Below wz.heap.size wz W→aJ W W.heap.size u3 (Ref.extra ⟨ca,path,usage,code⟩):=fun W h=>(hv3.below h).more h.size
  have kt:=ke.out;have kf:([0]++Ref.rsa nn e).length≤1000000001:=by rw[List.length_append,kt,List.length_singleton];omega
  have k5:=z8 ser iss sub ([0]++Ref.rsa nn e) (Ref.extra ⟨ca,path,usage,code⟩) ⟨ay,amo,ad,ah,ami,as_⟩ ⟨by_,bmo,bd,bh,bmi,bs⟩ (by have:=H.2.2.1.len;omega) (by have:=H.1.len;omega) (by have:=H.2.1.len;omega) kf (nL _);clear hK;refine lq (TJ wz.heap.size w.heap.size (.slice A3 n3 c3) (.slice A1 n1 c1) (.slice A2 n2 c2) (.slice B6 m6 d6) u3 ser iss sub ([0]++Ref.rsa nn e) (Ref.extra ⟨ca,path,usage,code⟩) ⟨ay,amo,ad,ah,ami,as_⟩ ⟨by_,bmo,bd,bh,bmi,bs⟩) (Below wz.heap.size wz) (KR wz.heap.size) rfl (TJ.mono _ _ _ _ _ _ _ _ _ _ _ _ _ _) (fun w w' h1 h2=>h1.trans h2.1) (by show bp _ 130=true;decide +kernel) ac ac br_.drew ⟨?_,?_,?_,?_,?_,?_,?_,?_,?_,?_,?_,?_,?_,?_,?_,?_,?_,?_,?_,?_,?_,?_,?_,?_,?_,?_,?_,?_,?_,trivial⟩ ?_
  ·intro a W hfr hG hdep;exact sx (zs:=(Ref.version).map fun x=>(x.toNat:Int)) (xs:=Ref.version) rfl ag ab ab (hG.size) rfl rfl rfl (fun v w' h1 h2=>⟨h1,h2⟩)
  ·intro a W hfr hG hdep;have d:=hdep 0 ac;exact pc rfl ag rfl d.1 rfl ab d.2 (fun w' h=>h)
  ·intro a W hfr hG hdep;exact lB rfl ag (hfr 1 ac) (BL _ _) rfl
  ·intro a W hfr hG hdep;have d:a.eval (.tmp 104)=.pointer (some ⟨w.heap.size,4,none⟩):=hdep 2 ac;exact jD rfl ag d (fV ((hG.cell (p:=⟨w.heap.size,4,none⟩) q1).trans (q6.out.cell 4))) rfl
  ·intro a W hfr hG hdep;have d:a.eval (.tmp 105)=.slice A3 n3 c3:=hdep 3 ac;exact rh (t:=2) (xs:=ser) rfl ag rfl rfl (by rw[d];exact aJ.mk (vi W hG)) (by have:=H.2.2.1.len;omega) (hG.size) (fun v w'' ho hs=>ho.rd)
  ·intro a W hfr hG hdep;exact sx (zs:=(Ref.signAlg).map fun x=>(x.toNat:Int)) (xs:=Ref.signAlg) rfl ag ab ab (hG.size) rfl rfl rfl (fun v w' h1 h2=>⟨h1,h2⟩)
  ·intro a W hfr hG hdep;have d:=hdep 5 ac;exact pc rfl ag rfl d.1 rfl ab d.2 (fun w' h=>h)
  ·intro a W hfr hG hdep;exact lB rfl ag (hfr 1 ac) (BJ _ _) rfl
  ·intro a W hfr hG hdep;have d:a.eval (.tmp 109)=.pointer (some ⟨w.heap.size,2,none⟩):=hdep 7 ac;exact jD rfl ag d (fV ((hG.cell (p:=⟨w.heap.size,2,none⟩) q1).trans (q6.out.cell 2))) rfl
  ·intro a W hfr hG hdep;exact lB rfl ag (hfr 1 ac) (BM _ _) rfl
  ·intro a W hfr hG hdep;have d:a.eval (.tmp 111)=.pointer (some ⟨w.heap.size,5,none⟩):=hdep 9 ac;exact jD rfl ag d (rJ (t:=⟨ay,amo,ad,ah,ami,as_⟩) (cs:=[.int .u16 (ay:Int),.int .u8 (amo:Int),.int .u8 (ad:Int),.int .u8 (ah:Int),.int .u8 (ami:Int),.int .u8 (as_:Int)]) rfl (fun j v hv=>(hG.cell (p:=⟨w.heap.size,5+j,none⟩) q1).trans ((q6.out.cell (5+j)).trans (by match j,hv with|0,hv|1,hv|2,hv|3,hv|4,hv|5,hv=>exact hv|j+6,hv=>simp at hv))) rfl) rfl
  ·intro a W hfr hG hdep;have d:a.eval (.tmp 112)=_:=hdep 10 ac;exact yS rfl ag d ha (hG.size) (fun v w'' ho hs=>ho.rd)
  ·intro a W hfr hG hdep;exact lB rfl ag (hfr 1 ac) (BN _ _) rfl
  ·intro a W hfr hG hdep;have d:a.eval (.tmp 114)=.pointer (some ⟨w.heap.size,11,none⟩):=hdep 12 ac;exact jD rfl ag d (rJ (t:=⟨by_,bmo,bd,bh,bmi,bs⟩) (cs:=[.int .u16 (by_:Int),.int .u8 (bmo:Int),.int .u8 (bd:Int),.int .u8 (bh:Int),.int .u8 (bmi:Int),.int .u8 (bs:Int)]) rfl (fun j v hv=>(hG.cell (p:=⟨w.heap.size,11+j,none⟩) q1).trans ((q6.out.cell (11+j)).trans (by match j,hv with|0,hv|1,hv|2,hv|3,hv|4,hv|5,hv=>exact hv|j+6,hv=>simp at hv))) rfl) rfl
  ·intro a W hfr hG hdep;have d:a.eval (.tmp 115)=_:=hdep 13 ac;exact yS rfl ag d hb (hG.size) (fun v w'' ho hs=>ho.rd)
  ·intro a W hfr hG hdep;obtain⟨R0,x0,y0,e0,r0⟩:aJ W W.heap.size (a.eval (.tmp 113)) (Ref.general ⟨ay,amo,ad,ah,ami,as_⟩):=hdep 11 ac;obtain⟨R1,x1,y1,e1,r1⟩:aJ W W.heap.size (a.eval (.tmp 116)) (Ref.general ⟨by_,bmo,bd,bh,bmi,bs⟩):=hdep 14 ac;exact pd (l:=[(.slice R0 x0 y0,Ref.general ⟨ay,amo,ad,ah,ami,as_⟩),(.slice R1 x1 y1,Ref.general ⟨by_,bmo,bd,bh,bmi,bs⟩)]) rfl ag ab ab (hG.size) (by simp only[List.map_cons,List.map_nil,e0,e1];rfl) rfl (by intro p hp;simp only[List.mem_cons,List.not_mem_nil,or_false]at hp;rcases hp with rfl|rfl<;>exact aJ.mk (by assumption)) (fun v w' h=>h)
  ·intro a W hfr hG hdep;exact sy rfl ag (hdep 15 ac) (by have h1:=gE ⟨ay,amo,ad,ah,ami,as_⟩;have h2:=gE ⟨by_,bmo,bd,bh,bmi,bs⟩;simp;omega) ab (hG.size) (fun v w'' ho hs=>ho.rd)
  ·intro a W hfr hG hdep;exact lB rfl ag (hfr 1 ac) (BK _ _) rfl
  ·intro a W hfr hG hdep;have d:a.eval (.tmp 119)=.pointer (some ⟨w.heap.size,3,none⟩):=hdep 17 ac;exact jD rfl ag d (fV ((hG.cell (p:=⟨w.heap.size,3,none⟩) q1).trans (q6.out.cell 3))) rfl
  ·intro a W hfr hG hdep;exact sx (zs:=(Ref.keyAlg).map fun x=>(x.toNat:Int)) (xs:=Ref.keyAlg) rfl ag ab ab (hG.size) rfl rfl rfl (fun v w' h1 h2=>⟨h1,h2⟩)
  ·intro a W hfr hG hdep;have d:=hdep 19 ac;exact pc rfl ag rfl d.1 rfl ab d.2 (fun w' h=>h)
  ·intro a W hfr hG hdep;exact uL rfl ag (hfr 6 ac)
  ·intro a W hfr hG hdep;have d:a.eval (.tmp 123)=.slice B6 m6 d6:=hdep 21 ac;exact rh (t:=3) (xs:=[0]++Ref.rsa nn e) rfl ag rfl rfl (by rw[d];exact aJ.mk (j0 W hG)) ab (hG.size) (fun v w'' ho hs=>ho.rd)
  ·intro a W hfr hG hdep;obtain⟨R0,x0,y0,e0,r0⟩:aJ W W.heap.size (a.eval (.tmp 122)) (Ref.keyAlg):=hdep 20 ac;obtain⟨R1,x1,y1,e1,r1⟩:aJ W W.heap.size (a.eval (.tmp 124)) (Der.write 3 ([0]++Ref.rsa nn e)):=hdep 22 ac;exact pd (l:=[(.slice R0 x0 y0,Ref.keyAlg),(.slice R1 x1 y1,Der.write 3 ([0]++Ref.rsa nn e))]) rfl ag ab ab (hG.size) (by simp only[List.map_cons,List.map_nil,e0,e1];rfl) rfl (by intro p hp;simp only[List.mem_cons,List.not_mem_nil,or_false]at hp;rcases hp with rfl|rfl<;>exact aJ.mk (by assumption)) (fun v w' h=>h)
  ·intro a W hfr hG hdep;exact sy rfl ag (hdep 23 ac) (by have h1:=aC 3 ([0]++Ref.rsa nn e) ab;simp only[List.flatten_cons,List.flatten_nil,List.append_nil,List.length_append];have h2:Ref.keyAlg.length=15:=rfl;omega) ab (hG.size) (fun v w'' ho hs=>ho.rd)
  ·intro a W hfr hG hdep;exact uL rfl ag (hfr 3 ac)
  ·intro a W hfr hG hdep;obtain⟨R0,x0,y0,e0,r0⟩:aJ W W.heap.size (a.eval (.tmp 103)) (Ref.version):=hdep 1 ac;obtain⟨R1,x1,y1,e1,r1⟩:aJ W W.heap.size (a.eval (.tmp 106)) (Der.write 2 ser):=hdep 4 ac;obtain⟨R2,x2,y2,e2,r2⟩:aJ W W.heap.size (a.eval (.tmp 108)) (Ref.signAlg):=hdep 6 ac;obtain⟨R3,x3,y3,e3,r3⟩:aJ W W.heap.size (a.eval (.tmp 110)) (iss):=(by rw[show a.eval (.tmp 110)=.slice A1 n1 c1 from hdep 8 ac];exact aJ.mk (z6 W hG));obtain⟨R4,x4,y4,e4,r4⟩:aJ W W.heap.size (a.eval (.tmp 118)) (Ref.seq [Ref.general ⟨ay,amo,ad,ah,ami,as_⟩,Ref.general ⟨by_,bmo,bd,bh,bmi,bs⟩]):=hdep 16 ac;obtain⟨R5,x5,y5,e5,r5⟩:aJ W W.heap.size (a.eval (.tmp 120)) (sub):=(by rw[show a.eval (.tmp 120)=.slice A2 n2 c2 from hdep 18 ac];exact aJ.mk (vn W hG));obtain⟨R6,x6,y6,e6,r6⟩:aJ W W.heap.size (a.eval (.tmp 126)) (Ref.seq [Ref.keyAlg,Der.write 3 ([0]++Ref.rsa nn e)]):=hdep 24 ac;obtain⟨R7,x7,y7,e7,r7⟩:aJ W W.heap.size (a.eval (.tmp 127)) (Ref.extra ⟨ca,path,usage,code⟩):=(by rw[show a.eval (.tmp 127)=u3 from hdep 25 ac];exact z4 W hG);exact pd (l:=[(.slice R0 x0 y0,Ref.version),(.slice R1 x1 y1,Der.write 2 ser),(.slice R2 x2 y2,Ref.signAlg),(.slice R3 x3 y3,iss),(.slice R4 x4 y4,Ref.seq [Ref.general ⟨ay,amo,ad,ah,ami,as_⟩,Ref.general ⟨by_,bmo,bd,bh,bmi,bs⟩]),(.slice R5 x5 y5,sub),(.slice R6 x6 y6,Ref.seq [Ref.keyAlg,Der.write 3 ([0]++Ref.rsa nn e)]),(.slice R7 x7 y7,Ref.extra ⟨ca,path,usage,code⟩)]) rfl ag ab ab (hG.size) (by simp only[List.map_cons,List.map_nil,e0,e1,e2,e3,e4,e5,e6,e7];rfl) rfl (by intro p hp;simp only[List.mem_cons,List.not_mem_nil,or_false]at hp;rcases hp with rfl|rfl|rfl|rfl|rfl|rfl|rfl|rfl<;>exact aJ.mk (by assumption)) (fun v w' h=>h)
  ·intro a W hfr hG hdep;exact sy rfl ag (hdep 26 ac) ab ab (hG.size) (fun v w'' ho hs=>ho.mono hG.size nl_)
  ·intro a W hfr hG hdep;exact xq rfl ag (hdep 27 ac)
  ·intro a W hd hsz hfr hG hJ
   have z3:az W wz.heap.size W.heap.size (a.eval (.tmp 2)) (Ref.tbs iss sub ser nn ⟨ay,amo,ad,ah,ami,as_⟩ ⟨by_,bmo,bd,bh,bmi,bs⟩ e ⟨ca,path,usage,code⟩):=hJ 28 ac;obtain⟨A',n',c',e',_⟩:=z3.rd;simp only[Exit.then];apply_assumption;refine wp_ret ?_;refine bodyPost_ret (v:=a.eval (.tmp 2)) (results_tmp Tryz.results65 _ _ _) hd ⟨A',n',c',by rw[e'],?_,qh.trans (hG.mono qh.size)⟩;rw[e']at z3;exact z3.mono qh.size nl_
end
end
end Go.Proofs.YtmpkpphfoidbeaaGreatDoor
