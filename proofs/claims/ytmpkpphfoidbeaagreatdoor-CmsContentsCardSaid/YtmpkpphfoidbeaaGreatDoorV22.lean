import Derived.Test.YtmpkpphfoidbeaaGreatDoorV21
set_option linter.unusedVariables false
set_option linter.unusedSimpArgs false
set_option maxRecDepth 100000
namespace Go.Proofs.YtmpkpphfoidbeaaGreatDoor
open Go.RowKit
structure LS where
 iss:List UInt8
 kind:List Nat
 serial:List UInt8
 digest:List UInt8
 sig:List UInt8
 attrs:Bool
def LS.row (x:LS) (vk vs vd vg:Value):Array Value:=#[.string ⟨x.iss.toArray⟩,vk,vs,vd,vg,.bool x.attrs]
structure mF (w:World) (x:LS) (vk vs vd vg:Value):Prop where
 k:∃A n c,vk=.slice A n c∧eT w w.heap.size A n c x.kind∧n≤17592186044416
 s:aJ w w.heap.size vs x.serial
 d:aJ w w.heap.size vd x.digest
 g:aJ w w.heap.size vg x.sig
theorem mF.up {w w':World} {x:LS} {vk vs vd vg:Value} (h:mF w x vk vs vd vg) (hb:Below w.heap.size w w'):mF w' x vk vs vd vg:=by
 obtain⟨⟨A,n,c,e,hk,hn⟩,hs,hd,hg⟩:=h;exact⟨⟨A,n,c,e,⟨hk.1.up hb,hk.2⟩,hn⟩,(hs.keep fun p hp=>hb.cell hp).more hb.size,(hd.keep fun p hp=>hb.cell hp).more hb.size,(hg.keep fun p hp=>hb.cell hp).more hb.size⟩
def jt:Array Value:=#[.slice none 0 0,.slice none 0 0,.slice none 0 0,.slice none 0 0,.slice none 0 0,.slice none 0 0]
def LS.issB (x:LS):List UInt8:=Zc.lname (x.iss.take 100)
def LS.serB (x:LS):List UInt8:=Der.putInt (1::x.serial.take 20)
def LS.sigB (x:LS):List UInt8:=x.sig.take 600
theorem setRow_blk {w:World} {g:Nat} {B:TypeId} {cs ds:Array Value} (h:aw w g B cs):aw (w.setRow g ds) g B ds∧w.grownBy (w.setRow g ds) (some g):=by
 refine⟨setRow_heap w g cs ds _ _ h,rfl,rfl,rfl,by simp[World.setRow],fun k hk hne=>?_⟩;unfold World.setRow;simp only[Array.getElem?_modify];rw[if_neg (fun e=>hne (by rw[e]))]
def dw (W:World) (s:Nat) (v0 v1 v2 v3 v4 v5:Value):World:=(((((W.setCell ⟨s,0,none⟩ v0).setCell ⟨s,1,none⟩ v1).setCell ⟨s,2,none⟩ v2).setCell ⟨s,3,none⟩ v3).setCell ⟨s,4,none⟩ v4).setCell ⟨s,5,none⟩ v5
theorem jq {W:World} {s:Nat} {v0 v1 v2 v3 v4 v5 a0 a1 a2 a3 a4 a5:Value} (h:aw W s 54 #[a0,a1,a2,a3,a4,a5]):aw (dw W s v0 v1 v2 v3 v4 v5) s 54 #[v0,v1,v2,v3,v4,v5]:=by
 have:=(((((h.set_ 0 v0).set_ 1 v1).set_ 2 v2).set_ 3 v3).set_ 4 v4).set_ 5 v5;unfold dw
 simpa using this
theorem gZ {w W:World} {s:Nat} {v0 v1 v2 v3 v4 v5:Value} (h:Below w.heap.size w W) (hs:w.heap.size≤s):Below w.heap.size w (dw W s v0 v1 v2 v3 v4 v5):=
 (((((h.setCell hs _).setCell hs _).setCell hs _).setCell hs _).setCell hs _).setCell hs _
theorem fO {W:World} {s:Nat} {v0 v1 v2 v3 v4 v5 a0 a1 a2 a3 a4 a5 v:Value} {xs:List UInt8} (h:aw W s 54 #[a0,a1,a2,a3,a4,a5]) (hr:aE W v xs):aE (dw W s v0 v1 v2 v3 v4 v5) v xs:=by
 refine hr.keep (by unfold dw;simp) fun q cs fr hq=>?_
 have qc:q≠s:=fun e=>by
  subst e;rw[show W.heap[q]? = some (.cells #[a0,a1,a2,a3,a4,a5] 54 (0,0)) from h]at hq;injection hq with hq
  injection hq with _ hq
  exact absurd hq aj
 unfold dw;rw[Below.heap_setCell _ _ _ q qc,Below.heap_setCell _ _ _ q qc,Below.heap_setCell _ _ _ q qc,Below.heap_setCell _ _ _ q qc,Below.heap_setCell _ _ _ q qc,Below.heap_setCell _ _ _ q qc]
theorem gP {w:World} {g:Nat} {v0 v1 v2 v3 v4 v5:Value} (h:aw w g 54 #[v0,v1,v2,v3,v4,v5]):(loadVar 54 ⟨g,0,none⟩).run Tryz.prog w=.ok (.agg #[v0,v1,v2,v3,v4,v5]) w:=by
 have hk:=h.cell;have h0:=run_loadVar_mid (P:=Tryz.prog) w g 0 54 [v0,v1,v2,v3,v4,v5] _ (fun j u hu=>by rw[Nat.zero_add,hk];simpa using hu) Tryz.underlying54 rfl rfl;exact h0
def LS.digB (x:LS):List UInt8:=x.digest.take 32++List.replicate (32 - x.digest.length) 0
def LS.dg (x:LS) (k:Nat):List UInt8:=x.digest.take k++List.replicate (32 - k) 0
theorem k8 {n:Nat} (zs:List Nat) (h:(Zc.koid zs).length=n):n≤1000:=by
 unfold Zc.koid at h
 split at h
 ·simp at h;omega
 ·omega
theorem ot {w w':World} {r:Option Nat} (h:w.grownBy w' r):w.grownBy w'.drew r:=⟨h.os,h.tape,h.output,h.size,h.block⟩
theorem km {w:World} {g n:Nat} {t:TypeId} {xs:List UInt8} (h:aw w g t (xs.map bv).toArray) (hl:xs.length=n) (hn:n≤1000000):Rd w w.heap.size (some ⟨g,0,none⟩) n n xs:=by
 subst hl;refine⟨rfl,Nat.le_refl _,ab,fun h=>(by cases h),fun h0=>⟨g,0,rfl,h.lt⟩,⟨ag,fun h0=>⟨_,rfl,h.lt,fun j v hv=>?_⟩⟩⟩;rw[Addr.add_lit,Nat.zero_add,h.cell]
 simpa using hv
theorem em {w:World} {v:Value} {xs:List UInt8} {g i:Nat} {T:TypeId} {cs:Array Value} (h:aE w v xs) (hb:aw w g T cs) (hT:T≠5) (u:Value):aE (w.setCell ⟨g,i,none⟩ u) v xs:=by
 refine h.keep ag fun q cs' fr hq=>?_
 have qc:q≠g:=fun e=>by
  subst e;rw[show w.heap[q]? = some (Obj.cells cs T (0,0)) from hb]at hq;injection hq with hq
  injection hq with _ hq
  exact absurd hq hT
 exact Below.heap_setCell _ _ _ q qc
theorem LS.digB_len32 (x:LS):x.digB.length=32:=by
 unfold LS.digB;rw[List.length_append,List.length_take,List.length_replicate];omega
theorem LS.dg_set (x:LS) {k:Nat} {y:UInt8} (hk:k<32) (hy:x.digest[k]? = some y):(LS.dg x k).set k y=LS.dg x (k+1):=by
 have hl:=(List.getElem?_eq_some_iff.1 hy).1;unfold LS.dg;rw[df hy,List.set_append_right _ _ ai];obtain⟨d,hd⟩:∃d,32 - k=d+1:=⟨31 - k,ab⟩
 rw[hd,show 32 - (k+1)=d by omega,List.replicate_succ];simp[show k - min k x.digest.length=0 by omega]
theorem LS.dg_end (x:LS) {k:Nat} (hk:k≤32) (hn:k≤x.digest.length) (h:k=32∨k=x.digest.length):LS.dg x k=x.digB:=by
 unfold LS.dg LS.digB;rcases h with rfl|rfl
 ·rw[show 32 - x.digest.length=0 by omega]
 ·rw[List.take_length,List.take_of_length_le hk]
theorem LS.dg_at (x:LS) {k:Nat} (hk:k<32) (hn:k≤x.digest.length):((LS.dg x k).map bv).toArray[k]? = some (.int .u8 0):=by
 unfold LS.dg;obtain⟨d,hd⟩:∃d,32 - k=d+1:=⟨31 - k,ab⟩
 rw[hd,List.replicate_succ,List.getElem?_toArray,List.getElem?_map,List.getElem?_append_right ai];simp[show k - min k x.digest.length=0 by omega,bv]
def gJ (x:LS) (w:World) (e:Ending) (w':World):Prop:=Below w.heap.size w w'∧∃v0 v1 v2 v3 v4 v5,e=.returned (.agg #[v0,v1,v2,v3,v4,v5])∧aE w' v0 x.issB∧aE w' v1 x.serB∧aE w' v5 x.sigB∧
 if x.attrs then aE w' v3 (Zc.koid x.kind)∧aE w' v4 x.digB∧∃S:List (List UInt8),S.Perm [Zc.attrK (Zc.koid x.kind),Zc.attrD x.digB]∧eo S∧aE w' v2 (Der.write 49 S.flatten)
 else v2=.slice none 0 0∧v3=.slice none 0 0∧v4=.slice none 0 0
def uF (B p:Nat) (x:LS) (vt vg:Value) (k:Nat) (v:Value) (w:World):Prop:=
 match k with
 | 0=>v=.pointer (some ⟨p,0,none⟩)
 | 1=>v=.string ⟨x.iss.toArray⟩
 | 2=>aE w v x.iss
 | 3=>aE w v (x.iss.take 100)
 | 4=>v=.string ⟨(x.iss.take 100).toArray⟩
 | 5=>aE w v x.issB
 | 6=>v=vt
 | 7=>aE w v x.serB
 | 8=>v=.pointer (some ⟨p,4,none⟩)
 | 9=>v=vg
 | 10=>aE w v x.sigB
 | 11=>∃a b c,v=.agg #[a,b,.slice none 0 0,.slice none 0 0,.slice none 0 0,c]∧aE w a x.issB∧aE w b x.serB∧aE w c x.sigB
 | _=>∃g,v=.pointer (some ⟨g,0,none⟩)∧B≤g∧aw w g 54 jt
theorem KU.blk {B g:Nat} {w w':World} {t:TypeId} {cs:Array Value} (h:KU B w w') (hb:aw w g t cs) (ht:t≠5):aw w' g t cs:=by
 rcases h.2.2 g hb.lt with e|⟨C,_,e1,_⟩
 ·exact e.trans hb
 ·rw[show w.heap[g]? = some (.cells cs t (0,0)) from hb]at e1
  injection e1 with e1
  injection e1 with e1 e2
  exact absurd e2 ht
theorem uF.up {B p:Nat} {x:LS} {vt vg:Value} (k:Nat) (v:Value) (w w':World) (hR:KU B w w') (h:uF B p x vt vg k v w):uF B p x vt vg k v w':=by
 match k,h with
 | 0,h|1,h|4,h|6,h|8,h|9,h=>exact h
 | 2,h|3,h|5,h|7,h|10,h=>exact hR.rdt h
 | 11,⟨a,b,c,e,h1,h2,h3⟩=>exact⟨a,b,c,e,hR.rdt h1,hR.rdt h2,hR.rdt h3⟩
 | _+12,⟨g,e,h1,h2⟩=>exact⟨g,e,h1,hR.blk h2 aj⟩
set_option maxHeartbeats 8000000 in
theorem iD (x:LS) (vk vs vd vg:Value) (w:World) (h:mF w x vk vs vd vg) (hi:x.iss.length≤9223372036854775807) :
 Calls Tryz.prog 28 #[.agg (x.row vk vs vd vg)] w (gJ x w):=by
 have ys:=aB w (.cells (x.row vk vs vd vg) 51);have j8:=aw.new w 51 (x.row vk vs vd vg);obtain⟨⟨Ak,nk,ck,rfl,hk,hnk⟩,⟨As,ns,cs,rfl,hs⟩,⟨Ad,nd,cd,rfl,hd⟩,⟨Ag,ng,cg,rfl,hg⟩⟩:=h;have H0:=hd5 hk hnk hs hd hg;clear hk hnk hs hd hg;unfold LS.row at *
 go_enter Tryz.func28,Tryz.ntmps28
 obtain⟨wz,hwz⟩:∃W,W=(w.alloc (.cells #[.string ⟨x.iss.toArray⟩,.slice Ak nk ck,.slice As ns cs,.slice Ad nd cd,.slice Ag ng cg,.bool x.attrs] 51)).alloc (.cells #[.slice none 0 0,.slice none 0 0,.slice none 0 0,.slice none 0 0,.slice none 0 0,.slice none 0 0] 54):=⟨_,rfl⟩
 have qs:wz.heap.size=w.heap.size+1+1:=by rw[hwz];simp
 have yd:aw wz w.heap.size 51 #[.string ⟨x.iss.toArray⟩,.slice Ak nk ck,.slice As ns cs,.slice Ad nd cd,.slice Ag ng cg,.bool x.attrs]:=by rw[hwz];exact j8.alloc _
 have yh:aw wz (w.heap.size+1) 54 #[.slice none 0 0,.slice none 0 0,.slice none 0 0,.slice none 0 0,.slice none 0 0,.slice none 0 0]:=by
  have:=aw.new (w.alloc (.cells #[.string ⟨x.iss.toArray⟩,.slice Ak nk ck,.slice As ns cs,.slice Ad nd cd,.slice Ag ng cg,.bool x.attrs] 51)) 54 #[.slice none 0 0,.slice none 0 0,.slice none 0 0,.slice none 0 0,.slice none 0 0,.slice none 0 0];rw[hwz];simpa using this
 have j2:Below w.heap.size w wz:=by rw[hwz];exact ys.alloc ag _
 have qk:=az.lit wz [1] [.int .u8 1] 1 rfl rfl ab;rw[show wz.heap.size=w.heap.size+1+1 from qs]at qk;have j1:=aB wz (.cells #[.int .u8 1] 5);have H1:=hd5 yd yh j2 qk j1;have RS:=(H0.2.2.1.up j2).up j1;have z5:=RS.cap;have zs:=RS.capm;have HS:=hd1 RS;clear j8 ys yd yh j2 qk j1 RS
 go_wp2_with fail
 rw[←hwz];clear hwz;refine(jY 20 As ns cs x.serial _ HS.out ab ab).mono ?_;rintro e w2 ⟨A2,n2,c2,rfl,ho2,hb2⟩;have y2:=hb2.size;have j5:wz.heap.size+1≤w2.heap.size:=by simpa using y2
 have z3:n2≤20:=by have:=aM ho2;rw[List.length_take]at this;omega
 have H2:=hd3 (H1.2.2.2.1.below hb2 ai) ho2.rdx hb2;clear ho2 hb2 y2;have HZ:=hd1 qs;have vi:w.heap.size+1+1+1≤w2.heap.size:=ab
 clear qs j5
 go_upto_region 3 with(first
  | (at_builtin
     refine aP rfl (.tmp 7) (.tmp 10) rfl (w.heap.size+1+1) (w.heap.size+1+1+1) _ [1] rfl H2.1 ab _ A2 n2 c2 (x.serial.take 20) rfl H2.2.1.rds ai ?_;intro v3 w3 ho3 hg3 hat3 qh;obtain⟨B3,m3,d3,rfl,hr3⟩:=ho3.rd;have H3:=hd2 ho3 (Below.trans ((H1.2.2.2.2.trans (H2.2.2.mono ag)).mono (by rw[HZ.out];exact Nat.le_refl _)) qh:Below (w.heap.size+1+1) wz w3);have z6:wz.heap.size≤w3.heap.size:=H3.2.size;clear ho3 hg3 hat3 qh hr3)
  | fail)
 have qh:Below wz.heap.size wz w3:=by have:=H3.2;rw[←HZ.out]at this;exact this
 have hk:∀V,Below w3.heap.size w3 V→aw V w.heap.size 51 #[.string ⟨x.iss.toArray⟩,.slice Ak nk ck,.slice As ns cs,.slice Ad nd cd,.slice Ag ng cg,.bool x.attrs]∧Rd V V.heap.size B3 m3 d3 (1::x.serial.take 20)∧Rd V V.heap.size Ag ng cg x.sig:=fun V hV=>
  ⟨(H1.1.below qh (by have:=HZ.out;omega)).below hV (by have:=HZ.out;omega),H3.1.rdx.up hV,((H0.2.2.2.2.up H1.2.2.1).up qh).up hV⟩
 have HK:=hd1 hk;clear hk;refine iw (uF w3.heap.size w.heap.size x (.slice B3 m3 d3) (.slice Ag ng cg)) (fun V=>Below w3.heap.size w3 V) (KU w3.heap.size) rfl (KU.refl _) uF.up (fun _ _ h h'=>h.trans h'.1) (by show bp _ 61=true;decide +kernel) ac _ rfl rfl ac br_.drew ⟨?_,?_,?_,?_,?_,?_,?_,?_,?_,?_,?_,?_,?_,trivial⟩ ?_
 ·refine aA.run rfl ?_;intro a' V hfr hG hdep
  have d:a'.eval (.tmp 1)=.pointer (some ⟨w.heap.size,0,none⟩):=hfr 1 ac;exact cH (v:=.pointer (some ⟨w.heap.size,0,none⟩)) (by simp only[execOp,d];simp[go_sem,Act.eval]) ag rfl
 ·refine aA.run rfl ?_;intro a' V hfr hG hdep
  have d:a'.eval (.tmp 12)=.pointer (some ⟨w.heap.size,0,none⟩):=hdep 0 ac;have hc:=(HK.out V hG).1.cell 0;exact dt (v:=.string ⟨x.iss.toArray⟩) rfl ag d (by simp[go_sem,hc]) rfl
 ·refine aA.run rfl ?_;intro a' V hfr hG hdep
  have d:a'.eval (.tmp 13)=.string ⟨x.iss.toArray⟩:=hdep 1 ac;refine eZ (w':=fv V x.iss) (v:=.slice (some ⟨V.heap.size,0,none⟩) x.iss.length (grownCap V x.iss.length 0 5)) (by simp only[execOp,d];simp[kq]) ⟨_,rfl,fun h=>by simp at h,?_,KU.below (it V x.iss) hG.size⟩;exact⟨_,_,_,rfl,mw V x.iss hi,fun ad e=>by injection e with e;subst e;exact⟨_,_,heap_alloc_new _ _⟩⟩
 ·refine aA.run rfl ?_;intro a' V hfr hG hdep
  have d:aE V (a'.eval (.tmp 14)) x.iss:=hdep 2 ac;obtain⟨A,n,c,e,hr,_⟩:=d;refine bV ag rfl Tryz.func58 rfl aj (args:=#[.slice A n c,.int .i64 100]) (by simp only[List.map_toArray,List.map_cons,List.map_nil,e];rfl) (jY 100 A n c x.iss V hr ab (by have:=hr.cap;have:=hr.capm;omega)) ?_;rintro e w' ⟨A',n',c',rfl,ho',hb'⟩;exact⟨_,rfl,aE.own ho',KU.below hb' hG.size⟩
 ·refine aA.run rfl ?_;intro a' V hfr hG hdep
  have d:aE V (a'.eval (.tmp 15)) (x.iss.take 100):=hdep 3 ac;obtain⟨A,n,c,e,hr,_⟩:=d;exact cH (v:=.string ⟨(x.iss.take 100).toArray⟩) (by simp only[execOp,e];simp[dp hr _ Tryz.underlying9]) ag rfl
 ·refine aA.run rfl ?_;intro a' V hfr hG hdep
  have d:a'.eval (.tmp 16)=.string ⟨(x.iss.take 100).toArray⟩:=hdep 4 ac;refine bV ag rfl Tryz.func61 rfl aj (args:=#[.string ⟨(x.iss.take 100).toArray⟩]) (by simp only[List.map_toArray,List.map_cons,List.map_nil,d]) (vY (x.iss.take 100) V (by rw[List.length_take];omega)) ?_;rintro e w' ⟨A',n',c',rfl,ho',hb'⟩;exact⟨_,rfl,aE.own ho',KU.below hb' hG.size⟩
 ·refine aA.run rfl ?_;intro a' V hfr hG hdep
  exact di rfl ag (hfr 3 ac)
 ·refine aA.run rfl ?_;intro a' V hfr hG hdep
  have d:a'.eval (.tmp 18)=.slice B3 m3 d3:=hdep 6 ac;have hl:=(HK.out V hG).2.1.len;simp only[List.length_cons,List.length_take]at hl;refine bV ag rfl Tryz.func42 rfl aj (args:=#[.slice B3 m3 d3]) (by simp only[List.map_toArray,List.map_cons,List.map_nil,d]) (fh B3 m3 d3 _ V (HK.out V hG).2.1 ab) ?_;rintro e w' ⟨A',n',c',rfl,ho',hb'⟩;exact⟨_,rfl,aE.own ho',KU.below hb' hG.size⟩
 ·refine aA.run rfl ?_;intro a' V hfr hG hdep
  have d:a'.eval (.tmp 1)=.pointer (some ⟨w.heap.size,0,none⟩):=hfr 1 ac;exact cH (v:=.pointer (some ⟨w.heap.size,4,none⟩)) (by simp only[execOp,d];simp[go_sem,Act.eval]) ag rfl
 ·refine aA.run rfl ?_;intro a' V hfr hG hdep
  have d:a'.eval (.tmp 20)=.pointer (some ⟨w.heap.size,4,none⟩):=hdep 8 ac;exact dt rfl ag d (fV ((HK.out V hG).1.cell 4)) rfl
 ·refine aA.run rfl ?_;intro a' V hfr hG hdep
  have d:a'.eval (.tmp 21)=.slice Ag ng cg:=hdep 9 ac;have hr:=(HK.out V hG).2.2;refine bV ag rfl Tryz.func58 rfl aj (args:=#[.slice Ag ng cg,.int .i64 600]) (by simp only[List.map_toArray,List.map_cons,List.map_nil,d];rfl) (jY 600 Ag ng cg x.sig V hr ab (by have:=hr.cap;have:=hr.capm;omega)) ?_;rintro e w' ⟨A',n',c',rfl,ho',hb'⟩;exact⟨_,rfl,aE.own ho',KU.below hb' hG.size⟩
 ·refine aA.run rfl ?_;intro a' V hfr hG hdep
  have d1:aE V (a'.eval (.tmp 17)) x.issB:=hdep 5 ac;have d2:aE V (a'.eval (.tmp 19)) x.serB:=hdep 7 ac;have d3:aE V (a'.eval (.tmp 22)) x.sigB:=hdep 10 ac;obtain⟨A1,n1,c1,e1,_⟩:=id d1;obtain⟨A4,n4,c4,e4,_⟩:=id d2;obtain⟨A5,n5,c5,e5,_⟩:=id d3;rw[e1]at d1;rw[e4]at d2;rw[e5]at d3;exact cH (v:=.agg #[.slice A1 n1 c1,.slice A4 n4 c4,.slice none 0 0,.slice none 0 0,.slice none 0 0,.slice A5 n5 c5]) (by
   have f1:a'.tmps[17]?.getD undef=.slice A1 n1 c1:=by simpa [Act.eval]using e1
   have f4:a'.tmps[19]?.getD undef=.slice A4 n4 c4:=by simpa [Act.eval]using e4
   have f5:a'.tmps[22]?.getD undef=.slice A5 n5 c5:=by simpa [Act.eval]using e5
   simp only[execOp];simp[go_sem,f1,f4,f5]) ag ⟨_,_,_,rfl,d1,d2,d3⟩
 ·refine aA.run rfl ?_;intro a' V hfr hG hdep
  refine eZ (w':=V.alloc (.cells jt 54)) (v:=.pointer (some ⟨V.heap.size,0,none⟩)) (by simp only[execOp];simp[go_sem];rfl) ⟨_,rfl,fun h=>by simp at h,⟨_,rfl,hG.size,aw.new _ _ _⟩,KU.below (aB V _) hG.size⟩
 intro a' V hd qs hfr hG hJ;obtain⟨va,vb,vc,e23,r1,r2,r3⟩:∃va vb vc,a'.eval (.tmp 23)=.agg #[va,vb,.slice none 0 0,.slice none 0 0,.slice none 0 0,vc]∧aE V va x.issB∧aE V vb x.serB∧aE V vc x.sigB:=hJ 11 aj aj;obtain⟨g,e4,hg4,hB4⟩:∃g,a'.eval (.tmp 4)=.pointer (some ⟨g,0,none⟩)∧w3.heap.size≤g∧aw V g 54 jt:=hJ 12 aj aj;obtain⟨A5,n5,c5,rfl,_⟩:=id r1;obtain⟨A6,n6,c6,rfl,_⟩:=id r2;obtain⟨A7,n7,c7,rfl,_⟩:=id r3;refine wp_store_row 54 _ _ rfl g _ e4 e23 _ _ hB4 rfl rfl (by simp[Value.oneCell']) ?_;obtain⟨vs,hvs,ha⟩:=eD (by show bp _ 61=true;decide +kernel) hd qs hfr;have v4:vs 12=.pointer (some ⟨g,0,none⟩):=(hvs 12).symm.trans e4;obtain⟨w4,hw4⟩:∃W,W=V.setRow g #[.slice A5 n5 c5,.slice A6 n6 c6,.slice none 0 0,.slice none 0 0,.slice none 0 0,.slice A7 n7 c7]:=⟨_,rfl⟩
 rw[←hw4];change Exit.then _ _ Exit.normal a' w4;have yy:List.range 14=[0,1,2,3,4,5,6,7,8,9,10,11,12,13]:=rfl;simp only[dT,List.map_cons,List.map_nil,List.size_toArray,List.length_cons,List.length_nil,Nat.reduceAdd,yy,List.zip_cons_cons,List.zip_nil_left,List.foldl_cons,List.foldl_nil,Act.put,List.setIfInBounds_toArray,List.set_cons_zero,List.set_cons_succ,List.getD_cons_zero,List.getD_cons_succ,v4]at ha;subst ha;apply_assumption;have hS:=setRow_blk (ds:=#[.slice A5 n5 c5,.slice A6 n6 c6,.slice none 0 0,.slice none 0 0,.slice none 0 0,.slice A7 n7 c7]) hB4;rw[←hw4]at hS;have j0:Below w3.heap.size w3 w4:=hG.grown hS.2 hG.size (fun j hj=>by cases hj;exact hg4);have qd:∀(q:Nat) (cs:Array Value) (fr:Nat×Nat),V.heap[q]? = some (Obj.cells cs 5 fr)→w4.heap[q]? = V.heap[q]?:=fun q cs fr hq=>by
  refine hS.2.block q (Array.getElem?_eq_some_iff.1 hq).1 (fun e=>?_);injection e with e
  rw[e]at hq;rw[show V.heap[g]? = some (Obj.cells jt 54 (0,0)) from hB4]at hq;injection hq with hq
  injection hq with _ hq
  exact absurd hq aj
 have H4:=hd5 hS.1 j0 (r1.keep hS.2.size qd) (r2.keep hS.2.size qd) (r3.keep hS.2.size qd);have qv:Below wz.heap.size wz w4:=qh.trans (j0.mono (by have:=HZ.out;omega));have j7:=H1.1.below qv (by have:=HZ.out;omega);have j3:=j7.cell 5;have y3:=H1.2.1.below qv (by have:=HZ.out;omega);have H5:=hd4 (H1.2.2.1.trans (qv.mono (by have:=HZ.out;omega))) j7 y3 qv;clear hd qs hfr hG hJ hvs hw4 yy hS qd qv j7 y3 hB4 e23 r1 r2 r3 v4 j0 qh
 by_cases ha:x.attrs=true
 ·rw[ha]at j3
  have zn:=H5.2.1.cell 1;have RK:eT w4 w4.heap.size Ak nk ck x.kind:=⟨(H0.1.1.up H1.2.2.1).up H5.2.2.2,H0.1.2⟩
  have HR:=hd1 RK;clear RK
  go_wp2_with fail
  refine(pF Ak nk ck x.kind w4 HR.out H0.2.1).mono ?_;rintro e w5 ⟨A8,n8,c8,rfl,ho5,hb5⟩;have ve:=hb5.size;have vn:=HZ.out;have z7:=hb5.size;have y5:g<w4.heap.size:=H4.1.lt;have B5:=H4.1.below hb5 y5;have X5:=H5.2.1.below hb5 (H5.2.1.lt);have Z5:=H5.2.2.1.below hb5 (H5.2.2.1.lt);obtain⟨y0,y1⟩:=B5.facts;have H6:=hd5 ho5 hb5 B5 X5 Z5;clear ho5 hb5 B5 X5 Z5 j3 zn;have z4:∀W:World,(Instr.makeSlice 22 (.int .i64 32) (.int .i64 32)).run Tryz.prog W=.ok (.slice (some ⟨W.heap.size,0,none⟩) 32 32) (W.alloc (.cells (fS 32) 5)):=fun W=>oc 32 ab W
  have zz:g<w5.heap.size:=ab
  go_wp2_with fail
  obtain⟨w6,hw6⟩:∃W,W=(((w5.setCell ⟨g,3,none⟩ (.slice A8 n8 c8)).setCell ⟨g,4,none⟩ (.slice (some ⟨w5.heap.size,0,none⟩) 32 32)).alloc (.cells (fS 32) 5)):=⟨_,rfl⟩
  rw[←hw6];have y6:w6.heap.size=w5.heap.size+1:=by rw[hw6];simp
  have B6:aw w6 g 54 #[.slice A5 n5 c5,.slice A6 n6 c6,.slice none 0 0,.slice A8 n8 c8,.slice (some ⟨w5.heap.size,0,none⟩) 32 32,.slice A7 n7 c7]:=by
   rw[hw6];have:=((H6.2.2.1.set_ 3 (.slice A8 n8 c8)).set_ 4 (.slice (some ⟨w5.heap.size,0,none⟩) 32 32)).alloc (.cells (fS 32) 5)
   simpa using this
  have D6:aw w6 w5.heap.size 5 ((LS.dg x 0).map bv).toArray:=by
   have h:=aw.new ((w5.setCell ⟨g,3,none⟩ (.slice A8 n8 c8)).setCell ⟨g,4,none⟩ (.slice (some ⟨w5.heap.size,0,none⟩) 32 32)) 5 (fS 32);have hz:fS 32=((LS.dg x 0).map bv).toArray:=by simp[LS.dg,fS]
   rw[hw6,←hz]
   simpa using h
  have z2:w.heap.size+2≤g:=ab
  have b6:Below w.heap.size w w6:=by
   rw[hw6];exact(((H5.1.trans (H6.2.1.mono ab)).setCell (by show w.heap.size≤g;omega) _).setCell (by show w.heap.size≤g;omega) _).alloc ai _
  have X6:aw w6 w.heap.size 51 #[.string ⟨x.iss.toArray⟩,.slice Ak nk ck,.slice As ns cs,.slice Ad nd cd,.slice Ag ng cg,.bool x.attrs]:=by
   rw[hw6];exact((H6.2.2.2.1.far (by show w.heap.size≠g;omega) _).far (by show w.heap.size≠g;omega) _).alloc _
  have Z6:aw w6 (w.heap.size+1) 54 #[.slice none 0 0,.slice none 0 0,.slice none 0 0,.slice none 0 0,.slice none 0 0,.slice none 0 0]:=by
   rw[hw6];exact((H6.2.2.2.2.far (by show w.heap.size+1≠g;omega) _).far (by show w.heap.size+1≠g;omega) _).alloc _
  have K6:∀(q:Nat) (cs:Array Value) (fr:Nat×Nat),w5.heap[q]? = some (Obj.cells cs 5 fr)→w6.heap[q]? = w5.heap[q]?:=fun q cs fr hq=>by
   have j4:q≠g:=fun e=>by
    subst e;rw[show w5.heap[q]? = some (Obj.cells _ 54 (0,0)) from H6.2.2.1]at hq;injection hq with hq
    injection hq with _ hq
    exact absurd hq aj
   have yv:=(Array.getElem?_eq_some_iff.1 hq).1;rw[hw6,Below.heap_alloc _ _ q (by simpa using yv),Below.heap_setCell _ _ _ q j4,Below.heap_setCell _ _ _ q j4]
  have T6:=And.intro (H4.2.2.1.below H6.2.1) (And.intro (H4.2.2.2.1.below H6.2.1) (And.intro (H4.2.2.2.2.below H6.2.1) (And.intro (aE.own H6.1) K6)));have d6:=(H0.2.2.2.1.up H1.2.2.1)
  have q0:=H0.2.2.2.1.len;have qg:Below wz.heap.size wz w6:=by
   rw[hw6];exact(((H5.2.2.2.trans (H6.2.1.mono ab)).setCell (by show wz.heap.size≤g;omega) _).setCell (by show wz.heap.size≤g;omega) _).alloc ai _
  have vo:=qg.size;have H7:=hd8 B6 D6 b6 X6 Z6 T6 (d6.below qg) q0;clear B6 D6 b6 X6 Z6 T6 K6 hw6 d6 q0 qg y0 y1;obtain⟨q5,hq5⟩:∃q,w5.heap.size=q:=⟨_,rfl⟩
  have HQ:=hd1 hq5;rw[hq5]at y6 ⊢;clear hq5
  go_loopw [5] (fun iv wr=>∃k:Nat,k≤32∧k≤nd∧iv=.int .i64 (k:Int)∧aw wr q5 5 ((LS.dg x k).map bv).toArray∧w6.grownBy wr (some q5)) (fun iv _=>32 - (intOf iv).toNat)
  case atStart=>exact⟨0,ab,ab,rfl,by rw[←HQ.out];exact H7.2.1,World.grownBy.refl _ _⟩
  case round=>
   obtain⟨k,hk,hkn,rfl,hB,hgr⟩:=hrel;have q7:=H7.2.2.2.1.grown hgr (fun e=>by injection e with e;have:=HQ.out;omega);have q6:=H7.1.grown hgr (fun e=>by injection e with e;have:=HQ.out;omega);have c3:=q7.cell 3;have g4:=q6.cell 4;have g3:=q6.cell 3;rw[HQ.out]at g4;have HX:=hd2 q7 q6;clear q7 q6;have q0:=H7.2.2.2.2.2.2.2
   by_cases hgo:k<32∧k<nd
   ·obtain⟨h32,hnd⟩:=hgo
    have i1:(k:Int)<32:=ab
    have i2:(k:Int)<(nd:Int):=ab
    obtain⟨bd,od,rfl,hbd,hcell⟩:=H7.2.2.2.2.2.2.1.at_ ab;obtain⟨y,hy⟩:∃y,x.digest[k]? = some y:=⟨_,List.getElem?_eq_getElem ab⟩
    have q1:wr.cell? ⟨bd,od+k,none⟩=some (.int .u8 (y.toNat:Int)):=by
     have h1:=hcell k y hy;exact(World.cell?_of_block (a:=⟨bd,od+k,none⟩) (hgr.block bd ab (fun e=>by injection e with e;have:=HQ.out;omega))).trans h1
    have q2:=(hB.cell k).trans (x.dg_at h32 ab);have q3:=hB.frozen k;have j4:bd≠q5:=by have:=HQ.out;omega
    have j6:=hB.set_ k (bv y);rw[List.setIfInBounds_toArray,←List.map_set,x.dg_set h32 hy]at j6;have HS:=hd2 j6 hgr;clear j6 hgr hB hcell hy q0 hbd;obtain⟨v,hv⟩:∃v,y.toNat=v:=⟨_,rfl⟩
    have HV:=hd1 hv;rw[hv]at q1;clear hv
    go_upto_region 11 with fail
    go_region
    have q9:=HS.1;rw[show bv y=.int .u8 (v:Int) by rw[←HV.out];rfl]at q9;have g9:=HS.2;have HS:=hd2 q9 (show w6.grownBy ((wr.setCell ⟨q5,k,none⟩ (.int .u8 (v:Int))).drew) (some q5) from ot (bM g9 k _));clear q9 g9
    go_wp2_with fail
    go_roundw
    case rel=>exact⟨k+1,ab,ab,by go_num,HS.1,HS.2⟩
    case measure=>first|(simp[intOf];done)|(simp[intOf];omega)
   ·have q4:=x.dg_end hk ab (by omega:k=32∨k=x.digest.length)
    rw[q4]at hB;have tw:∀v xs,aE w5 v xs→aE wr v xs:=fun v xs hv=>hv.keep (by have:=hgr.size;have:=HQ.out;omega) fun q cs fr hq=>by
     have yv:=(Array.getElem?_eq_some_iff.1 hq).1;exact(hgr.block q (by have:=HQ.out;omega) (fun e=>by injection e with e;have:=HQ.out;omega)).trans (H7.2.2.2.2.2.1.2.2.2.2 q cs fr hq)
    have T:=H7.2.2.2.2.2.1;have T8:=tw _ _ T.2.2.2.1;have HT:=hd7 (show Rd wr wr.heap.size A8 n8 c8 (Zc.koid x.kind) from by obtain⟨_,_,_,e1,e2,_⟩:=T8;injection e1 with a1 a2 a3;subst a1 a2 a3;exact e2) (km hB x.digB_len32 ab) (k8 x.kind (aM H6.1)) (And.intro (tw _ _ T.1) (And.intro (tw _ _ T.2.1) (And.intro (tw _ _ T.2.2.1) (And.intro T8 hB)))) (H7.2.2.2.2.1.grown hgr (fun e=>by injection e with e;have:=HQ.out;omega)) (H7.2.2.1.grown hgr H7.2.2.1.size (fun j e=>by injection e with e;have:=HQ.out;omega)) hgr;clear T T8 tw q4 hB hgr q0
    by_cases h32:k<32
    ·have i1:(k:Int)<32:=ab
     have i2:¬((k:Int)<(nd:Int)):=ab
     go_wp2_with fail
     refine(mh A8 (some ⟨q5,0,none⟩) n8 32 c8 32 (Zc.koid x.kind) x.digB wr HT.1 HT.2.1 (by have:=HT.2.2.1;omega) ab).mono ?_;rintro e w7 ⟨S,hS1,hS2,A9,n9,c9,rfl,ho9,hb9⟩;have y7:=hb9.size;have G7:=HX.2.below hb9 HX.2.lt;have Z7:=HT.2.2.2.2.1.below hb9 HT.2.2.2.2.1.lt;have b7:=HT.2.2.2.2.2.1.trans (hb9.mono HT.2.2.2.2.2.1.size);obtain⟨y0,y1⟩:=G7.facts;have H9:=hd7 G7 Z7 b7 (aE.own ho9) hS1 hS2 hb9;clear G7 Z7 b7 ho9 hb9 hS1 hS2
     go_upto_region 13 with fail
     obtain⟨w8,hw8⟩:∃W,W=w7.setCell ⟨g,2,none⟩ (.slice A9 n9 c9):=⟨_,rfl⟩
     rw[←hw8];have hZ:aw w8 (w.heap.size+1) 54 #[.slice none 0 0,.slice none 0 0,.slice none 0 0,.slice none 0 0,.slice none 0 0,.slice none 0 0]:=by rw[hw8];exact H9.2.1.far (by show w.heap.size+1≠g;omega) _
     have hG:aw w8 g 54 #[.slice A5 n5 c5,.slice A6 n6 c6,.slice A9 n9 c9,.slice A8 n8 c8,.slice (some ⟨q5,0,none⟩) 32 32,.slice A7 n7 c7]:=by
      rw[hw8];have:=H9.1.set_ 2 (.slice A9 n9 c9);rw[HQ.out]at this
      simpa using this
     have u8:∀v xs,aE wr v xs→aE w8 v xs:=fun v xs hv=>by rw[hw8];exact em (hv.below H9.2.2.2.2.2.2) H9.1 aj _
     have u9:aE w8 (.slice A9 n9 c9) (Der.write 49 S.flatten):=by rw[hw8];exact em H9.2.2.2.1 H9.1 aj _
     have ub:Below w.heap.size w w8:=by rw[hw8];exact H9.2.2.1.setCell (by show w.heap.size≤g;omega) _
     have T:=HT.2.2.2.1;have HL:=gP hG;have HU:=hd8 (u8 _ _ T.1) (u8 _ _ T.2.1) (u8 _ _ T.2.2.1) (u8 _ _ T.2.2.2.1) (u8 _ _ (aE.blk T.2.2.2.2 HT.2.1)) u9 ub hZ;have g0:=hG.cell 0;have g1:=hG.cell 1;have g2:=hG.cell 2;have g3:=hG.cell 3;have g4:=hG.cell 4;have g5:=hG.cell 5;obtain⟨z0,z1⟩:=hZ.facts;clear hw8 hZ hG u8 u9 ub T y0 y1
     go_wp2_with fail
     have hB:=jq (v0:=.slice A5 n5 c5) (v1:=.slice A6 n6 c6) (v2:=.slice A9 n9 c9) (v3:=.slice A8 n8 c8) (v4:=.slice (some ⟨q5,0,none⟩) 32 32) (v5:=.slice A7 n7 c7) HU.2.2.2.2.2.2.2;have up:∀v xs,aE w8 v xs→aE (dw w8 (w.heap.size+1) (.slice A5 n5 c5) (.slice A6 n6 c6) (.slice A9 n9 c9) (.slice A8 n8 c8) (.slice (some ⟨q5,0,none⟩) 32 32) (.slice A7 n7 c7)) v xs:=fun v xs hv=>fO HU.2.2.2.2.2.2.2 hv
     have qc:gJ x w (.returned (.agg #[.slice A5 n5 c5,.slice A6 n6 c6,.slice A9 n9 c9,.slice A8 n8 c8,.slice (some ⟨q5,0,none⟩) 32 32,.slice A7 n7 c7])) (dw w8 (w.heap.size+1) (.slice A5 n5 c5) (.slice A6 n6 c6) (.slice A9 n9 c9) (.slice A8 n8 c8) (.slice (some ⟨q5,0,none⟩) 32 32) (.slice A7 n7 c7)):=
      ⟨gZ HU.2.2.2.2.2.2.1 ab,_,_,_,_,_,_,rfl,up _ _ HU.1,up _ _ HU.2.1,up _ _ HU.2.2.1,by
        rw[if_pos ha];exact⟨up _ _ HU.2.2.2.1,up _ _ HU.2.2.2.2.1,S,H9.2.2.2.2.1,H9.2.2.2.2.2.1,up _ _ HU.2.2.2.2.2.1⟩⟩
     change bodyPost _ _ _ _ _ (dw w8 (w.heap.size+1) (.slice A5 n5 c5) (.slice A6 n6 c6) (.slice A9 n9 c9) (.slice A8 n8 c8) (.slice (some ⟨q5,0,none⟩) 32 32) (.slice A7 n7 c7));generalize (dw w8 (w.heap.size+1) (.slice A5 n5 c5) (.slice A6 n6 c6) (.slice A9 n9 c9) (.slice A8 n8 c8) (.slice (some ⟨q5,0,none⟩) 32 32) (.slice A7 n7 c7))=WZ at hB qc ⊢;exact bodyPost_ret (cJ Tryz.results28 _ _ _ ⟨w.heap.size+1,0,none⟩ _ rfl (gP hB)) rfl qc
    ·have i1:¬((k:Int)<32):=ab
     go_wp2_with fail
     refine(mh A8 (some ⟨q5,0,none⟩) n8 32 c8 32 (Zc.koid x.kind) x.digB wr HT.1 HT.2.1 (by have:=HT.2.2.1;omega) ab).mono ?_;rintro e w7 ⟨S,hS1,hS2,A9,n9,c9,rfl,ho9,hb9⟩;have y7:=hb9.size;have G7:=HX.2.below hb9 HX.2.lt;have Z7:=HT.2.2.2.2.1.below hb9 HT.2.2.2.2.1.lt;have b7:=HT.2.2.2.2.2.1.trans (hb9.mono HT.2.2.2.2.2.1.size);obtain⟨y0,y1⟩:=G7.facts;have H9:=hd7 G7 Z7 b7 (aE.own ho9) hS1 hS2 hb9;clear G7 Z7 b7 ho9 hb9 hS1 hS2
     go_upto_region 13 with fail
     obtain⟨w8,hw8⟩:∃W,W=w7.setCell ⟨g,2,none⟩ (.slice A9 n9 c9):=⟨_,rfl⟩
     rw[←hw8];have hZ:aw w8 (w.heap.size+1) 54 #[.slice none 0 0,.slice none 0 0,.slice none 0 0,.slice none 0 0,.slice none 0 0,.slice none 0 0]:=by rw[hw8];exact H9.2.1.far (by show w.heap.size+1≠g;omega) _
     have hG:aw w8 g 54 #[.slice A5 n5 c5,.slice A6 n6 c6,.slice A9 n9 c9,.slice A8 n8 c8,.slice (some ⟨q5,0,none⟩) 32 32,.slice A7 n7 c7]:=by
      rw[hw8];have:=H9.1.set_ 2 (.slice A9 n9 c9);rw[HQ.out]at this
      simpa using this
     have u8:∀v xs,aE wr v xs→aE w8 v xs:=fun v xs hv=>by rw[hw8];exact em (hv.below H9.2.2.2.2.2.2) H9.1 aj _
     have u9:aE w8 (.slice A9 n9 c9) (Der.write 49 S.flatten):=by rw[hw8];exact em H9.2.2.2.1 H9.1 aj _
     have ub:Below w.heap.size w w8:=by rw[hw8];exact H9.2.2.1.setCell (by show w.heap.size≤g;omega) _
     have T:=HT.2.2.2.1;have HL:=gP hG;have HU:=hd8 (u8 _ _ T.1) (u8 _ _ T.2.1) (u8 _ _ T.2.2.1) (u8 _ _ T.2.2.2.1) (u8 _ _ (aE.blk T.2.2.2.2 HT.2.1)) u9 ub hZ;have g0:=hG.cell 0;have g1:=hG.cell 1;have g2:=hG.cell 2;have g3:=hG.cell 3;have g4:=hG.cell 4;have g5:=hG.cell 5;obtain⟨z0,z1⟩:=hZ.facts;clear hw8 hZ hG u8 u9 ub T y0 y1
     go_wp2_with fail
     have hB:=jq (v0:=.slice A5 n5 c5) (v1:=.slice A6 n6 c6) (v2:=.slice A9 n9 c9) (v3:=.slice A8 n8 c8) (v4:=.slice (some ⟨q5,0,none⟩) 32 32) (v5:=.slice A7 n7 c7) HU.2.2.2.2.2.2.2;have up:∀v xs,aE w8 v xs→aE (dw w8 (w.heap.size+1) (.slice A5 n5 c5) (.slice A6 n6 c6) (.slice A9 n9 c9) (.slice A8 n8 c8) (.slice (some ⟨q5,0,none⟩) 32 32) (.slice A7 n7 c7)) v xs:=fun v xs hv=>fO HU.2.2.2.2.2.2.2 hv
     have qc:gJ x w (.returned (.agg #[.slice A5 n5 c5,.slice A6 n6 c6,.slice A9 n9 c9,.slice A8 n8 c8,.slice (some ⟨q5,0,none⟩) 32 32,.slice A7 n7 c7])) (dw w8 (w.heap.size+1) (.slice A5 n5 c5) (.slice A6 n6 c6) (.slice A9 n9 c9) (.slice A8 n8 c8) (.slice (some ⟨q5,0,none⟩) 32 32) (.slice A7 n7 c7)):=
      ⟨gZ HU.2.2.2.2.2.2.1 ab,_,_,_,_,_,_,rfl,up _ _ HU.1,up _ _ HU.2.1,up _ _ HU.2.2.1,by
        rw[if_pos ha];exact⟨up _ _ HU.2.2.2.1,up _ _ HU.2.2.2.2.1,S,H9.2.2.2.2.1,H9.2.2.2.2.2.1,up _ _ HU.2.2.2.2.2.1⟩⟩
     change bodyPost _ _ _ _ _ (dw w8 (w.heap.size+1) (.slice A5 n5 c5) (.slice A6 n6 c6) (.slice A9 n9 c9) (.slice A8 n8 c8) (.slice (some ⟨q5,0,none⟩) 32 32) (.slice A7 n7 c7));generalize (dw w8 (w.heap.size+1) (.slice A5 n5 c5) (.slice A6 n6 c6) (.slice A9 n9 c9) (.slice A8 n8 c8) (.slice (some ⟨q5,0,none⟩) 32 32) (.slice A7 n7 c7))=WZ at hB qc ⊢;exact bodyPost_ret (cJ Tryz.results28 _ _ _ ⟨w.heap.size+1,0,none⟩ _ rfl (gP hB)) rfl qc
 ·have y4:x.attrs=false:=by simpa using ha
  rw[y4]at j3;have g0:=H4.1.cell 0;have g1:=H4.1.cell 1;have g2:=H4.1.cell 2;have g3:=H4.1.cell 3;have g4:=H4.1.cell 4;have g5:=H4.1.cell 5;obtain⟨z0,z1⟩:=H5.2.2.1.facts
  go_wp2_with fail
  have hB:=jq (v0:=.slice A5 n5 c5) (v1:=.slice A6 n6 c6) (v2:=.slice none 0 0) (v3:=.slice none 0 0) (v4:=.slice none 0 0) (v5:=.slice A7 n7 c7) H5.2.2.1;have qc:gJ x w (.returned (.agg #[.slice A5 n5 c5,.slice A6 n6 c6,.slice none 0 0,.slice none 0 0,.slice none 0 0,.slice A7 n7 c7])) (dw w4 (w.heap.size+1) (.slice A5 n5 c5) (.slice A6 n6 c6) (.slice none 0 0) (.slice none 0 0) (.slice none 0 0) (.slice A7 n7 c7)):=
   ⟨gZ H5.1 ab,_,_,_,_,_,_,rfl,fO H5.2.2.1 H4.2.2.1,fO H5.2.2.1 H4.2.2.2.1,fO H5.2.2.1 H4.2.2.2.2,by rw[if_neg ha];exact⟨rfl,rfl,rfl⟩⟩
  change bodyPost _ _ _ _ _ (dw w4 (w.heap.size+1) (.slice A5 n5 c5) (.slice A6 n6 c6) (.slice none 0 0) (.slice none 0 0) (.slice none 0 0) (.slice A7 n7 c7));generalize (dw w4 (w.heap.size+1) (.slice A5 n5 c5) (.slice A6 n6 c6) (.slice none 0 0) (.slice none 0 0) (.slice none 0 0) (.slice A7 n7 c7))=WZ at hB qc ⊢;exact bodyPost_ret (cJ Tryz.results28 _ _ _ ⟨w.heap.size+1,0,none⟩ _ rfl (gP hB)) rfl qc
theorem pN (arcs:List Nat) (r:List UInt8) (n:Nat):n<18446744073709551616→Der.oidFrom ⟨arcs,0,false⟩ (Der.pend n++r)=Der.oidFrom ⟨arcs,n,decide (n≠0)⟩ r:=by
 induction n using Nat.strongRecOn generalizing r with
 | ind n ih=>
  intro hn;rcases Nat.eq_zero_or_pos n with h0|h0
  ·subst h0
   rw[Der.pend_zero,List.nil_append]
   rfl
  ·rw[k9 h0,List.append_assoc,ih (n / 128) ab _ ab]
   have hc:(UInt8.ofNat (128+n % 128)).toNat=128+n % 128:=by rw[UInt8.toNat_ofNat'];omega
   show Der.oidFrom _ (UInt8.ofNat (128+n % 128)::r)=_;rw[Der.oidFrom,Der.oidStep];simp only[hc];rw[if_neg,if_pos ab]
   ·simp only
    congr 2
    ·omega
    ·simp;omega
   ·rintro(h|⟨h1,h2⟩)
    ·omega
    ·simp at h1
     omega
theorem rP (s:Der.OidS) (c:Nat) (r:List UInt8) (hc:c<128) (h1:s.n<144115188075855872) :
 Der.oidFrom s (UInt8.ofNat c::r)=Der.oidFrom (if s.arcs=[] then⟨[min ((s.n*128+c) / 40) 2,(s.n*128+c) - 40*min ((s.n*128+c) / 40) 2],0,false⟩ else ⟨s.arcs++[s.n*128+c],0,false⟩) r:=by
 have qc:(UInt8.ofNat c).toNat=c:=by rw[UInt8.toNat_ofNat'];omega
 rw[Der.oidFrom,Der.oidStep];simp only[qc];rw[if_neg (by rintro(h|⟨_,h⟩)<;>omega),if_neg ab,Nat.mod_eq_of_lt hc]
 by_cases ha:s.arcs=[]
 ·rw[if_pos ha,if_pos ha]
 ·rw[if_neg ha,if_neg ha]
theorem yp (x:Nat) (r:List UInt8) (hx:x<18446744073709551616):Der.oidFrom ⟨[],0,false⟩ (Der.sev x++r)=Der.oidFrom ⟨[min (x / 40) 2,x - 40*min (x / 40) 2],0,false⟩ r:=by
 rw[fW,List.append_assoc,pN _ _ _ ab];show Der.oidFrom _ (UInt8.ofNat (x % 128)::r)=_;rw[rP _ _ _ ab (by show x / 128<_;omega),if_pos rfl];simp only;rw[show x / 128*128+x % 128=x by omega]
theorem zN (arcs:List Nat) (ha:arcs≠[]) (x:Nat) (r:List UInt8) (hx:x<18446744073709551616):Der.oidFrom ⟨arcs,0,false⟩ (Der.sev x++r)=Der.oidFrom ⟨arcs++[x],0,false⟩ r:=by
 rw[fW,List.append_assoc,pN _ _ _ ab];show Der.oidFrom _ (UInt8.ofNat (x % 128)::r)=_;rw[rP _ _ _ ab (by show x / 128<_;omega),if_neg ha];simp only;rw[show x / 128*128+x % 128=x by omega]
theorem pP:∀(l arcs:List Nat),arcs≠[]→(∀z∈l,z<18446744073709551616)→Der.oidFrom ⟨arcs,0,false⟩ (Der.sevs l)=some ⟨arcs++l,0,false⟩
 | [],arcs,ha,_=>by rw[List.append_nil];rfl
 | z::l,arcs,ha,h=>by
  show Der.oidFrom _ (Der.sev z++Der.sevs l)=_;rw[zN arcs ha z _ (h z ag),pP l (arcs++[z]) ag (fun y hy=>h y (by simp[hy])),List.append_assoc]
  rfl
theorem tH (zs:List Nat) (h:∀z∈zs,z<18446744073709551616):Der.putOid zs=[]∨Der.oid (Der.putOid zs)=some zs:=by
 match zs,h with
 | [],_=>left;rfl
 | [_],_=>left;rfl
 | a::b::r,h=>
  rw[Der.putOid]
  by_cases hok:Der.putOk a b=true
  ·right
   rw[if_pos hok];unfold Der.putOk at hok;simp only[Bool.and_eq_true,Bool.or_eq_true,decide_eq_true_eq]at hok;unfold Der.oid;rw[yp _ _ ab,pP r _ ag (fun y hy=>h y (by simp[hy]))];simp only;rw[if_neg ag];have e1:min ((40*a+b) / 40) 2=a:=ab
   rw[e1,show 40*a+b - 40*a=b by omega]
   rfl
  ·left
   rw[if_neg hok]
theorem bG {t:UInt8} {b:List UInt8} (k:Nat) (h:b.length≤k) (hk:k<4294967296):(El.mk t b).2.2.length≤k+6:=dH t b k h hk
theorem eQ (zs:List Nat) (h:∀z∈zs,z<18446744073709551616):(Der.oid (Zc.koid zs)).isSome=true∧0<(Zc.koid zs).length∧(Zc.koid zs).length≤1000:=by
 unfold Zc.koid
 split
 ·exact⟨ac,ag,ag⟩
 ·rename_i hn
  refine⟨?_,ab,ab⟩;rcases tH zs h with e|e
  ·rw[e]at hn;simp at hn
  ·rw[e];rfl
theorem i4 {k:List UInt8} (hk:k.length≤1000):El.wf (E.aK k)∧El.wf (El.mk 6 Zc.kind)∧El.wf (El.mk 49 (ax [El.mk 6 k]))∧El.wf (El.mk 6 k)∧(E.aK k).2.2.length≤1050:=by
 have h1:=bG (t:=6) (b:=k) 1000 hk ab;have h2:(ax [El.mk 6 k]).length≤1006:=by rw[aX];exact h1
 have h3:=bG (t:=49) (b:=ax [El.mk 6 k]) 1006 h2 ab;have h4:(El.mk 6 Zc.kind).2.2.length=11:=ac
 have h5:(ax [El.mk 6 Zc.kind,El.mk 49 (ax [El.mk 6 k])]).length≤1023:=by rw[bH,List.length_append];omega
 have h6:=bG (t:=48) (b:=ax [El.mk 6 Zc.kind,El.mk 49 (ax [El.mk 6 k])]) 1023 h5 ab;exact⟨El.mk_wf aj ab,El.mk_wf aj aj,El.mk_wf aj ab,El.mk_wf aj ab,by unfold E.aK;omega⟩
theorem iZ {d:List UInt8} (hk:d.length≤1000):El.wf (E.aD d)∧El.wf (El.mk 6 Zc.digest)∧El.wf (El.mk 49 (ax [El.mk 4 d]))∧El.wf (El.mk 4 d)∧(E.aD d).2.2.length≤1050:=by
 have h1:=bG (t:=4) (b:=d) 1000 hk ab;have h2:(ax [El.mk 4 d]).length≤1006:=by rw[aX];exact h1
 have h3:=bG (t:=49) (b:=ax [El.mk 4 d]) 1006 h2 ab;have h4:(El.mk 6 Zc.digest).2.2.length=11:=ac
 have h5:(ax [El.mk 6 Zc.digest,El.mk 49 (ax [El.mk 4 d])]).length≤1023:=by rw[bH,List.length_append];omega
 have h6:=bG (t:=48) (b:=ax [El.mk 6 Zc.digest,El.mk 49 (ax [El.mk 4 d])]) 1023 h5 ab;exact⟨El.mk_wf aj ab,El.mk_wf aj aj,El.mk_wf aj ab,El.mk_wf aj ab,by unfold E.aD;omega⟩
theorem cM {P:El→Prop} {a b:El} (ha:P a) (hb:P b):∀y∈[a,b],P y:=fun y hy=>by
 simp only[List.mem_cons,List.not_mem_nil,or_false]at hy;rcases hy with rfl|rfl
 ·exact ha
 ·exact hb
theorem bZ {P:El→Prop} {a:El} (ha:P a):∀y∈[a],P y:=fun y hy=>by rw[List.mem_singleton.1 hy];exact ha
theorem uS (p:List UInt8×List UInt8) (ns:List (List UInt8)) {k:List UInt8} (hk:(Der.oid k).isSome=true) (hl:k.length≤1000) (hn:ns.contains Zc.kind=false):Zc.attr p ns (E.aK k)=.ok (Zc.kind,k,p.2):=by
 obtain⟨w1,w2,w3,w4,_⟩:=i4 hl;unfold Zc.attr;rw[bD (u:=48) (x:=E.aK k) (L:=[El.mk 6 Zc.kind,El.mk 49 (ax [El.mk 6 k])]) rfl rfl (cM w2 w3) ag ag,aG];simp only[List.getD_cons_zero,List.getD_cons_succ];rw[kg ac,aG,bD (u:=49) (x:=El.mk 49 (ax [El.mk 6 k])) (L:=[El.mk 6 k]) rfl rfl (bZ w4) ag ag,aG,hn,cO (b:=!false) rfl,aG];simp only[List.getD_cons_zero];unfold Zc.says;rw[if_pos ac,kg hk]
 rfl
theorem uR (p:List UInt8×List UInt8) (ns:List (List UInt8)) {d:List UInt8} (hl:d.length=32) (hn:ns.contains Zc.digest=false):Zc.attr p ns (E.aD d)=.ok (Zc.digest,p.1,d):=by
 obtain⟨w1,w2,w3,w4,_⟩:=iZ (d:=d) ab;unfold Zc.attr;rw[bD (u:=48) (x:=E.aD d) (L:=[El.mk 6 Zc.digest,El.mk 49 (ax [El.mk 4 d])]) rfl rfl (cM w2 w3) ag ag,aG];simp only[List.getD_cons_zero,List.getD_cons_succ];rw[kg ac,aG,bD (u:=49) (x:=El.mk 49 (ax [El.mk 4 d])) (L:=[El.mk 4 d]) rfl rfl (bZ w4) ag ag,aG,hn,cO (b:=!false) rfl,aG];simp only[List.getD_cons_zero];unfold Zc.says;rw[if_neg ac,if_pos ac,eu (u:=4) (x:=El.mk 4 d) rfl,aG];show((Zc.form (decide (d.length=32))).bind _).bind _=_;rw[cO (by simpa using hl)]
 rfl
def E.two (k d:List UInt8):List El:=if Op.bytesLess (Zc.attrD d) (Zc.attrK k) then[E.aD d,E.aK k] else [E.aK k,E.aD d]
theorem qq (k d:List UInt8):((E.two k d).map (·.2.2)).Perm [Zc.attrK k,Zc.attrD d]∧eo ((E.two k d).map (·.2.2)):=by
 unfold E.two
 split
 ·rename_i h
  refine⟨by simpa [lD,lC]using List.Perm.swap _ _ _,?_⟩;simp only[List.map_cons,List.map_nil,lD,lC,eo,List.pairwise_cons,List.mem_singleton,List.not_mem_nil,false_implies,implies_true,and_true,List.Pairwise.nil,forall_eq];exact kT _ _ h
 ·rename_i h
  refine⟨by simp[lD,lC],?_⟩;simp only[List.map_cons,List.map_nil,lD,lC,eo,List.pairwise_cons,List.mem_singleton,List.not_mem_nil,false_implies,implies_true,and_true,List.Pairwise.nil,forall_eq]
  simpa using h
theorem xe {k d:List UInt8} (hk:k.length≤1000) (hd:d.length≤1000):∀y∈E.two k d,El.wf y:=by
 unfold E.two
 split
 ·exact cM (iZ hd).1 (i4 hk).1
 ·exact cM (i4 hk).1 (iZ hd).1
theorem lj {k d:List UInt8} (hk:k.length≤1000) (hd:d.length≤1000):(ax (E.two k d)).length≤2100:=by
 have h1:=(i4 hk).2.2.2.2;have h2:=(iZ hd).2.2.2.2;unfold E.two
 split<;>rw[bH,List.length_append]<;>omega
theorem yH {k d:List UInt8} (hk:k.length≤1000) (hd:d.length≤1000):∀y∈E.two k d,Der.thr 2 y.1 y.2.1=0:=by
 have h1:Der.thr 2 (E.aK k).1 (E.aK k).2.1=0:=aQ (k:=1) (cM (i4 hk).2.1 (i4 hk).2.2.1) (cM (bq _ rfl) (aQ (k:=0) (bZ (i4 hk).2.2.2.1) (bZ (bq _ rfl))));have h2:Der.thr 2 (E.aD d).1 (E.aD d).2.1=0:=aQ (k:=1) (cM (iZ hd).2.1 (iZ hd).2.2.1) (cM (bq _ rfl) (aQ (k:=0) (bZ (iZ hd).2.2.2.1) (bZ (bq _ rfl))));unfold E.two
 split
 ·exact cM h2 h1
 ·exact cM h1 h2
theorem uT {k d:List UInt8} (hk:(Der.oid k).isSome=true) (hl:k.length≤1000) (hd:d.length=32):Zc.attrs (E.two k d) ([],[]) []=.ok (k,d):=by
 unfold E.two
 split
 ·unfold Zc.attrs
  rw[uR _ _ hd aq,aG];unfold Zc.attrs;show(Zc.attr ([],d) [Zc.digest] (E.aK k)).bind _=_;rw[uS _ _ hk hl (show[Zc.digest].contains Zc.kind=false by decide +kernel),aG]
  rfl
 ·unfold Zc.attrs
  rw[uS _ _ hk hl aq,aG];unfold Zc.attrs;show(Zc.attr (k,[]) [Zc.kind] (E.aD d)).bind _=_;rw[uR _ _ hd (show[Zc.kind].contains Zc.digest=false by decide +kernel),aG]
  rfl
theorem iI {k d:List UInt8} (hk:(Der.oid k).isSome=true) (h0:0<k.length) (hl:k.length≤1000) (hd:d.length=32):Zc.attributes (El.mk 160 (ax (E.two k d)))=.ok (Der.write 49 (ax (E.two k d)),k,d):=by
 have hw:=xe hl (d:=d) ab;unfold Zc.attributes;have e:(El.mk 160 (ax (E.two k d))).2.1=ax (E.two k d):=rfl;rw[e,cO (pn hw (qq k d).2),aG,bD (u:=160) (x:=El.mk 160 (ax (E.two k d))) (L:=E.two k d) rfl rfl hw ab (Int.ofNat_le.2 (iq hw)),aG,uT hk hl hd,aG,cO ai,aG]
def E.sgn (I:El) (se:List UInt8) (M:List El) (sg:List UInt8):El:=El.mk 48 (ax ([E.cOne,El.mk 48 (ax [I,El.mk 2 se]),E.sha]++M++[E.rsaC,El.mk 4 sg]))
def E.nm (s:List UInt8):El:=El.mk 48 (ax [El.mk 12 s])
theorem lZ (s:List UInt8):(E.nm s).2.2=Zc.lname s:=by
 unfold E.nm Zc.lname Ref.seq;rw[aR,aX,aR];simp
def LS.pair (x:LS):List El:=E.two (Zc.koid x.kind) x.digB
def LS.mid (x:LS):List El:=if x.attrs then[El.mk 160 (ax x.pair)] else []
def LS.att (x:LS):List UInt8:=if x.attrs then Der.write 49 (ax x.pair) else []
def LS.el (x:LS):El:=E.sgn (E.nm (x.iss.take 100)) x.serB x.mid x.sigB
def LS.sr (x:LS):Sr:=⟨x.issB,x.serB,x.att,if x.attrs then Zc.koid x.kind else [],if x.attrs then x.digB else [],x.sigB⟩
theorem LS.digB_len (x:LS):x.digB.length=32:=by
 unfold LS.digB;rw[List.length_append,List.length_take,List.length_replicate];omega
theorem xO {L:List El} (hl:(ax L).length<4294967296):((Der.elem (Der.write 49 (ax L))).map (·.2.1)).getD []=ax L:=by
 have:=fC (x:=El.mk 49 (ax L)) (El.mk_wf aj hl) [];rw[List.append_nil]at this;rw[show Der.write 49 (ax L)=(El.mk 49 (ax L)).2.2 from rfl,this]
 rfl
theorem eN (A B:List El):ax (A++B)=ax A++ax B:=kG A B
structure LS.Fits (x:LS):Prop where
 z:∀z∈x.kind,z<18446744073709551616
theorem LS.bounds (x:LS) (h:x.Fits):El.wf x.el∧El.wf (E.nm (x.iss.take 100))∧El.wf (El.mk 2 x.serB)∧El.wf (El.mk 48 (ax [E.nm (x.iss.take 100),El.mk 2 x.serB]))∧(∀y∈x.mid,El.wf y)∧El.wf (El.mk 4 x.sigB)∧x.el.2.2.length≤3200∧El.wf (El.mk 12 (x.iss.take 100)):=by
 have h1:(x.iss.take 100).length≤100:=by rw[List.length_take];omega
 have h2:=bG (t:=12) 100 h1 ab;have h3:(ax [El.mk 12 (x.iss.take 100)]).length≤106:=by rw[aX];exact h2
 have h4:=bG (t:=48) 106 h3 ab;have h5:x.serB.length≤22:=by
  have:=bW (1::x.serial.take 20);unfold LS.serB;rw[List.length_cons,List.length_take]at this;omega
 have h6:=bG (t:=2) 22 h5 ab;have h7:(ax [E.nm (x.iss.take 100),El.mk 2 x.serB]).length≤140:=by rw[bH,List.length_append];unfold E.nm;omega
 have h8:=bG (t:=48) 140 h7 ab;have h9:x.sigB.length≤600:=by unfold LS.sigB;rw[List.length_take];omega
 have qg:=bG (t:=4) 600 h9 ab;have hk:=eQ x.kind h.z;have hd:=x.digB_len;have qc:(∀y∈x.mid,El.wf y)∧(ax x.mid).length≤2106:=by
  unfold LS.mid
  split
  ·have:=lj hk.2.2 (d:=x.digB) ab
   refine⟨bZ (El.mk_wf aj (by unfold LS.pair;omega)),?_⟩;rw[aX];exact bG (t:=160) 2100 this ab
  ·exact⟨fun y hy=>(by cases hy),by simp[bP]⟩
 have e1:E.cOne.2.2.length=3:=ac
 have e2:E.sha.2.2.length=15:=ac
 have e3:E.rsaC.2.2.length=15:=ac
 have qd:(ax ([E.cOne,El.mk 48 (ax [E.nm (x.iss.take 100),El.mk 2 x.serB]),E.sha]++x.mid++[E.rsaC,El.mk 4 x.sigB])).length≤3100:=by
  have key:∀X:El,(ax ([E.cOne,X,E.sha]++x.mid++[E.rsaC,El.mk 4 x.sigB])).length=3+(X.2.2.length+15)+(ax x.mid).length+(15+(El.mk 4 x.sigB).2.2.length):=fun X=>by
   rw[eN,eN,aN,bH,bH];simp only[List.length_append];omega
  rw[key];omega
 have qh:=bG (t:=48) 3100 qd ab;exact⟨El.mk_wf aj ab,El.mk_wf aj ab,El.mk_wf aj ab,El.mk_wf aj ab,qc.1,El.mk_wf aj ab,by unfold LS.el E.sgn;omega,El.mk_wf aj ab⟩
theorem LS.els_wf (x:LS) (h:x.Fits):∀y∈[E.cOne,El.mk 48 (ax [E.nm (x.iss.take 100),El.mk 2 x.serB]),E.sha]++x.mid++[E.rsaC,El.mk 4 x.sigB],El.wf y:=by
 obtain⟨_,_,_,w3,w4,w5,_⟩:=x.bounds h;intro y hy;simp only[List.mem_append,List.mem_cons,List.not_mem_nil,or_false]at hy;rcases hy with(⟨rfl|rfl|rfl⟩|hy)|rfl|rfl
 ·exact iK
 ·exact w3
 ·exact hU
 ·exact w4 y hy
 ·exact mX
 ·exact w5
theorem LS.mid_len (x:LS):x.mid.length≤1:=by unfold LS.mid;split<;>simp
theorem LS.read (x:LS) (h:x.Fits):Zc.signer x.el=.ok x.sr:=by
 obtain⟨_,w1,w2,w3,w4,w5,_⟩:=x.bounds h;have hk:=eQ x.kind h.z;have hp:=bD (u:=48) (lo:=5) (hi:=6) (x:=x.el) (L:=[E.cOne,El.mk 48 (ax [E.nm (x.iss.take 100),El.mk 2 x.serB]),E.sha]++x.mid++[E.rsaC,El.mk 4 x.sigB]) rfl rfl (x.els_wf h) ai (by have:=x.mid_len;simp;omega);rw[og hp x.mid_len (bD (u:=48) (x:=El.mk 48 (ax [E.nm (x.iss.take 100),El.mk 2 x.serB])) (L:=[E.nm (x.iss.take 100),El.mk 2 x.serB]) rfl rfl (cM w1 w2) ag ag) rfl rfl (by show(Der.int x.serB).isSome=true;unfold LS.serB;rw[eA];rfl) kK rfl,kV,aG,fX,aG];have hm:Zc.more ([E.cOne,El.mk 48 (ax [E.nm (x.iss.take 100),El.mk 2 x.serB]),E.sha]++x.mid++[E.rsaC,El.mk 4 x.sigB])=.ok (x.att,if x.attrs then Zc.koid x.kind else [],if x.attrs then x.digB else []):=by
  unfold Zc.more LS.mid LS.att
  by_cases ha:x.attrs=true
  ·simp only[ha,if_true]
   rw[if_pos ag];simp only[List.cons_append,List.nil_append,List.getD_cons_zero,List.getD_cons_succ];exact iI hk.1 hk.2.1 hk.2.2 x.digB_len
  ·simp only[ha,if_false,Bool.false_eq_true]
   rw[if_neg ag]
 rw[hm,aG];unfold LS.sr LS.issB;rw[←lZ]
 rfl
theorem LS.one (x:LS) (h:x.Fits):Zc.one1 x.issB x.serB x.att x.sigB=x.el.2.2:=by
 have hk:=eQ x.kind h.z;have qc:Zc.atB x.att=x.mid.map (·.2.2):=by
  unfold Zc.atB LS.att LS.mid
  by_cases ha:x.attrs=true
  ·simp only[ha,if_true]
   have hl:=lj hk.2.2 (d:=x.digB) (by have:=x.digB_len;omega);rw[if_pos (by rw[Der.write_len];omega),xO (by unfold LS.pair;omega),List.map_cons,List.map_nil,aR]
  ·simp only[ha,if_false,Bool.false_eq_true]
   rfl
 unfold Zc.one1 LS.el E.sgn Ref.seq;rw[qc,aR];refine congrArg (Der.write 48) ?_;rw[eN,eN,bH,aN,bH,aR,aR,bH,aR,pi,mZ,yB,lZ];simp[ax,LS.issB]
theorem pI {k d:List UInt8} (hk:k.length≤1000) (hd:d.length≤1000):Der.thr 3 (El.mk 160 (ax (E.two k d))).1 (El.mk 160 (ax (E.two k d))).2.1=0:=aQ (k:=2) (xe hk hd) (yH hk hd)
theorem LS.deep (x:LS) (h:x.Fits):Der.thr 4 x.el.1 x.el.2.1=0:=by
 obtain⟨_,w1,w2,w3,w4,w5,_,w6⟩:=x.bounds h;have hk:=eQ x.kind h.z;refine aQ (k:=3) (x.els_wf h) fun y hy=>?_
 simp only[List.mem_append,List.mem_cons,List.not_mem_nil,or_false]at hy;rcases hy with(⟨rfl|rfl|rfl⟩|hy)|rfl|rfl
 ·exact bq _ rfl
 ·exact aQ (k:=2) (cM w1 w2) (cM (aQ (k:=1) (bZ w6) (bZ (bq _ rfl))) (bq _ rfl))
 ·decide +kernel
 ·unfold LS.mid at hy
  by_cases ha:x.attrs=true
  ·simp only[ha,if_true,List.mem_cons,List.not_mem_nil,or_false]at hy
   rw[hy];exact pI hk.2.2 (Nat.le_trans (Nat.le_of_eq x.digB_len) aj)
  ·simp[ha]at hy
 ·decide +kernel
 ·exact bq _ rfl
theorem sB (x:LS) {S:List (List UInt8)} (h1:S.Perm [Zc.attrK (Zc.koid x.kind),Zc.attrD x.digB]) (h2:eo S) (ha:x.attrs=true):Der.write 49 S.flatten=x.att:=by
 have:=qq (Zc.koid x.kind) x.digB;rw[l6 (h1.trans this.1.symm) h2 this.2];unfold LS.att;rw[if_pos ha]
 rfl
end Go.Proofs.YtmpkpphfoidbeaaGreatDoor
