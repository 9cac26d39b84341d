import Derived.OpenShut
import Derived.Test.YtmpkpphfoidbeaaGreatDoorV31
set_option linter.unusedVariables false
set_option linter.unusedSimpArgs false
set_option maxRecDepth 100000
namespace Go.Proofs.YtmpkpphfoidbeaaGreatDoor
open Go.RowKit
section
open Go.ChangeShapes Go.WideShapes Go.ChangeAt
theorem u8_of_wf {n:Int} (h:(Lit.int .u8 n).wf=true):((UInt8.ofNat n.toNat).toNat:Int)=n:=by
 have h1:IntKind.u8.min=0:=rfl;have h2:IntKind.u8.max=255:=rfl;simp only[Lit.wf,Bool.and_eq_true,decide_eq_true_eq]at h;rw[UInt8.toNat_ofNat'];omega
theorem open_bytes {H:Type} {enc:TypeId×Value→H} {W:World} {a0:Option Addr} {len cap:Nat} {d0:DataW H} {p:List MemPlace}
 (h0:DataW.Trod enc Tryz.prog W 0 (fun _=>true) true 22 (.slice a0 len cap) d0 p):∃xs:List UInt8,Rd W W.heap.size a0 len cap xs:=by
 obtain⟨fuel,hf⟩:=h0;rcases open_ints Tryz.underlying22 Tryz.underlying5 ao hf with⟨hcs,_⟩|⟨x,l,c,zs,hcs,_,hl,hm,hz,_,hcell,hwz⟩
 ·simp[Value.cells]at hcs
  obtain⟨rfl,rfl,rfl⟩:=hcs;exact⟨[],Rd.none_⟩
 ·simp[Value.cells]at hcs
  obtain⟨rfl,rfl,rfl⟩:=hcs;have qh:zs.length=cap:=by simpa using hz
  have qc:∀i,i<cap→W.cell? (x.add i)=some (.int .u8 (zs.getD i 0)):=fun i hi=>hcell i ab
  refine⟨(zs.take len).map fun n=>UInt8.ofNat n.toNat,ai,hl,by simpa [maxLen]using hm,(fun e=>by cases e),fun hc=>?_,ai,fun hn=>?_⟩
  ·obtain⟨b,o,s⟩:=x
   have h1:=qc 0 hc;obtain rfl:s=none:=by simpa [Addr.add]using World.cell?_spot h1
   have qd:=World.block_lt_of_cell? W _ h1;exact⟨b,o,rfl,by simpa [Addr.add]using qd⟩
  ·have h1:=qc 0 ab
   have qd:=World.block_lt_of_cell? W _ h1;refine⟨x,rfl,by rw[jG]at qd;exact qd,fun j u hu=>?_⟩;have hj:j<len:=by
    have:=(List.getElem?_eq_some_iff.1 hu).1;simp at this;omega
   rw[qc j ab];have qg:zs[j]? = some (zs[j]' ab):=List.getElem?_eq_getElem ab;have hw:=hwz (zs[j]' ab) (List.getElem_mem _);simp only[List.map_map,List.getElem?_map,List.getElem?_take,if_pos hj,qg,Option.map_some,Function.comp,Option.some.injEq]at hu;subst hu;simp only[List.getD,qg,Option.getD_some,bv];rw[u8_of_wf hw]
end
set_option linter.unusedSimpArgs false
theorem four_mem {P:El→Prop} {a b c d:El} (ha:P a) (hb:P b) (hc:P c) (hd:P d):∀y∈[a,b,c,d],P y:=fun y hy=>by
 simp only[List.mem_cons,List.not_mem_nil,or_false]at hy;rcases hy with rfl|rfl|rfl|rfl<;>assumption
theorem parse_row4 {v a w S:El} (hL:∀y∈[v,a,w,S],El.wf y) (hD:∀y∈[v,a,w,S],Der.thr 14 y.1 y.2.1=0) (hl:v.2.2.length+a.2.2.length+w.2.2.length+S.2.2.length≤65500) :
 Zc.parse (Ref.seq [v.2.2,a.2.2,w.2.2,S.2.2])=Zc.data [v,a,w,S]:=by
 have qc:=bG (t:=48) (b:=ax [v,a,w,S]) 65500 (by rw[aN,aN,bH];simp only[List.length_append];omega) ab;have e:Ref.seq [v.2.2,a.2.2,w.2.2,S.2.2]=(E.bare [v,a,w,S]).2.2:=rfl;rw[e,l8 hL hD ag ag (by unfold E.bare;omega)]
theorem what_bad {v a h w S:El} {k:List UInt8} {D:List El} (hv:Zc.one v=.ok ()) (ha:Zc.parts 49 1 1 a=.ok [h]) (hh:Zc.hash h=.ok ()) (hw:Zc.parts 48 1 2 w=.ok [El.mk 6 k,El.mk 160 (ax D)]) (hk:(Der.oid k).isSome=true) (hD:∀y∈D,El.wf y) (hn:D.length≠1) :
 Zc.data [v,a,w,S]=.error 9:=by
 rw[show[v,a,w,S]=[v,a,w]++[]++[S] from rfl,zm ag ha,hv,aG,hh,aG,hw,aG,List.getD_cons_zero,kg hk,aG];have:Zc.inner [El.mk 6 k,El.mk 160 (ax D)]=.error 9:=by
  unfold Zc.inner;rw[if_pos (show[El.mk 6 k,El.mk 160 (ax D)].length=2 from rfl)];simp only[List.getD_cons_zero,List.getD_cons_succ];unfold Zc.parts Cert.parts;rw[fx (show(((El.mk 160 (ax D)).1.toNat:Nat):Int)=160 from rfl),Option.bind_some,show(El.mk 160 (ax D)).2.1=ax D from rfl,AX hD,Option.bind_some,cX ai]
  rfl
 rw[this]
 rfl
theorem contents_bad {k:List UInt8} {D:List El} (x:LS) (hx:x.Fits) (hk:(Der.oid k).isSome=true) (hkl:k.length≤1000) (hD:∀y∈D,El.wf y) (hn:D.length≠1) (hl:(ax D).length≤3000) (dD:∀y∈D,Der.thr 9 y.1 y.2.1=0) :
 Zc.parse (Ref.seq [E.cOne.2.2,E.algs.2.2,(El.mk 48 (ax [El.mk 6 k,El.mk 160 (ax D)])).2.2,(El.mk 49 (ax [x.el])).2.2])=.error 9:=by
 have h6:=bG (t:=6) 1000 hkl ab;have w6:El.wf (El.mk 6 k):=El.mk_wf aj ab;have h7:=bG (t:=160) 3000 hl ab;have w7:El.wf (El.mk 160 (ax D)):=El.mk_wf aj ab;have h8:=bG (t:=48) (b:=ax [El.mk 6 k,El.mk 160 (ax D)]) 4100 (by rw[bH,List.length_append];omega) ab;have hb:=x.bounds hx;have h9:=bG (t:=49) (b:=ax [x.el]) 3200 (by rw[aX];exact hb.2.2.2.2.2.2.1) ab;have ha:E.algs.2.2.length=17:=by decide +kernel
 have e1:E.cOne.2.2.length=3:=by decide +kernel
 rw[parse_row4 (v:=E.cOne) (a:=E.algs) (w:=El.mk 48 (ax [El.mk 6 k,El.mk 160 (ax D)])) (S:=El.mk 49 (ax [x.el])) (four_mem iK j9 (El.mk_wf aj (by rw[bH,List.length_append];omega)) (El.mk_wf aj (by rw[aX];omega)))
  (four_mem (P:=fun y=>Der.thr 14 y.1 y.2.1=0) (bq _ rfl) ac (ed 3 (aQ (k:=10) (cM w6 w7) (cM (bq _ rfl) (aQ (k:=9) hD dD)))) (ed 9 (aQ (k:=4) (bZ hb.1) (bZ (x.deep hx))))) ab]
 exact what_bad kV i5 fX (bD (u:=48) (x:=El.mk 48 (ax [El.mk 6 k,El.mk 160 (ax D)])) (L:=[El.mk 6 k,El.mk 160 (ax D)]) rfl rfl (cM w6 w7) ag ag) hk hD hn
theorem contents_good {k:List UInt8} {X:El} (x:LS) (hx:x.Fits) (hk:(Der.oid k).isSome=true) (hkl:k.length≤1000) (hX:El.wf X) (hl:X.2.2.length≤2100) (dX:Der.thr 9 X.1 X.2.1=0) :
 Zc.parse (Ref.seq [E.cOne.2.2,E.algs.2.2,(E.what k [X]).2.2,(El.mk 49 (ax [x.el])).2.2])=.ok ⟨k,X.2.2,[],[x.sr]⟩:=by
 have ha:E.algs.2.2.length=17:=by decide +kernel
 have e1:E.cOne.2.2.length=3:=by decide +kernel
 rw[l9 iK j9 i5 hk hkl ag (bZ hX) (by rw[aX];exact hl) (x.bounds hx).1 ab ab (by have:=(x.bounds hx).2.2.2.2.2.2.1;omega) (bq _ rfl) ac (bZ dX) (ed 7 (x.deep hx)),kV,aG,fX,aG,x.read hx,aG,aX]
set_option linter.unusedSimpArgs false
theorem pair_all {α:Type} {P:α→Prop} {a b:α} (ha:P a) (hb:P b):∀y∈[a,b],P y:=fun y hy=>by
 rcases List.mem_cons.1 hy with rfl|hy
 ·exact ha
 ·rw[List.mem_singleton.1 hy];exact hb
theorem aE.rd14 {w:World} {A:Option Addr} {n c:Nat} {xs:List UInt8} (h:aE w (.slice A n c) xs):Rd w w.heap.size A n c xs:=by
 obtain⟨A',n',c',e,h,_⟩:=h;injection e with e1 e2 e3
 subst e1 e2 e3;exact h
theorem XS.rdt_put {w:World} {lo g n c:Nat} {l:List (Value×List UInt8)} {v v':Value} {xs:List UInt8} (h:XS w lo (.slice (some ⟨g,0,none⟩) n c) l) (i:Nat) (hr:aE w v' xs):aE (w.setCell ⟨g,i,none⟩ v) v' xs:=by
 obtain⟨⟨h1,h2⟩,h3⟩:=h;obtain⟨h4,⟨e,_⟩|⟨g',cap,cur,e,hb,hg,hn,hm,hs,ht⟩⟩:=h1
 ·cases e
 injection e with e1 e2 e3
 injection e1 with e1
 injection e1 with e1
 subst e1;exact hr.keep ag fun g' cs fr hg'=>Below.heap_setCell _ _ _ _ (fun e=>by
  have e:g'=g:=e;subst e;rw[hg]at hg';injection hg' with hg'
  injection hg' with _ ht2 _
  exact absurd ht2 aj)
def nilK:MK:=⟨[],[],0,[],false,false⟩
theorem nilK_fits:nilK.Fits:=⟨fun z hz=>(by cases hz),fun y hy=>(by cases hy)⟩
theorem nilK_rd (w:World):su w nilK (.slice none 0 0) (.slice none 0 0) (.slice none 0 0):=
 ⟨⟨none,0,0,rfl,iO w,ab⟩,⟨none,0,0,rfl,Rd.none_⟩,(by show 0<256;omega),⟨_,0,0,rfl,⟨⟨rfl,Nat.le_refl _,ab,fun h=>absurd h ab,aF.none_,fun p hp=>by simp at hp⟩,fun y hy=>(by cases hy),fun y hy=>(by cases hy)⟩⟩⟩
theorem dflt_fits:LS.dflt.Fits:=⟨fun z hz=>(by cases hz)⟩
theorem nilK_els:nilK.els=[E.cOne,E.algs,E.what (Zc.koid []) nilK.C,El.mk 49 (ax [LS.dflt.el])]:=rfl
theorem nil_len:(nilK.els.map (·.2.2)).flatten.length≤400:=by decide +kernel
set_option maxHeartbeats 8000000 in
theorem contents_main (w:World) (hG:dr w) (t:UInt8) (A:Option Addr) (n c:Nat) (b:List UInt8) (h:Rd w w.heap.size A n c b) :
 Calls Tryz.prog 13 #[.int .u8 (t.toNat:Int),.slice A n c] w (xt w):=by
 have pa:=h.len;have H0:=hd2 hG h;clear hG h
 go_enter Tryz.func13,Tryz.ntmps13
 refine wp_seq_k fun K0 hK0=>?_
 have ve:=hd1 hK0;clear hK0
 go_wp2_with fail
 refine ve.out _ _ ?_;clear ve K0;have ha:=oU t
 by_cases hg:t.toNat % 32≠31∧t.toNat / 32 % 2=0∧n≤1000
 ·have e1:((t.toNat:Int) % 32==31)=false:=by simp;omega
  have e2:(bits .and .u8 (t.toNat:Int) 32 != 0)=false:=by rw[ha,hg.2.1];rfl
  have e3:¬((1000:Int)<(n:Int)):=by omega
  go_wp2_with fail
  refine(cZ t A n c b w H0.2 ab).mono ?_;rintro e w1 ⟨A1,n1,c1,rfl,ho1,hb1⟩;have v0:=hb1.size;have vw:=aM ho1;have k6:n1≤1010:=by have:=bG (t:=t) (b:=b) 1000 ab ab;rw[aR]at this;omega
  have H1:=hd2 (aE.own ho1) hb1;clear ho1 hb1 vw
  go_wp2_with fail
  refine(sD nilK _ _ _ w1 (nilK_rd w1) nilK_fits (Nat.zero_le _)).mono ?_;rintro e w2 ⟨vp,l,rfl,hx,hl,hb2⟩;have kb:=hb2.size;obtain⟨Ap,cp,rfl,_⟩:=id hx.rdl;have vy:l.length=4:=by have:=congrArg List.length hl;rw[List.length_map,List.length_map,(MK.els_one nilK_fits (Nat.zero_le _)).2.1]at this;exact this
  rw[vy]at hx ⊢;obtain⟨gp,rfl,hgp,hgl,_,_⟩:=hx.spot14 ab;have z3:=Rd.lit w2 5 [42,3] [.int .u8 42,.int .u8 3] _ 2 rfl rfl rfl ab;obtain⟨w3,q9⟩:∃V,V=w2.alloc (.cells #[.int .u8 42,.int .u8 3] 5):=⟨_,rfl⟩
  have yd:Below w2.heap.size w2 w3:=by rw[q9];exact aB _ _
  have pb:w3.heap.size ≥ w2.heap.size+1:=by rw[q9];simp
  change Rd (w2.alloc (.cells #[.int .u8 42,.int .u8 3] 5)) _ _ 2 2 [42,3]at z3;rw[←q9]at z3;have j8:=hb2.trans (yd.mono kb);have H3:=hd5 (hx.below yd) hl (H1.1.below j8) z3 (H1.2.trans (j8.mono ab));clear hx hl hb2 z3 yd j8
  go_wp2_with fail
  rw[←q9];clear q9;refine(cZ 6 (some ⟨w2.heap.size,0,none⟩) 2 2 [42,3] w3 H3.2.2.2.1 ab).mono ?_;rintro e w4 ⟨A4,n4,c4,rfl,ho4,hb4⟩;have pe:=hb4.size;have y3:=hd1 (show(Der.write 6 [42,3]).length=4 by decide);have hX:El.wf (El.mk t b):=El.mk_wf hg.1 ab;have j5:=hd1 (show(Der.write t b).length≤1010 by have:=bG (t:=t) (b:=b) 1000 ab ab;rw[aR]at this;omega);have G0:=hd5 (H3.1.below hb4) (show l.map (·.2)=nilK.els.map (·.2.2) from H3.2.1) (H3.2.2.1.below hb4) (aE.own ho4) (H3.2.2.2.2.trans (hb4.mono ab));clear ho4 hb4;have ps:w.heap.size≤w1.heap.size:=v0;have vo:=hd1 (show([E.cOne.2.2,E.algs.2.2,(El.mk 48 (ax [El.mk 6 [42,3],El.mk 160 (ax [El.mk t b])])).2.2,(El.mk 49 (ax [LS.dflt.el])).2.2]:List (List UInt8)).flatten.length≤10000 from by
   have h0:=nil_len;have h1:=bG (t:=160) (b:=ax [El.mk t b]) 2020 (by rw[aX,aR];exact Nat.le_trans j5.out aj) ab;have h2:=bG (t:=48) (b:=ax [El.mk 6 [42,3],El.mk 160 (ax [El.mk t b])]) 2100 (by rw[bH,List.length_append,aR 6,y3.out];omega) ab;have:=jh (nilK.els.map (·.2.2)) 2 (El.mk 48 (ax [El.mk 6 [42,3],El.mk 160 (ax [El.mk t b])])).2.2;exact Nat.le_trans this ab)
  have vr:=hd1 (show([E.cOne.2.2,E.algs.2.2,(El.mk 48 (ax [El.mk 6 [42,3],El.mk 160 (ax [El.mk t b,El.mk t b])])).2.2,(El.mk 49 (ax [LS.dflt.el])).2.2]:List (List UInt8)).flatten.length≤10000 from by
   have h0:=nil_len;have h1:=bG (t:=160) (b:=ax [El.mk t b,El.mk t b]) 2020 (by rw[bH,List.length_append,aR];have:=j5.out;omega) ab;have h2:=bG (t:=48) (b:=ax [El.mk 6 [42,3],El.mk 160 (ax [El.mk t b,El.mk t b])]) 2100 (by rw[bH,List.length_append,aR 6,y3.out];omega) ab;have:=jh (nilK.els.map (·.2.2)) 2 (El.mk 48 (ax [El.mk 6 [42,3],El.mk 160 (ax [El.mk t b,El.mk t b])])).2.2;exact Nat.le_trans this ab)
  have vs:=hd1 (show([E.cOne.2.2,E.algs.2.2,(El.mk 48 (ax [El.mk 6 [42,3],El.mk 160 (ax [])])).2.2,(El.mk 49 (ax [LS.dflt.el])).2.2]:List (List UInt8)).flatten.length≤10000 from by
   have h0:=nil_len;have:=jh (nilK.els.map (·.2.2)) 2 (El.mk 48 (ax [El.mk 6 [42,3],El.mk 160 (ax [])])).2.2;have h2:(El.mk 48 (ax [El.mk 6 [42,3],El.mk 160 (ax [])])).2.2.length≤20:=by decide +kernel
   exact Nat.le_trans this ab)
  go_wp2_with fail
  refine(cZ 160 A1 n1 c1 _ w4 G0.2.2.1.rd14 ab).mono ?_;rintro e v1 ⟨B1,m1,d1,rfl,hp1,hq1⟩;have pv:=hq1.size;have vn:=hq1;have y5:=XS.lit v1 [(.slice A4 n4 c4,Der.write 6 [42,3]),(.slice B1 m1 d1,Der.write 160 (Der.write t b))] [.slice A4 n4 c4,.slice B1 m1 d1] _ 2 rfl rfl rfl ab (pair_all (P:=fun p:Value×List UInt8=>aE v1 p.1 p.2) (G0.2.2.2.1.below vn) (aE.own hp1));obtain⟨v2,he2⟩:∃V,V=v1.alloc (.cells #[.slice A4 n4 c4,.slice B1 m1 d1] 22):=⟨_,rfl⟩
  have kf:Below v1.heap.size v1 v2:=by rw[he2];exact aB _ _
  have p0:v2.heap.size ≥ v1.heap.size+1:=by rw[he2];simp
  change XS (v1.alloc (.cells #[.slice A4 n4 c4,.slice B1 m1 d1] 22)) _ _ _ at y5;rw[←he2]at y5;obtain⟨_,_,hf2,y5⟩:=y5.rdl;injection hf2 with e1 e2 e3
  subst e1 e3;clear e2;have kd:=hd1 (show(([(.slice A4 n4 c4,Der.write 6 [42,3]),(.slice B1 m1 d1,Der.write 160 (Der.write t b))]:List (Value×List UInt8)).map (·.2)).flatten.length≤3000 from by
   have h1:=bG (t:=160) (b:=(Der.write t b)) 2020 (by exact Nat.le_trans j5.out aj) ab;rw[aR]at h1;simp only[List.map_cons,List.map_nil,List.flatten_cons,List.flatten_nil,List.append_nil,List.length_append];exact Nat.le_trans (Nat.add_le_add (Nat.le_of_eq y3.out) h1) ab)
  go_wp2_with fail
  rw[←he2];clear he2;refine(bu _ 2 2 _ v2 y5 ab (Nat.le_trans kd.out aj)).mono ?_;rintro e v3 ⟨B3,m3,d3,rfl,hp3,hq3⟩;have p1:=hq3.size;have q9:=vn.trans ((kf.trans (hq3.mono ab)).mono ab);have qc:=G0.1.below q9;obtain⟨gp',ep',_,hgl3,_,hcell⟩:=qc.spot14 ab;injection ep' with ep'
  injection ep' with ep'
  subst ep';obtain⟨⟨z2,kz⟩,fz⟩:=hcell 2 ab;have y2:Ref.seq (([(.slice A4 n4 c4,Der.write 6 [42,3]),(.slice B1 m1 d1,Der.write 160 (Der.write t b))]:List (Value×List UInt8)).map (·.2))=(El.mk 48 (ax [El.mk 6 [42,3],El.mk 160 (ax [El.mk t b])])).2.2:=by rw[aR];simp[ax,Ref.seq,aR,aZ]
  rw[y2]at hp3;have qs:=qc.put 2 (aE.own hp3);have q5:Below w.heap.size w (v3.setCell ⟨gp,2,none⟩ (.slice B3 m3 d3)):=(G0.2.2.2.2.trans (q9.mono ab)).setCell (by show w.heap.size≤gp;omega) _;have q7:=qc.rdt_put 2 (v:=.slice B3 m3 d3) (G0.2.2.1.below q9);have q6:=qc.rdt_put 2 (v:=.slice B3 m3 d3) (G0.2.2.2.1.below q9);obtain⟨l3,hl3⟩:∃V,V=l.set 2 (.slice B3 m3 d3,(El.mk 48 (ax [El.mk 6 [42,3],El.mk 160 (ax [El.mk t b])])).2.2):=⟨_,rfl⟩
  have y4:l3.map (·.2)=[E.cOne.2.2,E.algs.2.2,(El.mk 48 (ax [El.mk 6 [42,3],El.mk 160 (ax [El.mk t b])])).2.2,(El.mk 49 (ax [LS.dflt.el])).2.2]:=by rw[hl3,List.map_set,G0.2.1];rfl
  rw[←hl3]at qs
  go_upto_region 7 with fail
  obtain⟨v4,hv4⟩:∃V,V=v3.setCell ⟨gp,2,none⟩ (.slice B3 m3 d3):=⟨_,rfl⟩
  rw[←hv4]at qs q5 q7 q6 ⊢;have p2:v4.heap.size ≥ v3.heap.size:=by rw[hv4];simp
  have G3:=hd5 qs y4 q7 q6 q5;clear qs y4 q7 q6 q5 qc hv4 hl3 kz fz hcell hp3 hq3 q9 y2;obtain⟨_,_,ez,hzr⟩:=G3.1.rdl;injection ez with e1 e2 e3
  subst e1 e3;rw[←e2]at hzr;clear e2;have z0:=hd1 (show(l3.map (·.2)).flatten.length≤10000 from by
   rw[G3.2.1];exact vo.out)
  go_wp2_with fail
  refine(bu _ 4 cp l3 v4 hzr ab (Nat.le_trans z0.out aj)).mono ?_;rintro e v5 ⟨B5,m5,d5,rfl,hp5,hq5⟩;rw[G3.2.1]at hp5;have p3:=hq5.size;have ke:=G3.2.2.2.2.trans (hq5.mono (by have:=G3.2.2.2.2.size;omega))
  go_wp2_with fail
  refine(gh B5 m5 d5 _ v5 (H0.1.below ke) hp5.rdx).mono ?_;intro e v6 hP;obtain⟨hq6,P60,p60,r60,P61,p61,r61,P62,p62,r62,P63,p63,r63,k,rfl,q1,q2⟩:=hP.told;have p4:=hq6.size;have j4:=contents_good (k:=[42,3]) (X:=El.mk t b) LS.dflt dflt_fits aj aj hX (by rw[aR];exact Nat.le_trans j5.out aj) (bq _ hg.2.1);obtain⟨rfl,y,hy,hoy,hvy,-⟩:=q2 _ j4;have vi:y.content=Der.write t b:=by
   have:=congrArg Sd.content hy;exact this.symm
  clear q1 q2 hP j4;obtain⟨v7,hv7⟩:∃V,V=v6.alloc (.cells #[.slice P60 p60 r60,.slice P61 p61 r61,.slice P62 p62 r62,.slice P63 p63 r63] 28):=⟨_,rfl⟩
  have vd:Below v6.heap.size v6 v7:=by rw[hv7];exact aB _ _
  have p5:v7.heap.size ≥ v6.heap.size+1:=by rw[hv7];simp
  have zn:=hq5.trans ((hq6.trans (vd.mono ab)).mono ab);have G7:=hd5 (G3.1.below zn) G3.2.1 (G3.2.2.1.below zn) (G3.2.2.2.1.below zn) (G3.2.2.2.2.trans (zn.mono (by have:=G3.2.2.2.2.size;omega)));have hS:=aw.new v6 28 #[.slice P60 p60 r60,.slice P61 p61 r61,.slice P62 p62 r62,.slice P63 p63 r63];rw[←hv7]at hS;have vg:aE v7 (.slice P61 p61 r61) (Der.write t b):=by
   have hY:=hoy.rd;have:=hY.rows (y.vc,y.content) (by simp[DI.rows]);have e0:y.vc=.slice P61 p61 r61:=by
    unfold DI.val at hvy;simp only[Value.agg.injEq,Array.mk.injEq,List.cons.injEq]at hvy;exact hvy.2.1
   rw[←e0,←vi];exact aE.below this vd
  have HS:=hd2 hS vg;clear hS vg hoy hvy vi hy;clear hq5 hq6 hp5 vd hzr
  go_upto_region 8 with fail
  rw[←hv7];clear hv7 zn;have y6:=XS.lit v7 [(.slice A1 n1 c1,Der.write t b),(.slice A1 n1 c1,Der.write t b)] [.slice A1 n1 c1,.slice A1 n1 c1] _ 2 rfl rfl rfl ab (pair_all (P:=fun p:Value×List UInt8=>aE v7 p.1 p.2) G7.2.2.1 G7.2.2.1);obtain⟨v8,he8⟩:∃V,V=v7.alloc (.cells #[.slice A1 n1 c1,.slice A1 n1 c1] 22):=⟨_,rfl⟩
  have kk:Below v7.heap.size v7 v8:=by rw[he8];exact aB _ _
  have p6:v8.heap.size ≥ v7.heap.size+1:=by rw[he8];simp
  change XS (v7.alloc (.cells #[.slice A1 n1 c1,.slice A1 n1 c1] 22)) _ _ _ at y6;rw[←he8]at y6;obtain⟨_,_,hf8,y6⟩:=y6.rdl;injection hf8 with e1 e2 e3
  subst e1 e3;clear e2
  go_wp2_with fail
  rw[←he8];clear he8;have vv:=hd1 (qF _ 2 2 [(.slice A1 n1 c1,Der.write t b),(.slice A1 n1 c1,Der.write t b)] v8 y6 aj (by simp only[aZ,List.map_cons,List.map_nil,List.flatten_cons,List.flatten_nil,List.append_nil,List.length_append];have:=j5.out;omega));refine vv.out.mono ?_;rintro e v9 ⟨B9,m9,d9,rfl,hp9,hq9⟩;have p7:=hq9.size;have vk:=aM hp9;have k5:m9≤2020:=by rw[←vk];simp only[aZ,List.map_cons,List.map_nil,List.flatten_cons,List.flatten_nil,List.append_nil,List.length_append];have:=j5.out;omega
  clear vk;have vt:=kk.trans (hq9.mono ab)
  go_wp2_with fail
  refine(cZ 160 B9 m9 d9 _ v9 hp9.rdx ab).mono ?_;rintro e v10 ⟨B10,m10,d10,rfl,hp10,hq10⟩;have kl:=hq10.size;have y7:=vt.trans (hq10.mono ab);have q3:=XS.lit v10 [(.slice A4 n4 c4,Der.write 6 [42,3]),(.slice B10 m10 d10,Der.write 160 (aZ [(.slice A1 n1 c1,Der.write t b),(.slice A1 n1 c1,Der.write t b)]))] [.slice A4 n4 c4,.slice B10 m10 d10] _ 2 rfl rfl rfl ab (pair_all (P:=fun p:Value×List UInt8=>aE v10 p.1 p.2) (G7.2.2.2.1.below y7) (aE.own hp10));obtain⟨v11,he11⟩:∃V,V=v10.alloc (.cells #[.slice A4 n4 c4,.slice B10 m10 d10] 22):=⟨_,rfl⟩
  have va:Below v10.heap.size v10 v11:=by rw[he11];exact aB _ _
  have kn:v11.heap.size ≥ v10.heap.size+1:=by rw[he11];simp
  change XS (v10.alloc (.cells #[.slice A4 n4 c4,.slice B10 m10 d10] 22)) _ _ _ at q3;rw[←he11]at q3;obtain⟨_,_,hf11,q3⟩:=q3.rdl;injection hf11 with e1 e2 e3
  subst e1 e3;clear e2;have z4:=hd1 (show(([(.slice A4 n4 c4,Der.write 6 [42,3]),(.slice B10 m10 d10,Der.write 160 (aZ [(.slice A1 n1 c1,Der.write t b),(.slice A1 n1 c1,Der.write t b)]))]:List (Value×List UInt8)).map (·.2)).flatten.length≤3000 from by
   have h1:=bG (t:=160) (b:=(aZ [(.slice A1 n1 c1,Der.write t b),(.slice A1 n1 c1,Der.write t b)])) 2020 (by simp only[aZ,List.map_cons,List.map_nil,List.flatten_cons,List.flatten_nil,List.append_nil,List.length_append];have:=j5.out;omega) ab;rw[aR]at h1;simp only[List.map_cons,List.map_nil,List.flatten_cons,List.flatten_nil,List.append_nil,List.length_append];exact Nat.le_trans (Nat.add_le_add (Nat.le_of_eq y3.out) h1) ab)
  go_wp2_with fail
  rw[←he11];clear he11;refine(bu _ 2 2 _ v11 q3 ab (Nat.le_trans z4.out aj)).mono ?_;rintro e v12 ⟨B12,m12,d12,rfl,hp12,hq12⟩;have ko:=hq12.size;have qd:=y7.trans ((va.trans (hq12.mono ab)).mono ab);have qc:=G7.1.below qd;obtain⟨gp',ep',_,hgl12,_,hcell⟩:=qc.spot14 ab;injection ep' with ep'
  injection ep' with ep'
  subst ep';obtain⟨⟨z2,kz⟩,fz⟩:=hcell 2 ab;have j0:Ref.seq (([(.slice A4 n4 c4,Der.write 6 [42,3]),(.slice B10 m10 d10,Der.write 160 (aZ [(.slice A1 n1 c1,Der.write t b),(.slice A1 n1 c1,Der.write t b)]))]:List (Value×List UInt8)).map (·.2))=(El.mk 48 (ax [El.mk 6 [42,3],El.mk 160 (ax [El.mk t b,El.mk t b])])).2.2:=by rw[aR];simp[ax,Ref.seq,aR,aZ]
  rw[j0]at hp12;have qs:=qc.put 2 (aE.own hp12);have q5:Below w.heap.size w (v12.setCell ⟨gp,2,none⟩ (.slice B12 m12 d12)):=(G7.2.2.2.2.trans (qd.mono ab)).setCell (by show w.heap.size≤gp;omega) _;have q7:=qc.rdt_put 2 (v:=.slice B12 m12 d12) (G7.2.2.1.below qd);have q6:=qc.rdt_put 2 (v:=.slice B12 m12 d12) (G7.2.2.2.1.below qd);obtain⟨l12,hl12⟩:∃V,V=l3.set 2 (.slice B12 m12 d12,(El.mk 48 (ax [El.mk 6 [42,3],El.mk 160 (ax [El.mk t b,El.mk t b])])).2.2):=⟨_,rfl⟩
  have j2:l12.map (·.2)=[E.cOne.2.2,E.algs.2.2,(El.mk 48 (ax [El.mk 6 [42,3],El.mk 160 (ax [El.mk t b,El.mk t b])])).2.2,(El.mk 49 (ax [LS.dflt.el])).2.2]:=by rw[hl12,List.map_set,G7.2.1];rfl
  rw[←hl12]at qs;have y1:=HS.1.below qd ab;have j6:aw (v12.setCell ⟨gp,2,none⟩ (.slice B12 m12 d12)) v6.heap.size 28 #[.slice P60 p60 r60,.slice P61 p61 r61,.slice P62 p62 r62,.slice P63 p63 r63]:=(Below.heap_setCell _ _ _ _ (by show v6.heap.size≠gp;omega)).trans y1;have j7:=qc.rdt_put 2 (v:=.slice B12 m12 d12) (HS.2.below qd)
  go_upto_region 9 with fail
  obtain⟨v13,hv13⟩:∃V,V=v12.setCell ⟨gp,2,none⟩ (.slice B12 m12 d12):=⟨_,rfl⟩
  rw[←hv13]at qs q5 q7 q6 j6 j7 ⊢;have kr:v13.heap.size ≥ v12.heap.size:=by rw[hv13];simp
  have qv:=hd5 qs j2 q7 q6 q5;clear qs j2 q7 q6 q5 qc hv13 hl12 kz fz hcell hp12 hq12 qd j0;have yy:=hd2 j6 j7;clear y1 j6 j7;obtain⟨_,_,ez,hzr⟩:=qv.1.rdl;injection ez with e1 e2 e3
  subst e1 e3;rw[←e2]at hzr;clear e2;have z0:=hd1 (show(l12.map (·.2)).flatten.length≤10000 from by
   rw[qv.2.1];exact vr.out)
  go_wp2_with fail
  refine(bu _ 4 cp l12 v13 hzr ab (Nat.le_trans z0.out aj)).mono ?_;rintro e v14 ⟨B14,m14,d14,rfl,hp14,hq14⟩;rw[qv.2.1]at hp14;have ks:=hq14.size;have z6:=qv.2.2.2.2.trans (hq14.mono (by have:=qv.2.2.2.2.size;omega))
  go_wp2_with fail
  refine(gh B14 m14 d14 _ v14 (H0.1.below z6) hp14.rdx).mono ?_;intro e v15 hP;obtain⟨hq15,P150,p150,r150,P151,p151,r151,P152,p152,r152,P153,p153,r153,k,rfl,q1,q2⟩:=hP.told;have kt:=hq15.size;have j4:=contents_bad (k:=[42,3]) (D:=[El.mk t b,El.mk t b]) LS.dflt dflt_fits aj aj (eL hX hX) ag (by rw[bH,List.length_append,aR];have:=j5.out;omega) (eL (P:=fun y=>Der.thr 9 y.1 y.2.1=0) (bq _ hg.2.1) (bq _ hg.2.1));obtain rfl:k=9:=q1 9 j4;clear q1 q2 hP j4;obtain⟨v16,hv16⟩:∃V,V=v15.alloc (.cells #[.slice P150 p150 r150,.slice P151 p151 r151,.slice P152 p152 r152,.slice P153 p153 r153] 28):=⟨_,rfl⟩
  have zs:Below v15.heap.size v15 v16:=by rw[hv16];exact aB _ _
  have kv:v16.heap.size ≥ v15.heap.size+1:=by rw[hv16];simp
  have qg:=hq14.trans ((hq15.trans (zs.mono ab)).mono ab);have yh:=hd5 (qv.1.below qg) qv.2.1 (qv.2.2.1.below qg) (qv.2.2.2.1.below qg) (qv.2.2.2.2.trans (qg.mono (by have:=qv.2.2.2.2.size;omega)));have ys:=hd2 (yy.1.below qg ab) (yy.2.below qg);clear hq14 hq15 hp14 zs hzr
  go_upto_region 10 with fail
  rw[←hv16];clear hv16 qg
  go_wp2_with fail
  refine(cZ 160 none 0 0 _ v16 Rd.none_ ab).mono ?_;rintro e v17 ⟨B17,m17,d17,rfl,hp17,hq17⟩;have kx:=hq17.size;have zb:=hq17;have q4:=XS.lit v17 [(.slice A4 n4 c4,Der.write 6 [42,3]),(.slice B17 m17 d17,Der.write 160 [])] [.slice A4 n4 c4,.slice B17 m17 d17] _ 2 rfl rfl rfl ab (pair_all (P:=fun p:Value×List UInt8=>aE v17 p.1 p.2) (yh.2.2.2.1.below zb) (aE.own hp17));obtain⟨v18,he18⟩:∃V,V=v17.alloc (.cells #[.slice A4 n4 c4,.slice B17 m17 d17] 22):=⟨_,rfl⟩
  have vb:Below v17.heap.size v17 v18:=by rw[he18];exact aB _ _
  have ky:v18.heap.size ≥ v17.heap.size+1:=by rw[he18];simp
  change XS (v17.alloc (.cells #[.slice A4 n4 c4,.slice B17 m17 d17] 22)) _ _ _ at q4;rw[←he18]at q4;obtain⟨_,_,hf18,q4⟩:=q4.rdl;injection hf18 with e1 e2 e3
  subst e1 e3;clear e2;have z5:=hd1 (show(([(.slice A4 n4 c4,Der.write 6 [42,3]),(.slice B17 m17 d17,Der.write 160 [])]:List (Value×List UInt8)).map (·.2)).flatten.length≤3000 from by
   have h1:=bG (t:=160) (b:=[]) 2020 ag ab;rw[aR]at h1;simp only[List.map_cons,List.map_nil,List.flatten_cons,List.flatten_nil,List.append_nil,List.length_append];exact Nat.le_trans (Nat.add_le_add (Nat.le_of_eq y3.out) h1) ab)
  go_wp2_with fail
  rw[←he18];clear he18;refine(bu _ 2 2 _ v18 q4 ab (Nat.le_trans z5.out aj)).mono ?_;rintro e v19 ⟨B19,m19,d19,rfl,hp19,hq19⟩;have k0:=hq19.size;have qh:=zb.trans ((vb.trans (hq19.mono ab)).mono ab);have qc:=yh.1.below qh;obtain⟨gp',ep',_,hgl19,_,hcell⟩:=qc.spot14 ab;injection ep' with ep'
  injection ep' with ep'
  subst ep';obtain⟨⟨z2,kz⟩,fz⟩:=hcell 2 ab;have j1:Ref.seq (([(.slice A4 n4 c4,Der.write 6 [42,3]),(.slice B17 m17 d17,Der.write 160 [])]:List (Value×List UInt8)).map (·.2))=(El.mk 48 (ax [El.mk 6 [42,3],El.mk 160 (ax [])])).2.2:=by rw[aR];simp[ax,Ref.seq,aR,aZ]
  rw[j1]at hp19;have qs:=qc.put 2 (aE.own hp19);have q5:Below w.heap.size w (v19.setCell ⟨gp,2,none⟩ (.slice B19 m19 d19)):=(yh.2.2.2.2.trans (qh.mono ab)).setCell (by show w.heap.size≤gp;omega) _;have q7:=qc.rdt_put 2 (v:=.slice B19 m19 d19) (yh.2.2.1.below qh);have q6:=qc.rdt_put 2 (v:=.slice B19 m19 d19) (yh.2.2.2.1.below qh);obtain⟨l19,hl19⟩:∃V,V=l12.set 2 (.slice B19 m19 d19,(El.mk 48 (ax [El.mk 6 [42,3],El.mk 160 (ax [])])).2.2):=⟨_,rfl⟩
  have j3:l19.map (·.2)=[E.cOne.2.2,E.algs.2.2,(El.mk 48 (ax [El.mk 6 [42,3],El.mk 160 (ax [])])).2.2,(El.mk 49 (ax [LS.dflt.el])).2.2]:=by rw[hl19,List.map_set,yh.2.1];rfl
  rw[←hl19]at qs;have y1:=ys.1.below qh ab;have j6:aw (v19.setCell ⟨gp,2,none⟩ (.slice B19 m19 d19)) v6.heap.size 28 #[.slice P60 p60 r60,.slice P61 p61 r61,.slice P62 p62 r62,.slice P63 p63 r63]:=(Below.heap_setCell _ _ _ _ (by show v6.heap.size≠gp;omega)).trans y1;have j7:=qc.rdt_put 2 (v:=.slice B19 m19 d19) (ys.2.below qh)
  go_upto_region 11 with fail
  obtain⟨v20,hv20⟩:∃V,V=v19.setCell ⟨gp,2,none⟩ (.slice B19 m19 d19):=⟨_,rfl⟩
  rw[←hv20]at qs q5 q7 q6 j6 j7 ⊢;have k1:v20.heap.size ≥ v19.heap.size:=by rw[hv20];simp
  have q0:=hd5 qs j3 q7 q6 q5;clear qs j3 q7 q6 q5 qc hv20 hl19 kz fz hcell hp19 hq19 qh j1;have y0:=hd2 j6 j7;clear y1 j6 j7;obtain⟨_,_,ez,hzr⟩:=q0.1.rdl;injection ez with e1 e2 e3
  subst e1 e3;rw[←e2]at hzr;clear e2;have z0:=hd1 (show(l19.map (·.2)).flatten.length≤10000 from by
   rw[q0.2.1];exact vs.out)
  go_wp2_with fail
  refine(bu _ 4 cp l19 v20 hzr ab (Nat.le_trans z0.out aj)).mono ?_;rintro e v21 ⟨B21,m21,d21,rfl,hp21,hq21⟩;rw[q0.2.1]at hp21;have k2:=hq21.size;have z7:=q0.2.2.2.2.trans (hq21.mono (by have:=q0.2.2.2.2.size;omega))
  go_wp2_with fail
  refine(gh B21 m21 d21 _ v21 (H0.1.below z7) hp21.rdx).mono ?_;intro e v22 hP;obtain⟨hq22,P220,p220,r220,P221,p221,r221,P222,p222,r222,P223,p223,r223,k,rfl,q1,q2⟩:=hP.told;have k3:=hq22.size;have j4:=contents_bad (k:=[42,3]) (D:=[]) LS.dflt dflt_fits aj aj (fun y hy=>by cases hy) ag aj (fun y hy=>by cases hy);obtain rfl:k=9:=q1 9 j4;clear q1 q2 hP j4;obtain⟨v23,hv23⟩:∃V,V=v22.alloc (.cells #[.slice P220 p220 r220,.slice P221 p221 r221,.slice P222 p222 r222,.slice P223 p223 r223] 28):=⟨_,rfl⟩
  have zz:Below v22.heap.size v22 v23:=by rw[hv23];exact aB _ _
  have k4:v23.heap.size ≥ v22.heap.size+1:=by rw[hv23];simp
  have qk:=hq21.trans ((hq22.trans (zz.mono ab)).mono ab);have z1:=hd5 (q0.1.below qk) q0.2.1 (q0.2.2.1.below qk) (q0.2.2.2.1.below qk) (q0.2.2.2.2.trans (qk.mono (by have:=q0.2.2.2.2.size;omega)));have yv:=hd2 (y0.1.below qk ab) (y0.2.below qk);clear hq21 hq22 hp21 zz hzr
  go_upto_region 12 with fail
  rw[←hv23];clear hv23 qk;have kc:=yv.1.cell 1;simp only[List.getElem?_toArray,List.getElem?_cons_succ,List.getElem?_cons_zero]at kc
  go_wp2_with fail
  refine(fH P61 A1 p61 r61 n1 c1 (Der.write t b) _ _ v23 yv.2.rd14 z1.2.2.1.rd14).mono ?_;rintro e wf ⟨rfl,rfl⟩
  go_wp2_with fail
  refine(kM wf (H0.1.below z1.2.2.2.2)).mono ?_;rintro e wg ⟨rfl,hbf⟩;have HF:=hd1 hbf;clear hbf
  go_wp2_with fail
  go_ret
  exact⟨rfl,z1.2.2.2.2.trans (HF.out.mono (by have:=z1.2.2.2.2.size;omega))⟩
 ·go_wp2_with fail
  all_goals first
   | (refine(kM w H0.1).mono ?_
      rintro e w1 ⟨rfl,hb1⟩
      go_wp2_with fail
      go_ret
      exact⟨rfl,hb1⟩)
   | (exfalso;rw[ha]at *;simp only[beq_eq_false_iff_ne]at *;omega)
theorem cmsContents_walk (w:World) (hG:dr w) (z:Int) (wz:(Lit.int .u8 z).wf=true) (A:Option Addr) (n c:Nat) (b:List UInt8) (h:Rd w w.heap.size A n c b) :
 Calls Tryz.prog 13 #[.int .u8 z,.slice A n c] w (xt w):=by
 have:=contents_main w hG (UInt8.ofNat z.toNat) A n c b h
 rwa [u8_of_wf wz]at this
end Go.Proofs.YtmpkpphfoidbeaaGreatDoor
