/- Joined of: Rm1 Rm2. -/
import Derived.Test.YtmpladnglfiejaaGreatDoorJh
import Derived.Test.YtmpladnglfiejaaGreatDoorMePlain2
import Derived.Test.YtmpladnglfiejaaGreatDoorJc
import Derived.BigQuiet
import Derived.Deep.QuietTactic
import Derived.Test.YtmpladnglfiejaaGreatDoorJe
import Derived.Deep.RegionHeld3
import Derived.Test.YtmpladnglfiejaaGreatDoorMeR4
section
/- The document's places. -/
namespace Go.Proofs.YtmpladnglfiejaaGreatDoor
open Go.RowKit
set_option maxRecDepth 100000
set_option linter.unusedVariables false
set_option linter.unusedSimpArgs false
/-- What the document's Ranges answers. -/
def RRanges (xs : List UInt8) (w : World) (e : Ending) (w' : World) : Prop :=
  Below w.heap.size w w' ∧ ∃ (R : Option Addr) (k rc er : Nat), e = .returned (.tuple #[.slice R k rc, .int .i64 (er : Int)]) ∧ Pe.err xs = er ∧ (er ≠ 0 → k = 0) ∧ (er = 0 → RdP w' w'.heap.size R k rc (Pe.ranges xs)) ∧ (∀ p, R = some p → w.heap.size ≤ p.block)
/-- A row of one's own lies behind the mark. -/
theorem OwnC.low {e : TypeId} {size n c n' : Nat} {w : World} {lo hi : Nat} {A : Option Addr} {cs : List Value} (h : OwnC e size w lo hi (.slice A n c) n' cs) : ∀ p, A = some p → lo ≤ p.block := by
  intro p hp
  subst hp
  exact (h.1.lt p.block rfl).1
theorem pairs_one (l : List (Nat × Nat)) : ∀ u ∈ l.flatMap placeC, u.oneCell' = true := by
  intro u hu
  obtain ⟨x, _, hx⟩ := List.mem_flatMap.1 hu
  simp only [placeC, List.mem_cons, List.not_mem_nil, or_false] at hx
  rcases hx with rfl | rfl <;> rfl
/-- One place behind a row of places. -/
theorem wpList_appP {w : World} {ops : Array Oper} {rest : List Oper} {o : Oper} {a : Act} {Q : Exit → Act → World → Prop} (hgd : o.guard = none) (s x : Operand)
    (ho : o.op = .call { callee := .builtin .append, args := #[s, x], argTypes := #[34, 34] })
    (lo hi : Nat) (v : Value) (n : Nat) (l : List (Nat × Nat)) (hs : a.eval s = v) (hown : OwnC 39 2 w lo hi v n (l.flatMap placeC)) (hlo : lo ≤ w.heap.size) (hn : n ≤ 1000)
    (B g c : Nat) (y : Nat × Nat) (hx : a.eval x = .slice (some ⟨g, 0, none⟩) 1 c) (hg : g < B) (h0 : w.cell? ⟨g, 0, none⟩ = some (.int .i64 (y.1 : Int))) (h1 : w.cell? ⟨g, 1, none⟩ = some (.int .i64 (y.2 : Int)))
    (h : ∀ v' w', OwnC 39 2 w' lo w'.heap.size v' (n + 1) ((l ++ [y]).flatMap placeC) → w.grownBy w' v.ownBlock → (v'.ownBlock = v.ownBlock ∨ v'.ownBlock = some w.heap.size) → wpList Tryz.prog ops Q rest (a.put o.dst v') w') :
    wpList Tryz.prog ops Q (o :: rest) a w := by
  refine wpList_appC hgd s x 34 ho 39 _ 2 16 pair_info Tryz.underlying34 rfl (by omega) lo hi v n (l.flatMap placeC) hs hown hlo B (some ⟨g, 0, none⟩) 1 c ([y].flatMap placeC) hx ⟨rfl, fun _ => ⟨_, rfl, hg, fun j u hu => ?_⟩⟩ (pairs_one [y]) (by omega) (by omega) ?_
  · rcases j with _ | _ | j
    · simp [placeC] at hu; subst hu; rw [Addr.add_lit]; exact h0
    · simp [placeC] at hu; subst hu; rw [Addr.add_lit]; exact h1
    · simp [placeC] at hu
  · intro v' w' k1 k2 k3 k4
    refine h v' w' ?_ k2 k3
    rw [List.flatMap_append]
    exact k1
/-- A row of places that was laid. -/
theorem OwnC.litP (w : World) (l : List (Nat × Nat)) (cs : Array Value) (n : Nat) (hl : l.length = n) (hc : cs = (l.flatMap placeC).toArray) (hn : n ≤ 1000) :
    OwnC 39 2 (w.alloc (.cells cs 39)) w.heap.size (w.alloc (.cells cs 39)).heap.size (.slice (some ⟨w.heap.size, 0, none⟩) n n) n (l.flatMap placeC) := by
  subst hl hc
  have hp := placeC_len l
  exact OwnC.of ⟨hp, .inr ⟨w.heap.size, l.length, _, rfl, Nat.le_refl _, heap_alloc_new w _, Nat.le_refl _, by simp only [maxLen]; omega, by simpa using hp, List.take_of_length_le (Nat.le_of_eq hp)⟩⟩
set_option maxHeartbeats 4000000 in
theorem rRanges_any (A : Option Addr) (n c : Nat) (xs : List UInt8) (w : World) (h : Rd w w.heap.size A n c xs) (hn : n ≤ 16384) :
    Calls Tryz.prog 10 #[.slice A n c] w (RRanges xs w) := by
  have hl := h.len
  have H := Lib.hid (And.intro h hl)
  clear h hl
  go_enter Tryz.func10, Tryz.ntmps10
  go_wp2_with fail
  refine (refParse_any A n c xs w H.out.1 (by omega)).mono ?_
  rintro e w1 ⟨hb1, C, rfl, hone, hz, hok⟩
  obtain ⟨er, her⟩ : ∃ er, Pe.err xs = er := ⟨_, rfl⟩
  rw [her]
  have H1 := Lib.hid (And.intro hb1 (And.intro hone (And.intro hok her)))
  clear hb1 hone hz hok her
  go_upto_region 2 with (first
    | ((with_reducible refine at_store_img ?_); refine wpList_store_img rfl _ _ rfl w1.heap.size IV.zero C rfl rfl (Blk.new w1 _ _) H1.out.2.1 ?_; intro w2 hB2 hg2)
    | fail)
  have hb12 : Below w1.heap.size w1 w2 := (below_one w1 _).grown hg2 (by simp) (fun k e => by injection e with e; omega)
  have hb02 := H1.out.1.trans (hb12.mono H1.out.1.size)
  by_cases he : er = 0
  · subst he
    have herr : Pe.err xs = 0 := H1.out.2.2.2
    have hI := (H1.out.2.2.1 herr).later hb12
    obtain ⟨_, nck, ndr, nhd, ntb, nln⟩ := hI.nums
    obtain ⟨A4, c4, e4, r4⟩ := hI.secs.rdS
    have hright := Pe.right_of herr
    have hmany := hright.many
    obtain ⟨m, hm⟩ : ∃ m, (Pe.secs xs).length = m := ⟨_, rfl⟩
    rw [hm] at e4 r4 hmany
    obtain ⟨ck, hck⟩ : ∃ x, C.check = x := ⟨_, rfl⟩
    obtain ⟨dr, hdr⟩ : ∃ x, C.dir = x := ⟨_, rfl⟩
    obtain ⟨hd, hhd⟩ : ∃ x, C.headers = x := ⟨_, rfl⟩
    obtain ⟨tb, htb⟩ : ∃ x, C.table = x := ⟨_, rfl⟩
    obtain ⟨ln, hln⟩ : ∃ x, C.length = x := ⟨_, rfl⟩
    obtain ⟨ib, hib⟩ : ∃ g, w1.heap.size = g := ⟨_, rfl⟩
    rw [hib] at hB2 ⊢
    have hF : ∀ W, Below w2.heap.size w2 W → W.cell? ⟨ib, 1, none⟩ = some (.int .i64 (ck : Int)) ∧ W.cell? ⟨ib, 2, none⟩ = some (.int .i64 (dr : Int)) ∧ W.cell? ⟨ib, 3, none⟩ = some (.int .u32 (hd : Int)) ∧ W.cell? ⟨ib, 4, none⟩ = some (.slice A4 m c4) ∧ W.cell? ⟨ib, 5, none⟩ = some (.int .u32 (tb : Int)) ∧ W.cell? ⟨ib, 6, none⟩ = some (.int .u32 (ln : Int)) := fun W hW => by
      have hB := hB2.below hW hB2.lt
      exact ⟨by rw [← hck]; exact hB.cell 1, by rw [← hdr]; exact hB.cell 2, by rw [← hhd]; exact hB.cell 3, by rw [← e4]; exact hB.cell 4, by rw [← htb]; exact hB.cell 5, by rw [← hln]; exact hB.cell 6⟩
    obtain ⟨k1, k2, k3, k4, k5, k6⟩ := hF w2 (Below.refl _ _)
    have hb1' : hd ≤ n := by have := hright.headers.2; have := H.out.2; omega
    have hb2' : dr + 8 ≤ hd := by have := hright.headers.1; omega
    have hb3' : ck + 4 ≤ dr := by have := hright.dir; omega
    have j2 : IntKind.i64.wrap ((ck : Int) + 4) = (ck : Int) + 4 := by rw [IntKind.wrap_i64]; omega
    have j3 : IntKind.i64.wrap ((dr : Int) + 8) = (dr : Int) + 8 := by rw [IntKind.wrap_i64]; omega
    have j4 : IntKind.i64.wrap (hd : Int) = (hd : Int) := by rw [IntKind.wrap_i64]; omega
    have HI := Lib.hid (And.intro hF (And.intro r4 (And.intro hright (And.intro herr (And.intro hb02 (And.intro nck (And.intro ndr (And.intro nhd (And.intro ntb (And.intro nln (And.intro hck (And.intro hdr (And.intro hhd (And.intro htb (And.intro hln hm)))))))))))))))
    clear hF r4 hright herr hb02 nck ndr nhd ntb nln hck hdr hhd htb hln hm hI hib hb12 hg2 e4 hB2
    go_upto_region 5 with fail
    have hr3 := Pe.ranges_heads xs
    have hrl := Pe.ranges_len xs
    have hri := Pe.ranges_last xs
    have nck := HI.out.2.2.2.2.2.1
    have ndr := HI.out.2.2.2.2.2.2.1
    have nhd := HI.out.2.2.2.2.2.2.2.1
    have ntb := HI.out.2.2.2.2.2.2.2.2.1
    have nln := HI.out.2.2.2.2.2.2.2.2.2.1
    obtain ⟨hck, hdr, hhd, htb, hln, hm⟩ := HI.out.2.2.2.2.2.2.2.2.2.2
    rw [hck] at nck
    rw [hdr] at ndr
    rw [hhd] at nhd
    rw [htb] at ntb
    rw [hln] at nln
    rw [hm] at hrl hri
    have htk : (Pe.ranges xs).take 3 = [(0, ck), (ck + 4, dr), (dr + 8, hd)] := by
      have o2 : Pe.opt xs + 68 = ck + 4 := by omega
      have o4 : Pe.dirs xs + 40 = dr + 8 := by omega
      apply List.ext_getElem?
      intro j
      rcases j with _ | _ | _ | j
      · simpa [← nck] using hr3.1
      · simpa [← ndr, o2] using hr3.2.1
      · simpa [← nhd, o4] using hr3.2.2
      · simp; omega
    have hown := OwnC.litP w2 [(0, ck), (ck + 4, dr), (dr + 8, hd)] #[.int .i64 0, .int .i64 (ck : Int), .int .i64 ((ck : Int) + 4), .int .i64 (dr : Int), .int .i64 ((dr : Int) + 8), .int .i64 (hd : Int)] 3 rfl rfl (by omega)
    rw [← htk] at hown
    have hb23 : Below w2.heap.size w2 (w2.alloc (.cells #[.int .i64 0, .int .i64 (ck : Int), .int .i64 ((ck : Int) + 4), .int .i64 (dr : Int), .int .i64 ((dr : Int) + 8), .int .i64 (hd : Int)] 39)) := below_one _ _
    obtain ⟨w3, hw3⟩ : ∃ V, w2.alloc (.cells #[.int .i64 0, .int .i64 (ck : Int), .int .i64 ((ck : Int) + 4), .int .i64 (dr : Int), .int .i64 ((dr : Int) + 8), .int .i64 (hd : Int)] 39) = V := ⟨_, rfl⟩
    rw [hw3] at hown hb23 ⊢
    have hlast : Pe.last xs = if 0 < ln then tb else n := by
      unfold Pe.last
      rw [nln, ntb, H.out.2]
      cases hb : Pe.bare xs with
      | true => simp
      | false =>
        have := (HI.out.2.2.1.tab hb).1
        simp [this]
    have hlay := Pe.laid3 HI.out.2.2.2.1
    have hti := Pe.laid_of HI.out.2.2.2.1
    have hrp := (Pe.riseS_perm (Pe.secs xs)).length_eq
    rw [hm] at hrp
    have hend := Pe.end_eq xs
    rw [hm] at hend
    have hrs : ∀ x ∈ Pe.riseS (Pe.secs xs), x.1 + x.2 ≤ n := fun x hx => by
      have h1 := (HI.out.2.2.1.each x ((Pe.riseS_perm _).mem_iff.1 hx)).2.2
      have h2 := HI.out.2.2.1.fits
      have := H.out.2
      omega
    have HS := Lib.hid (And.intro hown (And.intro hb23 (And.intro hrl (And.intro hri (And.intro hlast (And.intro hlay (And.intro hti (And.intro hrp (And.intro hend (And.intro hrs nhd))))))))))
    clear hown hb23 hrl hri hlast hlay hti hrp hend hrs nck ndr nhd ntb nln hck hdr hhd htb hln hm htk hr3 hw3 k1 k2 k3 k4 k5 k6
    obtain ⟨k1, k2, k3, k4, k5, k6⟩ := HI.out.1 w3 HS.out.2.1
    go_wp2_with fail
    refine (riseR_any A4 m c4 (Pe.secs xs) w3 (HI.out.2.1.up HS.out.2.1) (by omega)).mono ?_
    rintro e w4 ⟨hb4, v4, rfl, S, hSp, hSr, hSo⟩
    have hSE := Pe.sorted_eq HI.out.2.2.2.1 hSp hSr
    have hbS : ∀ Av n' cv b o, v4 = .slice Av n' cv → 0 < m → Av = some ⟨b, o, none⟩ → w3.heap.size ≤ b := fun Av n' cv b o e h0 e' => by
      obtain ⟨g, cap, e2, hg, _⟩ := hSo.1.form h0
      rw [e, e'] at e2
      injection e2 with e2
      injection e2 with e2
      injection e2 with e2
      omega
    obtain ⟨Av, cv, rfl, hrS⟩ := hSo.rdS
    have hbS : ∀ b o, 0 < m → Av = some ⟨b, o, none⟩ → w3.heap.size ≤ b := fun b o h0 e => hbS Av m cv b o rfl h0 e
    have HbS := Lib.hid hbS
    have hw23 : w2.heap.size < w3.heap.size := (HS.out.1.1.lt _ rfl).2
    clear hbS
    rw [hSE] at hrS
    obtain ⟨RS, hRS⟩ : ∃ RS, Pe.riseS (Pe.secs xs) = RS := ⟨_, rfl⟩
    have hti := HS.out.2.2.2.2.2.2.1
    have hend := HS.out.2.2.2.2.2.2.2.2.1
    have hrs := HS.out.2.2.2.2.2.2.2.2.2.1
    rw [hRS] at hrS hti hend hrs
    have hsec : ∀ i x, RS[i]? = some x → (Pe.ranges xs)[3 + i]? = some (x.1, x.1 + x.2) := fun i x hx => Pe.ranges_sec xs (by rw [hRS]; exact hx)
    have hb24 := HS.out.2.1.trans (hb4.mono HS.out.2.1.size)
    have hO4 := HS.out.1.below hb4 (Nat.le_refl _)
    have hs34 := hb4.size
    have hs23 := HS.out.2.1.size
    have H4 := Lib.hid (And.intro hb24 (And.intro hrS (And.intro hti (And.intro hend (And.intro hrs (And.intro hsec (hO4.mono (Nat.le_refl _) hs34)))))))
    have hnd := HS.out.2.2.2.2.2.2.2.2.2.2
    have HD := Lib.hid hnd
    clear hb24 hrS hti hend hrs hsec hO4 hSE hSp hSr hSo hRS hb4 hnd k1 k2 k3 k4 k5 k6
    obtain ⟨k1, k2, k3, k4, k5, k6⟩ := HI.out.1 w4 H4.out.1
    go_wp2_with fail
    go_loopw [6, 7, 9] (fun lv ev iv wr => ∃ (i k c e : Nat) (A : Option Addr), i ≤ m ∧ k = 3 + i ∧ iv = .int .i64 (i : Int) ∧ ev = .int .i64 (e : Int) ∧ e = Pe.headers xs + Pe.sizes (RS.take i) ∧ lv = .slice A k c ∧ OwnC 39 2 wr w2.heap.size wr.heap.size (.slice A k c) k (((Pe.ranges xs).take k).flatMap placeC) ∧ w4.grownBy wr (some w2.heap.size) ∧ ∀ g, (Value.slice A k c).ownBlock = some g → g = w2.heap.size ∨ w4.heap.size ≤ g) (fun _ _ iv _ => m - (intOf iv).toNat)
    case atStart => exact ⟨0, 3, 3, hd, _, Nat.zero_le _, rfl, rfl, rfl, by simp [Pe.sizes]; exact HD.out, rfl, H4.out.2.2.2.2.2.2, grown_refl _ _, fun g e => .inl (by simpa [Value.ownBlock] using e.symm)⟩
    case round =>
      obtain ⟨i, k, cl, ev, Al, hi, hk, rfl, rfl, hev, rfl, ho, hgr, hob⟩ := hrel
      have hb : Below w2.heap.size w4 wr := (Below.refl _ _).grown hgr (by omega) (fun k e => by injection e with e; omega)
      clear k1 k2 k3 k4 k5 k6
      have hb2r := H4.out.1.trans hb
      obtain ⟨k1, k2, k3, k4, k5, k6⟩ := HI.out.1 wr hb2r
      have hs2r : w2.heap.size ≤ wr.heap.size := hb2r.size
      have hkl : k ≤ 1000 := by omega
      by_cases hlt : i < m
      · have hltI : (i : Int) < (m : Int) := by omega
        obtain ⟨b, o, ⟨xo, xz⟩, rfl, hbb, hx, c0, c1⟩ := H4.out.2.1.get hlt
        have hrs := H4.out.2.2.2.2.1 _ (List.mem_of_getElem? hx)
        have hti := Pe.tiles_at _ _ _ _ H4.out.2.2.1 hx
        have hsu := Pe.sizes_succ RS hx
        have hge := H4.out.2.2.2.2.2.1 i _ hx
        have hbs := HbS.out b o (by omega) rfl
        have hbl := hgr.block b hbb (fun e => by injection e with e; omega)
        have c0 := (World.cell?_of_block (a := ⟨b, o + i * 2, none⟩) hbl).trans c0
        have c1 := (World.cell?_of_block (a := ⟨b, o + i * 2 + 1, none⟩) hbl).trans c1
        dsimp only at c0 c1 hrs hti hsu hge
        obtain ⟨e2, he2⟩ : ∃ e, xo + xz = e := ⟨_, rfl⟩
        rw [he2] at hge hrs
        have i1 : IntKind.i64.wrap (xo : Int) = (xo : Int) := by rw [IntKind.wrap_i64]; omega
        have i2 : IntKind.i64.wrap (xz : Int) = (xz : Int) := by rw [IntKind.wrap_i64]; omega
        have i3 : IntKind.i64.wrap ((xo : Int) + (xz : Int)) = (e2 : Int) := by rw [IntKind.wrap_i64]; omega
        have hev2 : e2 = Pe.headers xs + Pe.sizes (RS.take (i + 1)) := by omega
        have hsn : (Pe.ranges xs).take (k + 1) = (Pe.ranges xs).take k ++ [(xo, e2)] := take_snoc (by rw [hk]; exact hge)
        have HR := Lib.hid (And.intro ho (And.intro hgr (And.intro hsn (And.intro hev2 (And.intro hk hob)))))
        clear ho hgr hob hbl hbs hb hsn hev2 hge hti hsu hx hev hk he2
        go_upto_region 10 with fail
        go_quiet (fail)
        obtain ⟨k9, rfl⟩ : ∃ k, k = nq := ⟨_, rfl⟩
        have c0' : (wr.drewN k9).cell? ⟨b, o + i * 2, none⟩ = some (.int .u32 (xo : Int)) := c0
        have hoq : OwnC 39 2 (wr.drewN k9) w2.heap.size (wr.drewN k9).heap.size (.slice Al k cl) k (((Pe.ranges xs).take k).flatMap placeC) := HR.out.1.keep fun _ _ _ => rfl
        have hbq : w4.grownBy (wr.drewN k9) (some w2.heap.size) := grownBy_drewN HR.out.2.1 k9
        have hsq : w2.heap.size ≤ (wr.drewN k9).heap.size := hs2r
        obtain ⟨wq, hwq⟩ : ∃ V, wr.drewN k9 = V := ⟨_, rfl⟩
        rw [hwq] at c0' hoq hbq hsq ⊢
        have HQ := Lib.hid (And.intro hoq hbq)
        clear hoq hbq hwq c0 c1 k1 k2 k3 k4 k5 k6
        go_wp2_with (first
          | (at_builtin
             refine wpList_appP rfl (.tmp 61) (.tmp 70) rfl w2.heap.size wq.heap.size (.slice Al k cl) k ((Pe.ranges xs).take k) rfl (HQ.out.1.alloc (Nat.le_refl _) _) ?_ hkl (wq.alloc (.cells #[.int .i64 (xo : Int), .int .i64 (e2 : Int)] 39)).heap.size wq.heap.size 1 (xo, e2) rfl (by simp) (Blk.cell (Blk.new wq _ _) 0) (Blk.cell (Blk.new wq _ _) 1) ?_
             · simp; omega
             intro v7 w7 ho7 hg7 hv7
             have H7 := Lib.hid (And.intro ho7 (And.intro hg7 hv7))
             clear ho7 hg7 hv7)
          | fail)
        obtain ⟨A7, c7, rfl, _⟩ := H7.out.1.shape
        refine ⟨⟨i + 1, k + 1, c7, e2, A7, by omega, by have := HR.out.2.2.2.2.1; omega, by simp, rfl, HR.out.2.2.2.1, rfl, ?_, ?_, ?_⟩, ?_⟩
        · rw [HR.out.2.2.1]
          exact H7.out.1
        · have hga : w4.grownBy (wq.alloc (.cells #[.int .i64 (xo : Int), .int .i64 (e2 : Int)] 39)) (some w2.heap.size) := grown_below HQ.out.2 (below_one _ _)
          refine grown_on hga H7.out.2.1 fun j e => ?_
          rcases HR.out.2.2.2.2.2 j e with h | h
          · exact .inr h
          · exact .inl h
        · intro g e
          rcases H7.out.2.2 with h | h
          · exact HR.out.2.2.2.2.2 g (h.symm.trans e)
          · rw [h] at e
            injection e with e
            have := HQ.out.2.size
            simp at e
            omega
        · simp [intOf]; omega
      · obtain rfl : i = m := by omega
        have hltI : ¬ ((i : Int) < (i : Int)) := by omega
        have hee : ev = Pe.end_ xs := hev.trans H4.out.2.2.2.1
        have hlst := HS.out.2.2.2.2.1
        have hlrl := HS.out.2.2.1
        have hlri := HS.out.2.2.2.1
        have hle := HS.out.2.2.2.2.2.1.e
        rw [← hee] at hlrl hlri
        have hnl := H.out.2
        by_cases hln0 : 0 < ln
        · have hlnI : (0 : Int) < (ln : Int) := by omega
          rw [if_pos hln0] at hlst
          have htbn : tb ≤ n := by omega
          have j9 : IntKind.i64.wrap (tb : Int) = (tb : Int) := by rw [IntKind.wrap_i64]; omega
          have HE := Lib.hid (And.intro ho (And.intro hlrl (And.intro hlst (And.intro hlri (And.intro hgr hob)))))
          clear ho hlrl hlst hlri hgr hob hb hee hev hle
          by_cases hel : ev < tb
          · have helI : (ev : Int) < (tb : Int) := by omega
            have hge := HE.out.2.2.2.1 (by rw [HE.out.2.2.1]; omega)
            have hll : (Pe.ranges xs).length = k + 1 := by rw [HE.out.2.1, if_pos (by rw [HE.out.2.2.1]; omega)]; omega
            rw [HE.out.2.2.1] at hge
            have hsn : (Pe.ranges xs) = (Pe.ranges xs).take k ++ [(ev, tb)] := by
              have h1 : (Pe.ranges xs).take (k + 1) = (Pe.ranges xs).take k ++ [(ev, tb)] := take_snoc (by rw [hk]; exact hge)
              rwa [List.take_of_length_le (Nat.le_of_eq hll)] at h1
            have HG := Lib.hid (And.intro hll hsn)
            clear hge hll hsn hel hk
            go_wp2_with (first
              | (at_builtin
                 refine wpList_appP rfl (.tmp 83) (.tmp 87) rfl w2.heap.size wr.heap.size (.slice Al k cl) k ((Pe.ranges xs).take k) rfl (HE.out.1.alloc (Nat.le_refl _) _) ?_ hkl (wr.alloc (.cells #[.int .i64 (ev : Int), .int .i64 (tb : Int)] 39)).heap.size wr.heap.size 1 (ev, tb) rfl (by simp) (Blk.cell (Blk.new wr _ _) 0) (Blk.cell (Blk.new wr _ _) 1) ?_
                 · simp; omega
                 intro v7 w7 ho7 hg7 hv7
                 have H7 := Lib.hid (And.intro ho7 (And.intro hg7 hv7))
                 clear ho7 hg7 hv7)
              | fail)
            obtain ⟨A7, c7, rfl, hrP⟩ := H7.out.1.rdP
            rw [← HG.out.2] at hrP
            have hga := grown_below HE.out.2.2.2.2.1 (below_one wr (.cells #[.int .i64 (ev : Int), .int .i64 (tb : Int)] 39))
            have hg7 : w4.grownBy w7 (some w2.heap.size) := grown_on hga H7.out.2.1 fun j e => by
              rcases HE.out.2.2.2.2.2 j e with h | h
              · exact .inr h
              · exact .inl h
            have hbz : Below w.heap.size w w7 := (HI.out.2.2.2.2.1.trans (H4.out.1.mono HI.out.2.2.2.2.1.size)).grown hg7 (by have := HI.out.2.2.2.2.1.size; omega) (fun k e => by injection e with e; have := HI.out.2.2.2.2.1.size; omega)
            exact bodyPost_ret (v := .tuple #[.slice A7 (k + 1) c7, .int .i64 ((0 : Nat) : Int)]) (by simp [results, Tryz.results10, go_sem]) rfl ⟨hbz, A7, k + 1, c7, 0, rfl, HI.out.2.2.2.1, fun h => absurd rfl h, fun _ => hrP, fun p e => Nat.le_trans HI.out.2.2.2.2.1.size (OwnC.low H7.out.1 p e)⟩
          · have helI : ¬ ((ev : Int) < (tb : Int)) := by omega
            have hll : (Pe.ranges xs).length = k := by rw [HE.out.2.1, if_neg (by rw [HE.out.2.2.1]; omega)]; omega
            obtain ⟨A7, c7, e7, hrP⟩ := HE.out.1.rdP
            injection e7 with q1 q2 q3
            subst q1 q3
            rw [List.take_of_length_le (Nat.le_of_eq hll)] at hrP
            have hbz : Below w.heap.size w wr := (HI.out.2.2.2.2.1.trans (H4.out.1.mono HI.out.2.2.2.2.1.size)).grown HE.out.2.2.2.2.1 (by have := HI.out.2.2.2.2.1.size; omega) (fun k e => by injection e with e; have := HI.out.2.2.2.2.1.size; omega)
            have HG := Lib.hid (And.intro hrP hbz)
            clear hll hrP hbz hel q2 hk
            go_wp2_with fail
            exact bodyPost_ret (v := .tuple #[.slice Al k cl, .int .i64 ((0 : Nat) : Int)]) (by simp [results, Tryz.results10, go_sem]) rfl ⟨HG.out.2, Al, k, cl, 0, rfl, HI.out.2.2.2.1, fun h => absurd rfl h, fun _ => HG.out.1, fun p e => Nat.le_trans HI.out.2.2.2.2.1.size (OwnC.low HE.out.1 p e)⟩
        · have hlnI : ¬ ((0 : Int) < (ln : Int)) := by omega
          rw [if_neg hln0] at hlst
          have HE := Lib.hid (And.intro ho (And.intro hlrl (And.intro hlst (And.intro hlri (And.intro hgr hob)))))
          clear ho hlrl hlst hlri hgr hob hb hee hev hle hnl
          by_cases hel : ev < n
          · have helI : (ev : Int) < (n : Int) := by omega
            have hge := HE.out.2.2.2.1 (by rw [HE.out.2.2.1]; omega)
            have hll : (Pe.ranges xs).length = k + 1 := by rw [HE.out.2.1, if_pos (by rw [HE.out.2.2.1]; omega)]; omega
            rw [HE.out.2.2.1] at hge
            have hsn : (Pe.ranges xs) = (Pe.ranges xs).take k ++ [(ev, n)] := by
              have h1 : (Pe.ranges xs).take (k + 1) = (Pe.ranges xs).take k ++ [(ev, n)] := take_snoc (by rw [hk]; exact hge)
              rwa [List.take_of_length_le (Nat.le_of_eq hll)] at h1
            have HG := Lib.hid (And.intro hll hsn)
            clear hge hll hsn hel hk
            go_wp2_with (first
              | (at_builtin
                 refine wpList_appP rfl (.tmp 83) (.tmp 87) rfl w2.heap.size wr.heap.size (.slice Al k cl) k ((Pe.ranges xs).take k) rfl (HE.out.1.alloc (Nat.le_refl _) _) ?_ hkl (wr.alloc (.cells #[.int .i64 (ev : Int), .int .i64 (n : Int)] 39)).heap.size wr.heap.size 1 (ev, n) rfl (by simp) (Blk.cell (Blk.new wr _ _) 0) (Blk.cell (Blk.new wr _ _) 1) ?_
                 · simp; omega
                 intro v7 w7 ho7 hg7 hv7
                 have H7 := Lib.hid (And.intro ho7 (And.intro hg7 hv7))
                 clear ho7 hg7 hv7)
              | fail)
            obtain ⟨A7, c7, rfl, hrP⟩ := H7.out.1.rdP
            rw [← HG.out.2] at hrP
            have hga := grown_below HE.out.2.2.2.2.1 (below_one wr (.cells #[.int .i64 (ev : Int), .int .i64 (n : Int)] 39))
            have hg7 : w4.grownBy w7 (some w2.heap.size) := grown_on hga H7.out.2.1 fun j e => by
              rcases HE.out.2.2.2.2.2 j e with h | h
              · exact .inr h
              · exact .inl h
            have hbz : Below w.heap.size w w7 := (HI.out.2.2.2.2.1.trans (H4.out.1.mono HI.out.2.2.2.2.1.size)).grown hg7 (by have := HI.out.2.2.2.2.1.size; omega) (fun k e => by injection e with e; have := HI.out.2.2.2.2.1.size; omega)
            exact bodyPost_ret (v := .tuple #[.slice A7 (k + 1) c7, .int .i64 ((0 : Nat) : Int)]) (by simp [results, Tryz.results10, go_sem]) rfl ⟨hbz, A7, k + 1, c7, 0, rfl, HI.out.2.2.2.1, fun h => absurd rfl h, fun _ => hrP, fun p e => Nat.le_trans HI.out.2.2.2.2.1.size (OwnC.low H7.out.1 p e)⟩
          · have helI : ¬ ((ev : Int) < (n : Int)) := by omega
            have hll : (Pe.ranges xs).length = k := by rw [HE.out.2.1, if_neg (by rw [HE.out.2.2.1]; omega)]; omega
            obtain ⟨A7, c7, e7, hrP⟩ := HE.out.1.rdP
            injection e7 with q1 q2 q3
            subst q1 q3
            rw [List.take_of_length_le (Nat.le_of_eq hll)] at hrP
            have hbz : Below w.heap.size w wr := (HI.out.2.2.2.2.1.trans (H4.out.1.mono HI.out.2.2.2.2.1.size)).grown HE.out.2.2.2.2.1 (by have := HI.out.2.2.2.2.1.size; omega) (fun k e => by injection e with e; have := HI.out.2.2.2.2.1.size; omega)
            have HG := Lib.hid (And.intro hrP hbz)
            clear hll hrP hbz hel q2 hk
            go_wp2_with fail
            exact bodyPost_ret (v := .tuple #[.slice Al k cl, .int .i64 ((0 : Nat) : Int)]) (by simp [results, Tryz.results10, go_sem]) rfl ⟨HG.out.2, Al, k, cl, 0, rfl, HI.out.2.2.2.1, fun h => absurd rfl h, fun _ => HG.out.1, fun p e => Nat.le_trans HI.out.2.2.2.2.1.size (OwnC.low HE.out.1 p e)⟩
  · have hne : ((er : Int) != 0) = true := by simp; omega
    have HB := Lib.hid (And.intro hb02 he)
    clear hb02 he hb12 hg2 hB2
    go_wp2_with fail
    exact bodyPost_ret (v := .tuple #[.slice none 0 0, .int .i64 (er : Int)]) (by simp [results, Tryz.results10, go_sem]) rfl ⟨HB.out.1, none, 0, 0, er, rfl, H1.out.2.2.2, fun _ => rfl, fun h => absurd h HB.out.2, fun _ e => by cases e⟩
end Go.Proofs.YtmpladnglfiejaaGreatDoor
end

section
/- The document's hashed bytes. -/
namespace Go.Proofs.YtmpladnglfiejaaGreatDoor
open Go.RowKit
set_option maxRecDepth 100000
set_option linter.unusedVariables false
set_option linter.unusedSimpArgs false
set_option maxHeartbeats 4000000 in
theorem rhashed_any (A : Option Addr) (n c : Nat) (xs : List UInt8) (R : Option Addr) (k rc : Nat) (w : World) (hr : Rd w w.heap.size A n c xs) (hP : RdP w w.heap.size R k rc (Pe.ranges xs)) (her : Pe.err xs = 0) (hn : n ≤ 16384) :
    Calls Tryz.prog 24 #[.slice A n c, .slice R k rc] w fun e w' => RetOwn (Pe.hashed xs) w e w' ∧ (Pe.hashed xs).length ≤ 4000000 := by
  have hl := hr.len
  have hk1 : k ≤ 200 := by
    have h1 := hP.len
    have h2 := Pe.ranges_len xs
    have h3 := (meB her (by omega)).many
    split at h2 <;> omega
  have H := Lib.hid (And.intro hr (And.intro hP (And.intro her hl)))
  clear hr hP her hl
  go_enter Tryz.func24, Tryz.ntmps24
  go_wp2_with fail
  go_loopw [5, 6] (fun p i wr => ∃ j : Nat, j ≤ k ∧ i = .int .i64 (j : Int) ∧ OwnB wr w.heap.size wr.heap.size p (Pe.hashedOf xs ((Pe.ranges xs).take j)) ∧ Below w.heap.size w wr) (fun _ i _ => k - (intOf i).toNat)
  case atStart => exact ⟨0, Nat.zero_le _, rfl, OwnB.nil_, Below.refl _ _⟩
  case round =>
    obtain ⟨j, hj, rfl, ho, hb⟩ := hrel
    have hle := hashedOf_le xs ((Pe.ranges xs).take j)
    rw [List.length_take] at hle
    have hle2 : (Pe.hashedOf xs ((Pe.ranges xs).take j)).length ≤ j * xs.length := Nat.le_trans hle (Nat.mul_le_mul_right _ (Nat.min_le_left _ _))
    have hle3 : j * xs.length ≤ 200 * 16384 := Nat.mul_le_mul (by omega) (by have := H.out.2.2.2; omega)
    by_cases hlt : j < k
    · obtain ⟨b, o, x, hR, hbk, hx, hc0, hc1⟩ := (H.out.2.1).get hlt
      subst hR
      obtain ⟨lo, hi⟩ := x
      obtain ⟨hf1, hf2⟩ := ranges_fit H.out.2.2.1 (lo, hi) (List.mem_of_getElem? hx)
      dsimp only at hf1 hf2 hc0 hc1
      have hlen := (H.out.1).len
      have c0 := (hb.cell (p := ⟨b, o + j * 2, none⟩) hbk).trans hc0
      have c1 := (hb.cell (p := ⟨b, o + j * 2 + 1, none⟩) hbk).trans hc1
      obtain ⟨Z, m, cz, hz, hmh, s1, s2⟩ := run_fromto (H.out.1) lo hi hf1 (by omega)
      have hsn := hashedOf_snoc (xs := xs) hx
      have hzW : Rd wr w.heap.size Z m cz ((xs.take hi).drop lo) := hz.keep fun p hp => hb.cell hp
      obtain ⟨Ap, np, cp, rfl, _⟩ := ho.rd
      have HR := Lib.hid (And.intro ho (And.intro hb (And.intro hsn (And.intro hzW (And.intro hle2 hle3)))))
      have hjk : (j : Int) < (k : Int) := by omega
      clear ho hb hsn hzW hz hx hle hle2 hle3 hc0 hc1
      go_upto_region 5 with fail
      go_region_held3 (fun w' => w'.cell? ⟨b, o + j * 2, none⟩ = some (.int .i64 (lo : Int)) ∧ w'.cell? ⟨b, o + j * 2 + 1, none⟩ = some (.int .i64 (hi : Int))) (go_keep)
        (first | ((refine step_app (by rfl) (.tmp 13) (.tmp 25) (by rfl) w.heap.size wr.heap.size _ (Pe.hashedOf xs ((Pe.ranges xs).take j)) (by rfl) (by exact HR.out.1.drewN 1) (by have := HR.out.2.1.size; simp; omega) w.heap.size Z m cz ((xs.take hi).drop lo) (by rfl) (by exact (HR.out.2.2.2.1.drew).rds) (by have h1 := HR.out.2.2.2.2.1; have h2 := HR.out.2.2.2.2.2; omega) ?_); intro v6 w6 ho6 hg6 hat6 hb6; have z1 := (hb6.cell (p := ⟨b, o + j * 2, none⟩) hbk).trans c0; have z2 := (hb6.cell (p := ⟨b, o + j * 2 + 1, none⟩) hbk).trans c1; obtain ⟨A6, n6, c6, rfl, _⟩ := ho6.rd; have H6 := Lib.hid (And.intro ho6 hb6); clear ho6 hg6 hat6 hb6) | fail)
      go_wp2_with fail
      go_roundw
      case rel => exact ⟨j + 1, by omega, by go_num, by rw [HR.out.2.2.1]; exact H6.out.1, HR.out.2.1.drew.trans H6.out.2⟩
      case measure => simp [intOf]; omega
    · have hjk : ¬ ((j : Int) < (k : Int)) := by omega
      obtain rfl : j = k := by omega
      have hall : Pe.hashedOf xs ((Pe.ranges xs).take j) = Pe.hashed xs := by
        rw [List.take_of_length_le (Nat.le_of_eq H.out.2.1.len)]
        rfl
      rw [hall] at ho hle2
      have HF := Lib.hid (And.intro ho (And.intro hb (show (Pe.hashed xs).length ≤ 4000000 by omega)))
      clear ho hb hall hle hle2 hle3
      go_wp2_with fail
      go_ret
      exact ⟨retOwn HF.out.1 HF.out.2.1, HF.out.2.2⟩
/-- What the document's Digest answers. -/
def RDigest (xs : List UInt8) (w : World) (e : Ending) (w' : World) : Prop :=
  Below w.heap.size w w' ∧ ∃ (S : List Int) (C : IV) (er : Nat), e = .returned (.tuple #[.agg (S.map u8v).toArray, C.val, .int .i64 (er : Int)]) ∧ dig xs = S ∧ Pe.err xs = er ∧ S.length = 32 ∧ C.One ∧ (er ≠ 0 → C = IV.zero) ∧ (er = 0 → ImgRd xs C w.heap.size w')
/-- The slots of the document's last region. -/
def RgL (b1 b2 lo n c : Nat) (A : Option Addr) (k rc : Nat) (R : Option Addr) (ys : List UInt8) (S : List Int) (C : IV) : Nat → Value → World → Prop
  | 0, u, _ => u = .slice A n c
  | 1, u, _ => u = .slice R k rc
  | 2, u, W => OwnB W lo W.heap.size u ys ∧ ys.length ≤ 4000000
  | 3, u, _ => u = .agg (S.map u8v).toArray
  | 4, u, _ => u = C.val
  | 5, _, W => Blk W b1 25 (S.map u8v).toArray
  | 6, _, W => Bi W b2 C
  | 7, u, _ => u = .int .i64 0
  | _, _, _ => True
theorem RgL.mono {b1 b2 lo n c : Nat} {A : Option Addr} {k rc : Nat} {R : Option Addr} {ys : List UInt8} {S : List Int} {C : IV} (h1 : b1 < lo) (h2 : b2 < lo) : ∀ (i : Nat) (v : Value) (x y : World), DgR b1 b2 S C x y → RgL b1 b2 lo n c A k rc R ys S C i v x → RgL b1 b2 lo n c A k rc R ys S C i v y := by
  intro i v x y hR h
  unfold RgL at h ⊢
  split <;> first | trivial | exact h | exact hR.s1 h | exact hR.s2 h | exact ⟨(ownB_keepU8 h.1 fun k cur fr hk1 hk2 hk => hR.kept k hk2 (by omega) (by omega)).mono (Nat.le_refl _) hR.size, h.2⟩
theorem DgR.cell {b1 b2 : Nat} {S : List Int} {C : IV} {x y : World} (h : DgR b1 b2 S C x y) {p : Addr} (h0 : p.block < x.heap.size) (h1 : p.block ≠ b1) (h2 : p.block ≠ b2) : y.cell? p = x.cell? p := World.cell?_of_block (h.kept p.block h0 h1 h2)
/-- A row of places whose first cell lies elsewhere stays. -/
theorem RdP.keepAt {w w' : World} {B n c : Nat} {A : Option Addr} {l : List (Nat × Nat)} (h : RdP w B A n c l) (P : Nat → Prop) (hA : ∀ p, A = some p → P p.block) (hk : ∀ p : Addr, p.block < B → P p.block → w'.cell? p = w.cell? p) : RdP w' B A n c l := by
  obtain ⟨h1, h2, h3, h4, h5⟩ := h
  refine ⟨h1, h2, h3, h4, ?_⟩
  refine ⟨h5.1, fun hn => ?_⟩
  obtain ⟨ad, e, hl, hc⟩ := h5.2 hn
  have hb : ∀ j, (ad.add j).block = ad.block := fun j => by first | rfl | (unfold Addr.add; split <;> rfl)
  exact ⟨ad, e, hl, fun j u hj => (hk (ad.add j) (by rw [hb]; exact hl) (by rw [hb]; exact hA ad e)).trans (hc j u hj)⟩
set_option maxHeartbeats 4000000 in
theorem rDigest_any (A : Option Addr) (n c : Nat) (xs : List UInt8) (w : World) (h : Rd w w.heap.size A n c xs) (hn : n ≤ 16384) :
    Calls Tryz.prog 8 #[.slice A n c] w (RDigest xs w) := by
  have hl := h.len
  have hz : (z32.map u8v).length = 32 := rfl
  have hD0 : Bd (dW w) w.heap.size z32 := dW_b w
  have hI0 : Bi (dW w) (w.heap.size + 1) IV.zero := dW_i w
  have hb0 := dW_below w
  have hs0 : (dW w).heap.size = w.heap.size + 2 := by unfold dW; simp
  go_enter Tryz.func8, Tryz.ntmps8
  go_upto_region 1 with fail
  show Code.wp _ _ _ _ (dW w)
  obtain ⟨wd, hwd⟩ : ∃ W, dW w = W := ⟨_, rfl⟩
  rw [hwd] at hD0 hI0 hb0 hs0 ⊢
  have H := Lib.hid (And.intro h (And.intro hl (And.intro hD0 (And.intro hI0 (And.intro hb0 hs0)))))
  clear h hl hD0 hI0 hb0 hs0 hwd hz
  go_wp2_with fail
  refine (rRanges_any A n c xs wd (H.out.1.up H.out.2.2.2.2.1) hn).mono ?_
  rintro e w1 ⟨hb1, R, k, rc, er, rfl, her, hz, hok, hlo⟩
  have H1 := Lib.hid (And.intro hb1 (And.intro her (And.intro hz (And.intro hok (And.intro hlo (H.out.2.2.2.2.1.trans (hb1.mono H.out.2.2.2.2.1.size)))))))
  clear hb1 her hz hok hlo
  by_cases he : er = 0
  · subst he
    have herr : Pe.err xs = 0 := H1.out.2.1
    go_wp2_with fail
    refine (refParse_any A n c xs w1 (H.out.1.up H1.out.2.2.2.2.2) (by omega)).mono ?_
    rintro e w2 ⟨hb2, C, rfl, hone, hz, hI⟩
    rw [herr]
    have hb02 := H1.out.2.2.2.2.2.trans (hb2.mono H1.out.2.2.2.2.2.size)
    have H2 := Lib.hid (And.intro hb2 (And.intro hone (And.intro (hI herr) hb02)))
    clear hb2 hone hz hI hb02
    go_upto_region 5 with (first
      | ((with_reducible refine at_store_img ?_); refine wpList_store_img rfl _ _ rfl w2.heap.size IV.zero C rfl rfl (Blk.new w2 _ _) H2.out.2.1 ?_; intro w3 hB3 hg3)
      | fail)
    have hb23 : Below w2.heap.size w2 w3 := (below_one w2 _).grown hg3 (by simp) (fun k e => by injection e with e; omega)
    have hs1 := H1.out.1.size
    have hs2 := H2.out.1.size
    have hs3 := hb23.size
    have hsd := H.out.2.2.2.2.2
    have hdb : Below wd.heap.size wd w3 := (H1.out.1.trans (H2.out.1.mono hs1)).trans (hb23.mono (by omega))
    have hDW : Bd w3 w.heap.size z32 := H.out.2.2.1.below hdb (by omega)
    have hIW : Bi w3 (w.heap.size + 1) IV.zero := H.out.2.2.2.1.below hdb (by omega)
    have hb03 := H2.out.2.2.2.trans (hb23.mono H2.out.2.2.2.size)
    have hP3 : RdP w3 w1.heap.size R k rc (Pe.ranges xs) := (H1.out.2.2.2.1 (by trivial)).below (H2.out.1.trans (hb23.mono hs2))
    have hIm3 : ImgRd xs C w1.heap.size w3 := H2.out.2.2.1.later hb23
    obtain ⟨S, hS⟩ : ∃ S, Sha.sum (Pe.hashed xs) = S := ⟨_, rfl⟩
    have hSl : S.length = 32 := by rw [← hS]; unfold Sha.sum; rw [List.length_map, List.length_range]
    have hgl := hB3.lt
    have HW := Lib.hid (And.intro hB3 (And.intro hDW (And.intro hIW (And.intro hb03 (And.intro hP3 (And.intro hIm3 (And.intro hS (And.intro hSl (And.intro hdb hgl)))))))))
    clear hB3 hg3 hb23 hdb hDW hIW hb03 hP3 hIm3 hS hSl
    refine wp_region_marked (RgL w.heap.size (w.heap.size + 1) wd.heap.size n c A k rc R (Pe.hashed xs) S C) (fun W' => DgR w.heap.size (w.heap.size + 1) S C w3 W') (DgR w.heap.size (w.heap.size + 1) S C) rfl (RgL.mono (by omega) (by omega)) (fun x y h1 h2 => h1.trans h2) (by show dstsOk _ 29 = true; decide +kernel) (by decide +kernel) (by decide +kernel) (DgR.of_below (Below.refl _ _).drew) ⟨?_, ?_, ?_, ?_, ?_, ?_, ?_, ?_, trivial⟩ ?_
    · intro a' W' hfr hG hdep
      have d0 : a'.eval (.tmp 0) = .slice A n c := hfr 0 (by decide +kernel)
      exact J_of (by simp) (fun _ => rfl) (F_move rfl d0 trivial (DgR.of_below (Below.refl _ _)))
    · intro a' W' hfr hG hdep
      have d5 : a'.eval (.tmp 5) = .slice R k rc := hfr 5 (by decide +kernel)
      exact J_of (by simp) (fun _ => rfl) (F_move rfl d5 trivial (DgR.of_below (Below.refl _ _)))
    · intro a' W' hfr hG hdep
      have d24 : a'.eval (.tmp 24) = .slice A n c := hdep 0 (by decide +kernel)
      have d25 : a'.eval (.tmp 25) = .slice R k rc := hdep 1 (by decide +kernel)
      have hsz := hG.size
      have hr' : Rd W' W'.heap.size A n c xs := ((H.out.1.below HW.out.2.2.2.1).keep fun p hp => hG.cell (by omega) (by omega) (by omega)).more (by omega)
      have hp' : RdP W' W'.heap.size R k rc (Pe.ranges xs) := (HW.out.2.2.2.2.1.keepAt (fun b => wd.heap.size ≤ b) H1.out.2.2.2.2.1 fun p hp hq => hG.cell (by omega) (by omega) (by omega)).more (by omega)
      refine J_call (by simp) rfl Tryz.func24 rfl (by decide) (args := #[.slice A n c, .slice R k rc]) (by simp only [List.map_toArray, List.map_cons, List.map_nil, d24, d25]) (rhashed_any A n c xs R k rc W' hr' hp' herr hn) ?_
      rintro e w' ⟨⟨Av, nv, cv, rfl, ho, hb⟩, hln⟩
      exact ⟨_, rfl, ⟨ho.mono (by omega) (Nat.le_refl _), hln⟩, DgR.of_below hb⟩
    · intro a' W' hfr hG hdep
      have d26 : OwnB W' wd.heap.size W'.heap.size (a'.eval (.tmp 26)) (Pe.hashed xs) ∧ (Pe.hashed xs).length ≤ 4000000 := hdep 2 (by decide +kernel)
      obtain ⟨Ah, nh, ch, hv, hrd⟩ := d26.1.rd
      refine J_call (by simp) rfl Tryz.func14 rfl (by decide) (args := #[.slice Ah nh ch]) (by simp only [List.map_toArray, List.map_cons, List.map_nil, hv]) (rsum_any Ah nh ch (Pe.hashed xs) W' hrd ?_) ?_
      · have := hrd.len; have := d26.2; omega
      rintro e w' ⟨rfl, hb⟩
      exact ⟨_, rfl, by rw [HW.out.2.2.2.2.2.2.1]; rfl, DgR.of_below hb⟩
    · intro a' W' hfr hG hdep
      have d7 : a'.eval (.tmp 7) = .pointer (some ⟨w2.heap.size, 0, none⟩) := hfr 7 (by decide +kernel)
      have hC' : Bi W' w2.heap.size C := (hG.kept _ (by omega) (by omega) (by omega)).trans HW.out.1
      exact J_of (by simp) (fun _ => rfl) (F_load rfl d7 (load_img hC') trivial (DgR.of_below (Below.refl _ _)))
    · intro a' W' hfr hG hdep
      obtain ⟨l1, hl1, hB1⟩ := hG.r1 ⟨_, rfl, HW.out.2.1⟩
      have d27 : a'.eval (.tmp 27) = .agg (S.map u8v).toArray := hdep 3 (by decide +kernel)
      have d2 : a'.eval (.tmp 2) = .pointer (some ⟨w.heap.size, 0, none⟩) := hfr 2 (by decide +kernel)
      have hSR := setRow_blk (ds := (S.map u8v).toArray) hB1
      exact wp_store_row 25 _ _ rfl _ _ _ d2 d27 (store_b32 hl1 HW.out.2.2.2.2.2.2.2.1 hB1) ⟨undef, rfl, fun _ => rfl, hSR.1, DgR.set1 (by omega) HW.out.2.2.2.2.2.2.2.1 hSR.2 hSR.1⟩
    · intro a' W' hfr hG hdep
      obtain ⟨D2, hB2⟩ := hG.r2 ⟨_, HW.out.2.2.1⟩
      have d28 : a'.eval (.tmp 28) = C.val := hdep 4 (by decide +kernel)
      have d3 : a'.eval (.tmp 3) = .pointer (some ⟨w.heap.size + 1, 0, none⟩) := hfr 3 (by decide +kernel)
      exact wp_store_row 30 _ _ rfl _ _ _ d3 d28 (run_put_img hB2 C H2.out.2.1) ⟨undef, rfl, fun _ => rfl, (setRow_img hB2).1, DgR.set2 (by omega) (setRow_img hB2).2 (setRow_img hB2).1⟩
    · intro a' W' hfr hG hdep
      exact J_of (by simp) (fun _ => rfl) (F_val (by simp [execOp, Act.eval]) trivial (DgR.of_below (Below.refl _ _)))
    · intro a' W' hdd hsz hfr hG hJ
      have j3 : Blk W' w.heap.size 25 (S.map u8v).toArray := hJ 5 (by decide)
      have j4 : Bi W' (w.heap.size + 1) C := hJ 6 (by decide)
      have j5 : a'.eval (.tmp 4) = .int .i64 0 := hJ 7 (by decide)
      have HJ := Lib.hid (And.intro j3 (And.intro j4 hG))
      obtain ⟨vs, hvs, e⟩ := act_of_some (by show dstsOk _ 29 = true; decide +kernel) hdd hsz hfr
      have h5 : vs 7 = .int .i64 0 := (hvs 7).symm.trans j5
      clear hJ hfr hdd hsz hG hvs j3 j4 j5
      have hrg : List.range 8 = [0, 1, 2, 3, 4, 5, 6, 7] := rfl
      simp only [layAll, List.map_cons, List.map_nil, List.size_toArray, List.length_cons, List.length_nil, Nat.reduceAdd, hrg, List.zip_cons_cons, List.zip_nil_left, List.foldl_cons, List.foldl_nil, Act.put, List.setIfInBounds_toArray, List.set_cons_zero, List.set_cons_succ] at e
      subst e
      clear hrg
      apply_assumption
      rw [h5]
      go_wp2_with fail
      have hs := HJ.out.2.2.size
      have hk : ∀ k, w1.heap.size ≤ k → k < w3.heap.size → W'.heap[k]? = w3.heap[k]? := fun k h1 h2 => HJ.out.2.2.kept k h2 (by omega) (by omega)
      have hbF : Below w.heap.size w W' := HW.out.2.2.2.1.trans ⟨HJ.out.2.2.os, HJ.out.2.2.tape, HJ.out.2.2.output, hs, fun k hk => HJ.out.2.2.kept k (by omega) (by omega) (by omega)⟩
      obtain ⟨lg, hs0, hl'⟩ := HW.out.2.2.2.2.2.1.sigs
      have hty1 : ∀ (g : Nat) (cs : Array Value) (fr : Nat × Nat), w3.heap[g]? = some (Obj.cells cs 5 fr) → g ≠ w.heap.size := fun g cs fr hg e => by
        subst e
        have hB0 := HW.out.2.1
        unfold Bd Blk at hB0
        rw [hB0] at hg
        injection hg with hg
        injection hg with _ h5
        exact absurd h5 (by decide)
      have hty2 : ∀ (g : Nat) (cs : Array Value) (fr : Nat × Nat), w3.heap[g]? = some (Obj.cells cs 5 fr) → g ≠ w.heap.size + 1 := fun g cs fr hg e => by
        subst e
        have hB0 := HW.out.2.2.1
        unfold Bi Blk at hB0
        rw [hB0] at hg
        injection hg with hg
        injection hg with _ h5
        exact absurd h5 (by decide)
      have hIF : ImgRd xs C w.heap.size W' := ⟨HW.out.2.2.2.2.2.1.nums, (HW.out.2.2.2.2.2.1.secs.keep fun k h1 h2 => hk k h1 h2).mono (by omega) hs, lg, ⟨(hs0.1.keep fun k h1 h2 => hk k h1 h2).mono (by omega) hs, fun p hp => (hs0.2 p hp).keep hs fun g cs fr hg => HJ.out.2.2.kept g (Array.getElem?_eq_some_iff.1 hg).1 (hty1 g cs fr hg) (hty2 g cs fr hg)⟩, hl'⟩
      refine bodyPost_ret (results_cells2 Tryz.results8 _ _ _ _ _ _ _ rfl (load_b32 HW.out.2.2.2.2.2.2.2.1 HJ.out.1) rfl (load_img HJ.out.2.1)) rfl ⟨hbF, S, C, 0, rfl, ?_, herr, HW.out.2.2.2.2.2.2.2.1, H2.out.2.1, fun h => absurd rfl h, fun _ => hIF⟩
      unfold dig
      rw [herr, if_pos rfl]
      exact HW.out.2.2.2.2.2.2.1
  · have hne : ((er : Int) != 0) = true := by simp; omega
    have hl0 : z32.length = 32 := rfl
    have hs1 := H1.out.1.size
    have hsd := H.out.2.2.2.2.2
    have hD1 : Bd w1 w.heap.size z32 := H.out.2.2.1.below H1.out.1 (by omega)
    have hI1 : Bi w1 (w.heap.size + 1) IV.zero := H.out.2.2.2.1.below H1.out.1 (by omega)
    obtain ⟨we, hwe⟩ : ∃ x, w1.setRow w.heap.size (z32.map u8v).toArray = x := ⟨_, rfl⟩
    have hst := store_b32 hl0 hl0 hD1
    have hSR := setRow_blk (ds := (z32.map u8v).toArray) hD1
    rw [hwe] at hst hSR
    have hId : Bi we (w.heap.size + 1) IV.zero := hI1.grown hSR.2 (fun e => by injection e with e; omega)
    have HD := Lib.hid (And.intro hst (And.intro hSR hId))
    clear hst hSR hId hwe hD1 hI1
    go_wp2_with (first
      | ((with_reducible refine at_store_t 25 ?_); refine wpList_store_row rfl 25 _ _ rfl ⟨w.heap.size, 0, none⟩ (.agg (z32.map u8v).toArray) we rfl rfl HD.out.1 ?_)
      | ((with_reducible refine at_store_img ?_); refine wpList_store_img rfl _ _ rfl (w.heap.size + 1) IV.zero IV.zero rfl rfl HD.out.2.2 IV.zero_one ?_; intro wi hBi hgi)
      | fail)
    have hDi : Bd wi w.heap.size z32 := HD.out.2.1.1.grown hgi (fun e => by injection e with e; omega)
    have hszd := HD.out.2.1.2.size
    refine bodyPost_ret (results_cells2 Tryz.results8 _ _ _ _ _ _ _ rfl (load_b32 hl0 hDi) rfl (load_img hBi)) rfl ⟨(H1.out.2.2.2.2.2.grown HD.out.2.1.2 (by omega) (fun j e => by injection e with e; omega)).grown hgi (by omega) (fun j e => by injection e with e; omega), z32, IV.zero, er, rfl, ?_, H1.out.2.1, rfl, IV.zero_one, fun _ => rfl, fun h => absurd h he⟩
    unfold dig
    rw [H1.out.2.1, if_neg he]
    rfl
end Go.Proofs.YtmpladnglfiejaaGreatDoor
end
