/- The contract of lintelref00.Apart: rows of the call's own, no two in one block, are told apart. -/
import Derived.Test.YtlfajfmkljnodaaDoorPeAp2
import Derived.BigQuiet
import Derived.BigRegion
import Derived.Deep.QuietTactic
namespace Go.Proofs.YtlfajfmkljnodaaDoor
open Go.RowKit
set_option maxRecDepth 100000
set_option linter.unusedVariables false
set_option linter.unusedSimpArgs false

theorem bs_info : (Tryd.prog.info? 22).map (fun i => (i.zero, i.size, i.bytes)) = some (some (.slice none 0 0), 1, 24) := by kernel_rfl

theorem box_cell (w : World) (k : Nat) : (w.alloc (.cells #[.int .u8 (((k : Int) + 1) % 256)] 5)).cell? ⟨w.heap.size, 0, none⟩ = some (bv (UInt8.ofNat (k + 1))) := by
  rw [(Blk.new w 5 _).cell 0]
  simp only [bv, UInt8.toNat_ofNat']
  have h : ((k : Int) + 1) % 256 = (((k + 1) % 2 ^ 8 : Nat) : Int) := by omega
  rw [h]
  rfl

/-- What Apart asks for. -/
structure ApIn (w : World) (lo hi ga n : Nat) (cs : Array Value) (l : List (Value × List UInt8)) : Prop where
  blk : Blk w ga 22 cs
  above : hi ≤ ga
  len : l.length = n
  cells : ∀ (j : Nat) (p : Value × List UInt8), l[j]? = some p → cs[j]? = some p.1
  rows : ∀ p ∈ l, OwnB w lo hi p.1 p.2
  apart : Apart' l
  lo_ : lo ≤ hi
  size : n ≤ 1099511627
  sizes : ∀ p ∈ l, p.2.length ≤ 1099511627

theorem ApIn.part {w wr : World} {lo hi ga n : Nat} {cs : Array Value} {l : List (Value × List UInt8)} (h : ApIn w lo hi ga n cs l) (hb : Blk wr ga 22 cs) {j : Nat} (hj : j < n) :
    ∃ A' n' c' xs, l[j]? = some (.slice A' n' c', xs) ∧ wr.cell? ⟨ga, j, none⟩ = some (.slice A' n' c') ∧ xs.length = n' ∧ n' ≤ 1099511627 ∧ OwnB w lo hi (.slice A' n' c') xs := by
  have hlen := h.len
  have hj' : l[j]? = some (l[j]'(by omega)) := List.getElem?_eq_getElem (by omega)
  have hm := List.getElem_mem (l := l) (n := j) (by omega)
  have ho := h.rows _ hm
  obtain ⟨A', n', c', e, hrd⟩ := ho.rd
  have hxx := h.sizes _ hm
  have hll := hrd.len
  rw [e] at ho
  refine ⟨A', n', c', (l[j]'(by omega)).2, ?_, ?_, hll, by omega, ho⟩
  · rw [hj', ← e]
  · rw [hb.cell, h.cells j _ hj', e]

set_option maxHeartbeats 4000000 in
theorem Apart_any (lo hi ga n c : Nat) (cs : Array Value) (l : List (Value × List UInt8)) (w : World) (h : ApIn w lo hi ga n cs l) :
    Calls Tryd.prog 18 #[.slice (some ⟨ga, 0, none⟩) n c] w fun e w' => e = .returned (.bool true) ∧ Below lo w w' := by
  have hgw := h.blk.lt
  have hga := h.above
  have hlo := h.lo_
  have hn := h.size
  have hw0 : WasRel l w 0 (.slice none 0 0) [] w := ⟨by simp, OwnC.nil_, (fun p hp => by cases hp), Below.refl _ _⟩
  have HW0 := Lib.hid hw0
  have HL := Lib.hid h
  clear hw0 h
  go_enter Tryd.func18, Tryd.ntmps18
  go_wp2
  go_loopw [3, 4] (fun v i wr => ∃ k : Nat, k ≤ n ∧ i = .int .i64 k ∧ ∃ ws, WasRel l w k v ws wr) (fun _ i _ => n - (intOf i).toNat)
  case atStart => exact ⟨0, Nat.zero_le _, rfl, [], HW0.out⟩
  case round =>
    obtain ⟨k, hk, rfl, ws, hws⟩ := hrel
    by_cases hlt : k < n
    · have hlt' : (k : Int) < n := by omega
      have hbw := hws.2.2.2
      have hsz := hbw.size
      have hBr := HL.out.blk.below hbw hgw
      obtain ⟨A', n', c', xs, hx, hc, hxl, hxn, ho⟩ := HL.out.part hBr hlt
      obtain ⟨_, _, _, e', hrd⟩ := ho.rd
      injection e' with ea en ec
      subst ea en ec
      have hwl := hws.len (by have := HL.out.len; omega)
      have HW := Lib.hid (And.intro hws (And.intro hx (And.intro hxl hwl)))
      have HR := Lib.hid (((hrd.more (show hi ≤ w.heap.size by omega)).below hbw).more hsz)
      clear hws hx hxl hrd hBr hbw ho hwl
      go_wp2_with fail
      refine (copy_any A' n' c' xs _ HR.out (by omega)).mono ?_
      rintro e w2 ⟨A2, n2, c2, rfl, ho2, hb2⟩
      have hs2 := hb2.size
      have H2 := Lib.hid (And.intro ho2 hb2)
      clear ho2 hb2
      go_wp2_with
        (at_builtin
         refine wpList_appC rfl (.tmp 21) (.tmp 27) 26 rfl 22 _ 1 24 bs_info Tryd.underlying26 rfl (by omega) w.heap.size wr.heap.size _ ws.length (ws.map (·.1)) rfl ((HW.out.1.2.1.below H2.out.2 (Nat.le_refl _)).alloc hs2 _) (by simp; omega) _ _ 1 1 [.slice A2 n2 c2] rfl (Reads.one _ _ _) (by simp [Value.oneCell']) (by have := HW.out.2.2.2; omega) (by have := HW.out.2.2.2; omega) ?_
         intro v3 w3 ho3 hg3 hat3 hb3)
      go_roundw
      case rel => exact ⟨k + 1, by omega, by go_num, _, HW.out.1.step HW.out.2.1 H2.out.1 H2.out.2 ho3 hg3 hb3⟩
      case measure => simp [intOf]; omega
    · obtain rfl : n = k := by omega
      have hge : ¬ (n : Int) < n := by omega
      obtain ⟨w1, rfl⟩ : ∃ w1 : World, w1 = wr := ⟨_, rfl⟩
      have hbw := hws.2.2.2
      have hsz := hbw.size
      have hwl := hws.len (by have := HL.out.len; omega)
      obtain ⟨Aw, cw, rfl, _, _, _, _⟩ := hws.2.1.shape
      have hB1 := HL.out.blk.below hbw hgw
      have hM0 : MoreRel w1 lo hi w1.heap.size l 0 (.slice none 0 0) [] w1 := MoreRel.start fun p hp => (HL.out.rows p hp).below hbw (by omega)
      have HM0 := Lib.hid hM0
      have HW := Lib.hid (And.intro hws (And.intro hB1 (And.intro hwl hbw)))
      rw [hwl]
      clear hws hB1 hM0 hbw hwl
      go_wp2
      go_loopw [5, 6] (fun v i wr => ∃ k : Nat, k ≤ n ∧ i = .int .i64 k ∧ ∃ ms, MoreRel w1 lo hi w1.heap.size l k v ms wr) (fun _ i _ => n - (intOf i).toNat)
      case atStart => exact ⟨0, Nat.zero_le _, rfl, [], HM0.out⟩
      case round =>
        obtain ⟨k, hk, rfl, ms, hms⟩ := hrel
        have hBr : Blk wr ga 22 cs := (hms.2.2.2.2.2 ga hga (by omega)).trans HW.out.2.1
        have hsr : w1.heap.size ≤ wr.heap.size := hms.2.2.2.2.1.size
        by_cases hlt : k < n
        · have hlt' : (k : Int) < n := by omega
          obtain ⟨wo, rfl⟩ : ∃ wo : World, wo = wr := ⟨_, rfl⟩
          obtain ⟨A', n', c', xs, hx, hc, hxl, hxn, _⟩ := HL.out.part hBr hlt
          have ho := hms.2.1 _ (List.mem_of_getElem? hx)
          have hG0 := GRel.start (UInt8.ofNat (k + 1)) ho (by omega)
          have HG := Lib.hid (And.intro hms (And.intro hx (And.intro hxl hG0)))
          clear hms hx ho hG0 hxl hBr
          go_wp2
          go_loopw [7, 8] (fun g j wr => ∃ m : Nat, m ≤ 40 ∧ j = .int .i64 m ∧ GRel wo lo hi (.slice A' n' c') xs (UInt8.ofNat (k + 1)) m g wr) (fun _ j _ => 40 - (intOf j).toNat)
          case atStart => exact ⟨0, by omega, rfl, HG.out.2.2.2⟩
          case round =>
            obtain ⟨m, hm, rfl, hg⟩ := hrel
            have hgs := hg.2.2.1.size
            by_cases hlt2 : m < 40
            · have hlt2' : (m : Int) < 40 := by omega
              have HGm := Lib.hid hg
              clear hg
              go_wp2_with
                (at_builtin
                 refine wpList_app1 rfl (.tmp 43) (.tmp 47) rfl lo wr.heap.size _ (xs ++ List.replicate m (UInt8.ofNat (k + 1))) rfl (HGm.out.2.1.alloc (Nat.le_refl _) _) (by simp; omega) ⟨wr.heap.size, 0, none⟩ 1 (UInt8.ofNat (k + 1)) rfl (box_cell wr k) (by have := HG.out.2.2.1; simp; omega) ?_
                 intro g2 w2 ho2 ha2 hb2)
              go_roundw
              case rel => exact ⟨m + 1, by omega, by go_num, HGm.out.step (by omega) (by omega) ho2 ha2 hb2⟩
              case measure => simp [intOf]; omega
            · obtain rfl : m = 40 := by omega
              obtain ⟨Ag, ng, cg, rfl, _⟩ := hg.2.1.rd
              have HGm := Lib.hid hg
              clear hg
              go_wp2_with
                (at_builtin
                 refine wpList_appC rfl (.tmp 49) (.tmp 51) 26 rfl 22 _ 1 24 bs_info Tryd.underlying26 rfl (by omega) w1.heap.size wo.heap.size _ k ms rfl (HGm.out.more HG.out.1 HG.out.2.1 (by omega)) (by simp; omega) _ _ 1 1 [.slice Ag ng cg] rfl (Reads.one _ _ _) (by simp [Value.oneCell']) (by omega) (by omega) ?_
                 intro v6 w6 ho6 hg6 hat6 hb6)
              go_roundw
              case rel => exact ⟨k + 1, by omega, by go_num, _, HG.out.1.step HL.out.apart HG.out.2.1 hlo (by omega) hsr HGm.out ho6 hg6 hb6⟩
              case measure => simp [intOf]; omega
        · obtain rfl : n = k := by omega
          obtain ⟨Am, cm, rfl, _, _, _, _⟩ := hms.2.2.1.shape
          have HM0 := Lib.hid hms
          clear hms
          go_wp2
          go_loopw [9] (fun i wr => ∃ k : Nat, k ≤ n ∧ i = .int .i64 k ∧ MoreRel w1 lo hi w1.heap.size l n (.slice Am n cm) ms wr) (fun i _ => n - (intOf i).toNat)
          case atStart => exact ⟨0, Nat.zero_le _, rfl, HM0.out⟩
          case round =>
            obtain ⟨k, hk, rfl, hm⟩ := hrel
            have hBr : Blk wr ga 22 cs := (hm.2.2.2.2.2 ga hga (by omega)).trans HW.out.2.1
            by_cases hlt : k < n
            · have hlt' : (k : Int) < n := by omega
              obtain ⟨A', n', c', xs, hx, hc, hxl, hxn, _⟩ := HL.out.part hBr hlt
              obtain ⟨gm, q, c2, rfl, hcm, hcq⟩ := hm.part hx hlt hxl
              obtain ⟨gw, A2, n2, c3, rfl, hcw, hrw⟩ := (by have := HW.out.1; rw [HW.out.2.2.1] at this; exact this : WasRel l w n (.slice Aw n cw) ws w1).part hx HL.out.len hlt (by omega) hm.2.2.2.2.2
              obtain ⟨_, _, _, e', hrd⟩ := (hm.2.1 _ (List.mem_of_getElem? hx)).rd
              injection e' with ea en ec
              subst ea en ec
              have HQ := Lib.hid (And.intro hm (And.intro hcq (And.intro hrd hrw)))
              clear hm hx hxl hcq hrd hrw hBr
              go_wp2
              go_loop [11] (fun j => ∃ m : Nat, m ≤ 40 ∧ j = .int .i64 m) (fun j => 40 - (intOf j).toNat)
              case atStart => exact ⟨0, by omega, rfl⟩
              case round =>
                obtain ⟨m, hm, rfl⟩ := hrel
                by_cases hlt2 : m < 40
                · have hlt2' : (m : Int) < 40 := by omega
                  have hcm2 := HQ.out.2.1 m hlt2
                  go_wp2
                  go_round
                  case rel => exact ⟨m + 1, by omega, by go_num⟩
                  case measure => simp [intOf]; omega
                · obtain rfl : m = 40 := by omega
                  go_wp2
                  go_quiet ((go_at_call 21; exact Calls.quiet_of_same (eqbytes_same _ _ _ _ _ _ _ _ _ _ (HQ.out.2.2.1.drewN _) (HQ.out.2.2.2.drewN _))))
                  go_wp2
                  go_roundw
                  case rel => exact ⟨k + 1, by omega, by go_num, HQ.out.1.drewN _⟩
                  case measure => simp [intOf]; omega
            · obtain rfl : n = k := by omega
              have hge : ¬ (n : Int) < n := by omega
              have HF0 := Lib.hid hm.last
              clear hm hBr
              go_wp2
              go_loopw [12] (fun i wr => ∃ k : Nat, k ≤ n ∧ i = .int .i64 k ∧ LastRel w1 lo hi w1.heap.size l k wr) (fun i _ => n - (intOf i).toNat)
              case atStart => exact ⟨0, Nat.zero_le _, rfl, HF0.out⟩
              case round =>
                obtain ⟨k, hk, rfl, hf⟩ := hrel
                have hBr : Blk wr ga 22 cs := (hf.2.2 ga hga (by omega)).trans HW.out.2.1
                by_cases hlt : k < n
                · have hlt' : (k : Int) < n := by omega
                  obtain ⟨A', n', c', xs, hx, hc, hxl, hxn, _⟩ := HL.out.part hBr hlt
                  have hp0 := hf.put hx hxl
                  have HQ := Lib.hid (And.intro hp0 hx)
                  clear hf hp0 hx hxl hBr
                  go_wp2
                  go_loopw [13] (fun j wr => ∃ m : Nat, m ≤ n' ∧ j = .int .i64 m ∧ PutRel w1 lo hi w1.heap.size l k (.slice A' n' c') n' wr) (fun j _ => n' - (intOf j).toNat)
                  case atStart => exact ⟨0, by omega, rfl, HQ.out.1⟩
                  case round =>
                    obtain ⟨m, hm, rfl, hp⟩ := hrel
                    have hBr : Blk wr ga 22 cs := (hp.2.2.2 ga hga (by omega)).trans HW.out.2.1
                    have hcg : wr.cell? ⟨ga, k, none⟩ = some (.slice A' n' c') := by
                      obtain ⟨_, _, _, _, hx2, hc2, _⟩ := HL.out.part hBr hlt
                      rw [HQ.out.2] at hx2
                      injection hx2 with hx2
                      injection hx2 with hx2
                      rw [hx2]
                      exact hc2
                    by_cases hlt2 : m < n'
                    · have hlt2' : (m : Int) < n' := by omega
                      obtain ⟨q, rfl⟩ : ∃ q, A' = some ⟨q, 0, none⟩ := by
                        obtain ⟨⟨ys, hy, ho⟩, _⟩ := hp
                        obtain ⟨q, cap, e, _⟩ := ho.1.form (by omega)
                        injection e with e
                        exact ⟨q, e⟩
                      obtain ⟨x, hcx, hfx⟩ := hp.get hlt2
                      have hadd := u8_succ x
                      have HPP := Lib.hid (And.intro hp hadd)
                      clear hp hadd hBr
                      go_wp2
                      go_region
                      go_wp2
                      go_roundw
                      case rel => exact ⟨m + 1, by omega, by go_num, by rw [HPP.out.2]; exact (HPP.out.1.drewN 1).store HL.out.apart HQ.out.2 hlo (x + 1)⟩
                      case measure => simp [intOf]; omega
                    · obtain rfl : n' = m := by omega
                      have hge : ¬ (n' : Int) < n' := by omega
                      have HPP := Lib.hid hp
                      clear hp hBr
                      go_wp2
                      go_loopw [14] (fun j wr => ∃ m : Nat, k + 1 ≤ m ∧ m ≤ n ∧ j = .int .i64 m ∧ LastRel w1 lo hi w1.heap.size l (k + 1) wr) (fun j _ => n - (intOf j).toNat)
                      case atStart => exact ⟨k + 1, by omega, by omega, by go_num, HPP.out.2⟩
                      case round =>
                        obtain ⟨m, hm1, hm, rfl, hf⟩ := hrel
                        have hBr : Blk wr ga 22 cs := (hf.2.2 ga hga (by omega)).trans HW.out.2.1
                        by_cases hlt3 : m < n
                        · have hlt3' : (m : Int) < n := by omega
                          obtain ⟨A2, n2, c2, xs2, hx2, hc2, _, _, _⟩ := HL.out.part hBr hlt3
                          obtain ⟨gw, A3, n3, c3, rfl, hcw, hrw⟩ := (by have := HW.out.1; rw [HW.out.2.2.1] at this; exact this : WasRel l w n (.slice Aw n cw) ws w1).part hx2 HL.out.len hlt3 (by omega) hf.2.2
                          obtain ⟨_, _, _, e', hrd⟩ := (hf.1 m _ hm1 hx2).rd
                          injection e' with ea en ec
                          subst ea en ec
                          have HQ2 := Lib.hid (And.intro hf (And.intro hrd hrw))
                          clear hf hrd hrw hx2 hBr
                          go_wp2
                          go_quiet ((go_at_call 21; exact Calls.quiet_of_same (eqbytes_same _ _ _ _ _ _ _ _ _ _ (HQ2.out.2.1.drewN _) (HQ2.out.2.2.drewN _))))
                          go_wp2
                          go_roundw
                          case rel => exact ⟨m + 1, by omega, by omega, by go_num, HQ2.out.1.drewN _⟩
                          case measure => simp [intOf]; omega
                        · obtain rfl : n = m := by omega
                          have hge3 : ¬ (n : Int) < n := by omega
                          have HF2 := Lib.hid hf
                          clear hf hBr
                          go_wp2
                          go_roundw
                          case rel => exact ⟨k + 1, by omega, by go_num, HF2.out⟩
                          case measure => simp [intOf]; omega
                · obtain rfl : n = k := by omega
                  have hge : ¬ (n : Int) < n := by omega
                  have HF := Lib.hid hf
                  clear hf hBr
                  go_wp2
                  go_ret
                  exact ⟨rfl, (HW.out.2.2.2.mono (by omega)).trans HF.out.2.1⟩
end Go.Proofs.YtlfajfmkljnodaaDoor
