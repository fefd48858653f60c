-- written by mp.py (this session's), with the print's functions; Lean checks it
import Derived.Test.YthekngnkajjhnaaPt
import Derived.Test.YthekngnkajjhnaaHelp
import Derived.Test.YthekngnkajjhnaaHelpD
import Derived.Test.YthekngnkajjhnaaPf150
import Derived.Test.YthekngnkajjhnaaPf160
namespace Go.Proofs.Ythekngnkajjhnaa.P
open Go.RowKit Go.Proofs.YthekngnkajjhnaaW.PrintWords Go.Proofs.YthekngnkajjhnaaW.PrintLast Go.Proofs.YthekngnkajjhnaaW.PrintMore
attribute [local go_sem] max2_int min2_int max_two min_two max_three min_three max_four min_four   -- for this text's walks alone
set_option linter.unusedVariables false
set_option linter.unusedSimpArgs false

/-! ### spec_l10Shares: function 148 -/
def spec_l10Shares.l1 : Nat → List S135 → Int → Int → Int → Int → Option (Int × Int)
  | 0, _, _, _, _, _ => none
  | k + 1, g, c, bc, bh, i => if i < (g.length : Int) then (if 0 ≤ i then (if 0 < ((rd_T135 g i).f0.length : Int) then (if rd (rd_T135 g i).f0 0 ≤ c then spec_l10Shares.l1 k g c (rd_T135 g i).f1 (rd_T135 g i).f2 (wrap64 (i + 1)) else spec_l10Shares.l1 k g c bc bh (wrap64 (i + 1))) else none) else none) else some (bc, bh)
def spec_l10Shares.l0 : Nat → List S135 → Int → List S55 → Option (List S55)
  | 0, _, _, _ => none
  | k + 1, g, c, out => if c ≤ 10 then (if 0 < (g.length : Int) then ((spec_l10Shares.l1 k g c (rd_T135 g 0).f1 (rd_T135 g 0).f2 0).bind fun b => ((spec_l10Share.f k b.2 b.1).bind fun s => (if out.length < 1000 then spec_l10Shares.l0 k g (wrap64 (c + 1)) (out ++ [(⟨s.1, s.2⟩ : S55)]) else none))) else none) else some out
def spec_l10Shares.f (k : Nat) (l0_0 : List Int) (l0_1 : List Int) : Option (List S55) := (spec_l10Groups.f k l0_0 l0_1).bind fun g => (if (g.length : Int) = 0 then some [] else spec_l10Shares.l0 k g 0 [])

set_option maxHeartbeats 8000000 in
set_option maxRecDepth 100000 in
theorem spec_l10Shares.calls (k : Nat) (A0_0 : Option Addr) (c0_0 : Nat) (l0_0 : List Int) (A0_1 : Option Addr) (c0_1 : Nat) (l0_1 : List Int) (r : List S55) (w : World) (hr0_0 : Kd.C (Kd.int .i64) w A0_0 l0_0.length l0_0) (hc0_0 : l0_0.length ≤ c0_0) (hr0_1 : Kd.C (Kd.int .i64) w A0_1 l0_1.length l0_1) (hc0_1 : l0_1.length ≤ c0_1) (h : spec_l10Shares.f k l0_0 l0_1 = some r) :
  Calls Try.prog 148 #[.agg #[.slice A0_0 l0_0.length c0_0, .slice A0_1 l0_1.length c0_1]] w fun e w' => ∃ v0_ : Value, e = .returned (v0_) ∧ Kd.R k55 55 w' w.heap.size (fun _ => True) v0_ r ∧ Below w.heap.size w w' := by
 have hu49 := Try.underlying44
 have hu168 := Try.underlying135
 have hu56 := Try.underlying55
 have HR0_0 := Aside0.mk hr0_0
 have HC0_0 := Aside0.mk hc0_0
 have HR0_1 := Aside0.mk hr0_1
 have HC0_1 := Aside0.mk hc0_1
 clear hr0_0 hc0_0 hr0_1 hc0_1
 have HB := aK (Below.refl w.heap.size w)
 have H : ((spec_l10Groups.f k l0_0 l0_1).bind fun g => (if (g.length : Int) = 0 then some [] else spec_l10Shares.l0 k g 0 [])) = some r := h
 clear h
 replace H := Option.bind_eq_some_iff.mp H
 obtain ⟨g, A30, H⟩ := H
 replace H : (if (g.length : Int) = 0 then some [] else spec_l10Shares.l0 k g 0 []) = some r := H
 have A3 := Aside0.mk A30
 clear A30
 by_cases c4 : (g.length : Int) = 0
 ·
  rw [if_pos c4] at H
  have c4b0 : ((g.length : Int) == 0) = true := beq_iff_eq.mpr c4
  have c4b1 := eq_true c4
  clear c4
  obtain rfl := Option.some.inj H
  clear H
  go_enter Try.func148, Try.ntmps148
  go_wp2_with (first | ((with_reducible refine gate_dst (N := 1) rfl ?_); refine box_event ?hg (N := 1) ?hd (cs := #[.slice A0_0 l0_0.length c0_0, .slice A0_1 l0_1.length c0_1]) (t := 44) ?hr ?_; (case hd => rfl); (case hg => rfl); (case hr => first | (go_simp; done) | (go_simp; rfl)); intro gb101 hg w5 hbox hb; have BK101 := aK (hbox); replace HB := bS HB hb; clear hb hbox hg; have hcz6_0 : w5.cell? ⟨gb101, 0, none⟩ = some (.slice A0_0 l0_0.length c0_0) := (blk_cell BK101.out 0).trans rfl; have hcz6_1 : w5.cell? ⟨gb101, 1, none⟩ = some (.slice A0_1 l0_1.length c0_1) := (blk_cell BK101.out 1).trans rfl; have hfz6_0 := blk_frozen BK101.out 0; have hfz6_1 := blk_frozen BK101.out 1) | ((with_reducible refine gate_callee (f := 150) rfl ?_); refine goesL_ (some 9) rfl rfl Try.func150 (by kernel_rfl) rfl #[.agg #[.slice A0_0 l0_0.length c0_0, .slice A0_1 l0_1.length c0_1]] rfl (by (try simp only [List.map_toArray, List.map_cons, List.map_nil]); first | done | rfl) ?_; (with_reducible refine (spec_l10Groups.calls k _ _ l0_0 _ _ l0_1 g _ ?side1 ?side2 ?side3 ?side4 A3.out).mono ?_); (case side1 => exact Kd.C_below HR0_0.out (pS HB.out)); (case side2 => exact HC0_0.out); (case side3 => exact Kd.C_below HR0_1.out (pS HB.out)); (case side4 => exact HC0_1.out); rintro e w7 ⟨v108, rfl, ho0, hb⟩; refine ⟨_, rfl, ?_⟩; obtain ⟨Ag, cg, eg⟩ := Kd.R_slice (Kd.S_R ho0); subst eg; replace HB := bS HB hb; clear hb ho0) | ((with_reducible refine gate_dst (N := 10) rfl ?_); refine Kd.R_lit k55 _ 55 ?hg (N := 10) ?hd (xs := ([] : List S55)) (inner := []) (ok := fun _ => True) (okp := fun _ => True) ?hr ?hp (fun _ hk => hk) trivial (Below.refl _ _) (Nat.le_refl _) (by simp) ?_; (case hd => rfl); (case hg => rfl); (case hr => first | (go_simp; done) | (go_simp; rfl)); (case hp => exact (Reps.none _ _)); intro v110 w9 ho8 hb hg_ hnew_; clear hg_ hnew_; have HO := aK (Kd.R_lower ho8 (below_size (pS HB.out))); replace HB := bS HB hb; clear hb ho8))
  go_ret
  exact ⟨_, rfl, HO.out, pS HB.out⟩
 ·
  rw [if_neg c4] at H
  have c4b0 : ((g.length : Int) == 0) = false := beq_eq_false_iff_ne.mpr c4
  have c4b1 := eq_false c4
  clear c4
  have H' := Aside0.mk H
  clear H
  go_enter Try.func148, Try.ntmps148
  go_wp2_with (first | ((with_reducible refine gate_dst (N := 1) rfl ?_); refine box_event ?hg (N := 1) ?hd (cs := #[.slice A0_0 l0_0.length c0_0, .slice A0_1 l0_1.length c0_1]) (t := 44) ?hr ?_; (case hd => rfl); (case hg => rfl); (case hr => first | (go_simp; done) | (go_simp; rfl)); intro gb101 hg w5 hbox hb; have BK101 := aK (hbox); replace HB := bS HB hb; clear hb hbox hg; have hcz6_0 : w5.cell? ⟨gb101, 0, none⟩ = some (.slice A0_0 l0_0.length c0_0) := (blk_cell BK101.out 0).trans rfl; have hcz6_1 : w5.cell? ⟨gb101, 1, none⟩ = some (.slice A0_1 l0_1.length c0_1) := (blk_cell BK101.out 1).trans rfl; have hfz6_0 := blk_frozen BK101.out 0; have hfz6_1 := blk_frozen BK101.out 1) | ((with_reducible refine gate_callee (f := 150) rfl ?_); refine goesL_ (some 9) rfl rfl Try.func150 (by kernel_rfl) rfl #[.agg #[.slice A0_0 l0_0.length c0_0, .slice A0_1 l0_1.length c0_1]] rfl (by (try simp only [List.map_toArray, List.map_cons, List.map_nil]); first | done | rfl) ?_; (with_reducible refine (spec_l10Groups.calls k _ _ l0_0 _ _ l0_1 g _ ?side1 ?side2 ?side3 ?side4 A3.out).mono ?_); (case side1 => exact Kd.C_below HR0_0.out (pS HB.out)); (case side2 => exact HC0_0.out); (case side3 => exact Kd.C_below HR0_1.out (pS HB.out)); (case side4 => exact HC0_1.out); rintro e w7 ⟨v108, rfl, ho0, hb⟩; refine ⟨_, rfl, ?_⟩; obtain ⟨Ag, cg, eg⟩ := Kd.R_slice (Kd.S_R ho0); subst eg; have HRg := aK ((Kd.R_reads' (Kd.S_R ho0)).2.2); have HW := bS HB hb; clear HB; have HB := aK (Below.refl w7.heap.size w7); clear hb ho0 BK101 hcz6_0 hcz6_1 hfz6_0 hfz6_1) | ((with_reducible refine gate_dst (N := 10) rfl ?_); refine Kd.R_lit k55 _ 55 ?hg (N := 10) ?hd (xs := ([] : List S55)) (inner := []) (ok := fun _ => True) (okp := fun _ => True) ?hr ?hp (fun _ hk => hk) trivial (Below.refl _ _) (Nat.le_refl _) (by simp) ?_; (case hd => rfl); (case hg => rfl); (case hr => first | (go_simp; done) | (go_simp; rfl)); (case hp => exact (Reps.none _ _)); intro v110 w9 ho8 hb hg_ hnew_; clear hg_ hnew_; have HO := aK (Kd.R_lower ho8 (below_size (pS HB.out))); replace HB := bS HB hb; clear hb ho8))
  go_loopg [4, 5] k (fun kq v4 v5 w' => ∃ (out : List S55) (c : Int), v5 = .int .i64 c ∧ Aside0 (spec_l10Shares.l0 kq g c out = some r) ∧ Aside0 (kq ≤ k) ∧ Aside0 (Kd.R k55 55 w' w7.heap.size (fun _ => True) v4 out) ∧ Aside0 (Below w7.heap.size w7 w'))
  case atStart => exact ⟨[], 0, (by first | rfl | (simp; done)), H', ⟨Nat.le_refl _⟩, ⟨by (with_reducible repeat (first | apply Kd.R_alloc | apply Kd.R_drewN | apply Kd.R_drew)); exact HO.out⟩, ⟨pS HB.out⟩⟩
  case round =>
   clear H' HO
   try clear c1
   try clear p2
   obtain ⟨out, c, rfl, HA, HK1, HO, HB⟩ := hrel
   cases gk with
   | zero => exact absurd HA.out (by simp [spec_l10Shares.l0])
   | succ k1 =>
    have H := HA.out
    clear HA
    simp only [spec_l10Shares.l0] at H
    by_cases c5 : c ≤ 10
    ·
     rw [if_pos c5] at H
     have c5b0 : decide (c ≤ 10) = true := decide_eq_true c5
     clear c5
     by_cases c6 : 0 < (g.length : Int)
     ·
      rw [if_pos c6] at H
      replace H := Option.bind_eq_some_iff.mp H
      obtain ⟨⟨bc, bh⟩, A40, H⟩ := H
      replace H := Option.bind_eq_some_iff.mp H
      obtain ⟨⟨s1, s2⟩, A50, H⟩ := H
      have A4 := Aside0.mk A40
      have A5 := Aside0.mk (show spec_l10Share.f k1 bh bc = some (s1, s2) from A50)
      clear A40 A50
      replace H : (if out.length < 1000 then spec_l10Shares.l0 k1 g (wrap64 (c + 1)) (out ++ [(⟨s1, s2⟩ : S55)]) else none) = some r := H
      by_cases c7 : out.length < 1000
      ·
       rw [if_pos c7] at H
       have LMc7 := Aside0.mk c7
       clear c7
       obtain ⟨y113, hy113⟩ : ∃ y_ : List S55, y_ = (out ++ [(⟨s1, s2⟩ : S55)]) := ⟨_, rfl⟩
       replace H : spec_l10Shares.l0 k1 g (wrap64 (c + 1)) y113 = some r := by rw [hy113]; exact H
       have Ny113 := Aside0.mk hy113
       clear hy113
       have H' := Aside0.mk H
       clear H
       obtain ⟨Ao, co, eo⟩ := Kd.R_slice HO.out
       subst eo
       have p8 : 0 ≤ (0 : Int) := Int.le_refl _
       have q8 : (0 : Int) < (g.length : Int) := c6
       obtain ⟨ad8, A8, C8, e8, hx8_0, hx8_1, hx8_2, hl8, hi8⟩ := at_T135 HRg.out 0 p8 q8
       cases e8
       have qi8 : (0 < g.length) = True := eq_true (by omega)
       (try rw [show ((0 : Int)).toNat = 0 from rfl] at hx8_0 hx8_1 hx8_2)
       (try rw [show 0 * 3 = 0 from rfl] at hx8_0 hx8_1 hx8_2)
       (try rw [Addr.add_zero'] at hx8_0 hx8_1 hx8_2)
       replace hx8_0 := (HB.out.cell (World.block_lt_of_cell? w7 _ hx8_0)).trans hx8_0
       replace hx8_1 := (HB.out.cell (World.block_lt_of_cell? w7 _ hx8_1)).trans hx8_1
       replace hx8_2 := (HB.out.cell (World.block_lt_of_cell? w7 _ hx8_2)).trans hx8_2
       clear hl8 hi8 c6
       replace q8 := eq_true q8
       replace p8 := eq_true p8
       go_wp2_with (first | ((with_reducible refine gate_dst (N := 6) rfl ?_); refine box_event ?hg (N := 6) ?hd (cs := #[.slice none 0 0, .int .i64 0, .int .i64 0]) (t := 135) ?hr ?_; (case hd => rfl); (case hg => rfl); (case hr => first | (go_simp; done) | (go_simp; rfl)); intro gb hg w15 hbox hb; have n0_ := aK (Kd.R_below (pR HO.out) hb); have BK := aK (hbox); have GE := aK (gE hg (pS HB.out)); replace HB := bS HB hb; clear HO; have HO := n0_; clear n0_ hb hbox hg; have hcz17_0 : w15.cell? ⟨gb, 0, none⟩ = some (.slice none 0 0) := (blk_cell BK.out 0).trans rfl; have hcz17_1 : w15.cell? ⟨gb, 1, none⟩ = some (.int .i64 0) := (blk_cell BK.out 1).trans rfl; have hcz17_2 : w15.cell? ⟨gb, 2, none⟩ = some (.int .i64 0) := (blk_cell BK.out 2).trans rfl; have hfz17_0 := blk_frozen BK.out 0; have hfz17_1 := blk_frozen BK.out 1; have hfz17_2 := blk_frozen BK.out 2))
       go_loopg [7] k1 (fun kq v7 w' => ∃ (i : Int) (bc' : Int) (bh' : Int) (J : Value), v7 = .int .i64 i ∧ Aside0 (spec_l10Shares.l1 kq g c bc' bh' i = some (bc, bh)) ∧ Aside0 (kq ≤ k1) ∧ Aside0 (Kd.R k55 55 w' w7.heap.size (fun _ => True) (.slice Ao out.length co) out) ∧ Aside0 (w'.heap[gb]? = some (.cells #[J, .int .i64 bc', .int .i64 bh'] 135 (0, 0))) ∧ Aside0 (Below w7.heap.size w7 w'))
       case atStart => exact ⟨0, _, _, _, (by first | rfl | (simp; done)), A4, ⟨Nat.le_refl _⟩, ⟨by (with_reducible repeat (first | apply Kd.R_alloc | apply Kd.R_drewN | apply Kd.R_drew)); exact Kd.R_mono (Kd.R_far (p := ⟨gb, 2, none⟩) (Kd.R_far (p := ⟨gb, 1, none⟩) (Kd.R_far (p := ⟨gb, 0, none⟩) (Kd.R_types HO.out BK.out (by decide)) (fun _ hk => hk.2) _) (fun _ hk => hk.2) _) (fun _ hk => hk.2) _) (fun _ hk => trivial)⟩, ⟨by (with_reducible repeat (first | refine blk_drewN ?_ _ | refine blk_drew ?_ | refine blk_alloc ?_ _)); refine blk_put (cs := #[.slice A8 (rd_T135 g 0).f0.length C8, .int .i64 (rd_T135 g 0).f1, .int .i64 0]) ?_ 2 _ rfl; (with_reducible repeat (first | refine blk_drewN ?_ _ | refine blk_drew ?_ | refine blk_alloc ?_ _)); refine blk_put (cs := #[.slice A8 (rd_T135 g 0).f0.length C8, .int .i64 0, .int .i64 0]) ?_ 1 _ rfl; (with_reducible repeat (first | refine blk_drewN ?_ _ | refine blk_drew ?_ | refine blk_alloc ?_ _)); refine blk_put (cs := #[.slice none 0 0, .int .i64 0, .int .i64 0]) ?_ 0 _ rfl; (with_reducible repeat (first | refine blk_drewN ?_ _ | refine blk_drew ?_ | refine blk_alloc ?_ _)); exact BK.out⟩, ⟨by repeat (first | (with_reducible first | exact HB.out | apply below_alloc | apply pw_below_drewN | apply below_drew1 | refine below_set ?_ GE.out) | exact HB.out)⟩⟩
       case round =>
        clear A4
        try clear c1
        try clear p2
        try clear hcz17_0
        try clear hcz17_1
        try clear hcz17_2
        try clear hfz17_0
        try clear hfz17_1
        try clear hfz17_2
        try clear hx8_0
        try clear hx8_1
        try clear hx8_2
        obtain ⟨i, bc', bh', J, rfl, HA, HK2, HO, BK, HB⟩ := hrel
        cases gk with
        | zero => exact absurd HA.out (by simp [spec_l10Shares.l1])
        | succ k2 =>
         have H := HA.out
         clear HA
         simp only [spec_l10Shares.l1] at H
         by_cases c9 : i < (g.length : Int)
         ·
          rw [if_pos c9] at H
          by_cases c10 : 0 ≤ i
          ·
           rw [if_pos c10] at H
           by_cases c11 : 0 < ((rd_T135 g i).f0.length : Int)
           ·
            rw [if_pos c11] at H
            obtain ⟨ad9, A9, C9, e9, hx9_0, hx9_1, hx9_2, hl9, hi9⟩ := at_T135 HRg.out i c10 c9
            cases e9
            obtain ⟨ad10, e10, hx10_0⟩ := Kd.at_int hi9 0 (Int.le_refl _) c11
            cases e10
            replace hx9_0 := (HB.out.cell (World.block_lt_of_cell? w7 _ hx9_0)).trans hx9_0
            replace hx9_1 := (HB.out.cell (World.block_lt_of_cell? w7 _ hx9_1)).trans hx9_1
            replace hx9_2 := (HB.out.cell (World.block_lt_of_cell? w7 _ hx9_2)).trans hx9_2
            (try rw [show ((0 : Int)).toNat = 0 from rfl] at hx10_0)
            (try rw [Addr.add_zero'] at hx10_0)
            replace hx10_0 := (HB.out.cell (World.block_lt_of_cell? w7 _ hx10_0)).trans hx10_0
            have qi9 : (0 < (rd_T135 g i).f0.length) = True := eq_true (by omega)
            have c9b0 : decide (i < (g.length : Int)) = true := decide_eq_true c9
            have c11b0 := eq_true c11
            replace c9 := eq_true c9
            replace c10 := eq_true c10
            clear c11
            have hcz18_0 : wr.cell? ⟨gb, 0, none⟩ = some J := (blk_cell BK.out 0).trans rfl
            have hcz18_1 : wr.cell? ⟨gb, 1, none⟩ = some (.int .i64 bc') := (blk_cell BK.out 1).trans rfl
            have hcz18_2 : wr.cell? ⟨gb, 2, none⟩ = some (.int .i64 bh') := (blk_cell BK.out 2).trans rfl
            have hfz18_0 := blk_frozen BK.out 0
            have hfz18_1 := blk_frozen BK.out 1
            have hfz18_2 := blk_frozen BK.out 2
            by_cases c12 : rd (rd_T135 g i).f0 0 ≤ c
            ·
             rw [if_pos c12] at H
             have c12b0 : decide (rd (rd_T135 g i).f0 0 ≤ c) = true := decide_eq_true c12
             clear c12
             have H' := Aside0.mk H
             clear H
             go_wp2
             go_roundg k2
             case measure => have := HK2.out; omega
             case rel => exact ⟨(wrap64 (i + 1)), _, _, _, (by first | rfl | (simp; done) | (simp [*]; done)), H', ⟨by have := HK2.out; omega⟩, ⟨by (with_reducible repeat (first | apply Kd.R_alloc | apply Kd.R_drewN | apply Kd.R_drew)); exact Kd.R_mono (Kd.R_far (p := ⟨gb, 2, none⟩) (Kd.R_far (p := ⟨gb, 1, none⟩) (Kd.R_far (p := ⟨gb, 0, none⟩) (Kd.R_types HO.out BK.out (by decide)) (fun _ hk => hk.2) _) (fun _ hk => hk.2) _) (fun _ hk => hk.2) _) (fun _ hk => trivial)⟩, ⟨by (with_reducible repeat (first | refine blk_drewN ?_ _ | refine blk_drew ?_ | refine blk_alloc ?_ _)); refine blk_put (cs := #[.slice (some ad10) (rd_T135 g i).f0.length C9, .int .i64 (rd_T135 g i).f1, .int .i64 bh']) ?_ 2 _ rfl; (with_reducible repeat (first | refine blk_drewN ?_ _ | refine blk_drew ?_ | refine blk_alloc ?_ _)); refine blk_put (cs := #[.slice (some ad10) (rd_T135 g i).f0.length C9, .int .i64 bc', .int .i64 bh']) ?_ 1 _ rfl; (with_reducible repeat (first | refine blk_drewN ?_ _ | refine blk_drew ?_ | refine blk_alloc ?_ _)); refine blk_put (cs := #[J, .int .i64 bc', .int .i64 bh']) ?_ 0 _ rfl; (with_reducible repeat (first | refine blk_drewN ?_ _ | refine blk_drew ?_ | refine blk_alloc ?_ _)); exact BK.out⟩, ⟨by repeat (first | (with_reducible first | exact HB.out | apply below_alloc | apply pw_below_drewN | apply below_drew1 | refine below_set ?_ GE.out) | exact HB.out)⟩⟩
            ·
             rw [if_neg c12] at H
             have c12b0 : decide (rd (rd_T135 g i).f0 0 ≤ c) = false := decide_eq_false c12
             clear c12
             have H' := Aside0.mk H
             clear H
             go_wp2
             go_roundg k2
             case measure => have := HK2.out; omega
             case rel => exact ⟨(wrap64 (i + 1)), bc', bh', J, (by first | rfl | (simp; done) | (simp [*]; done)), H', ⟨by have := HK2.out; omega⟩, ⟨by (with_reducible repeat (first | apply Kd.R_alloc | apply Kd.R_drewN | apply Kd.R_drew)); exact HO.out⟩, ⟨by (with_reducible repeat (first | refine blk_drewN ?_ _ | refine blk_drew ?_ | refine blk_alloc ?_ _)); exact BK.out⟩, ⟨by repeat (first | (with_reducible first | exact HB.out | apply below_alloc | apply pw_below_drewN | apply below_drew1 | refine below_set ?_ GE.out) | exact HB.out)⟩⟩
           ·
            rw [if_neg c11] at H
            exact absurd H (by simp)
          ·
           rw [if_neg c10] at H
           exact absurd H (by simp)
         ·
          rw [if_neg c9] at H
          have c9b0 : decide (i < (g.length : Int)) = false := decide_eq_false c9
          clear c9
          simp only [Option.some.injEq, Prod.mk.injEq] at H
          obtain ⟨rfl, rfl⟩ := H
          have hcz18_1 : wr.cell? ⟨gb, 1, none⟩ = some (.int .i64 bc') := (blk_cell BK.out 1).trans rfl
          have hcz18_2 : wr.cell? ⟨gb, 2, none⟩ = some (.int .i64 bh') := (blk_cell BK.out 2).trans rfl
          go_wp2_with (first | ((with_reducible refine gate_callee (f := 160) rfl ?_); refine goesL_ (some 46) rfl rfl Try.func160 (by kernel_rfl) rfl #[.int .i64 bh', .int .i64 bc'] rfl (by (try simp only [List.map_toArray, List.map_cons, List.map_nil]); first | done | rfl) ?_; (with_reducible refine (spec_l10Share.calls k1 bh' bc' s1 s2 _ A5.out).mono ?_); rintro e w12 ⟨rfl, hb⟩; refine ⟨_, rfl, ?_⟩; have n0_ := aK (Kd.R_below (pR HO.out) hb); replace HB := bS HB hb; clear HO; have HO := n0_; clear n0_ hb) | ((with_reducible refine gate_builtin (b := .append) (xs := #[.tmp 41, .tmp 47]) rfl ?_); at_builtin; refine Kd.R_append k55 (w0 := w7) w7.heap.size rfl (.tmp 41) (.tmp 47) 51 55 (.agg #[(.int .i64 0), (.int .i64 0)]) 16 rfl Try.underlying51 info55 rfl (by decide) (by omega) (.slice Ao out.length co) out (⟨s1, s2⟩ : S55) [.int .i64 s1, .int .i64 s2] (fun _ => True) (fun _ => False) rfl rfl ?aP (fun _ hk => hk.elim) ?aF ?aO ?aB ?aS ?aL ?_; (case aP => exact k55_mkM _ _ _ (⟨s1, s2⟩ : S55)); (case aB => exact (pS HB.out)); (case aF => exact (fun _ _ => trivial)); (case aO => exact (pR HO.out)); (case aS => exact (below_size (pS HB.out))); (case aL => have := LMc7.out; omega); intro v114 w43 ho hb hg hat; rw [← Ny113.out] at ho; have n2_ := aK (hb); have n3_ := aK (ho); clear HB HO; have HB := n2_; have HO := n3_; clear n2_ n3_; clear ho hb hg hat))
          go_roundg k1
          case measure => have := HK1.out; omega
          case rel => exact ⟨y113, (wrap64 (c + 1)), (by first | rfl | (simp; done) | (simp [*]; done)), H', ⟨by have := HK1.out; omega⟩, ⟨by (with_reducible repeat (first | apply Kd.R_alloc | apply Kd.R_drewN | apply Kd.R_drew)); exact HO.out⟩, ⟨pS HB.out⟩⟩
      ·
       rw [if_neg c7] at H
       exact absurd H (by simp)
     ·
      rw [if_neg c6] at H
      exact absurd H (by simp)
    ·
     rw [if_neg c5] at H
     have c5b0 : decide (c ≤ 10) = false := decide_eq_false c5
     clear c5
     obtain rfl := Option.some.inj H
     clear H
     obtain ⟨Ao, co, eo⟩ := Kd.R_slice HO.out
     subst eo
     go_wp2
     go_ret
     exact ⟨_, rfl, Kd.R_lower (by (with_reducible repeat (first | apply Kd.R_alloc | apply Kd.R_drewN | apply Kd.R_drew)); exact HO.out) HW.out.size, below_step HW.out (pS HB.out)⟩

end Go.Proofs.Ythekngnkajjhnaa.P
