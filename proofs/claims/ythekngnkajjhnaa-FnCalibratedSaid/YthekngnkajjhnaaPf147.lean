-- written by mp.py (this session's), with the print's functions; Lean checks it
import Derived.Test.YthekngnkajjhnaaPt
import Derived.Test.YthekngnkajjhnaaHelp
import Derived.Test.YthekngnkajjhnaaHelpD
import Derived.Test.YthekngnkajjhnaaPf159
namespace Go.Proofs.Ythekngnkajjhnaa.P
open Go.RowKit Go.Proofs.YthekngnkajjhnaaW.PrintWords Go.Proofs.YthekngnkajjhnaaW.PrintLast Go.Proofs.YthekngnkajjhnaaW.PrintMore
attribute [local go_sem] max2_int min2_int max_two min_two max_three min_three max_four min_four   -- for this text's walks alone
set_option linter.unusedVariables false
set_option linter.unusedSimpArgs false

/-! ### impl_calibrationOf: function 147 -/
mutual
def impl_calibrationOf.l0 : Nat → List (S173) → List Int → Int → Int → List Int → List Int → Option ((List (S55)) × Bool)
 | 0, _, _, _, _, _, _ => none
 | k + 1, x4, x16, x17, x18, x102000, x102001 => if x18 < x17 then (if 0 ≤ x18 then (if x18 < (x16.length : Int) then (if (rd x16 x18) = 0 then (impl_calibrationOf.l0 k x4 x16 x17 (wrap64 (x18 + 1)) x102000 x102001) else (if x18 < (x102001.length : Int) then (impl_calibrationOf.l1 k x4 (x4.length : Int) x16 x17 x18 x102000 x102001 x18 (rd x16 x18) (rd x102001 x18)) else (none))) else (none)) else (none)) else (if (x4.length : Int) = 0 then (some (([] : List (S55)), false)) else (if 11 ≤ 17592186044416 then ((some (List.replicate 11 z55 : List (S55))).bind fun y116 => (impl_calibrationOf.l2 k x4 y116 (y116.length : Int) 0)) else (none)))
def impl_calibrationOf.l1 : Nat → List (S173) → Int → List Int → Int → Int → List Int → List Int → Int → Int → Int → Option ((List (S55)) × Bool)
 | 0, _, _, _, _, _, _, _, _, _, _ => none
 | k + 1, x4, x8, x16, x17, x18, x102000, x102001, x105000, x105001, x105002 => if x8 > 0 then (if 0 ≤ (wrap64 (x8 - 1)) then (if (wrap64 (x8 - 1)) < (x4.length : Int) then (if (wrap64 (((rd_T173 x4 (wrap64 (x8 - 1))).f2) * x105001)) ≤ (wrap64 (x105002 * ((rd_T173 x4 (wrap64 (x8 - 1))).f1))) then (if x4.length < 5864062014805 then (impl_calibrationOf.l0 k (x4 ++ [(⟨x105000, x105001, x105002⟩ : S173)]) x16 x17 (wrap64 (x18 + 1)) x102000 x102001) else (none)) else (if (wrap64 (x8 - 1)) ≤ (x4.length : Int) then ((some (x4.take ((wrap64 (x8 - 1)) : Int).toNat : List (S173))).bind fun y110 => (impl_calibrationOf.l1 k y110 (y110.length : Int) x16 x17 x18 x102000 x102001 ((rd_T173 x4 (wrap64 (x8 - 1))).f0) (wrap64 (((rd_T173 x4 (wrap64 (x8 - 1))).f1) + x105001)) (wrap64 (((rd_T173 x4 (wrap64 (x8 - 1))).f2) + x105002)))) else (none))) else (none)) else (none)) else (if x4.length < 5864062014805 then (impl_calibrationOf.l0 k (x4 ++ [(⟨x105000, x105001, x105002⟩ : S173)]) x16 x17 (wrap64 (x18 + 1)) x102000 x102001) else (none))
def impl_calibrationOf.l2 : Nat → List (S173) → List (S55) → Int → Int → Option ((List (S55)) × Bool)
 | 0, _, _, _, _ => none
 | k + 1, x4, x10, x82, x83 => if x83 < x82 then (impl_calibrationOf.l3 k x4 x10 x83 0 x82 x83 x4 (x4.length : Int) 0) else (some (x10, true))
def impl_calibrationOf.l3 : Nat → List (S173) → List (S55) → Int → Int → Int → Int → List (S173) → Int → Int → Option ((List (S55)) × Bool)
 | 0, _, _, _, _, _, _, _, _, _ => none
 | k + 1, x4, x10, x11, x12, x82, x83, x86, x87, x88 => if x88 < x87 then (if 0 ≤ x88 then (if x88 < (x86.length : Int) then (if ((rd_T173 x86 x88).f0) ≤ x11 then (impl_calibrationOf.l3 k x4 x10 x11 x88 x82 x83 x86 x87 (wrap64 (x88 + 1))) else (impl_calibrationOf.l3 k x4 x10 x11 x12 x82 x83 x86 x87 (wrap64 (x88 + 1)))) else (none)) else (none)) else (if 0 ≤ x12 then (if x12 < (x4.length : Int) then ((impl_shareOf.f k ((rd_T173 x4 x12).f2) ((rd_T173 x4 x12).f1)).bind fun bt123 => (if 0 ≤ x11 then (if x11 < (x10.length : Int) then (impl_calibrationOf.l2 k x4 (x10.set (x11 : Int).toNat (⟨bt123.1, bt123.2⟩ : S55)) x82 (wrap64 (x83 + 1))) else (none)) else (none))) else (none)) else (none))
end
def impl_calibrationOf.f (k : Nat) (l0_0 : List Int) (l0_1 : List Int) : Option ((List (S55)) × Bool) := impl_calibrationOf.l0 k ([] : List (S173)) l0_0 (l0_0.length : Int) 0 l0_0 l0_1

def impl_calibrationOf.T29 : Bool × List (List Nat × List Nat) := (true, [([], []), ([], []), ([], []), ([], []), ([2, 3], [2, 3]), ([4], [4]), ([5], [5]), ([], []), ([], []), ([7, 8], [7, 8]), ([9], [9]), ([10], [10]), ([6, 11], [6, 11]), ([0, 1, 0, 1, 2, 3, 4, 5, 6, 7, 8, 9, 10, 11, 12], [0, 1]), ([13, 12, 12, 0, 1, 2, 3, 4, 5, 6, 7, 8, 9, 10, 11, 12], [12, 13])])
def impl_calibrationOf.B29 : List Nat := [0, 0, 0, 0, 12, 28, 60, 0, 0, 384, 896, 1920, 4092, 8191, 16383]
theorem impl_calibrationOf.tab29 : rtab .any (opsOf Try.f147 29) = impl_calibrationOf.T29 := by kernel_rfl
theorem impl_calibrationOf.bits29 : waitsOk impl_calibrationOf.T29.2 impl_calibrationOf.B29 = true := by kernel_rfl
set_option maxHeartbeats 8000000 in
set_option maxRecDepth 100000 in
theorem impl_calibrationOf.calls (k : Nat) (A0_0 : Option Addr) (c0_0 : Nat) (l0_0 : List Int) (A0_1 : Option Addr) (c0_1 : Nat) (l0_1 : List Int) (r1 : List (S55)) (r2 : Bool) (w : World) (hr0_0 : Kd.C (Kd.int .i64) w A0_0 l0_0.length l0_0) (hc0_0 : l0_0.length ≤ c0_0) (hr0_1 : Kd.C (Kd.int .i64) w A0_1 l0_1.length l0_1) (hc0_1 : l0_1.length ≤ c0_1) (h : impl_calibrationOf.f k l0_0 l0_1 = some (r1, r2)) :
  Calls Try.prog 147 #[.agg #[.slice A0_0 l0_0.length c0_0, .slice A0_1 l0_1.length c0_1]] w fun e w' => ∃ v0_ : Value, e = .returned (.tuple #[v0_, .bool r2]) ∧ Kd.R k55 55 w' w.heap.size (fun _ => True) v0_ r1 ∧ Below w.heap.size w w' := by
 have hu44 := Try.underlying44
 have hu173 := Try.underlying173
 have hu55 := Try.underlying55
 have HR0_0 := Aside0.mk hr0_0
 have HC0_0 := Aside0.mk hc0_0
 clear hr0_0 hc0_0
 have HR0_1 := Aside0.mk hr0_1
 have HC0_1 := Aside0.mk hc0_1
 clear hr0_1 hc0_1
 have HB := aK (Below.refl w.heap.size w)
 have H : (impl_calibrationOf.l0 k ([] : List (S173)) l0_0 (l0_0.length : Int) 0 l0_0 l0_1) = some (r1, r2) := h
 clear h
 have H' := Aside0.mk H
 clear H
 go_enter Try.func147, Try.ntmps147
 go_wp2_with (first | ((with_reducible refine gate_dst (N := 1) rfl ?_); refine box_event ?hg (N := 1) ?hd (cs := #[.slice A0_0 l0_0.length c0_0, .slice A0_1 l0_1.length c0_1]) (t := 44) ?hr ?_; (case hd => rfl); (case hg => rfl); (case hr => first | (go_simp; done) | (go_simp; rfl)); intro gb101 hg w2 hbox hb; have BK101 := aK (hbox); have GW101 := aK (gE hg (pS HB.out)); have GE101 := aK (gE hg (pS HB.out)); replace HB := bS HB hb; clear hb hbox hg; have hcz3_0 : w2.cell? ⟨gb101, 0, none⟩ = some (.slice A0_0 l0_0.length c0_0) := (blk_cell BK101.out 0).trans rfl; have hcz3_1 : w2.cell? ⟨gb101, 1, none⟩ = some (.slice A0_1 l0_1.length c0_1) := (blk_cell BK101.out 1).trans rfl; have hfz3_0 := blk_frozen BK101.out 0; have hfz3_1 := blk_frozen BK101.out 1))
 go_loopg [4, 18] k (fun kq v4 v18 w' => ∃ (x4_1 : List (S173)) (x18_1 : Int), v18 = .int .i64 x18_1 ∧ Aside0 (impl_calibrationOf.l0 kq x4_1 l0_0 (l0_0.length : Int) x18_1 l0_0 l0_1 = some (r1, r2)) ∧ Aside0 (kq ≤ k) ∧ Aside0 (Kd.R k173 173 w' w.heap.size (fun _ => True) v4 x4_1) ∧ Aside0 (w'.heap[gb101]? = some (.cells #[(.slice A0_0 l0_0.length c0_0), (.slice A0_1 l0_1.length c0_1)] 44 (0, 0))) ∧ Aside0 (Below w.heap.size w w'))
 case atStart => exact ⟨(([] : List (S173))), (0), (by first | rfl | (simp; done) | (simp [*]; done)), H', ⟨Nat.le_refl _⟩, ⟨by first | exact Kd.R_nil _ _ _ _ _ | exact Kd.N_nil _ _ _ _ _ | exact Kd.V_nil _ _ _ _ _ | exact Kd.Q_nil _ _ _ _ _ | exact Kd.S_nil _ _ _ _ _⟩, ⟨by (with_reducible repeat (first | refine blk_drewN ?_ _ | refine blk_drew ?_ | refine blk_alloc ?_ _)); exact BK101.out⟩, ⟨by repeat (first | (with_reducible first | exact HB.out | apply below_alloc | apply pw_below_drewN | apply below_drew1 | refine below_set ?_ GE101.out) | exact HB.out)⟩⟩
 case round =>
  clear H'
  try clear c1
  try clear p2
  try clear hcz3_0
  try clear hcz3_1
  try clear hfz3_0
  try clear hfz3_1
  obtain ⟨x4_1, x18_1, rfl, HA, HK1, HO_4, BK101, HB⟩ := hrel
  cases gk with
  | zero => exact absurd HA.out (by simp [impl_calibrationOf.l0])
  | succ k1 =>
   have H := HA.out
   clear HA
   simp only [impl_calibrationOf.l0] at H
   by_cases c4 : x18_1 < (l0_0.length : Int)
   ·
    rw [if_pos c4] at H
    have c4b0 : decide (x18_1 < (l0_0.length : Int)) = true := decide_eq_true c4
    clear c4
    by_cases c5 : 0 ≤ x18_1
    ·
     rw [if_pos c5] at H
     have c5b0 : decide (0 ≤ x18_1) = true := decide_eq_true c5
     clear c5
     by_cases c6 : x18_1 < (l0_0.length : Int)
     ·
      rw [if_pos c6] at H
      have c6b0 : decide (x18_1 < (l0_0.length : Int)) = true := decide_eq_true c6
      clear c6
      by_cases c7 : (rd l0_0 x18_1) = 0
      ·
       rw [if_pos c7] at H
       have c7b0 : ((rd l0_0 x18_1) == 0) = true := beq_iff_eq.mpr c7
       have c7b1 : ((rd l0_0 x18_1) != 0) = false := bne_eq_false_iff_eq.mpr c7
       clear c7
       have H' := Aside0.mk H
       clear H
       have p102 : 0 ≤ (x18_1 : Int) := of_decide_eq_true (by first | (with_reducible assumption) | assumption)
       have q102 : x18_1 < (l0_0.length : Int) := of_decide_eq_true (by first | (with_reducible assumption) | assumption)
       obtain ⟨ad102, e102, hx102_0⟩ := Kd.at_int HR0_0.out x18_1 p102 q102
       cases e102
       replace hx102_0 := (HB.out.cell (World.block_lt_of_cell? w _ hx102_0)).trans hx102_0
       replace p102 := eq_true p102
       replace q102 := eq_true q102
       go_wp2
       go_roundg k1
       case measure => have := HK1.out; omega
       case rel => exact ⟨(x4_1), (wrap64 (x18_1 + 1)), (by first | rfl | (simp; done) | (simp [*]; done)), H', ⟨by have := HK1.out; omega⟩, ⟨by (with_reducible repeat (first | apply Kd.R_alloc | apply Kd.R_drewN | apply Kd.R_drew)); exact HO_4.out⟩, ⟨by (with_reducible repeat (first | refine blk_drewN ?_ _ | refine blk_drew ?_ | refine blk_alloc ?_ _)); exact BK101.out⟩, ⟨by repeat (first | (with_reducible first | exact HB.out | apply below_alloc | apply pw_below_drewN | apply below_drew1 | refine below_set ?_ GE101.out) | exact HB.out)⟩⟩
      ·
       rw [if_neg c7] at H
       have c7b0 : ((rd l0_0 x18_1) == 0) = false := beq_eq_false_iff_ne.mpr c7
       have c7b1 : ((rd l0_0 x18_1) != 0) = true := bne_iff_ne.mpr c7
       by_cases c8 : x18_1 < (l0_1.length : Int)
       ·
        rw [if_pos c8] at H
        have c8b0 : decide (x18_1 < (l0_1.length : Int)) = true := decide_eq_true c8
        clear c8
        have H' := Aside0.mk H
        clear H
        have p102 : 0 ≤ (x18_1 : Int) := of_decide_eq_true (by first | (with_reducible assumption) | assumption)
        have q102 : x18_1 < (l0_0.length : Int) := of_decide_eq_true (by first | (with_reducible assumption) | assumption)
        obtain ⟨ad102, e102, hx102_0⟩ := Kd.at_int HR0_0.out x18_1 p102 q102
        cases e102
        replace hx102_0 := (HB.out.cell (World.block_lt_of_cell? w _ hx102_0)).trans hx102_0
        replace p102 := eq_true p102
        replace q102 := eq_true q102
        have hcz9_0 : wr.cell? ⟨gb101, 0, none⟩ = some (.slice (some ad102) l0_0.length c0_0) := (blk_cell BK101.out 0).trans rfl
        have hcz9_1 : wr.cell? ⟨gb101, 1, none⟩ = some (.slice A0_1 l0_1.length c0_1) := (blk_cell BK101.out 1).trans rfl
        have hfz9_0 := blk_frozen BK101.out 0
        have hfz9_1 := blk_frozen BK101.out 1
        have p103 : 0 ≤ (x18_1 : Int) := of_decide_eq_true (by first | (with_reducible assumption) | assumption)
        have q103 : x18_1 < (l0_1.length : Int) := of_decide_eq_true (by first | (with_reducible assumption) | assumption)
        obtain ⟨ad103, e103, hx103_0⟩ := Kd.at_int HR0_1.out x18_1 p103 q103
        cases e103
        replace hx103_0 := (HB.out.cell (World.block_lt_of_cell? w _ hx103_0)).trans hx103_0
        replace p103 := eq_true p103
        replace q103 := eq_true q103
        go_wp2_with (first | ((with_reducible refine gate_dst (N := 7) rfl ?_); refine box_event ?hg (N := 7) ?hd (cs := #[.int .i64 0, .int .i64 0, .int .i64 0]) (t := 173) ?hr ?_; (case hd => rfl); (case hg => rfl); (case hr => first | (go_simp; done) | (go_simp; rfl)); intro gb104 hg w10 hbox hb; have n0_ := aK (Kd.R_below (Kd.R_elderB (pR HO_4.out) gb104 (Nat.le_of_eq hg.symm)) hb); have BK104 := aK (hbox); have GW104 := aK (gE hg (pS HB.out)); have GE104 := aK (gE hg (pS HB.out)); have NB101_104 := aK (nL hg (pB BK101.out)); have NB104_101 := aK (nG hg (pB BK101.out)); replace BK101 := bB BK101 hb; replace HB := bS HB hb; clear HO_4; have HO_4 := n0_; clear n0_ hb hbox hg; have hnb11 := NB104_101.out; have hnc11 := NB101_104.out; have hcz12_0 : w10.cell? ⟨gb104, 0, none⟩ = some (.int .i64 0) := (blk_cell BK104.out 0).trans rfl; have hcz12_1 : w10.cell? ⟨gb104, 1, none⟩ = some (.int .i64 0) := (blk_cell BK104.out 1).trans rfl; have hcz12_2 : w10.cell? ⟨gb104, 2, none⟩ = some (.int .i64 0) := (blk_cell BK104.out 2).trans rfl; have hfz12_0 := blk_frozen BK104.out 0; have hfz12_1 := blk_frozen BK104.out 1; have hfz12_2 := blk_frozen BK104.out 2; obtain ⟨Ao13, co13, eo13⟩ := Kd.R_slice HO_4.out; subst eo13))
        go_loopg [4, 8] k1 (fun kq v4 v8 w' => ∃ (x4_2 : List (S173)) (x8_2 : Int) (x105000_2 : Int) (x105001_2 : Int) (x105002_2 : Int), v8 = .int .i64 x8_2 ∧ Aside0 (impl_calibrationOf.l1 kq x4_2 x8_2 l0_0 (l0_0.length : Int) x18_1 l0_0 l0_1 x105000_2 x105001_2 x105002_2 = some (r1, r2)) ∧ Aside0 (kq ≤ k1) ∧ Aside0 (Kd.R k173 173 w' w.heap.size (fun k_ => k_ ≠ gb104) v4 x4_2) ∧ Aside0 (w'.heap[gb101]? = some (.cells #[(.slice (some ad102) l0_0.length c0_0), (.slice (some ad103) l0_1.length c0_1)] 44 (0, 0))) ∧ Aside0 (w'.heap[gb104]? = some (.cells #[.int .i64 x105000_2, .int .i64 x105001_2, .int .i64 x105002_2] 173 (0, 0))) ∧ Aside0 (Below w.heap.size w w'))
        case atStart => exact ⟨(x4_1), ((x4_1.length : Int)), (x18_1), (rd l0_0 x18_1), (rd l0_1 x18_1), (by first | rfl | (simp; done) | (simp [*]; done)), H', ⟨Nat.le_refl _⟩, ⟨by (with_reducible repeat (first | apply Kd.R_alloc | apply Kd.R_drewN | apply Kd.R_drew)); exact Kd.R_mono (Kd.R_far (p := ⟨gb104, 2, none⟩) (Kd.R_far (p := ⟨gb104, 1, none⟩) (Kd.R_far (p := ⟨gb104, 0, none⟩) (Kd.R_mono HO_4.out (fun k_ hk => (⟨hk, hk.2⟩ : _ ∧ k_ ≠ gb104))) (fun _ hk => hk.2) (.int .i64 x18_1)) (fun _ hk => hk.2) (.int .i64 (rd l0_0 x18_1))) (fun _ hk => hk.2) (.int .i64 (rd l0_1 x18_1))) (fun _ hk => hk.1.2)⟩, ⟨by (with_reducible repeat (first | refine blk_drewN ?_ _ | refine blk_drew ?_ | refine blk_alloc ?_ _)); refine blk_far ?_ NB101_104.out _; (with_reducible repeat (first | refine blk_drewN ?_ _ | refine blk_drew ?_ | refine blk_alloc ?_ _)); refine blk_far ?_ NB101_104.out _; (with_reducible repeat (first | refine blk_drewN ?_ _ | refine blk_drew ?_ | refine blk_alloc ?_ _)); refine blk_far ?_ NB101_104.out _; (with_reducible repeat (first | refine blk_drewN ?_ _ | refine blk_drew ?_ | refine blk_alloc ?_ _)); exact BK101.out⟩, ⟨by (with_reducible repeat (first | refine blk_drewN ?_ _ | refine blk_drew ?_ | refine blk_alloc ?_ _)); refine blk_put (cs := #[.int .i64 x18_1, .int .i64 (rd l0_0 x18_1), .int .i64 0]) ?_ 2 _ rfl; (with_reducible repeat (first | refine blk_drewN ?_ _ | refine blk_drew ?_ | refine blk_alloc ?_ _)); refine blk_put (cs := #[.int .i64 x18_1, .int .i64 0, .int .i64 0]) ?_ 1 _ rfl; (with_reducible repeat (first | refine blk_drewN ?_ _ | refine blk_drew ?_ | refine blk_alloc ?_ _)); refine blk_put (cs := #[.int .i64 0, .int .i64 0, .int .i64 0]) ?_ 0 _ rfl; (with_reducible repeat (first | refine blk_drewN ?_ _ | refine blk_drew ?_ | refine blk_alloc ?_ _)); exact BK104.out⟩, ⟨by repeat (first | (with_reducible first | exact HB.out | apply below_alloc | apply pw_below_drewN | apply below_drew1 | refine below_set ?_ GE101.out | refine below_set ?_ GE104.out) | exact HB.out)⟩⟩
        case round =>
         clear H'
         try clear c1
         try clear p1
         try clear q1
         try clear hx1
         try clear p2
         try clear c4
         try clear c4b0
         try clear c5
         try clear c5b0
         try clear c6
         try clear c6b0
         try clear p6
         try clear c7
         try clear c7b0
         try clear c7b1
         try clear c8
         try clear c8b0
         try clear p10
         try clear q10
         try clear hx10
         try clear c11
         try clear hcz12_0
         try clear hcz12_1
         try clear hcz12_2
         try clear hcz3_0
         try clear hcz3_1
         try clear hcz9_0
         try clear hcz9_1
         try clear hfz12_0
         try clear hfz12_1
         try clear hfz12_2
         try clear hfz3_0
         try clear hfz3_1
         try clear hfz9_0
         try clear hfz9_1
         try clear hx102_0
         try clear hx103_0
         try clear p102
         try clear p103
         try clear p2
         try clear q102
         try clear q103
         obtain ⟨x4_2, x8_2, x105000_2, x105001_2, x105002_2, rfl, HA, HK2, HO_4, BK101, BK104, HB⟩ := hrel
         cases gk with
         | zero => exact absurd HA.out (by simp [impl_calibrationOf.l1])
         | succ k2 =>
          have H := HA.out
          clear HA
          simp only [impl_calibrationOf.l1] at H
          by_cases c14 : x8_2 > 0
          ·
           rw [if_pos c14] at H
           have c14b0 : decide (0 < x8_2) = true := decide_eq_true c14
           clear c14
           obtain ⟨ji15, hji15⟩ : ∃ j_ : Int, (wrap64 (x8_2 - 1)) = j_ := ⟨_, rfl⟩
           replace H : (if 0 ≤ (ji15) then (if (ji15) < (x4_2.length : Int) then (if (wrap64 (((rd_T173 x4_2 (ji15)).f2) * x105001_2)) ≤ (wrap64 (x105002_2 * ((rd_T173 x4_2 (ji15)).f1))) then (if x4_2.length < 5864062014805 then (impl_calibrationOf.l0 k2 (x4_2 ++ [(⟨x105000_2, x105001_2, x105002_2⟩ : S173)]) l0_0 (l0_0.length : Int) (wrap64 (x18_1 + 1)) l0_0 l0_1) else (none)) else (if (ji15) ≤ (x4_2.length : Int) then ((some (x4_2.take ((ji15) : Int).toNat : List (S173))).bind fun y110 => (impl_calibrationOf.l1 k2 y110 (y110.length : Int) l0_0 (l0_0.length : Int) x18_1 l0_0 l0_1 ((rd_T173 x4_2 (ji15)).f0) (wrap64 (((rd_T173 x4_2 (ji15)).f1) + x105001_2)) (wrap64 (((rd_T173 x4_2 (ji15)).f2) + x105002_2)))) else (none))) else (none)) else (none)) = some (r1, r2) := by first | (rw [hji15] at H; exact H) | (simp only [hji15] at H ⊢; exact H)
           have hji15w : (IntKind.i64.wrap (x8_2 - 1)) = ji15 := (i64_w _).trans hji15
           by_cases c16 : 0 ≤ (ji15)
           ·
            rw [if_pos c16] at H
            have c16b0 : decide (0 ≤ (ji15)) = true := decide_eq_true c16
            clear c16
            by_cases c17 : (ji15) < (x4_2.length : Int)
            ·
             rw [if_pos c17] at H
             have c17b0 : decide ((ji15) < (x4_2.length : Int)) = true := decide_eq_true c17
             clear c17
             by_cases c18 : (wrap64 (((rd_T173 x4_2 (ji15)).f2) * x105001_2)) ≤ (wrap64 (x105002_2 * ((rd_T173 x4_2 (ji15)).f1)))
             ·
              rw [if_pos c18] at H
              have c18b0 : decide ((wrap64 (((rd_T173 x4_2 (ji15)).f2) * x105001_2)) ≤ (wrap64 (x105002_2 * ((rd_T173 x4_2 (ji15)).f1)))) = true := decide_eq_true c18
              clear c18
              by_cases c19 : x4_2.length < 5864062014805
              ·
               rw [if_pos c19] at H
               have LMc19 := Aside0.mk c19
               clear c19
               obtain ⟨y107, hy107⟩ : ∃ y_ : List (S173), y_ = (x4_2 ++ [(⟨x105000_2, x105001_2, x105002_2⟩ : S173)]) := ⟨_, rfl⟩
               replace H : (impl_calibrationOf.l0 k2 y107 l0_0 (l0_0.length : Int) (wrap64 (x18_1 + 1)) l0_0 l0_1) = some (r1, r2) := by first | (rw [hy107]; with_reducible exact H) | (have H2_ := (Option.bind_some _ _).symm.trans H; rw [hy107]; with_reducible exact H2_) | (have H2_ := (Option.bind_some _ _).symm.trans H; with_reducible exact H2_) | with_reducible exact H | (rw [hy107]; exact H) | exact H
               have Ny107 := Aside0.mk hy107
               clear hy107
               have H' := Aside0.mk H
               clear H
               obtain ⟨Ao20, co20, eo20⟩ := Kd.R_slice HO_4.out
               subst eo20
               have p105 : 0 ≤ ((ji15) : Int) := of_decide_eq_true (by first | (with_reducible assumption) | assumption)
               have q105 : (ji15) < (x4_2.length : Int) := of_decide_eq_true (by first | (with_reducible assumption) | assumption)
               obtain ⟨ad105, e105, hx105_0, hx105_1, hx105_2⟩ := at_T173 (Kd.R_reads' HO_4.out).2.2 (ji15) p105 q105
               cases e105
               replace p105 := eq_true p105
               replace q105 := eq_true q105
               go_wp2_with (first | ((with_reducible refine gate_dst (N := 9) rfl ?_); refine box_event ?hg (N := 9) ?hd (cs := #[.int .i64 0, .int .i64 0, .int .i64 0]) (t := 173) ?hr ?_; (case hd => rfl); (case hg => rfl); (case hr => first | (go_simp; done) | (go_simp; rfl)); intro gb106 hg w21 hbox hb; have n0_ := aK (Kd.R_below (Kd.R_elderB (pR HO_4.out) gb106 (Nat.le_of_eq hg.symm)) hb); have BK106 := aK (hbox); have GW106 := aK (gE hg (pS HB.out)); have GE106 := aK (gE hg (pS HB.out)); have NB101_106 := aK (nL hg (pB BK101.out)); have NB106_101 := aK (nG hg (pB BK101.out)); have NB104_106 := aK (nL hg (pB BK104.out)); have NB106_104 := aK (nG hg (pB BK104.out)); replace BK101 := bB BK101 hb; replace BK104 := bB BK104 hb; replace HB := bS HB hb; clear HO_4; have HO_4 := n0_; clear n0_ hb hbox hg; have hnb22 := NB106_101.out; have hnc22 := NB101_106.out; have hnb23 := NB106_104.out; have hnc23 := NB104_106.out; have hcz24_0 : w21.cell? ⟨gb106, 0, none⟩ = some (.int .i64 0) := (blk_cell BK106.out 0).trans rfl; have hcz24_1 : w21.cell? ⟨gb106, 1, none⟩ = some (.int .i64 0) := (blk_cell BK106.out 1).trans rfl; have hcz24_2 : w21.cell? ⟨gb106, 2, none⟩ = some (.int .i64 0) := (blk_cell BK106.out 2).trans rfl; have hfz24_0 := blk_frozen BK106.out 0; have hfz24_1 := blk_frozen BK106.out 1; have hfz24_2 := blk_frozen BK106.out 2; have hnb25 := NB104_101.out; have hnc25 := NB101_104.out; have hcz26_0 : w21.cell? ⟨gb104, 0, none⟩ = some (.int .i64 x105000_2) := (blk_cell BK104.out 0).trans rfl; have hcz26_1 : w21.cell? ⟨gb104, 1, none⟩ = some (.int .i64 x105001_2) := (blk_cell BK104.out 1).trans rfl; have hcz26_2 : w21.cell? ⟨gb104, 2, none⟩ = some (.int .i64 x105002_2) := (blk_cell BK104.out 2).trans rfl; have hfz26_0 := blk_frozen BK104.out 0; have hfz26_1 := blk_frozen BK104.out 1; have hfz26_2 := blk_frozen BK104.out 2) | ((with_reducible refine gate_builtin (b := .append) (xs := #[.tmp 72, .tmp 74]) rfl ?_); at_builtin; refine Kd.R_append k173 (w0 := w) w.heap.size rfl (.tmp 72) (.tmp 74) 171 173 (.agg #[(.int .i64 0), (.int .i64 0), (.int .i64 0)]) 24 rfl Try.underlying171 info173 rfl (by decide) (by omega) (.slice (some ad105) x4_2.length co20) x4_2 (⟨x105000_2, x105001_2, x105002_2⟩ : S173) [.int .i64 x105000_2, .int .i64 x105001_2, .int .i64 x105002_2] (fun k_ => k_ ≠ gb104 ∧ k_ ≠ gb106) (fun _ => False) rfl (by first | (go_simp; done) | (go_simp; rfl)) ?aP (fun _ hk => hk.elim) ?aF ?aO ?aB ?aS ?aL ?_; (case aP => exact k173_mkM _ _ _ (⟨x105000_2, x105001_2, x105002_2⟩ : S173)); (case aB => exact (pS HB.out)); (case aF => exact (fun k_ hk => ⟨Kd.freshB (g := gb104) (o := .cells #[.int .i64 x105000_2, .int .i64 x105001_2, .int .i64 x105002_2] 173 (0, 0)) (by (with_reducible repeat (first | refine blk_drewN ?_ _ | refine blk_drew ?_ | refine blk_alloc ?_ _)); refine blk_far ?_ NB104_106.out _; (with_reducible repeat (first | refine blk_drewN ?_ _ | refine blk_drew ?_ | refine blk_alloc ?_ _)); refine blk_far ?_ NB104_106.out _; (with_reducible repeat (first | refine blk_drewN ?_ _ | refine blk_drew ?_ | refine blk_alloc ?_ _)); refine blk_far ?_ NB104_106.out _; (with_reducible repeat (first | refine blk_drewN ?_ _ | refine blk_drew ?_ | refine blk_alloc ?_ _)); exact BK104.out) k_ hk, Kd.freshB (g := gb106) (o := .cells #[.int .i64 ((rd_T173 x4_2 (ji15)).f0), .int .i64 ((rd_T173 x4_2 (ji15)).f1), .int .i64 ((rd_T173 x4_2 (ji15)).f2)] 173 (0, 0)) (by (with_reducible repeat (first | refine blk_drewN ?_ _ | refine blk_drew ?_ | refine blk_alloc ?_ _)); refine blk_put (cs := #[.int .i64 ((rd_T173 x4_2 (ji15)).f0), .int .i64 ((rd_T173 x4_2 (ji15)).f1), .int .i64 0]) ?_ 2 _ rfl; (with_reducible repeat (first | refine blk_drewN ?_ _ | refine blk_drew ?_ | refine blk_alloc ?_ _)); refine blk_put (cs := #[.int .i64 ((rd_T173 x4_2 (ji15)).f0), .int .i64 0, .int .i64 0]) ?_ 1 _ rfl; (with_reducible repeat (first | refine blk_drewN ?_ _ | refine blk_drew ?_ | refine blk_alloc ?_ _)); refine blk_put (cs := #[.int .i64 0, .int .i64 0, .int .i64 0]) ?_ 0 _ rfl; (with_reducible repeat (first | refine blk_drewN ?_ _ | refine blk_drew ?_ | refine blk_alloc ?_ _)); exact BK106.out) k_ hk⟩)); (case aO => exact (pR (Kd.R_mono (Kd.R_far (p := ⟨gb106, 2, none⟩) (Kd.R_far (p := ⟨gb106, 1, none⟩) (Kd.R_far (p := ⟨gb106, 0, none⟩) (Kd.R_mono HO_4.out (fun k_ hk => (⟨hk, hk.2⟩ : _ ∧ k_ ≠ gb106))) (fun _ hk => hk.2) (.int .i64 ((rd_T173 x4_2 (ji15)).f0))) (fun _ hk => hk.2) (.int .i64 ((rd_T173 x4_2 (ji15)).f1))) (fun _ hk => hk.2) (.int .i64 ((rd_T173 x4_2 (ji15)).f2))) (fun _ hk => ⟨hk.1.1, hk.1.2⟩)))); (case aS => exact (below_size (pS HB.out))); (case aL => have := LMc19.out; omega); intro v108 w27 ho hb hg hat; rw [← Ny107.out] at ho; have n0_ := aK (blk_grown (g := gb101) (o := .cells #[.slice (some ad102) l0_0.length c0_0, .slice (some ad103) l0_1.length c0_1] 44 (0, 0)) (by (with_reducible repeat (first | refine blk_drewN ?_ _ | refine blk_drew ?_ | refine blk_alloc ?_ _)); refine blk_far ?_ NB101_106.out _; (with_reducible repeat (first | refine blk_drewN ?_ _ | refine blk_drew ?_ | refine blk_alloc ?_ _)); refine blk_far ?_ NB101_106.out _; (with_reducible repeat (first | refine blk_drewN ?_ _ | refine blk_drew ?_ | refine blk_alloc ?_ _)); refine blk_far ?_ NB101_106.out _; (with_reducible repeat (first | refine blk_drewN ?_ _ | refine blk_drew ?_ | refine blk_alloc ?_ _)); exact BK101.out) hg (Kd.R_ne HO_4.out BK101.out (by decide))); have n1_ := aK (blk_grown (g := gb104) (o := .cells #[.int .i64 x105000_2, .int .i64 x105001_2, .int .i64 x105002_2] 173 (0, 0)) (by (with_reducible repeat (first | refine blk_drewN ?_ _ | refine blk_drew ?_ | refine blk_alloc ?_ _)); refine blk_far ?_ NB104_106.out _; (with_reducible repeat (first | refine blk_drewN ?_ _ | refine blk_drew ?_ | refine blk_alloc ?_ _)); refine blk_far ?_ NB104_106.out _; (with_reducible repeat (first | refine blk_drewN ?_ _ | refine blk_drew ?_ | refine blk_alloc ?_ _)); refine blk_far ?_ NB104_106.out _; (with_reducible repeat (first | refine blk_drewN ?_ _ | refine blk_drew ?_ | refine blk_alloc ?_ _)); exact BK104.out) hg (Kd.R_away HO_4.out (fun _ hk => hk.1))); have n2_ := aK (blk_grown (g := gb106) (o := .cells #[.int .i64 ((rd_T173 x4_2 (ji15)).f0), .int .i64 ((rd_T173 x4_2 (ji15)).f1), .int .i64 ((rd_T173 x4_2 (ji15)).f2)] 173 (0, 0)) (by (with_reducible repeat (first | refine blk_drewN ?_ _ | refine blk_drew ?_ | refine blk_alloc ?_ _)); refine blk_put (cs := #[.int .i64 ((rd_T173 x4_2 (ji15)).f0), .int .i64 ((rd_T173 x4_2 (ji15)).f1), .int .i64 0]) ?_ 2 _ rfl; (with_reducible repeat (first | refine blk_drewN ?_ _ | refine blk_drew ?_ | refine blk_alloc ?_ _)); refine blk_put (cs := #[.int .i64 ((rd_T173 x4_2 (ji15)).f0), .int .i64 0, .int .i64 0]) ?_ 1 _ rfl; (with_reducible repeat (first | refine blk_drewN ?_ _ | refine blk_drew ?_ | refine blk_alloc ?_ _)); refine blk_put (cs := #[.int .i64 0, .int .i64 0, .int .i64 0]) ?_ 0 _ rfl; (with_reducible repeat (first | refine blk_drewN ?_ _ | refine blk_drew ?_ | refine blk_alloc ?_ _)); exact BK106.out) hg (Kd.R_away HO_4.out (fun _ hk => hk.2))); have n3_ := aK (hb); have HO109 := aK (ho); clear BK101 BK104 BK106 HB HO_4; have BK101 := n0_; have BK104 := n1_; have BK106 := n2_; have HB := n3_; clear n0_ n1_ n2_ n3_; clear ho hb hg hat))
               go_roundg k2
               case measure => have := HK1.out; have := HK2.out; omega
               case rel => exact ⟨(y107), (wrap64 (x18_1 + 1)), (by first | rfl | (simp; done) | (simp [*]; done)), H', ⟨by have := HK1.out; have := HK2.out; omega⟩, ⟨by (with_reducible repeat (first | apply Kd.R_alloc | apply Kd.R_drewN | apply Kd.R_drew)); exact Kd.R_mono HO109.out (fun _ hk => trivial)⟩, ⟨by (with_reducible repeat (first | refine blk_drewN ?_ _ | refine blk_drew ?_ | refine blk_alloc ?_ _)); exact BK101.out⟩, ⟨by repeat (first | (with_reducible first | exact HB.out | apply below_alloc | apply pw_below_drewN | apply below_drew1 | refine below_set ?_ GE101.out | refine below_set ?_ GE104.out | refine below_set ?_ GE106.out) | exact HB.out)⟩⟩
              ·
               rw [if_neg c19] at H
               exact absurd H (by simp)
             ·
              rw [if_neg c18] at H
              have c18b0 : decide ((wrap64 (((rd_T173 x4_2 (ji15)).f2) * x105001_2)) ≤ (wrap64 (x105002_2 * ((rd_T173 x4_2 (ji15)).f1)))) = false := decide_eq_false c18
              clear c18
              by_cases c28 : (ji15) ≤ (x4_2.length : Int)
              ·
               rw [if_pos c28] at H
               have c28b0 := eq_true c28
               have c28b1 : decide ((ji15) ≤ (x4_2.length : Int)) = true := decide_eq_true c28
               clear c28
               obtain ⟨y110, hy110⟩ : ∃ y_ : List (S173), y_ = (x4_2.take ((ji15) : Int).toNat) := ⟨_, rfl⟩
               replace H : (impl_calibrationOf.l1 k2 y110 (y110.length : Int) l0_0 (l0_0.length : Int) x18_1 l0_0 l0_1 ((rd_T173 x4_2 (ji15)).f0) (wrap64 (((rd_T173 x4_2 (ji15)).f1) + x105001_2)) (wrap64 (((rd_T173 x4_2 (ji15)).f2) + x105002_2))) = some (r1, r2) := by first | (rw [hy110]; with_reducible exact H) | (have H2_ := (Option.bind_some _ _).symm.trans H; rw [hy110]; with_reducible exact H2_) | (have H2_ := (Option.bind_some _ _).symm.trans H; with_reducible exact H2_) | with_reducible exact H | (rw [hy110]; exact H) | exact H
               have Ny110 := Aside0.mk hy110
               clear hy110
               have H' := Aside0.mk H
               clear H
               obtain ⟨Ao29, co29, eo29⟩ := Kd.R_slice HO_4.out
               subst eo29
               have p105 : 0 ≤ ((ji15) : Int) := of_decide_eq_true (by first | (with_reducible assumption) | assumption)
               have q105 : (ji15) < (x4_2.length : Int) := of_decide_eq_true (by first | (with_reducible assumption) | assumption)
               obtain ⟨ad105, e105, hx105_0, hx105_1, hx105_2⟩ := at_T173 (Kd.R_reads' HO_4.out).2.2 (ji15) p105 q105
               cases e105
               replace p105 := eq_true p105
               replace q105 := eq_true q105
               go_wp2_with (first | ((with_reducible refine gate_dst (N := 9) rfl ?_); refine box_event ?hg (N := 9) ?hd (cs := #[.int .i64 0, .int .i64 0, .int .i64 0]) (t := 173) ?hr ?_; (case hd => rfl); (case hg => rfl); (case hr => first | (go_simp; done) | (go_simp; rfl)); intro gb106 hg w30 hbox hb; have n0_ := aK (Kd.R_below (Kd.R_elderB (pR HO_4.out) gb106 (Nat.le_of_eq hg.symm)) hb); have BK106 := aK (hbox); have GW106 := aK (gE hg (pS HB.out)); have GE106 := aK (gE hg (pS HB.out)); have NB101_106 := aK (nL hg (pB BK101.out)); have NB106_101 := aK (nG hg (pB BK101.out)); have NB104_106 := aK (nL hg (pB BK104.out)); have NB106_104 := aK (nG hg (pB BK104.out)); replace BK101 := bB BK101 hb; replace BK104 := bB BK104 hb; replace HB := bS HB hb; clear HO_4; have HO_4 := n0_; clear n0_ hb hbox hg; have hnb31 := NB106_101.out; have hnc31 := NB101_106.out; have hnb32 := NB106_104.out; have hnc32 := NB104_106.out; have hcz33_0 : w30.cell? ⟨gb106, 0, none⟩ = some (.int .i64 0) := (blk_cell BK106.out 0).trans rfl; have hcz33_1 : w30.cell? ⟨gb106, 1, none⟩ = some (.int .i64 0) := (blk_cell BK106.out 1).trans rfl; have hcz33_2 : w30.cell? ⟨gb106, 2, none⟩ = some (.int .i64 0) := (blk_cell BK106.out 2).trans rfl; have hfz33_0 := blk_frozen BK106.out 0; have hfz33_1 := blk_frozen BK106.out 1; have hfz33_2 := blk_frozen BK106.out 2) | ((with_reducible refine gate_store (t := 173) (p := 9) rfl ?_); refine store_event (t := 173) (p := 9) (v := ?vo_w34) (w1 := (((w30.setCell ⟨gb106, 0, none⟩ (.int .i64 ((rd_T173 x4_2 (ji15)).f0))).setCell ⟨gb106, 1, none⟩ (.int .i64 ((rd_T173 x4_2 (ji15)).f1))).setCell ⟨gb106, 2, none⟩ (.int .i64 ((rd_T173 x4_2 (ji15)).f2)))) ?hg ?ho ?hn ?hr ?_; (case ho => rfl); (case hg => rfl); (case hn => rfl); (case hr => first | (go_simp; done) | (go_simp; rfl)); intro w34 hw; have n0_ : Aside0 (Kd.R k173 173 w34 w.heap.size (fun k_ => k_ ≠ gb104 ∧ k_ ≠ gb106) (.slice (some ad105) x4_2.length co29) x4_2) := ⟨(by rw [hw]; exact (pR (Kd.R_mono (Kd.R_far (p := ⟨gb106, 2, none⟩) (Kd.R_far (p := ⟨gb106, 1, none⟩) (Kd.R_far (p := ⟨gb106, 0, none⟩) (Kd.R_mono HO_4.out (fun k_ hk => (⟨hk, hk.2⟩ : _ ∧ k_ ≠ gb106))) (fun _ hk => hk.2) (.int .i64 ((rd_T173 x4_2 (ji15)).f0))) (fun _ hk => hk.2) (.int .i64 ((rd_T173 x4_2 (ji15)).f1))) (fun _ hk => hk.2) (.int .i64 ((rd_T173 x4_2 (ji15)).f2))) (fun _ hk => ⟨hk.1.1, hk.1.2⟩))))⟩; have n1_ : Aside0 (w34.heap[gb101]? = some (.cells #[.slice (some ad102) l0_0.length c0_0, .slice (some ad103) l0_1.length c0_1] 44 (0, 0))) := ⟨(by rw [hw]; exact (by (with_reducible repeat (first | refine blk_drewN ?_ _ | refine blk_drew ?_ | refine blk_alloc ?_ _)); refine blk_far ?_ NB101_106.out _; (with_reducible repeat (first | refine blk_drewN ?_ _ | refine blk_drew ?_ | refine blk_alloc ?_ _)); refine blk_far ?_ NB101_106.out _; (with_reducible repeat (first | refine blk_drewN ?_ _ | refine blk_drew ?_ | refine blk_alloc ?_ _)); refine blk_far ?_ NB101_106.out _; (with_reducible repeat (first | refine blk_drewN ?_ _ | refine blk_drew ?_ | refine blk_alloc ?_ _)); exact BK101.out))⟩; have n2_ : Aside0 (w34.heap[gb104]? = some (.cells #[.int .i64 x105000_2, .int .i64 x105001_2, .int .i64 x105002_2] 173 (0, 0))) := ⟨(by rw [hw]; exact (by (with_reducible repeat (first | refine blk_drewN ?_ _ | refine blk_drew ?_ | refine blk_alloc ?_ _)); refine blk_far ?_ NB104_106.out _; (with_reducible repeat (first | refine blk_drewN ?_ _ | refine blk_drew ?_ | refine blk_alloc ?_ _)); refine blk_far ?_ NB104_106.out _; (with_reducible repeat (first | refine blk_drewN ?_ _ | refine blk_drew ?_ | refine blk_alloc ?_ _)); refine blk_far ?_ NB104_106.out _; (with_reducible repeat (first | refine blk_drewN ?_ _ | refine blk_drew ?_ | refine blk_alloc ?_ _)); exact BK104.out))⟩; have n3_ : Aside0 (w34.heap[gb106]? = some (.cells #[.int .i64 ((rd_T173 x4_2 (ji15)).f0), .int .i64 ((rd_T173 x4_2 (ji15)).f1), .int .i64 ((rd_T173 x4_2 (ji15)).f2)] 173 (0, 0))) := ⟨(by rw [hw]; exact (by (with_reducible repeat (first | refine blk_drewN ?_ _ | refine blk_drew ?_ | refine blk_alloc ?_ _)); refine blk_put (cs := #[.int .i64 ((rd_T173 x4_2 (ji15)).f0), .int .i64 ((rd_T173 x4_2 (ji15)).f1), .int .i64 0]) ?_ 2 _ rfl; (with_reducible repeat (first | refine blk_drewN ?_ _ | refine blk_drew ?_ | refine blk_alloc ?_ _)); refine blk_put (cs := #[.int .i64 ((rd_T173 x4_2 (ji15)).f0), .int .i64 0, .int .i64 0]) ?_ 1 _ rfl; (with_reducible repeat (first | refine blk_drewN ?_ _ | refine blk_drew ?_ | refine blk_alloc ?_ _)); refine blk_put (cs := #[.int .i64 0, .int .i64 0, .int .i64 0]) ?_ 0 _ rfl; (with_reducible repeat (first | refine blk_drewN ?_ _ | refine blk_drew ?_ | refine blk_alloc ?_ _)); exact BK106.out))⟩; have n4_ : Aside0 (Below w.heap.size w w34) := ⟨(by rw [hw]; exact (pS HB.out))⟩; clear hw HO_4 BK101 BK104 BK106 HB; have HO_4 := n0_; have BK101 := n1_; have BK104 := n2_; have BK106 := n3_; have HB := n4_; clear n0_ n1_ n2_ n3_ n4_; have hcz35_0 : w34.cell? ⟨gb106, 0, none⟩ = some (.int .i64 ((rd_T173 x4_2 (ji15)).f0)) := (blk_cell BK106.out 0).trans rfl; have hcz35_1 : w34.cell? ⟨gb106, 1, none⟩ = some (.int .i64 ((rd_T173 x4_2 (ji15)).f1)) := (blk_cell BK106.out 1).trans rfl; have hcz35_2 : w34.cell? ⟨gb106, 2, none⟩ = some (.int .i64 ((rd_T173 x4_2 (ji15)).f2)) := (blk_cell BK106.out 2).trans rfl; have hfz35_0 := blk_frozen BK106.out 0; have hfz35_1 := blk_frozen BK106.out 1; have hfz35_2 := blk_frozen BK106.out 2; have hnb36 := NB104_101.out; have hnc36 := NB101_104.out; have hcz37_0 : w34.cell? ⟨gb104, 0, none⟩ = some (.int .i64 x105000_2) := (blk_cell BK104.out 0).trans rfl; have hcz37_1 : w34.cell? ⟨gb104, 1, none⟩ = some (.int .i64 x105001_2) := (blk_cell BK104.out 1).trans rfl; have hcz37_2 : w34.cell? ⟨gb104, 2, none⟩ = some (.int .i64 x105002_2) := (blk_cell BK104.out 2).trans rfl; have hfz37_0 := blk_frozen BK104.out 0; have hfz37_1 := blk_frozen BK104.out 1; have hfz37_2 := blk_frozen BK104.out 2) | ((with_reducible refine gate_store (t := 173) (p := 7) rfl ?_); refine store_event (t := 173) (p := 7) (v := ?vo_w38) (w1 := (((w34.setCell ⟨gb104, 0, none⟩ (.int .i64 ((rd_T173 x4_2 (ji15)).f0))).setCell ⟨gb104, 1, none⟩ (.int .i64 (wrap64 (((rd_T173 x4_2 (ji15)).f1) + x105001_2)))).setCell ⟨gb104, 2, none⟩ (.int .i64 (wrap64 (((rd_T173 x4_2 (ji15)).f2) + x105002_2))))) ?hg ?ho ?hn ?hr ?_; (case ho => rfl); (case hg => rfl); (case hn => rfl); (case hr => first | (go_simp; done) | (go_simp; rfl)); intro w38 hw; have n0_ : Aside0 (Kd.R k173 173 w38 w.heap.size (fun k_ => k_ ≠ gb104 ∧ k_ ≠ gb106) (.slice (some ad105) x4_2.length co29) x4_2) := ⟨(by rw [hw]; exact (pR (Kd.R_mono (Kd.R_far (p := ⟨gb104, 2, none⟩) (Kd.R_far (p := ⟨gb104, 1, none⟩) (Kd.R_far (p := ⟨gb104, 0, none⟩) (Kd.R_mono HO_4.out (fun k_ hk => (⟨hk, hk.1⟩ : _ ∧ k_ ≠ gb104))) (fun _ hk => hk.2) (.int .i64 ((rd_T173 x4_2 (ji15)).f0))) (fun _ hk => hk.2) (.int .i64 (wrap64 (((rd_T173 x4_2 (ji15)).f1) + x105001_2)))) (fun _ hk => hk.2) (.int .i64 (wrap64 (((rd_T173 x4_2 (ji15)).f2) + x105002_2)))) (fun _ hk => ⟨hk.1.1, hk.1.2⟩))))⟩; have n1_ : Aside0 (w38.heap[gb101]? = some (.cells #[.slice (some ad102) l0_0.length c0_0, .slice (some ad103) l0_1.length c0_1] 44 (0, 0))) := ⟨(by rw [hw]; exact (by (with_reducible repeat (first | refine blk_drewN ?_ _ | refine blk_drew ?_ | refine blk_alloc ?_ _)); refine blk_far ?_ NB101_104.out _; (with_reducible repeat (first | refine blk_drewN ?_ _ | refine blk_drew ?_ | refine blk_alloc ?_ _)); refine blk_far ?_ NB101_104.out _; (with_reducible repeat (first | refine blk_drewN ?_ _ | refine blk_drew ?_ | refine blk_alloc ?_ _)); refine blk_far ?_ NB101_104.out _; (with_reducible repeat (first | refine blk_drewN ?_ _ | refine blk_drew ?_ | refine blk_alloc ?_ _)); exact BK101.out))⟩; have n2_ : Aside0 (w38.heap[gb104]? = some (.cells #[.int .i64 ((rd_T173 x4_2 (ji15)).f0), .int .i64 (wrap64 (((rd_T173 x4_2 (ji15)).f1) + x105001_2)), .int .i64 (wrap64 (((rd_T173 x4_2 (ji15)).f2) + x105002_2))] 173 (0, 0))) := ⟨(by rw [hw]; exact (by (with_reducible repeat (first | refine blk_drewN ?_ _ | refine blk_drew ?_ | refine blk_alloc ?_ _)); refine blk_put (cs := #[.int .i64 ((rd_T173 x4_2 (ji15)).f0), .int .i64 (wrap64 (((rd_T173 x4_2 (ji15)).f1) + x105001_2)), .int .i64 x105002_2]) ?_ 2 _ rfl; (with_reducible repeat (first | refine blk_drewN ?_ _ | refine blk_drew ?_ | refine blk_alloc ?_ _)); refine blk_put (cs := #[.int .i64 ((rd_T173 x4_2 (ji15)).f0), .int .i64 x105001_2, .int .i64 x105002_2]) ?_ 1 _ rfl; (with_reducible repeat (first | refine blk_drewN ?_ _ | refine blk_drew ?_ | refine blk_alloc ?_ _)); refine blk_put (cs := #[.int .i64 x105000_2, .int .i64 x105001_2, .int .i64 x105002_2]) ?_ 0 _ rfl; (with_reducible repeat (first | refine blk_drewN ?_ _ | refine blk_drew ?_ | refine blk_alloc ?_ _)); exact BK104.out))⟩; have n3_ : Aside0 (w38.heap[gb106]? = some (.cells #[.int .i64 ((rd_T173 x4_2 (ji15)).f0), .int .i64 ((rd_T173 x4_2 (ji15)).f1), .int .i64 ((rd_T173 x4_2 (ji15)).f2)] 173 (0, 0))) := ⟨(by rw [hw]; exact (by (with_reducible repeat (first | refine blk_drewN ?_ _ | refine blk_drew ?_ | refine blk_alloc ?_ _)); refine blk_far ?_ NB106_104.out _; (with_reducible repeat (first | refine blk_drewN ?_ _ | refine blk_drew ?_ | refine blk_alloc ?_ _)); refine blk_far ?_ NB106_104.out _; (with_reducible repeat (first | refine blk_drewN ?_ _ | refine blk_drew ?_ | refine blk_alloc ?_ _)); refine blk_far ?_ NB106_104.out _; (with_reducible repeat (first | refine blk_drewN ?_ _ | refine blk_drew ?_ | refine blk_alloc ?_ _)); exact BK106.out))⟩; have n4_ : Aside0 (Below w.heap.size w w38) := ⟨(by rw [hw]; exact (pS HB.out))⟩; clear hw HO_4 BK101 BK104 BK106 HB; have HO_4 := n0_; have BK101 := n1_; have BK104 := n2_; have BK106 := n3_; have HB := n4_; clear n0_ n1_ n2_ n3_ n4_; have q39 : ((ji15) : Int) ≤ ((x4_2.length : Int) : Int) := of_decide_eq_true (by first | (with_reducible assumption) | assumption); obtain ⟨i039, hi039, _, hsz39, _⟩ := info_parts info173; have hcut39 := cut_to (P := Try.prog) 171 173 .i64 Try.underlying171 hi039 (some ad105) x4_2.length co29 (ji15) (of_decide_eq_true (by first | (with_reducible assumption) | assumption)) q39 (Kd.R_reads' HO_4.out).2.1; have hr39 := Kd.R_take (m := ((ji15) : Int).toNat) HO_4.out (by omega); have hy39 : y110.length = ((ji15) : Int).toNat := (by rw [Ny110.out, List.length_take]; omega); rw [← Ny110.out] at hr39; rw [← hy39] at hr39 hcut39; clear hy39 hi039 hsz39 HO_4; have HO112 := Aside0.mk hr39; clear hr39; replace q39 := eq_true q39))
               go_roundg k2
               case measure => have := HK1.out; have := HK2.out; omega
               case rel => exact ⟨(y110), ((y110.length : Int)), ((rd_T173 x4_2 (ji15)).f0), (wrap64 (((rd_T173 x4_2 (ji15)).f1) + x105001_2)), (wrap64 (((rd_T173 x4_2 (ji15)).f2) + x105002_2)), (by first | rfl | (simp; done) | (simp [*]; done)), H', ⟨by have := HK1.out; have := HK2.out; omega⟩, ⟨by (with_reducible repeat (first | apply Kd.R_alloc | apply Kd.R_drewN | apply Kd.R_drew)); exact Kd.R_mono HO112.out (fun _ hk => hk.1)⟩, ⟨by (with_reducible repeat (first | refine blk_drewN ?_ _ | refine blk_drew ?_ | refine blk_alloc ?_ _)); exact BK101.out⟩, ⟨by (with_reducible repeat (first | refine blk_drewN ?_ _ | refine blk_drew ?_ | refine blk_alloc ?_ _)); exact BK104.out⟩, ⟨by repeat (first | (with_reducible first | exact HB.out | apply below_alloc | apply pw_below_drewN | apply below_drew1 | refine below_set ?_ GE101.out | refine below_set ?_ GE104.out | refine below_set ?_ GE106.out) | exact HB.out)⟩⟩
              ·
               rw [if_neg c28] at H
               exact absurd H (by simp)
            ·
             rw [if_neg c17] at H
             exact absurd H (by simp)
           ·
            rw [if_neg c16] at H
            exact absurd H (by simp)
          ·
           rw [if_neg c14] at H
           have c14b0 : decide (0 < x8_2) = false := decide_eq_false c14
           clear c14
           by_cases c40 : x4_2.length < 5864062014805
           ·
            rw [if_pos c40] at H
            have LMc40 := Aside0.mk c40
            clear c40
            obtain ⟨y113, hy113⟩ : ∃ y_ : List (S173), y_ = (x4_2 ++ [(⟨x105000_2, x105001_2, x105002_2⟩ : S173)]) := ⟨_, rfl⟩
            replace H : (impl_calibrationOf.l0 k2 y113 l0_0 (l0_0.length : Int) (wrap64 (x18_1 + 1)) l0_0 l0_1) = some (r1, r2) := by first | (rw [hy113]; with_reducible exact H) | (have H2_ := (Option.bind_some _ _).symm.trans H; rw [hy113]; with_reducible exact H2_) | (have H2_ := (Option.bind_some _ _).symm.trans H; with_reducible exact H2_) | with_reducible exact H | (rw [hy113]; exact H) | exact H
            have Ny113 := Aside0.mk hy113
            clear hy113
            have H' := Aside0.mk H
            clear H
            have hnb41 := NB104_101.out
            have hnc41 := NB101_104.out
            have hcz42_0 : wr.cell? ⟨gb104, 0, none⟩ = some (.int .i64 x105000_2) := (blk_cell BK104.out 0).trans rfl
            have hcz42_1 : wr.cell? ⟨gb104, 1, none⟩ = some (.int .i64 x105001_2) := (blk_cell BK104.out 1).trans rfl
            have hcz42_2 : wr.cell? ⟨gb104, 2, none⟩ = some (.int .i64 x105002_2) := (blk_cell BK104.out 2).trans rfl
            have hfz42_0 := blk_frozen BK104.out 0
            have hfz42_1 := blk_frozen BK104.out 1
            have hfz42_2 := blk_frozen BK104.out 2
            go_wp2_with (first | ((with_reducible refine gate_builtin (b := .append) (xs := #[.tmp 72, .tmp 74]) rfl ?_); at_builtin; refine Kd.R_append k173 (w0 := w) w.heap.size rfl (.tmp 72) (.tmp 74) 171 173 (.agg #[(.int .i64 0), (.int .i64 0), (.int .i64 0)]) 24 rfl Try.underlying171 info173 rfl (by decide) (by omega) u4 x4_2 (⟨x105000_2, x105001_2, x105002_2⟩ : S173) [.int .i64 x105000_2, .int .i64 x105001_2, .int .i64 x105002_2] (fun k_ => k_ ≠ gb104) (fun _ => False) rfl rfl ?aP (fun _ hk => hk.elim) ?aF ?aO ?aB ?aS ?aL ?_; (case aP => exact k173_mkM _ _ _ (⟨x105000_2, x105001_2, x105002_2⟩ : S173)); (case aB => exact (pS HB.out)); (case aF => exact (fun k_ hk => Kd.freshB (g := gb104) (o := .cells #[.int .i64 x105000_2, .int .i64 x105001_2, .int .i64 x105002_2] 173 (0, 0)) (pB BK104.out) k_ hk)); (case aO => exact (pR HO_4.out)); (case aS => exact (below_size (pS HB.out))); (case aL => have := LMc40.out; omega); intro v114 w43 ho hb hg hat; rw [← Ny113.out] at ho; have n0_ := aK (blk_grown (g := gb101) (o := .cells #[.slice (some ad102) l0_0.length c0_0, .slice (some ad103) l0_1.length c0_1] 44 (0, 0)) (pB BK101.out) hg (Kd.R_ne HO_4.out BK101.out (by decide))); have n1_ := aK (blk_grown (g := gb104) (o := .cells #[.int .i64 x105000_2, .int .i64 x105001_2, .int .i64 x105002_2] 173 (0, 0)) (pB BK104.out) hg (Kd.R_away HO_4.out (fun _ hk => hk))); have n2_ := aK (hb); have HO115 := aK (ho); clear BK101 BK104 HB HO_4; have BK101 := n0_; have BK104 := n1_; have HB := n2_; clear n0_ n1_ n2_; clear ho hb hg hat))
            go_roundg k2
            case measure => have := HK1.out; have := HK2.out; omega
            case rel => exact ⟨(y113), (wrap64 (x18_1 + 1)), (by first | rfl | (simp; done) | (simp [*]; done)), H', ⟨by have := HK1.out; have := HK2.out; omega⟩, ⟨by (with_reducible repeat (first | apply Kd.R_alloc | apply Kd.R_drewN | apply Kd.R_drew)); exact Kd.R_mono HO115.out (fun _ hk => trivial)⟩, ⟨by (with_reducible repeat (first | refine blk_drewN ?_ _ | refine blk_drew ?_ | refine blk_alloc ?_ _)); exact BK101.out⟩, ⟨by repeat (first | (with_reducible first | exact HB.out | apply below_alloc | apply pw_below_drewN | apply below_drew1 | refine below_set ?_ GE101.out | refine below_set ?_ GE104.out) | exact HB.out)⟩⟩
           ·
            rw [if_neg c40] at H
            exact absurd H (by simp)
       ·
        rw [if_neg c8] at H
        exact absurd H (by simp)
     ·
      rw [if_neg c6] at H
      exact absurd H (by simp)
    ·
     rw [if_neg c5] at H
     exact absurd H (by simp)
   ·
    rw [if_neg c4] at H
    have c4b0 : decide (x18_1 < (l0_0.length : Int)) = false := decide_eq_false c4
    clear c4
    by_cases c44 : (x4_1.length : Int) = 0
    ·
     rw [if_pos c44] at H
     have c44b0 : ((x4_1.length : Int) == 0) = true := beq_iff_eq.mpr c44
     have c44b1 : ((x4_1.length : Int) != 0) = false := bne_eq_false_iff_eq.mpr c44
     clear c44
     simp only [Option.some.injEq, Prod.mk.injEq] at H
     obtain ⟨rfl, rfl⟩ := H
     obtain ⟨Ao45, co45, eo45⟩ := Kd.R_slice HO_4.out
     subst eo45
     go_wp2
     go_ret2
     exact ⟨_, by first | rfl | (simp [errW_none, errW_some] <;> rfl) | (simp [*, errW_none, errW_some] <;> rfl), by first | exact Kd.R_nil _ _ _ _ _ | exact Kd.N_nil _ _ _ _ _ | exact Kd.V_nil _ _ _ _ _ | exact Kd.Q_nil _ _ _ _ _ | exact Kd.S_nil _ _ _ _ _, by repeat (first | (with_reducible first | exact HB.out | apply below_alloc | apply pw_below_drewN | apply below_drew1 | refine below_set ?_ GE101.out) | exact HB.out)⟩
    ·
     rw [if_neg c44] at H
     have c44b0 : ((x4_1.length : Int) == 0) = false := beq_eq_false_iff_ne.mpr c44
     have c44b1 : ((x4_1.length : Int) != 0) = true := bne_iff_ne.mpr c44
     have c44b2 : ¬ (x4_1 = []) := fun h_ => c44 (by rw [h_]; rfl)
     by_cases c46 : 11 ≤ 17592186044416
     ·
      rw [if_pos c46] at H
      have c46b0 := eq_true c46
      have c46b1 : decide (11 ≤ 17592186044416) = true := decide_eq_true c46
      clear c46
      obtain ⟨y116, hy116⟩ : ∃ y_ : List (S55), y_ = (List.replicate 11 z55) := ⟨_, rfl⟩
      replace H : (impl_calibrationOf.l2 k1 x4_1 y116 (y116.length : Int) 0) = some (r1, r2) := by first | (rw [hy116]; with_reducible exact H) | (have H2_ := (Option.bind_some _ _).symm.trans H; rw [hy116]; with_reducible exact H2_) | (have H2_ := (Option.bind_some _ _).symm.trans H; with_reducible exact H2_) | with_reducible exact H | (rw [hy116]; exact H) | exact H
      have Ny116 := Aside0.mk hy116
      clear hy116
      have H' := Aside0.mk H
      clear H
      obtain ⟨Ao47, co47, eo47⟩ := Kd.R_slice HO_4.out
      subst eo47
      go_wp2_with (first | ((with_reducible refine gate_dst (N := 80) rfl ?_); refine Kd.R_make k55 _ 55 rfl (N := 80) rfl 51 _ _ rfl 11 rfl rfl Try.underlying51 (.agg #[(.int .i64 0), (.int .i64 0)]) 16 info55 rfl (by decide) (by omega) z55 (ok := fun _ => True) (okp := fun _ => True) (k55_mkM _ _ _ z55 ) (fun _ hk => hk) trivial (by omega) (by omega) (Below.refl _ _) (Nat.le_refl _) ?_; intro v117 w48 ho49 hb hg_ hnew_; clear hg_ hnew_; (first | rw [← Ny116.out] at ho49 | (simp only [Int.reduceToNat] at ho49; rw [← Ny116.out] at ho49)); have n0_ := aK (Kd.R_below (pR HO_4.out) hb); have HO118 := aK (Kd.R_lower ho49 (below_size (pS HB.out))); replace BK101 := bB BK101 hb; replace HB := bS HB hb; clear HO_4; have HO_4 := n0_; clear n0_ hb ho49; obtain ⟨Ao50, co50, eo50⟩ := Kd.R_slice HO118.out; subst eo50))
      go_loopg [83] k1 (fun kq v83 w' => ∃ (x10_2 : List (S55)) (x83_2 : Int), v83 = .int .i64 x83_2 ∧ Aside0 (impl_calibrationOf.l2 kq x4_1 x10_2 (y116.length : Int) x83_2 = some (r1, r2)) ∧ Aside0 (kq ≤ k1) ∧ Aside0 (Kd.R k173 173 w' w.heap.size (fun _ => True) (.slice Ao47 x4_1.length co47) x4_1) ∧ Aside0 (Kd.R k55 55 w' w.heap.size (fun _ => True) (.slice Ao50 y116.length co50) x10_2) ∧ Aside0 (w'.heap[gb101]? = some (.cells #[(.slice A0_0 l0_0.length c0_0), (.slice A0_1 l0_1.length c0_1)] 44 (0, 0))) ∧ Aside0 (Below w.heap.size w w'))
      case atStart => exact ⟨(y116), (0), (by first | rfl | (simp; done) | (simp [*]; done)), H', ⟨Nat.le_refl _⟩, ⟨by (with_reducible repeat (first | apply Kd.R_alloc | apply Kd.R_drewN | apply Kd.R_drew)); exact HO_4.out⟩, ⟨by (with_reducible repeat (first | apply Kd.R_alloc | apply Kd.R_drewN | apply Kd.R_drew)); exact HO118.out⟩, ⟨by (with_reducible repeat (first | refine blk_drewN ?_ _ | refine blk_drew ?_ | refine blk_alloc ?_ _)); exact BK101.out⟩, ⟨by repeat (first | (with_reducible first | exact HB.out | apply below_alloc | apply pw_below_drewN | apply below_drew1 | refine below_set ?_ GE101.out) | exact HB.out)⟩⟩
      case round =>
       clear H'
       try clear c1
       try clear p1
       try clear q1
       try clear hx1
       try clear c2
       try clear p2
       try clear c3
       try clear q3
       try clear c4
       try clear c4b0
       try clear c5
       try clear c5b0
       try clear c6
       try clear c6b0
       try clear p6
       try clear c7
       try clear c7b0
       try clear c7b1
       try clear c8
       try clear c8b0
       try clear p10
       try clear q10
       try clear hx10
       try clear c11
       try clear c14
       try clear c14b0
       try clear c16
       try clear c16b0
       try clear c17
       try clear c17b0
       try clear c18
       try clear c18b0
       try clear c19
       try clear c22
       try clear c23
       try clear c25
       try clear c28
       try clear c28b0
       try clear c28b1
       try clear c31
       try clear c32
       try clear c36
       try clear q39
       try clear c40
       try clear c41
       try clear c44
       try clear c44b0
       try clear c44b1
       try clear c44b2
       try clear c46
       try clear c46b0
       try clear c46b1
       try clear hcz12_0
       try clear hcz12_1
       try clear hcz12_2
       try clear hcz24_0
       try clear hcz24_1
       try clear hcz24_2
       try clear hcz26_0
       try clear hcz26_1
       try clear hcz26_2
       try clear hcz33_0
       try clear hcz33_1
       try clear hcz33_2
       try clear hcz35_0
       try clear hcz35_1
       try clear hcz35_2
       try clear hcz37_0
       try clear hcz37_1
       try clear hcz37_2
       try clear hcz3_0
       try clear hcz3_1
       try clear hcz42_0
       try clear hcz42_1
       try clear hcz42_2
       try clear hcz9_0
       try clear hcz9_1
       try clear hfz12_0
       try clear hfz12_1
       try clear hfz12_2
       try clear hfz24_0
       try clear hfz24_1
       try clear hfz24_2
       try clear hfz26_0
       try clear hfz26_1
       try clear hfz26_2
       try clear hfz33_0
       try clear hfz33_1
       try clear hfz33_2
       try clear hfz35_0
       try clear hfz35_1
       try clear hfz35_2
       try clear hfz37_0
       try clear hfz37_1
       try clear hfz37_2
       try clear hfz3_0
       try clear hfz3_1
       try clear hfz42_0
       try clear hfz42_1
       try clear hfz42_2
       try clear hfz9_0
       try clear hfz9_1
       try clear hx102_0
       try clear hx103_0
       try clear hx105_0
       try clear hx105_1
       try clear hx105_2
       try clear p1
       try clear p10
       try clear p102
       try clear p103
       try clear p105
       try clear p2
       try clear p6
       try clear q1
       try clear q10
       try clear q102
       try clear q103
       try clear q105
       try clear q39
       obtain ⟨x10_2, x83_2, rfl, HA, HK2, HO_4, HO_10, BK101, HB⟩ := hrel
       have hl10_2 := (Kd.R_reads' HO_10.out).1
       rw [hl10_2] at HO_10
       (try simp only [hl10_2])
       (try simp only [hl10_2] at BK101)
       (try simp only [hl10_2] at HO_4)
       cases gk with
       | zero => exact absurd HA.out (by simp [impl_calibrationOf.l2])
       | succ k2 =>
        have H := HA.out
        clear HA
        simp only [impl_calibrationOf.l2] at H
        by_cases c51 : x83_2 < (y116.length : Int)
        ·
         rw [if_pos c51] at H
         have c51b0 : decide (x83_2 < (y116.length : Int)) = true := decide_eq_true c51
         (try simp only [hl10_2] at c51b0)
         clear c51
         have H' := Aside0.mk H
         clear H
         go_wp2
         go_loopg [12, 88] k2 (fun kq v12 v88 w' => ∃ (x12_3 : Int) (x88_3 : Int), v12 = .int .i64 x12_3 ∧ v88 = .int .i64 x88_3 ∧ Aside0 (impl_calibrationOf.l3 kq x4_1 x10_2 x83_2 x12_3 (y116.length : Int) x83_2 x4_1 (x4_1.length : Int) x88_3 = some (r1, r2)) ∧ Aside0 (kq ≤ k2) ∧ Aside0 (Kd.R k173 173 w' w.heap.size (fun _ => True) (.slice Ao47 x4_1.length co47) x4_1) ∧ Aside0 (Kd.R k55 55 w' w.heap.size (fun _ => True) (.slice Ao50 x10_2.length co50) x10_2) ∧ Aside0 (Kd.R k173 173 w' w.heap.size (fun _ => True) (.slice Ao47 x4_1.length co47) x4_1) ∧ Aside0 (w'.heap[gb101]? = some (.cells #[(.slice A0_0 l0_0.length c0_0), (.slice A0_1 l0_1.length c0_1)] 44 (0, 0))) ∧ Aside0 (Below w.heap.size w w'))
         case atStart => exact ⟨(0), (0), (by first | rfl | (simp; done) | (simp [*]; done)), (by first | rfl | (simp; done) | (simp [*]; done)), H', ⟨Nat.le_refl _⟩, ⟨by (try simp only [hl10_2]); (with_reducible repeat (first | apply Kd.R_alloc | apply Kd.R_drewN | apply Kd.R_drew)); exact HO_4.out⟩, ⟨by (try simp only [hl10_2]); (with_reducible repeat (first | apply Kd.R_alloc | apply Kd.R_drewN | apply Kd.R_drew)); exact HO_10.out⟩, ⟨by (try simp only [hl10_2]); (with_reducible repeat (first | apply Kd.R_alloc | apply Kd.R_drewN | apply Kd.R_drew)); exact HO_4.out⟩, ⟨by (try simp only [hl10_2]); (with_reducible repeat (first | refine blk_drewN ?_ _ | refine blk_drew ?_ | refine blk_alloc ?_ _)); exact BK101.out⟩, ⟨by repeat (first | (with_reducible first | exact HB.out | apply below_alloc | apply pw_below_drewN | apply below_drew1 | refine below_set ?_ GE101.out) | exact HB.out)⟩⟩
         case round =>
          clear H'
          try clear c1
          try clear p1
          try clear q1
          try clear hx1
          try clear c2
          try clear p2
          try clear c3
          try clear q3
          try clear c4
          try clear c4b0
          try clear c5
          try clear c5b0
          try clear c6
          try clear c6b0
          try clear p6
          try clear c7
          try clear c7b0
          try clear c7b1
          try clear c8
          try clear c8b0
          try clear p10
          try clear q10
          try clear hx10
          try clear c11
          try clear c14
          try clear c14b0
          try clear c16
          try clear c16b0
          try clear c17
          try clear c17b0
          try clear c18
          try clear c18b0
          try clear c19
          try clear c22
          try clear c23
          try clear c25
          try clear c28
          try clear c28b0
          try clear c28b1
          try clear c31
          try clear c32
          try clear c36
          try clear q39
          try clear c40
          try clear c41
          try clear c44
          try clear c44b0
          try clear c44b1
          try clear c44b2
          try clear c46
          try clear c46b0
          try clear c46b1
          try clear c51
          try clear c51b0
          try clear hcz12_0
          try clear hcz12_1
          try clear hcz12_2
          try clear hcz24_0
          try clear hcz24_1
          try clear hcz24_2
          try clear hcz26_0
          try clear hcz26_1
          try clear hcz26_2
          try clear hcz33_0
          try clear hcz33_1
          try clear hcz33_2
          try clear hcz35_0
          try clear hcz35_1
          try clear hcz35_2
          try clear hcz37_0
          try clear hcz37_1
          try clear hcz37_2
          try clear hcz3_0
          try clear hcz3_1
          try clear hcz42_0
          try clear hcz42_1
          try clear hcz42_2
          try clear hcz9_0
          try clear hcz9_1
          try clear hfz12_0
          try clear hfz12_1
          try clear hfz12_2
          try clear hfz24_0
          try clear hfz24_1
          try clear hfz24_2
          try clear hfz26_0
          try clear hfz26_1
          try clear hfz26_2
          try clear hfz33_0
          try clear hfz33_1
          try clear hfz33_2
          try clear hfz35_0
          try clear hfz35_1
          try clear hfz35_2
          try clear hfz37_0
          try clear hfz37_1
          try clear hfz37_2
          try clear hfz3_0
          try clear hfz3_1
          try clear hfz42_0
          try clear hfz42_1
          try clear hfz42_2
          try clear hfz9_0
          try clear hfz9_1
          try clear hx102_0
          try clear hx103_0
          try clear hx105_0
          try clear hx105_1
          try clear hx105_2
          try clear p1
          try clear p10
          try clear p102
          try clear p103
          try clear p105
          try clear p2
          try clear p6
          try clear q1
          try clear q10
          try clear q102
          try clear q103
          try clear q105
          try clear q3
          try clear q39
          obtain ⟨x12_3, x88_3, rfl, rfl, HA, HK3, HO_4, HO_10, HO_86, BK101, HB⟩ := hrel
          cases gk with
          | zero => exact absurd HA.out (by simp [impl_calibrationOf.l3])
          | succ k3 =>
           have H := HA.out
           clear HA
           simp only [impl_calibrationOf.l3] at H
           by_cases c52 : x88_3 < (x4_1.length : Int)
           ·
            rw [if_pos c52] at H
            have c52b0 : decide (x88_3 < (x4_1.length : Int)) = true := decide_eq_true c52
            (try simp only [hl10_2] at c52b0)
            clear c52
            by_cases c53 : 0 ≤ x88_3
            ·
             rw [if_pos c53] at H
             have c53b0 : decide (0 ≤ x88_3) = true := decide_eq_true c53
             clear c53
             by_cases c54 : x88_3 < (x4_1.length : Int)
             ·
              rw [if_pos c54] at H
              have c54b0 : decide (x88_3 < (x4_1.length : Int)) = true := decide_eq_true c54
              (try simp only [hl10_2] at c54b0)
              clear c54
              by_cases c55 : ((rd_T173 x4_1 x88_3).f0) ≤ x83_2
              ·
               rw [if_pos c55] at H
               have c55b0 : decide (((rd_T173 x4_1 x88_3).f0) ≤ x83_2) = true := decide_eq_true c55
               clear c55
               have H' := Aside0.mk H
               clear H
               have p119 : 0 ≤ (x88_3 : Int) := of_decide_eq_true (by first | (with_reducible assumption) | assumption)
               have q119 : x88_3 < (x4_1.length : Int) := of_decide_eq_true (by first | (with_reducible assumption) | assumption)
               obtain ⟨ad119, e119, hx119_0, hx119_1, hx119_2⟩ := at_T173 (Kd.R_reads' HO_86.out).2.2 x88_3 p119 q119
               cases e119
               replace p119 := eq_true p119
               replace q119 := eq_true q119
               go_wp2_with (first | ((with_reducible refine gate_dst (N := 14) rfl ?_); refine box_event ?hg (N := 14) ?hd (cs := #[.int .i64 0, .int .i64 0, .int .i64 0]) (t := 173) ?hr ?_; (case hd => rfl); (case hg => rfl); (case hr => first | (go_simp; done) | (go_simp; rfl)); intro gb120 hg w56 hbox hb; have n0_ := aK (Kd.R_below (Kd.R_elderB (pR HO_4.out) gb120 (Nat.le_of_eq hg.symm)) hb); have n1_ := aK (Kd.R_below (pR HO_10.out) hb); have n2_ := aK (Kd.R_below (Kd.R_elderB (pR HO_86.out) gb120 (Nat.le_of_eq hg.symm)) hb); have BK120 := aK (hbox); have GW120 := aK (gE hg (pS HB.out)); have GE120 := aK (gE hg (pS HB.out)); have NB101_120 := aK (nL hg (pB BK101.out)); have NB120_101 := aK (nG hg (pB BK101.out)); replace BK101 := bB BK101 hb; replace HB := bS HB hb; clear HO_4 HO_10 HO_86; have HO_4 := n0_; have HO_10 := n1_; have HO_86 := n2_; clear n0_ n1_ n2_ hb hbox hg; have hnb57 := NB120_101.out; have hnc57 := NB101_120.out; have hcz58_0 : w56.cell? ⟨gb120, 0, none⟩ = some (.int .i64 0) := (blk_cell BK120.out 0).trans rfl; have hcz58_1 : w56.cell? ⟨gb120, 1, none⟩ = some (.int .i64 0) := (blk_cell BK120.out 1).trans rfl; have hcz58_2 : w56.cell? ⟨gb120, 2, none⟩ = some (.int .i64 0) := (blk_cell BK120.out 2).trans rfl; have hfz58_0 := blk_frozen BK120.out 0; have hfz58_1 := blk_frozen BK120.out 1; have hfz58_2 := blk_frozen BK120.out 2))
               go_roundg k3
               case measure => have := HK1.out; have := HK2.out; have := HK3.out; omega
               case rel => exact ⟨(x88_3), (wrap64 (x88_3 + 1)), (by first | rfl | (simp; done) | (simp [*]; done)), (by first | rfl | (simp; done) | (simp [*]; done)), H', ⟨by have := HK1.out; have := HK2.out; have := HK3.out; omega⟩, ⟨by (try simp only [hl10_2]); (with_reducible repeat (first | apply Kd.R_alloc | apply Kd.R_drewN | apply Kd.R_drew)); exact Kd.R_mono (Kd.R_far (p := ⟨gb120, 2, none⟩) (Kd.R_far (p := ⟨gb120, 1, none⟩) (Kd.R_far (p := ⟨gb120, 0, none⟩) (Kd.R_mono HO_4.out (fun k_ hk => (⟨hk, hk.2⟩ : _ ∧ k_ ≠ gb120))) (fun _ hk => hk.2) (.int .i64 ((rd_T173 x4_1 x88_3).f0))) (fun _ hk => hk.2) (.int .i64 ((rd_T173 x4_1 x88_3).f1))) (fun _ hk => hk.2) (.int .i64 ((rd_T173 x4_1 x88_3).f2))) (fun _ hk => trivial)⟩, ⟨by (try simp only [hl10_2]); (with_reducible repeat (first | apply Kd.R_alloc | apply Kd.R_drewN | apply Kd.R_drew)); exact Kd.R_mono (Kd.R_far (p := ⟨gb120, 2, none⟩) (Kd.R_far (p := ⟨gb120, 1, none⟩) (Kd.R_far (p := ⟨gb120, 0, none⟩) (Kd.R_types HO_10.out BK120.out (by decide)) (fun _ hk => hk.2) (.int .i64 ((rd_T173 x4_1 x88_3).f0))) (fun _ hk => hk.2) (.int .i64 ((rd_T173 x4_1 x88_3).f1))) (fun _ hk => hk.2) (.int .i64 ((rd_T173 x4_1 x88_3).f2))) (fun _ hk => trivial)⟩, ⟨by (try simp only [hl10_2]); (with_reducible repeat (first | apply Kd.R_alloc | apply Kd.R_drewN | apply Kd.R_drew)); exact Kd.R_mono (Kd.R_far (p := ⟨gb120, 2, none⟩) (Kd.R_far (p := ⟨gb120, 1, none⟩) (Kd.R_far (p := ⟨gb120, 0, none⟩) (Kd.R_mono HO_86.out (fun k_ hk => (⟨hk, hk.2⟩ : _ ∧ k_ ≠ gb120))) (fun _ hk => hk.2) (.int .i64 ((rd_T173 x4_1 x88_3).f0))) (fun _ hk => hk.2) (.int .i64 ((rd_T173 x4_1 x88_3).f1))) (fun _ hk => hk.2) (.int .i64 ((rd_T173 x4_1 x88_3).f2))) (fun _ hk => trivial)⟩, ⟨by (try simp only [hl10_2]); (with_reducible repeat (first | refine blk_drewN ?_ _ | refine blk_drew ?_ | refine blk_alloc ?_ _)); refine blk_far ?_ NB101_120.out _; (with_reducible repeat (first | refine blk_drewN ?_ _ | refine blk_drew ?_ | refine blk_alloc ?_ _)); refine blk_far ?_ NB101_120.out _; (with_reducible repeat (first | refine blk_drewN ?_ _ | refine blk_drew ?_ | refine blk_alloc ?_ _)); refine blk_far ?_ NB101_120.out _; (with_reducible repeat (first | refine blk_drewN ?_ _ | refine blk_drew ?_ | refine blk_alloc ?_ _)); exact BK101.out⟩, ⟨by repeat (first | (with_reducible first | exact HB.out | apply below_alloc | apply pw_below_drewN | apply below_drew1 | refine below_set ?_ GE101.out | refine below_set ?_ GE120.out) | exact HB.out)⟩⟩
              ·
               rw [if_neg c55] at H
               have c55b0 : decide (((rd_T173 x4_1 x88_3).f0) ≤ x83_2) = false := decide_eq_false c55
               clear c55
               have H' := Aside0.mk H
               clear H
               have p119 : 0 ≤ (x88_3 : Int) := of_decide_eq_true (by first | (with_reducible assumption) | assumption)
               have q119 : x88_3 < (x4_1.length : Int) := of_decide_eq_true (by first | (with_reducible assumption) | assumption)
               obtain ⟨ad119, e119, hx119_0, hx119_1, hx119_2⟩ := at_T173 (Kd.R_reads' HO_86.out).2.2 x88_3 p119 q119
               cases e119
               replace p119 := eq_true p119
               replace q119 := eq_true q119
               go_wp2_with (first | ((with_reducible refine gate_dst (N := 14) rfl ?_); refine box_event ?hg (N := 14) ?hd (cs := #[.int .i64 0, .int .i64 0, .int .i64 0]) (t := 173) ?hr ?_; (case hd => rfl); (case hg => rfl); (case hr => first | (go_simp; done) | (go_simp; rfl)); intro gb120 hg w59 hbox hb; have n0_ := aK (Kd.R_below (Kd.R_elderB (pR HO_4.out) gb120 (Nat.le_of_eq hg.symm)) hb); have n1_ := aK (Kd.R_below (pR HO_10.out) hb); have n2_ := aK (Kd.R_below (Kd.R_elderB (pR HO_86.out) gb120 (Nat.le_of_eq hg.symm)) hb); have BK120 := aK (hbox); have GW120 := aK (gE hg (pS HB.out)); have GE120 := aK (gE hg (pS HB.out)); have NB101_120 := aK (nL hg (pB BK101.out)); have NB120_101 := aK (nG hg (pB BK101.out)); replace BK101 := bB BK101 hb; replace HB := bS HB hb; clear HO_4 HO_10 HO_86; have HO_4 := n0_; have HO_10 := n1_; have HO_86 := n2_; clear n0_ n1_ n2_ hb hbox hg; have hnb60 := NB120_101.out; have hnc60 := NB101_120.out; have hcz61_0 : w59.cell? ⟨gb120, 0, none⟩ = some (.int .i64 0) := (blk_cell BK120.out 0).trans rfl; have hcz61_1 : w59.cell? ⟨gb120, 1, none⟩ = some (.int .i64 0) := (blk_cell BK120.out 1).trans rfl; have hcz61_2 : w59.cell? ⟨gb120, 2, none⟩ = some (.int .i64 0) := (blk_cell BK120.out 2).trans rfl; have hfz61_0 := blk_frozen BK120.out 0; have hfz61_1 := blk_frozen BK120.out 1; have hfz61_2 := blk_frozen BK120.out 2))
               go_roundg k3
               case measure => have := HK1.out; have := HK2.out; have := HK3.out; omega
               case rel => exact ⟨(x12_3), (wrap64 (x88_3 + 1)), (by first | rfl | (simp; done) | (simp [*]; done)), (by first | rfl | (simp; done) | (simp [*]; done)), H', ⟨by have := HK1.out; have := HK2.out; have := HK3.out; omega⟩, ⟨by (try simp only [hl10_2]); (with_reducible repeat (first | apply Kd.R_alloc | apply Kd.R_drewN | apply Kd.R_drew)); exact Kd.R_mono (Kd.R_far (p := ⟨gb120, 2, none⟩) (Kd.R_far (p := ⟨gb120, 1, none⟩) (Kd.R_far (p := ⟨gb120, 0, none⟩) (Kd.R_mono HO_4.out (fun k_ hk => (⟨hk, hk.2⟩ : _ ∧ k_ ≠ gb120))) (fun _ hk => hk.2) (.int .i64 ((rd_T173 x4_1 x88_3).f0))) (fun _ hk => hk.2) (.int .i64 ((rd_T173 x4_1 x88_3).f1))) (fun _ hk => hk.2) (.int .i64 ((rd_T173 x4_1 x88_3).f2))) (fun _ hk => trivial)⟩, ⟨by (try simp only [hl10_2]); (with_reducible repeat (first | apply Kd.R_alloc | apply Kd.R_drewN | apply Kd.R_drew)); exact Kd.R_mono (Kd.R_far (p := ⟨gb120, 2, none⟩) (Kd.R_far (p := ⟨gb120, 1, none⟩) (Kd.R_far (p := ⟨gb120, 0, none⟩) (Kd.R_types HO_10.out BK120.out (by decide)) (fun _ hk => hk.2) (.int .i64 ((rd_T173 x4_1 x88_3).f0))) (fun _ hk => hk.2) (.int .i64 ((rd_T173 x4_1 x88_3).f1))) (fun _ hk => hk.2) (.int .i64 ((rd_T173 x4_1 x88_3).f2))) (fun _ hk => trivial)⟩, ⟨by (try simp only [hl10_2]); (with_reducible repeat (first | apply Kd.R_alloc | apply Kd.R_drewN | apply Kd.R_drew)); exact Kd.R_mono (Kd.R_far (p := ⟨gb120, 2, none⟩) (Kd.R_far (p := ⟨gb120, 1, none⟩) (Kd.R_far (p := ⟨gb120, 0, none⟩) (Kd.R_mono HO_86.out (fun k_ hk => (⟨hk, hk.2⟩ : _ ∧ k_ ≠ gb120))) (fun _ hk => hk.2) (.int .i64 ((rd_T173 x4_1 x88_3).f0))) (fun _ hk => hk.2) (.int .i64 ((rd_T173 x4_1 x88_3).f1))) (fun _ hk => hk.2) (.int .i64 ((rd_T173 x4_1 x88_3).f2))) (fun _ hk => trivial)⟩, ⟨by (try simp only [hl10_2]); (with_reducible repeat (first | refine blk_drewN ?_ _ | refine blk_drew ?_ | refine blk_alloc ?_ _)); refine blk_far ?_ NB101_120.out _; (with_reducible repeat (first | refine blk_drewN ?_ _ | refine blk_drew ?_ | refine blk_alloc ?_ _)); refine blk_far ?_ NB101_120.out _; (with_reducible repeat (first | refine blk_drewN ?_ _ | refine blk_drew ?_ | refine blk_alloc ?_ _)); refine blk_far ?_ NB101_120.out _; (with_reducible repeat (first | refine blk_drewN ?_ _ | refine blk_drew ?_ | refine blk_alloc ?_ _)); exact BK101.out⟩, ⟨by repeat (first | (with_reducible first | exact HB.out | apply below_alloc | apply pw_below_drewN | apply below_drew1 | refine below_set ?_ GE101.out | refine below_set ?_ GE120.out) | exact HB.out)⟩⟩
             ·
              rw [if_neg c54] at H
              exact absurd H (by simp)
            ·
             rw [if_neg c53] at H
             exact absurd H (by simp)
           ·
            rw [if_neg c52] at H
            have c52b0 : decide (x88_3 < (x4_1.length : Int)) = false := decide_eq_false c52
            (try simp only [hl10_2] at c52b0)
            clear c52
            by_cases c62 : 0 ≤ x12_3
            ·
             rw [if_pos c62] at H
             have c62b0 : decide (0 ≤ x12_3) = true := decide_eq_true c62
             clear c62
             by_cases c63 : x12_3 < (x4_1.length : Int)
             ·
              rw [if_pos c63] at H
              have c63b0 : decide (x12_3 < (x4_1.length : Int)) = true := decide_eq_true c63
              (try simp only [hl10_2] at c63b0)
              clear c63
              replace H := Option.bind_eq_some_iff.mp H
              obtain ⟨⟨t123, t124⟩, A640, H⟩ := H
              replace H : (if 0 ≤ x83_2 then (if x83_2 < (x10_2.length : Int) then (impl_calibrationOf.l2 k3 x4_1 (x10_2.set (x83_2 : Int).toNat (⟨t123, t124⟩ : S55)) (y116.length : Int) (wrap64 (x83_2 + 1))) else (none)) else (none)) = some (r1, r2) := H
              have A64 := Aside0.mk A640
              clear A640
              by_cases c65 : 0 ≤ x83_2
              ·
               rw [if_pos c65] at H
               have c65b0 : decide (0 ≤ x83_2) = true := decide_eq_true c65
               clear c65
               by_cases c66 : x83_2 < (x10_2.length : Int)
               ·
                rw [if_pos c66] at H
                have c66b0 : decide (x83_2 < (x10_2.length : Int)) = true := decide_eq_true c66
                (try simp only [hl10_2] at c66b0)
                clear c66
                obtain ⟨y125, hy125⟩ : ∃ y_ : List (S55), y_ = (x10_2.set (x83_2 : Int).toNat (⟨t123, t124⟩ : S55)) := ⟨_, rfl⟩
                replace H : (impl_calibrationOf.l2 k3 x4_1 y125 (y116.length : Int) (wrap64 (x83_2 + 1))) = some (r1, r2) := by first | (rw [hy125]; with_reducible exact H) | (have H2_ := (Option.bind_some _ _).symm.trans H; rw [hy125]; with_reducible exact H2_) | (have H2_ := (Option.bind_some _ _).symm.trans H; with_reducible exact H2_) | with_reducible exact H | (rw [hy125]; exact H) | exact H
                have Ny125 := Aside0.mk hy125
                clear hy125
                have H' := Aside0.mk H
                clear H
                try go_wp2
                have n0_ := aK (Kd.R_drew HO_4.out)
                have n1_ := aK (Kd.R_drew HO_10.out)
                have n2_ := aK (Kd.R_drew HO_86.out)
                have n3_ := aK (blk_drew BK101.out)
                have n4_ := aK (below_drew1 HB.out)
                clear HO_4 HO_10 HO_86 BK101 HB
                have HO_4 := n0_
                have HO_10 := n1_
                have HO_86 := n2_
                have BK101 := n3_
                have HB := n4_
                clear n0_ n1_ n2_ n3_ n4_
                have p121 : 0 ≤ (x12_3 : Int) := of_decide_eq_true (by first | (with_reducible assumption) | assumption)
                have q121 : x12_3 < (x4_1.length : Int) := of_decide_eq_true (by first | (with_reducible assumption) | assumption)
                obtain ⟨ad121, e121, hx121_0, hx121_1, hx121_2⟩ := at_T173 (Kd.R_reads' HO_4.out).2.2 x12_3 p121 q121
                cases e121
                replace p121 := eq_true p121
                replace q121 := eq_true q121
                have p122 : 0 ≤ (x12_3 : Int) := of_decide_eq_true (by first | (with_reducible assumption) | assumption)
                have q122 : x12_3 < (x4_1.length : Int) := of_decide_eq_true (by first | (with_reducible assumption) | assumption)
                obtain ⟨ad122, e122, hx122_0, hx122_1, hx122_2⟩ := at_T173 (Kd.R_reads' HO_4.out).2.2 x12_3 p122 q122
                obtain rfl : ad121 = ad122 := (by injection e122)
                replace p122 := eq_true p122
                replace q122 := eq_true q122
                refine start_ (n := 15) (S := fun w' => w'.cell? (ad121.add ((x12_3).toNat * 3)) = some (.int .i64 ((rd_T173 x4_1 x12_3).f0)) ∧ w'.cell? ⟨(ad121.add ((x12_3).toNat * 3)).block, (ad121.add ((x12_3).toNat * 3)).off + 1, none⟩ = some (.int .i64 ((rd_T173 x4_1 x12_3).f1)) ∧ w'.cell? ⟨(ad121.add ((x12_3).toNat * 3)).block, (ad121.add ((x12_3).toNat * 3)).off + 2, none⟩ = some (.int .i64 ((rd_T173 x4_1 x12_3).f2)) ∧ w'.cell? (ad121.add ((x12_3).toNat * 3)) = some (.int .i64 ((rd_T173 x4_1 x12_3).f0)) ∧ w'.cell? ⟨(ad121.add ((x12_3).toNat * 3)).block, (ad121.add ((x12_3).toNat * 3)).off + 1, none⟩ = some (.int .i64 ((rd_T173 x4_1 x12_3).f1)) ∧ w'.cell? ⟨(ad121.add ((x12_3).toNat * 3)).block, (ad121.add ((x12_3).toNat * 3)).off + 2, none⟩ = some (.int .i64 ((rd_T173 x4_1 x12_3).f2))) (ds := [14]) #[false, false, false, false, false, false, false, false, false, false, false, false, false, false, false] (by kernel_rfl) rfl rfl ⟨hx121_0, hx121_1, hx121_2, hx122_0, hx122_1, hx122_2⟩ (fun hHeld => ?_); refine with_tabW impl_calibrationOf.tab29 impl_calibrationOf.bits29 (fun HT_ HW_ => ?_)
                generalize wr.drew = w68 at HO_4 HO_10 HO_86 BK101 HB hx121_0 hx121_1 hx121_2 hx122_0 hx122_1 hx122_2 hHeld ⊢
                refine pure_ (i := 0) (N := some 99) (v := ?_) (a' := ?_) #[true, false, false, false, false, false, false, false, false, false, false, false, false, false, false] rfl rfl (any_of HT_.out (by kernel_rfl)) (fun _ _ _ h => h) (Or.inl ⟨by rfl, ?_⟩) ?_ ?_
                rotate_left
                ·
                 intro w'
                 go_simp
                 with_reducible rfl
                rotate_left
                ·
                 simp only [Act.put, List.setIfInBounds_toArray, List.set_cons_zero, List.set_cons_succ, i64_w, i32_w]
                 rfl
                refine pure_ (i := 1) (N := some 100) (v := ?_) (a' := ?_) #[true, true, false, false, false, false, false, false, false, false, false, false, false, false, false] rfl rfl (any_of HT_.out (by kernel_rfl)) (fun _ _ _ h => h) (Or.inl ⟨by rfl, ?_⟩) ?_ ?_
                rotate_left
                ·
                 intro w'
                 go_simp
                 with_reducible rfl
                rotate_left
                ·
                 simp only [Act.put, List.setIfInBounds_toArray, List.set_cons_zero, List.set_cons_succ, i64_w, i32_w]
                 rfl
                refine pure_ (i := 2) (N := some 101) (v := ?_) (a' := ?_) #[true, true, true, false, false, false, false, false, false, false, false, false, false, false, false] rfl rfl (any_of HT_.out (by kernel_rfl)) (fun _ _ _ h => h) (Or.inl ⟨by rfl, ?_⟩) ?_ ?_
                rotate_left
                ·
                 intro w'
                 go_simp
                 with_reducible rfl
                rotate_left
                ·
                 simp only [Act.put, List.setIfInBounds_toArray, List.set_cons_zero, List.set_cons_succ, i64_w, i32_w]
                 rfl
                refine pure_ (i := 3) (N := some 102) (v := ?_) (a' := ?_) #[true, true, true, true, false, false, false, false, false, false, false, false, false, false, false] rfl rfl (any_of HT_.out (by kernel_rfl)) (fun _ _ _ h => h) (Or.inl ⟨by rfl, ?_⟩) ?_ ?_
                rotate_left
                ·
                 intro w'
                 go_simp
                 with_reducible rfl
                rotate_left
                ·
                 simp only [Act.put, List.setIfInBounds_toArray, List.set_cons_zero, List.set_cons_succ, i64_w, i32_w]
                 rfl
                refine pure_ (i := 4) (N := some 103) (v := ?_) (a' := ?_) #[true, true, true, true, true, false, false, false, false, false, false, false, false, false, false] rfl rfl (any_of HT_.out (by kernel_rfl)) (fun _ _ _ h => h) (Or.inl ⟨by rfl, ?_⟩) ?_ ?_
                rotate_left
                ·
                 intro w'
                 go_simp
                 with_reducible rfl
                rotate_left
                ·
                 simp only [Act.put, List.setIfInBounds_toArray, List.set_cons_zero, List.set_cons_succ, i64_w, i32_w]
                 rfl
                refine pure_ (i := 5) (N := some 104) (v := ?_) (a' := ?_) #[true, true, true, true, true, true, false, false, false, false, false, false, false, false, false] rfl rfl (any_of HT_.out (by kernel_rfl)) (fun _ _ _ h => h) (Or.inl ⟨by rfl, ?_⟩) ?_ ?_
                rotate_left
                ·
                 intro w'
                 go_simp
                 with_reducible rfl
                rotate_left
                ·
                 simp only [Act.put, List.setIfInBounds_toArray, List.set_cons_zero, List.set_cons_succ, i64_w, i32_w]
                 rfl
                refine pure_ (i := 7) (N := some 106) (v := ?_) (a' := ?_) #[true, true, true, true, true, true, false, true, false, false, false, false, false, false, false] rfl rfl (any_of HT_.out (by kernel_rfl)) (fun _ _ _ h => h) (Or.inl ⟨by rfl, ?_⟩) ?_ ?_
                rotate_left
                ·
                 intro w'
                 go_simp
                 with_reducible rfl
                rotate_left
                ·
                 simp only [Act.put, List.setIfInBounds_toArray, List.set_cons_zero, List.set_cons_succ, i64_w, i32_w]
                 rfl
                refine pure_ (i := 8) (N := some 107) (v := ?_) (a' := ?_) #[true, true, true, true, true, true, false, true, true, false, false, false, false, false, false] rfl rfl (any_of HT_.out (by kernel_rfl)) (fun _ _ _ h => h) (Or.inl ⟨by rfl, ?_⟩) ?_ ?_
                rotate_left
                ·
                 intro w'
                 go_simp
                 with_reducible rfl
                rotate_left
                ·
                 simp only [Act.put, List.setIfInBounds_toArray, List.set_cons_zero, List.set_cons_succ, i64_w, i32_w]
                 rfl
                refine pure_ (i := 9) (N := some 108) (v := ?_) (a' := ?_) #[true, true, true, true, true, true, false, true, true, true, false, false, false, false, false] rfl rfl (any_of HT_.out (by kernel_rfl)) (fun _ _ _ h => h) (Or.inl ⟨by rfl, ?_⟩) ?_ ?_
                rotate_left
                ·
                 intro w'
                 go_simp
                 with_reducible rfl
                rotate_left
                ·
                 simp only [Act.put, List.setIfInBounds_toArray, List.set_cons_zero, List.set_cons_succ, i64_w, i32_w]
                 rfl
                refine pure_ (i := 10) (N := some 109) (v := ?_) (a' := ?_) #[true, true, true, true, true, true, false, true, true, true, true, false, false, false, false] rfl rfl (any_of HT_.out (by kernel_rfl)) (fun _ _ _ h => h) (Or.inl ⟨by rfl, ?_⟩) ?_ ?_
                rotate_left
                ·
                 intro w'
                 go_simp
                 with_reducible rfl
                rotate_left
                ·
                 simp only [Act.put, List.setIfInBounds_toArray, List.set_cons_zero, List.set_cons_succ, i64_w, i32_w]
                 rfl
                refine take_ (i := 6) (N := some 105) (v := ?_) (a' := ?_) #[true, true, true, true, true, true, true, true, true, true, true, false, false, false, false] rfl rfl (take_ofW HT_.out HW_.out (by kernel_rfl)) (fun _ _ _ h => h) (Or.inl ⟨by rfl, ?_⟩) hHeld ?_ ?_
                rotate_left
                ·
                 rintro w' ⟨s0, s1, s2, s3, s4, s5⟩
                 go_simp
                 with_reducible rfl
                rotate_left
                ·
                 simp only [Act.put, List.setIfInBounds_toArray, List.set_cons_zero, List.set_cons_succ, i64_w, i32_w]
                 rfl
                refine take_ (i := 11) (N := some 110) (v := ?_) (a' := ?_) #[true, true, true, true, true, true, true, true, true, true, true, true, false, false, false] rfl rfl (take_ofW HT_.out HW_.out (by kernel_rfl)) (fun _ _ _ h => h) (Or.inl ⟨by rfl, ?_⟩) hHeld ?_ ?_
                rotate_left
                ·
                 rintro w' ⟨s0, s1, s2, s3, s4, s5⟩
                 go_simp
                 with_reducible rfl
                rotate_left
                ·
                 simp only [Act.put, List.setIfInBounds_toArray, List.set_cons_zero, List.set_cons_succ, i64_w, i32_w]
                 rfl
                refine one_ (i := 12) (N := some 111) #[true, true, true, true, true, true, true, true, true, true, true, true, true, false, false] rfl rfl (one_of HT_.out (by kernel_rfl)) (by decide) (fun K hK => ?_)
                refine goes_ Try.func159 (by kernel_rfl) rfl #[.int .i64 ((rd_T173 x4_1 x12_3).f2), .int .i64 ((rd_T173 x4_1 x12_3).f1)] (by rfl) rfl rfl (by (try simp only [List.map_toArray, List.map_cons, List.map_nil]); first | done | rfl | (simp only [List.length_drop, List.length_take]; rfl)) ?_
                with_reducible refine (impl_shareOf.calls k3 ((rd_T173 x4_1 x12_3).f2) ((rd_T173 x4_1 x12_3).f1) t123 t124 _ A64.out).mono ?_
                rintro e w69 ⟨rfl, hb⟩
                have HS0_ := (hb.cell (World.block_lt_of_cell? _ _ (hHeld.1))).trans (hHeld.1)
                have HS1_ := (hb.cell (World.block_lt_of_cell? _ _ (hHeld.2.1))).trans (hHeld.2.1)
                have HS2_ := (hb.cell (World.block_lt_of_cell? _ _ (hHeld.2.2.1))).trans (hHeld.2.2.1)
                have HS3_ := (hb.cell (World.block_lt_of_cell? _ _ (hHeld.2.2.2.1))).trans (hHeld.2.2.2.1)
                have HS4_ := (hb.cell (World.block_lt_of_cell? _ _ (hHeld.2.2.2.2.1))).trans (hHeld.2.2.2.2.1)
                have HS5_ := (hb.cell (World.block_lt_of_cell? _ _ (hHeld.2.2.2.2.2))).trans (hHeld.2.2.2.2.2)
                refine ⟨_, rfl, ?_⟩
                have n0_ := aK (Kd.R_below (pR HO_4.out) hb)
                have n1_ := aK (Kd.R_below (pR HO_10.out) hb)
                have n2_ := aK (Kd.R_below (pR HO_86.out) hb)
                replace BK101 := bB BK101 hb
                replace HB := bS HB hb
                clear HO_4 HO_10 HO_86
                have HO_4 := n0_
                have HO_10 := n1_
                have HO_86 := n2_
                clear n0_ n1_ n2_
                (try clear hb)
                (try clear hb2)
                (try clear hk)
                (try clear hi)
                have p67 : 0 ≤ (x83_2 : Int) := of_decide_eq_true (by first | (with_reducible assumption) | assumption)
                have q67 : (x83_2 : Int) < ((x10_2.length : Int) : Int) := of_decide_eq_true (by first | (with_reducible assumption) | assumption)
                obtain ⟨go67, co67, eo67, gb67, gl67, cl67, HG67⟩ := Kd.R_form HO_10.out (by omega)
                (first | cases eo67 | (injection eo67 with ea_ en_ ec_; (first | subst ea_ | (injection ea_ with ea_; subst ea_)); subst ec_; clear en_))
                have GB67 := Aside0.mk gb67
                have GG67 := Aside0.mk HG67
                clear gb67 gl67 HG67
                obtain ⟨ce67, hcl67, hM67, hcc67, hfr67⟩ := Kd.R_elem HO_10.out z55 (x83_2 : Int) p67 q67
                obtain rfl := k55_openM hM67
                have hx67_0 : World.cell? _ ⟨go67, (x83_2 : Int).toNat * 2, none⟩ = some (.int .i64 ((rd_T55 x10_2 x83_2).f0)) := hcc67 0 _ rfl
                have hx67_1 : World.cell? _ ⟨go67, (x83_2 : Int).toNat * 2 + 1, none⟩ = some (.int .i64 ((rd_T55 x10_2 x83_2).f1)) := hcc67 1 _ rfl
                have hf67_0 : World.frozen? _ ⟨go67, (x83_2 : Int).toNat * 2, none⟩ = false := hfr67 0
                have hf67_1 : World.frozen? _ ⟨go67, (x83_2 : Int).toNat * 2 + 1, none⟩ = false := hfr67 1
                clear hcl67 hcc67 hfr67 hM67
                replace p67 := eq_true p67
                replace q67 := eq_true q67
                obtain ⟨ce70, hcl70, hM70, hcc70, hfr70⟩ := Kd.R_elem HO_10.out z55 (x83_2 : Int) (of_decide_eq_true (by first | (with_reducible assumption) | assumption)) (by have h_ : (x83_2 : Int) < ((x10_2.length : Int) : Int) := of_decide_eq_true (by first | (with_reducible assumption) | assumption); first | exact h_ | (have e_ := (Kd.R_reads' HO_10.out).1; omega) | simpa using h_)
                obtain rfl := k55_openM hM70
                have HP70 := (Kd.R_seg HO_10.out (x83_2 : Int) (of_decide_eq_true (by first | (with_reducible assumption) | assumption)) (by have h_ : (x83_2 : Int) < ((x10_2.length : Int) : Int) := of_decide_eq_true (by first | (with_reducible assumption) | assumption); first | exact h_ | (have e_ := (Kd.R_reads' HO_10.out).1; omega) | simpa using h_) (seg := [.int .i64 t123, .int .i64 t124]) (j := 0) hcl70 hcc70 (show 2 ≤ 2 from by decide) (x' := (⟨t123, t124⟩ : S55)) (k55_mkM _ _ _ (⟨t123, t124⟩ : S55) ) (fun _ hk => hk)).1
                rw [← Ny125.out] at HP70
                have HQ70 := Aside0.mk HP70
                clear hcl70 hcc70 hfr70 hM70 HP70
                refine hK.out _ _ ⟨HS0_, HS1_, HS2_, HS3_, HS4_, HS5_⟩ (fun hHeld => ?_)
                clear hK K
                refine norm_ (a' := ?_) ?_ ?_
                rotate_left
                ·
                 show Act.put _ (some 111) _ = _
                 simp only [Act.put, List.setIfInBounds_toArray, List.set_cons_zero, List.set_cons_succ, i64_w, i32_w]
                 rfl
                refine pure_ (i := 13) (N := some 112) (v := ?_) (a' := ?_) #[true, true, true, true, true, true, true, true, true, true, true, true, true, true, false] rfl rfl (any_of HT_.out (by kernel_rfl)) (fun _ _ _ h => h) (Or.inl ⟨by rfl, ?_⟩) ?_ ?_
                rotate_left
                ·
                 intro w'
                 go_simp
                 with_reducible rfl
                rotate_left
                ·
                 simp only [Act.put, List.setIfInBounds_toArray, List.set_cons_zero, List.set_cons_succ, i64_w, i32_w]
                 rfl
                refine last_ (i := 14) (N := none) #[true, true, true, true, true, true, true, true, true, true, true, true, true, true, true] rfl rfl (one_of HT_.out (by kernel_rfl)) (by decide) (fun K hK => ?_)
                refine skip_ (w1 := ?_) (by rfl) rfl ?_ ?_
                rotate_left
                ·
                 go_simp
                 rfl
                refine hK.out _ _ ?_
                clear hK K
                refine done_ (done_of HT_.out (by kernel_rfl)) ?_
                try go_wp2
                (try simp only [← hl10_2])
                go_roundg k3
                case measure => have := HK1.out; have := HK2.out; have := HK3.out; omega
                case rel => exact ⟨(y125), (wrap64 (x83_2 + 1)), (by first | rfl | (simp; done) | (simp [*]; done)), H', ⟨by have := HK1.out; have := HK2.out; have := HK3.out; omega⟩, ⟨by (try simp only [hl10_2]); (with_reducible repeat (first | apply Kd.R_alloc | apply Kd.R_drewN | apply Kd.R_drew)); exact Kd.R_mono (Kd.R_far (p := ⟨go67, (x83_2 : Int).toNat * 2 + 1, none⟩) (Kd.R_far (p := ⟨go67, (x83_2 : Int).toNat * 2, none⟩) (Kd.R_types HO_4.out GG67.out (by decide)) (fun _ hk => hk.2) (.int .i64 t123)) (fun _ hk => hk.2) (.int .i64 t124)) (fun _ hk => trivial)⟩, ⟨by (try simp only [hl10_2]); (with_reducible repeat (first | apply Kd.R_alloc | apply Kd.R_drewN | apply Kd.R_drew)); exact HQ70.out⟩, ⟨by (try simp only [hl10_2]); (with_reducible repeat (first | refine blk_drewN ?_ _ | refine blk_drew ?_ | refine blk_alloc ?_ _)); refine blk_far ?_ (by have h_ := Kd.R_ne HO_10.out BK101.out (by decide); intro e_; exact h_ (by rw [e_]; rfl)) _; (with_reducible repeat (first | refine blk_drewN ?_ _ | refine blk_drew ?_ | refine blk_alloc ?_ _)); refine blk_far ?_ (by have h_ := Kd.R_ne HO_10.out BK101.out (by decide); intro e_; exact h_ (by rw [e_]; rfl)) _; (with_reducible repeat (first | refine blk_drewN ?_ _ | refine blk_drew ?_ | refine blk_alloc ?_ _)); exact BK101.out⟩, ⟨by repeat (first | (with_reducible first | exact HB.out | apply below_alloc | apply pw_below_drewN | apply below_drew1 | refine below_set ?_ GB67.out | refine below_set ?_ GB67.out | refine below_set ?_ GE101.out) | exact HB.out)⟩⟩
               ·
                rw [if_neg c66] at H
                exact absurd H (by simp)
              ·
               rw [if_neg c65] at H
               exact absurd H (by simp)
             ·
              rw [if_neg c63] at H
              exact absurd H (by simp)
            ·
             rw [if_neg c62] at H
             exact absurd H (by simp)
        ·
         rw [if_neg c51] at H
         have c51b0 : decide (x83_2 < (y116.length : Int)) = false := decide_eq_false c51
         (try simp only [hl10_2] at c51b0)
         clear c51
         simp only [Option.some.injEq, Prod.mk.injEq] at H
         obtain ⟨rfl, rfl⟩ := H
         go_wp2
         go_ret2
         exact ⟨_, by first | rfl | (simp [errW_none, errW_some] <;> rfl) | (simp [*, errW_none, errW_some] <;> rfl), by (with_reducible repeat (first | apply Kd.R_alloc | apply Kd.R_drewN | apply Kd.R_drew)); exact HO_10.out, by repeat (first | (with_reducible first | exact HB.out | apply below_alloc | apply pw_below_drewN | apply below_drew1 | refine below_set ?_ GE101.out) | exact HB.out)⟩
     ·
      rw [if_neg c46] at H
      exact absurd H (by simp)

end Go.Proofs.Ythekngnkajjhnaa.P
