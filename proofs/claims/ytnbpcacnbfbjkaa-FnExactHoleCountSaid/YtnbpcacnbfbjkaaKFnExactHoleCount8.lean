/- Texts of the claim FnExactHoleCount, merged: part 8 of 10: the program's and the reference's functions as Lean functions, the walks that show it, and plain lemmas; no conditions. -/
import Derived.Test.YtnbpcacnbfbjkaaKFnExactHoleCount3
import Derived.Test.YtnbpcacnbfbjkaaKFnExactHoleCount6
import Derived.Shelf.Spec.SlicesGrow
import Derived.Ground.Names8Prog
import Derived.Test.YtnbpcacnbfbjkaaProg
import Derived.Test.YtnbpcacnbfbjkaaKFnExactHoleCount5
import Derived.StillTailTactics
import Derived.Test.YtnbpcacnbfbjkaaKFnExactHoleCount7
open Go.RowKit Go.Proofs.YtnbpcacnbfbjkaaW.PrintWords Go.Proofs.YtnbpcacnbfbjkaaW.PrintLast Go.Proofs.YtnbpcacnbfbjkaaW.PrintMore
set_option linter.unusedVariables false
set_option linter.unusedSimpArgs false
set_option maxHeartbeats 8000000
set_option maxRecDepth 100000
namespace Go.Proofs.Ytnbpcacnbfbjkaa.P
attribute [local go_sem] max2_int min2_int max_two min_two max_three min_three max_four min_four
attribute [local go_sem high] eqA48
def impl_sideBehind.l0 : Nat → List (S54) → Int → Int → List (S54) → Int → Int → Option (Int)
 | 0, _, _, _, _, _, _ => none
 | k + 1, x0, x1, x5, x8, x9, x10 => if x10 < x9 then (if 0 ≤ x10 then (if x10 < (x8.length : Int) then (if 0 ≤ x1 then (if x1 < (x0.length : Int) then (if (((rd_T54 x8 x10).f1.f0) == ((rd_T54 x0 x1).f2.f0) && (((rd_T54 x8 x10).f1.f1) == ((rd_T54 x0 x1).f2.f1))) = true then (if x5 < 0 then (impl_sideBehind.l0 k x0 x1 x10 x8 x9 (wrap64 (x10 + 1))) else (if ((rd_T54 x8 x10).f0) = ((rd_T54 x0 x1).f0) then (impl_sideBehind.l0 k x0 x1 x10 x8 x9 (wrap64 (x10 + 1))) else (impl_sideBehind.l0 k x0 x1 x5 x8 x9 (wrap64 (x10 + 1))))) else (impl_sideBehind.l0 k x0 x1 x5 x8 x9 (wrap64 (x10 + 1)))) else (none)) else (none)) else (none)) else (none)) else (some x5)
def impl_sideBehind.f (k : Nat) (l0 : List (S54)) (a1 : Int) : Option (Int) := impl_sideBehind.l0 k l0 a1 (-1) l0 (l0.length : Int) 0
theorem impl_sideBehind.cDN {w : World} {a : Addr} {v : Value} (n : Nat) (h : w.cell? a = some v) : (w.drewN n).cell? a = some v := h
theorem impl_sideBehind.calls (k : Nat) (A0 : Option Addr) (c0 : Nat) (l0 : List (S54)) (a1 : Int) (r : Int) (w : World) (hr0 : Kd.C k54 w A0 l0.length l0) (hc0 : l0.length ≤ c0) (h : impl_sideBehind.f k l0 a1 = some r) :
  Calls Try.prog 33 #[.slice A0 l0.length c0, .int .i64 a1] w fun e w' => e = .returned (.int .i64 r) ∧ Below w.heap.size w w' := by
 have hu54 := Try.underlying54
 have hu48 := Try.underlying48
 have HR0 := aK hr0
 have HC0 := aK hc0
 clear hr0 hc0
 have HB := aK (Below.refl w.heap.size w)
 have H : (impl_sideBehind.l0 k l0 a1 (-1) l0 (l0.length : Int) 0) = some r := h
 clear h
 have H' := aK H
 clear H
 go_enter Try.func33, Try.ntmps33
 go_wp2
 repeat (go_quiet (fail); try go_wp2)
 go_loopg [5, 10] k (fun kq v5 v10 w' => ∃ (x5_1 : Int) (x10_1 : Int), v5 = .int .i64 x5_1 ∧ v10 = .int .i64 x10_1 ∧ Aside0 (impl_sideBehind.l0 kq l0 a1 x5_1 l0 (l0.length : Int) x10_1 = some r) ∧ Aside0 (kq ≤ k) ∧ Aside0 (Below w.heap.size w w'))
 case atStart => exact ⟨((-1)), (0), (by first | rfl | (simp; done) | (simp [*]; done)), (by first | rfl | (simp; done) | (simp [*]; done)), H', ⟨Nat.le_refl _⟩, ⟨pT HB.out⟩⟩
 case round =>
 clear H'
 try clear p2
 obtain ⟨x5_1, x10_1, rfl, rfl, HA, HK1, HB⟩ := hrel
 cases gk with
 | zero => exact absurd HA.out (by simp [impl_sideBehind.l0])
 | succ k1 =>
 have H := HA.out
 clear HA
 simp only [impl_sideBehind.l0] at H
 by_cases c3 : x10_1 < (l0.length : Int)
 rotate_left
 ·
  rw [if_neg c3] at H
  have c3b0 : decide (x10_1 < (l0.length : Int)) = false := decide_eq_false c3
  clear c3
  obtain rfl := Option.some.inj H
  go_wp2
  repeat (go_quiet (fail); try go_wp2)
  go_ret
  exact ⟨er, pT HB.out⟩
 rw [if_pos c3] at H
 have c3b0 : decide (x10_1 < (l0.length : Int)) = true := decide_eq_true c3
 clear c3
 by_cases c4 : 0 ≤ x10_1
 rotate_left
 ·
  rw [if_neg c4] at H
  exact absurd H (by simp)
 rw [if_pos c4] at H
 have c4b0 : decide (0 ≤ x10_1) = true := decide_eq_true c4
 clear c4
 by_cases c5 : x10_1 < (l0.length : Int)
 rotate_left
 ·
  rw [if_neg c5] at H
  exact absurd H (by simp)
 rw [if_pos c5] at H
 have c5b0 : decide (x10_1 < (l0.length : Int)) = true := decide_eq_true c5
 clear c5
 by_cases c6 : 0 ≤ a1
 rotate_left
 ·
  rw [if_neg c6] at H
  exact absurd H (by simp)
 rw [if_pos c6] at H
 have c6b0 : decide (0 ≤ a1) = true := decide_eq_true c6
 clear c6
 by_cases c7 : a1 < (l0.length : Int)
 rotate_left
 ·
  rw [if_neg c7] at H
  exact absurd H (by simp)
 rw [if_pos c7] at H
 have c7b0 : decide (a1 < (l0.length : Int)) = true := decide_eq_true c7
 clear c7
 by_cases c8 : (((rd_T54 l0 x10_1).f1.f0) == ((rd_T54 l0 a1).f2.f0) && (((rd_T54 l0 x10_1).f1.f1) == ((rd_T54 l0 a1).f2.f1))) = true
 rotate_left
 ·
  rw [if_neg c8] at H
  have c8b0 : (((rd_T54 l0 x10_1).f1.f0) == ((rd_T54 l0 a1).f2.f0) && (((rd_T54 l0 x10_1).f1.f1) == ((rd_T54 l0 a1).f2.f1))) = false := by simpa using c8
  (try (have c8b1 : decide (((rd_T54 l0 x10_1).f1.f0) = ((rd_T54 l0 a1).f2.f0) && (((rd_T54 l0 x10_1).f1.f1) == ((rd_T54 l0 a1).f2.f1))) = false := by simpa using c8))
  (try (have c8b2 : (((rd_T54 l0 x10_1).f1.f0) == ((rd_T54 l0 a1).f2.f0) && (((rd_T54 l0 x10_1).f1.f1) == ((rd_T54 l0 a1).f2.f1))) = false := by simpa using c8))
  (try (have c8b3 : ¬ (((rd_T54 l0 x10_1).f1.f0) = ((rd_T54 l0 a1).f2.f0) && (((rd_T54 l0 x10_1).f1.f1) == ((rd_T54 l0 a1).f2.f1))) := by simpa using c8))
  clear c8; have H' := aK H; clear H
  have p101 : 0 ≤ (x10_1 : Int) := dA
  have q101 : x10_1 < (l0.length : Int) := dA
  obtain ⟨ad101, e101, hx101_0, hx101_1, hx101_2, hx101_3, hx101_4⟩ := at_T54 HR0.out x10_1 p101 q101; cases e101; replace hx101_0 := (HB.out.cell (World.block_lt_of_cell? w _ hx101_0)).trans hx101_0; replace hx101_1 := (HB.out.cell (World.block_lt_of_cell? w _ hx101_1)).trans hx101_1; replace hx101_2 := (HB.out.cell (World.block_lt_of_cell? w _ hx101_2)).trans hx101_2; replace hx101_3 := (HB.out.cell (World.block_lt_of_cell? w _ hx101_3)).trans hx101_3; replace hx101_4 := (HB.out.cell (World.block_lt_of_cell? w _ hx101_4)).trans hx101_4; replace p101 := eq_true p101; replace q101 := eq_true q101
  go_upto_region 5 with (first | ((with_reducible refine ga 7 rfl ?_); refine bxa #[.int .i64 0, .int .i64 0, .int .i64 0, .int .i64 0, .int .i64 0] 54 ?_; intro g102 hg w13 B102 hb; have GE102 := gA hg HB; replace HB := bS HB hb; clear hb hg; have hcz_0 : w13.cell? ⟨g102, 0, none⟩ = some (.int .i64 0) := (blk_cell B102.out 0).trans rfl; have hfz_0 := blk_frozen B102.out 0; have hcz_1 : w13.cell? ⟨g102, 1, none⟩ = some (.int .i64 0) := (blk_cell B102.out 1).trans rfl; have hfz_1 := blk_frozen B102.out 1; have hcz_2 : w13.cell? ⟨g102, 2, none⟩ = some (.int .i64 0) := (blk_cell B102.out 2).trans rfl; have hfz_2 := blk_frozen B102.out 2; have hcz_3 : w13.cell? ⟨g102, 3, none⟩ = some (.int .i64 0) := (blk_cell B102.out 3).trans rfl; have hfz_3 := blk_frozen B102.out 3; have hcz_4 : w13.cell? ⟨g102, 4, none⟩ = some (.int .i64 0) := (blk_cell B102.out 4).trans rfl; have hfz_4 := blk_frozen B102.out 4))
  clear hcz_0 hcz_1 hcz_2 hcz_3 hcz_4 hfz_0 hfz_1 hfz_2 hfz_3 hfz_4 hx101_0 hx101_1 hx101_2 hx101_3 hx101_4; have BKn := aK (blk_put (cs' := #[.int .i64 ((rd_T54 l0 x10_1).f0), .int .i64 ((rd_T54 l0 x10_1).f1.f0), .int .i64 ((rd_T54 l0 x10_1).f1.f1), .int .i64 ((rd_T54 l0 x10_1).f2.f0), .int .i64 ((rd_T54 l0 x10_1).f2.f1)]) (blk_put (cs' := #[.int .i64 ((rd_T54 l0 x10_1).f0), .int .i64 ((rd_T54 l0 x10_1).f1.f0), .int .i64 ((rd_T54 l0 x10_1).f1.f1), .int .i64 ((rd_T54 l0 x10_1).f2.f0), .int .i64 0]) (blk_put (cs' := #[.int .i64 ((rd_T54 l0 x10_1).f0), .int .i64 ((rd_T54 l0 x10_1).f1.f0), .int .i64 ((rd_T54 l0 x10_1).f1.f1), .int .i64 0, .int .i64 0]) (blk_put (cs' := #[.int .i64 ((rd_T54 l0 x10_1).f0), .int .i64 ((rd_T54 l0 x10_1).f1.f0), .int .i64 0, .int .i64 0, .int .i64 0]) (blk_put (cs' := #[.int .i64 ((rd_T54 l0 x10_1).f0), .int .i64 0, .int .i64 0, .int .i64 0, .int .i64 0]) B102.out 0 (.int .i64 ((rd_T54 l0 x10_1).f0)) rfl) 1 (.int .i64 ((rd_T54 l0 x10_1).f1.f0)) rfl) 2 (.int .i64 ((rd_T54 l0 x10_1).f1.f1)) rfl) 3 (.int .i64 ((rd_T54 l0 x10_1).f2.f0)) rfl) 4 (.int .i64 ((rd_T54 l0 x10_1).f2.f1)) rfl); have HBn := aK (below_set (g := g102) (j := 4) (v := .int .i64 ((rd_T54 l0 x10_1).f2.f1)) (below_set (g := g102) (j := 3) (v := .int .i64 ((rd_T54 l0 x10_1).f2.f0)) (below_set (g := g102) (j := 2) (v := .int .i64 ((rd_T54 l0 x10_1).f1.f1)) (below_set (g := g102) (j := 1) (v := .int .i64 ((rd_T54 l0 x10_1).f1.f0)) (below_set (g := g102) (j := 0) (v := .int .i64 ((rd_T54 l0 x10_1).f0)) HB.out GE102.out) GE102.out) GE102.out) GE102.out) GE102.out); clear HB B102
  generalize (((((w13.setCell ⟨g102, 0, none⟩ (.int .i64 ((rd_T54 l0 x10_1).f0))).setCell ⟨g102, 1, none⟩ (.int .i64 ((rd_T54 l0 x10_1).f1.f0))).setCell ⟨g102, 2, none⟩ (.int .i64 ((rd_T54 l0 x10_1).f1.f1))).setCell ⟨g102, 3, none⟩ (.int .i64 ((rd_T54 l0 x10_1).f2.f0))).setCell ⟨g102, 4, none⟩ (.int .i64 ((rd_T54 l0 x10_1).f2.f1))) = w14 at BKn HBn ⊢
  have hc_0 : w14.cell? ⟨g102, 0, none⟩ = some (.int .i64 ((rd_T54 l0 x10_1).f0)) := (blk_cell BKn.out 0).trans rfl
  have hc_1 : w14.cell? ⟨g102, 1, none⟩ = some (.int .i64 ((rd_T54 l0 x10_1).f1.f0)) := (blk_cell BKn.out 1).trans rfl
  have hc_2 : w14.cell? ⟨g102, 2, none⟩ = some (.int .i64 ((rd_T54 l0 x10_1).f1.f1)) := (blk_cell BKn.out 2).trans rfl
  have hc_3 : w14.cell? ⟨g102, 3, none⟩ = some (.int .i64 ((rd_T54 l0 x10_1).f2.f0)) := (blk_cell BKn.out 3).trans rfl
  have hc_4 : w14.cell? ⟨g102, 4, none⟩ = some (.int .i64 ((rd_T54 l0 x10_1).f2.f1)) := (blk_cell BKn.out 4).trans rfl
  have p103 : 0 ≤ (a1 : Int) := dA
  have q103 : a1 < (l0.length : Int) := dA
  obtain ⟨ad103, e103, hx103_0, hx103_1, hx103_2, hx103_3, hx103_4⟩ := at_T54 HR0.out a1 p103 q103
  obtain rfl : ad101 = ad103 := (by injection e103)
  replace hx103_0 := (HBn.out.cell (World.block_lt_of_cell? w _ hx103_0)).trans hx103_0; replace hx103_1 := (HBn.out.cell (World.block_lt_of_cell? w _ hx103_1)).trans hx103_1; replace hx103_2 := (HBn.out.cell (World.block_lt_of_cell? w _ hx103_2)).trans hx103_2; replace hx103_3 := (HBn.out.cell (World.block_lt_of_cell? w _ hx103_3)).trans hx103_3; replace hx103_4 := (HBn.out.cell (World.block_lt_of_cell? w _ hx103_4)).trans hx103_4; replace p103 := eq_true p103; replace q103 := eq_true q103
  have hd_0 := fun (n_ : Nat) => impl_sideBehind.cDN n_ hc_0
  have hd_1 := fun (n_ : Nat) => impl_sideBehind.cDN n_ hc_1
  have hd_2 := fun (n_ : Nat) => impl_sideBehind.cDN n_ hc_2
  have hd_3 := fun (n_ : Nat) => impl_sideBehind.cDN n_ hc_3
  have hd_4 := fun (n_ : Nat) => impl_sideBehind.cDN n_ hc_4
  have hy_0 := fun (n_ : Nat) => impl_sideBehind.cDN n_ hx103_0
  have hy_1 := fun (n_ : Nat) => impl_sideBehind.cDN n_ hx103_1
  have hy_2 := fun (n_ : Nat) => impl_sideBehind.cDN n_ hx103_2
  have hy_3 := fun (n_ : Nat) => impl_sideBehind.cDN n_ hx103_3
  have hy_4 := fun (n_ : Nat) => impl_sideBehind.cDN n_ hx103_4
  clear hc_0 hc_1 hc_2 hc_3 hc_4 hx103_0 hx103_1 hx103_2 hx103_3 hx103_4
  go_wp2_with fail
  repeat (go_quiet (fail); try go_wp2)
  go_roundg k1
  case measure => have := HK1.out; omega
  case rel => exact ⟨(x5_1), (wrap64 (x10_1 + 1)), (by first | rfl | (simp; done) | (simp [*]; done)), (by first | rfl | (simp; done) | (simp [*]; done)), H', ⟨by have := HK1.out; omega⟩, ⟨by repeat (first | (with_reducible first | exact HBn.out | apply below_alloc | apply pw_below_drewN | apply below_drew1 | refine below_set ?_ GE102.out) | exact HBn.out)⟩⟩
 rw [if_pos c8] at H
 have c8b0 : (((rd_T54 l0 x10_1).f1.f0) == ((rd_T54 l0 a1).f2.f0) && (((rd_T54 l0 x10_1).f1.f1) == ((rd_T54 l0 a1).f2.f1))) = true := c8
 (try (have c8b1 : decide (((rd_T54 l0 x10_1).f1.f0) = ((rd_T54 l0 a1).f2.f0) && (((rd_T54 l0 x10_1).f1.f1) == ((rd_T54 l0 a1).f2.f1))) = true := by simpa using c8))
 (try (have c8b2 : (((rd_T54 l0 x10_1).f1.f0) == ((rd_T54 l0 a1).f2.f0) && (((rd_T54 l0 x10_1).f1.f1) == ((rd_T54 l0 a1).f2.f1))) = true := by simpa using c8))
 clear c8
 by_cases c9 : x5_1 < 0
 ·
  rw [if_pos c9] at H
  have c9b0 : decide (x5_1 < 0) = true := decide_eq_true c9
  clear c9; have H' := aK H; clear H
  have p101 : 0 ≤ (x10_1 : Int) := dA
  have q101 : x10_1 < (l0.length : Int) := dA
  obtain ⟨ad101, e101, hx101_0, hx101_1, hx101_2, hx101_3, hx101_4⟩ := at_T54 HR0.out x10_1 p101 q101; cases e101; replace hx101_0 := (HB.out.cell (World.block_lt_of_cell? w _ hx101_0)).trans hx101_0; replace hx101_1 := (HB.out.cell (World.block_lt_of_cell? w _ hx101_1)).trans hx101_1; replace hx101_2 := (HB.out.cell (World.block_lt_of_cell? w _ hx101_2)).trans hx101_2; replace hx101_3 := (HB.out.cell (World.block_lt_of_cell? w _ hx101_3)).trans hx101_3; replace hx101_4 := (HB.out.cell (World.block_lt_of_cell? w _ hx101_4)).trans hx101_4; replace p101 := eq_true p101; replace q101 := eq_true q101
  go_upto_region 5 with (first | ((with_reducible refine ga 7 rfl ?_); refine bxa #[.int .i64 0, .int .i64 0, .int .i64 0, .int .i64 0, .int .i64 0] 54 ?_; intro g102 hg w13 B102 hb; have GE102 := gA hg HB; replace HB := bS HB hb; clear hb hg; have hcz_0 : w13.cell? ⟨g102, 0, none⟩ = some (.int .i64 0) := (blk_cell B102.out 0).trans rfl; have hfz_0 := blk_frozen B102.out 0; have hcz_1 : w13.cell? ⟨g102, 1, none⟩ = some (.int .i64 0) := (blk_cell B102.out 1).trans rfl; have hfz_1 := blk_frozen B102.out 1; have hcz_2 : w13.cell? ⟨g102, 2, none⟩ = some (.int .i64 0) := (blk_cell B102.out 2).trans rfl; have hfz_2 := blk_frozen B102.out 2; have hcz_3 : w13.cell? ⟨g102, 3, none⟩ = some (.int .i64 0) := (blk_cell B102.out 3).trans rfl; have hfz_3 := blk_frozen B102.out 3; have hcz_4 : w13.cell? ⟨g102, 4, none⟩ = some (.int .i64 0) := (blk_cell B102.out 4).trans rfl; have hfz_4 := blk_frozen B102.out 4))
  clear hcz_0 hcz_1 hcz_2 hcz_3 hcz_4 hfz_0 hfz_1 hfz_2 hfz_3 hfz_4 hx101_0 hx101_1 hx101_2 hx101_3 hx101_4; have BKn := aK (blk_put (cs' := #[.int .i64 ((rd_T54 l0 x10_1).f0), .int .i64 ((rd_T54 l0 x10_1).f1.f0), .int .i64 ((rd_T54 l0 x10_1).f1.f1), .int .i64 ((rd_T54 l0 x10_1).f2.f0), .int .i64 ((rd_T54 l0 x10_1).f2.f1)]) (blk_put (cs' := #[.int .i64 ((rd_T54 l0 x10_1).f0), .int .i64 ((rd_T54 l0 x10_1).f1.f0), .int .i64 ((rd_T54 l0 x10_1).f1.f1), .int .i64 ((rd_T54 l0 x10_1).f2.f0), .int .i64 0]) (blk_put (cs' := #[.int .i64 ((rd_T54 l0 x10_1).f0), .int .i64 ((rd_T54 l0 x10_1).f1.f0), .int .i64 ((rd_T54 l0 x10_1).f1.f1), .int .i64 0, .int .i64 0]) (blk_put (cs' := #[.int .i64 ((rd_T54 l0 x10_1).f0), .int .i64 ((rd_T54 l0 x10_1).f1.f0), .int .i64 0, .int .i64 0, .int .i64 0]) (blk_put (cs' := #[.int .i64 ((rd_T54 l0 x10_1).f0), .int .i64 0, .int .i64 0, .int .i64 0, .int .i64 0]) B102.out 0 (.int .i64 ((rd_T54 l0 x10_1).f0)) rfl) 1 (.int .i64 ((rd_T54 l0 x10_1).f1.f0)) rfl) 2 (.int .i64 ((rd_T54 l0 x10_1).f1.f1)) rfl) 3 (.int .i64 ((rd_T54 l0 x10_1).f2.f0)) rfl) 4 (.int .i64 ((rd_T54 l0 x10_1).f2.f1)) rfl); have HBn := aK (below_set (g := g102) (j := 4) (v := .int .i64 ((rd_T54 l0 x10_1).f2.f1)) (below_set (g := g102) (j := 3) (v := .int .i64 ((rd_T54 l0 x10_1).f2.f0)) (below_set (g := g102) (j := 2) (v := .int .i64 ((rd_T54 l0 x10_1).f1.f1)) (below_set (g := g102) (j := 1) (v := .int .i64 ((rd_T54 l0 x10_1).f1.f0)) (below_set (g := g102) (j := 0) (v := .int .i64 ((rd_T54 l0 x10_1).f0)) HB.out GE102.out) GE102.out) GE102.out) GE102.out) GE102.out); clear HB B102
  generalize (((((w13.setCell ⟨g102, 0, none⟩ (.int .i64 ((rd_T54 l0 x10_1).f0))).setCell ⟨g102, 1, none⟩ (.int .i64 ((rd_T54 l0 x10_1).f1.f0))).setCell ⟨g102, 2, none⟩ (.int .i64 ((rd_T54 l0 x10_1).f1.f1))).setCell ⟨g102, 3, none⟩ (.int .i64 ((rd_T54 l0 x10_1).f2.f0))).setCell ⟨g102, 4, none⟩ (.int .i64 ((rd_T54 l0 x10_1).f2.f1))) = w14 at BKn HBn ⊢
  have hc_0 : w14.cell? ⟨g102, 0, none⟩ = some (.int .i64 ((rd_T54 l0 x10_1).f0)) := (blk_cell BKn.out 0).trans rfl
  have hc_1 : w14.cell? ⟨g102, 1, none⟩ = some (.int .i64 ((rd_T54 l0 x10_1).f1.f0)) := (blk_cell BKn.out 1).trans rfl
  have hc_2 : w14.cell? ⟨g102, 2, none⟩ = some (.int .i64 ((rd_T54 l0 x10_1).f1.f1)) := (blk_cell BKn.out 2).trans rfl
  have hc_3 : w14.cell? ⟨g102, 3, none⟩ = some (.int .i64 ((rd_T54 l0 x10_1).f2.f0)) := (blk_cell BKn.out 3).trans rfl
  have hc_4 : w14.cell? ⟨g102, 4, none⟩ = some (.int .i64 ((rd_T54 l0 x10_1).f2.f1)) := (blk_cell BKn.out 4).trans rfl
  have p103 : 0 ≤ (a1 : Int) := dA
  have q103 : a1 < (l0.length : Int) := dA
  obtain ⟨ad103, e103, hx103_0, hx103_1, hx103_2, hx103_3, hx103_4⟩ := at_T54 HR0.out a1 p103 q103
  obtain rfl : ad101 = ad103 := (by injection e103)
  replace hx103_0 := (HBn.out.cell (World.block_lt_of_cell? w _ hx103_0)).trans hx103_0; replace hx103_1 := (HBn.out.cell (World.block_lt_of_cell? w _ hx103_1)).trans hx103_1; replace hx103_2 := (HBn.out.cell (World.block_lt_of_cell? w _ hx103_2)).trans hx103_2; replace hx103_3 := (HBn.out.cell (World.block_lt_of_cell? w _ hx103_3)).trans hx103_3; replace hx103_4 := (HBn.out.cell (World.block_lt_of_cell? w _ hx103_4)).trans hx103_4; replace p103 := eq_true p103; replace q103 := eq_true q103
  have hd_0 := fun (n_ : Nat) => impl_sideBehind.cDN n_ hc_0
  have hd_1 := fun (n_ : Nat) => impl_sideBehind.cDN n_ hc_1
  have hd_2 := fun (n_ : Nat) => impl_sideBehind.cDN n_ hc_2
  have hd_3 := fun (n_ : Nat) => impl_sideBehind.cDN n_ hc_3
  have hd_4 := fun (n_ : Nat) => impl_sideBehind.cDN n_ hc_4
  have hy_0 := fun (n_ : Nat) => impl_sideBehind.cDN n_ hx103_0
  have hy_1 := fun (n_ : Nat) => impl_sideBehind.cDN n_ hx103_1
  have hy_2 := fun (n_ : Nat) => impl_sideBehind.cDN n_ hx103_2
  have hy_3 := fun (n_ : Nat) => impl_sideBehind.cDN n_ hx103_3
  have hy_4 := fun (n_ : Nat) => impl_sideBehind.cDN n_ hx103_4
  clear hc_0 hc_1 hc_2 hc_3 hc_4 hx103_0 hx103_1 hx103_2 hx103_3 hx103_4
  go_wp2_with fail
  repeat (go_quiet (fail); try go_wp2)
  go_roundg k1
  case measure => have := HK1.out; omega
  case rel => exact ⟨(x10_1), (wrap64 (x10_1 + 1)), (by first | rfl | (simp; done) | (simp [*]; done)), (by first | rfl | (simp; done) | (simp [*]; done)), H', ⟨by have := HK1.out; omega⟩, ⟨by repeat (first | (with_reducible first | exact HBn.out | apply below_alloc | apply pw_below_drewN | apply below_drew1 | refine below_set ?_ GE102.out) | exact HBn.out)⟩⟩
 rw [if_neg c9] at H
 have c9b0 : decide (x5_1 < 0) = false := decide_eq_false c9
 clear c9
 by_cases c12 : ((rd_T54 l0 x10_1).f0) = ((rd_T54 l0 a1).f0)
 ·
  rw [if_pos c12] at H
  have c12b0 : (((rd_T54 l0 x10_1).f0) == ((rd_T54 l0 a1).f0)) = true := beq_iff_eq.mpr c12
  have c12b1 : (((rd_T54 l0 x10_1).f0) != ((rd_T54 l0 a1).f0)) = false := bne_eq_false_iff_eq.mpr c12
  clear c12; have H' := aK H; clear H
  have p101 : 0 ≤ (x10_1 : Int) := dA
  have q101 : x10_1 < (l0.length : Int) := dA
  obtain ⟨ad101, e101, hx101_0, hx101_1, hx101_2, hx101_3, hx101_4⟩ := at_T54 HR0.out x10_1 p101 q101; cases e101; replace hx101_0 := (HB.out.cell (World.block_lt_of_cell? w _ hx101_0)).trans hx101_0; replace hx101_1 := (HB.out.cell (World.block_lt_of_cell? w _ hx101_1)).trans hx101_1; replace hx101_2 := (HB.out.cell (World.block_lt_of_cell? w _ hx101_2)).trans hx101_2; replace hx101_3 := (HB.out.cell (World.block_lt_of_cell? w _ hx101_3)).trans hx101_3; replace hx101_4 := (HB.out.cell (World.block_lt_of_cell? w _ hx101_4)).trans hx101_4; replace p101 := eq_true p101; replace q101 := eq_true q101
  go_upto_region 5 with (first | ((with_reducible refine ga 7 rfl ?_); refine bxa #[.int .i64 0, .int .i64 0, .int .i64 0, .int .i64 0, .int .i64 0] 54 ?_; intro g102 hg w13 B102 hb; have GE102 := gA hg HB; replace HB := bS HB hb; clear hb hg; have hcz_0 : w13.cell? ⟨g102, 0, none⟩ = some (.int .i64 0) := (blk_cell B102.out 0).trans rfl; have hfz_0 := blk_frozen B102.out 0; have hcz_1 : w13.cell? ⟨g102, 1, none⟩ = some (.int .i64 0) := (blk_cell B102.out 1).trans rfl; have hfz_1 := blk_frozen B102.out 1; have hcz_2 : w13.cell? ⟨g102, 2, none⟩ = some (.int .i64 0) := (blk_cell B102.out 2).trans rfl; have hfz_2 := blk_frozen B102.out 2; have hcz_3 : w13.cell? ⟨g102, 3, none⟩ = some (.int .i64 0) := (blk_cell B102.out 3).trans rfl; have hfz_3 := blk_frozen B102.out 3; have hcz_4 : w13.cell? ⟨g102, 4, none⟩ = some (.int .i64 0) := (blk_cell B102.out 4).trans rfl; have hfz_4 := blk_frozen B102.out 4))
  clear hcz_0 hcz_1 hcz_2 hcz_3 hcz_4 hfz_0 hfz_1 hfz_2 hfz_3 hfz_4 hx101_0 hx101_1 hx101_2 hx101_3 hx101_4; have BKn := aK (blk_put (cs' := #[.int .i64 ((rd_T54 l0 x10_1).f0), .int .i64 ((rd_T54 l0 x10_1).f1.f0), .int .i64 ((rd_T54 l0 x10_1).f1.f1), .int .i64 ((rd_T54 l0 x10_1).f2.f0), .int .i64 ((rd_T54 l0 x10_1).f2.f1)]) (blk_put (cs' := #[.int .i64 ((rd_T54 l0 x10_1).f0), .int .i64 ((rd_T54 l0 x10_1).f1.f0), .int .i64 ((rd_T54 l0 x10_1).f1.f1), .int .i64 ((rd_T54 l0 x10_1).f2.f0), .int .i64 0]) (blk_put (cs' := #[.int .i64 ((rd_T54 l0 x10_1).f0), .int .i64 ((rd_T54 l0 x10_1).f1.f0), .int .i64 ((rd_T54 l0 x10_1).f1.f1), .int .i64 0, .int .i64 0]) (blk_put (cs' := #[.int .i64 ((rd_T54 l0 x10_1).f0), .int .i64 ((rd_T54 l0 x10_1).f1.f0), .int .i64 0, .int .i64 0, .int .i64 0]) (blk_put (cs' := #[.int .i64 ((rd_T54 l0 x10_1).f0), .int .i64 0, .int .i64 0, .int .i64 0, .int .i64 0]) B102.out 0 (.int .i64 ((rd_T54 l0 x10_1).f0)) rfl) 1 (.int .i64 ((rd_T54 l0 x10_1).f1.f0)) rfl) 2 (.int .i64 ((rd_T54 l0 x10_1).f1.f1)) rfl) 3 (.int .i64 ((rd_T54 l0 x10_1).f2.f0)) rfl) 4 (.int .i64 ((rd_T54 l0 x10_1).f2.f1)) rfl); have HBn := aK (below_set (g := g102) (j := 4) (v := .int .i64 ((rd_T54 l0 x10_1).f2.f1)) (below_set (g := g102) (j := 3) (v := .int .i64 ((rd_T54 l0 x10_1).f2.f0)) (below_set (g := g102) (j := 2) (v := .int .i64 ((rd_T54 l0 x10_1).f1.f1)) (below_set (g := g102) (j := 1) (v := .int .i64 ((rd_T54 l0 x10_1).f1.f0)) (below_set (g := g102) (j := 0) (v := .int .i64 ((rd_T54 l0 x10_1).f0)) HB.out GE102.out) GE102.out) GE102.out) GE102.out) GE102.out); clear HB B102
  generalize (((((w13.setCell ⟨g102, 0, none⟩ (.int .i64 ((rd_T54 l0 x10_1).f0))).setCell ⟨g102, 1, none⟩ (.int .i64 ((rd_T54 l0 x10_1).f1.f0))).setCell ⟨g102, 2, none⟩ (.int .i64 ((rd_T54 l0 x10_1).f1.f1))).setCell ⟨g102, 3, none⟩ (.int .i64 ((rd_T54 l0 x10_1).f2.f0))).setCell ⟨g102, 4, none⟩ (.int .i64 ((rd_T54 l0 x10_1).f2.f1))) = w14 at BKn HBn ⊢
  have hc_0 : w14.cell? ⟨g102, 0, none⟩ = some (.int .i64 ((rd_T54 l0 x10_1).f0)) := (blk_cell BKn.out 0).trans rfl
  have hc_1 : w14.cell? ⟨g102, 1, none⟩ = some (.int .i64 ((rd_T54 l0 x10_1).f1.f0)) := (blk_cell BKn.out 1).trans rfl
  have hc_2 : w14.cell? ⟨g102, 2, none⟩ = some (.int .i64 ((rd_T54 l0 x10_1).f1.f1)) := (blk_cell BKn.out 2).trans rfl
  have hc_3 : w14.cell? ⟨g102, 3, none⟩ = some (.int .i64 ((rd_T54 l0 x10_1).f2.f0)) := (blk_cell BKn.out 3).trans rfl
  have hc_4 : w14.cell? ⟨g102, 4, none⟩ = some (.int .i64 ((rd_T54 l0 x10_1).f2.f1)) := (blk_cell BKn.out 4).trans rfl
  have p103 : 0 ≤ (a1 : Int) := dA
  have q103 : a1 < (l0.length : Int) := dA
  obtain ⟨ad103, e103, hx103_0, hx103_1, hx103_2, hx103_3, hx103_4⟩ := at_T54 HR0.out a1 p103 q103
  obtain rfl : ad101 = ad103 := (by injection e103)
  replace hx103_0 := (HBn.out.cell (World.block_lt_of_cell? w _ hx103_0)).trans hx103_0; replace hx103_1 := (HBn.out.cell (World.block_lt_of_cell? w _ hx103_1)).trans hx103_1; replace hx103_2 := (HBn.out.cell (World.block_lt_of_cell? w _ hx103_2)).trans hx103_2; replace hx103_3 := (HBn.out.cell (World.block_lt_of_cell? w _ hx103_3)).trans hx103_3; replace hx103_4 := (HBn.out.cell (World.block_lt_of_cell? w _ hx103_4)).trans hx103_4; replace p103 := eq_true p103; replace q103 := eq_true q103
  have hd_0 := fun (n_ : Nat) => impl_sideBehind.cDN n_ hc_0
  have hd_1 := fun (n_ : Nat) => impl_sideBehind.cDN n_ hc_1
  have hd_2 := fun (n_ : Nat) => impl_sideBehind.cDN n_ hc_2
  have hd_3 := fun (n_ : Nat) => impl_sideBehind.cDN n_ hc_3
  have hd_4 := fun (n_ : Nat) => impl_sideBehind.cDN n_ hc_4
  have hy_0 := fun (n_ : Nat) => impl_sideBehind.cDN n_ hx103_0
  have hy_1 := fun (n_ : Nat) => impl_sideBehind.cDN n_ hx103_1
  have hy_2 := fun (n_ : Nat) => impl_sideBehind.cDN n_ hx103_2
  have hy_3 := fun (n_ : Nat) => impl_sideBehind.cDN n_ hx103_3
  have hy_4 := fun (n_ : Nat) => impl_sideBehind.cDN n_ hx103_4
  clear hc_0 hc_1 hc_2 hc_3 hc_4 hx103_0 hx103_1 hx103_2 hx103_3 hx103_4
  go_wp2_with fail
  repeat (go_quiet (fail); try go_wp2)
  go_roundg k1
  case measure => have := HK1.out; omega
  case rel => exact ⟨(x10_1), (wrap64 (x10_1 + 1)), (by first | rfl | (simp; done) | (simp [*]; done)), (by first | rfl | (simp; done) | (simp [*]; done)), H', ⟨by have := HK1.out; omega⟩, ⟨by repeat (first | (with_reducible first | exact HBn.out | apply below_alloc | apply pw_below_drewN | apply below_drew1 | refine below_set ?_ GE102.out) | exact HBn.out)⟩⟩
 rw [if_neg c12] at H
 have c12b0 : (((rd_T54 l0 x10_1).f0) == ((rd_T54 l0 a1).f0)) = false := beq_eq_false_iff_ne.mpr c12
 have c12b1 : (((rd_T54 l0 x10_1).f0) != ((rd_T54 l0 a1).f0)) = true := bne_iff_ne.mpr c12
 have H' := aK H
 clear H
 have p101 : 0 ≤ (x10_1 : Int) := dA
 have q101 : x10_1 < (l0.length : Int) := dA
 obtain ⟨ad101, e101, hx101_0, hx101_1, hx101_2, hx101_3, hx101_4⟩ := at_T54 HR0.out x10_1 p101 q101
 cases e101
 replace hx101_0 := (HB.out.cell (World.block_lt_of_cell? w _ hx101_0)).trans hx101_0
 replace hx101_1 := (HB.out.cell (World.block_lt_of_cell? w _ hx101_1)).trans hx101_1
 replace hx101_2 := (HB.out.cell (World.block_lt_of_cell? w _ hx101_2)).trans hx101_2
 replace hx101_3 := (HB.out.cell (World.block_lt_of_cell? w _ hx101_3)).trans hx101_3
 replace hx101_4 := (HB.out.cell (World.block_lt_of_cell? w _ hx101_4)).trans hx101_4
 replace p101 := eq_true p101
 replace q101 := eq_true q101
 go_upto_region 5 with (first | ((with_reducible refine ga 7 rfl ?_); refine bxa #[.int .i64 0, .int .i64 0, .int .i64 0, .int .i64 0, .int .i64 0] 54 ?_; intro g102 hg w13 B102 hb; have GE102 := gA hg HB; replace HB := bS HB hb; clear hb hg; have hcz_0 : w13.cell? ⟨g102, 0, none⟩ = some (.int .i64 0) := (blk_cell B102.out 0).trans rfl; have hfz_0 := blk_frozen B102.out 0; have hcz_1 : w13.cell? ⟨g102, 1, none⟩ = some (.int .i64 0) := (blk_cell B102.out 1).trans rfl; have hfz_1 := blk_frozen B102.out 1; have hcz_2 : w13.cell? ⟨g102, 2, none⟩ = some (.int .i64 0) := (blk_cell B102.out 2).trans rfl; have hfz_2 := blk_frozen B102.out 2; have hcz_3 : w13.cell? ⟨g102, 3, none⟩ = some (.int .i64 0) := (blk_cell B102.out 3).trans rfl; have hfz_3 := blk_frozen B102.out 3; have hcz_4 : w13.cell? ⟨g102, 4, none⟩ = some (.int .i64 0) := (blk_cell B102.out 4).trans rfl; have hfz_4 := blk_frozen B102.out 4))
 clear hcz_0 hcz_1 hcz_2 hcz_3 hcz_4 hfz_0 hfz_1 hfz_2 hfz_3 hfz_4 hx101_0 hx101_1 hx101_2 hx101_3 hx101_4
 have BKn := aK (blk_put (cs' := #[.int .i64 ((rd_T54 l0 x10_1).f0), .int .i64 ((rd_T54 l0 x10_1).f1.f0), .int .i64 ((rd_T54 l0 x10_1).f1.f1), .int .i64 ((rd_T54 l0 x10_1).f2.f0), .int .i64 ((rd_T54 l0 x10_1).f2.f1)]) (blk_put (cs' := #[.int .i64 ((rd_T54 l0 x10_1).f0), .int .i64 ((rd_T54 l0 x10_1).f1.f0), .int .i64 ((rd_T54 l0 x10_1).f1.f1), .int .i64 ((rd_T54 l0 x10_1).f2.f0), .int .i64 0]) (blk_put (cs' := #[.int .i64 ((rd_T54 l0 x10_1).f0), .int .i64 ((rd_T54 l0 x10_1).f1.f0), .int .i64 ((rd_T54 l0 x10_1).f1.f1), .int .i64 0, .int .i64 0]) (blk_put (cs' := #[.int .i64 ((rd_T54 l0 x10_1).f0), .int .i64 ((rd_T54 l0 x10_1).f1.f0), .int .i64 0, .int .i64 0, .int .i64 0]) (blk_put (cs' := #[.int .i64 ((rd_T54 l0 x10_1).f0), .int .i64 0, .int .i64 0, .int .i64 0, .int .i64 0]) B102.out 0 (.int .i64 ((rd_T54 l0 x10_1).f0)) rfl) 1 (.int .i64 ((rd_T54 l0 x10_1).f1.f0)) rfl) 2 (.int .i64 ((rd_T54 l0 x10_1).f1.f1)) rfl) 3 (.int .i64 ((rd_T54 l0 x10_1).f2.f0)) rfl) 4 (.int .i64 ((rd_T54 l0 x10_1).f2.f1)) rfl)
 have HBn := aK (below_set (g := g102) (j := 4) (v := .int .i64 ((rd_T54 l0 x10_1).f2.f1)) (below_set (g := g102) (j := 3) (v := .int .i64 ((rd_T54 l0 x10_1).f2.f0)) (below_set (g := g102) (j := 2) (v := .int .i64 ((rd_T54 l0 x10_1).f1.f1)) (below_set (g := g102) (j := 1) (v := .int .i64 ((rd_T54 l0 x10_1).f1.f0)) (below_set (g := g102) (j := 0) (v := .int .i64 ((rd_T54 l0 x10_1).f0)) HB.out GE102.out) GE102.out) GE102.out) GE102.out) GE102.out)
 clear HB B102
 generalize (((((w13.setCell ⟨g102, 0, none⟩ (.int .i64 ((rd_T54 l0 x10_1).f0))).setCell ⟨g102, 1, none⟩ (.int .i64 ((rd_T54 l0 x10_1).f1.f0))).setCell ⟨g102, 2, none⟩ (.int .i64 ((rd_T54 l0 x10_1).f1.f1))).setCell ⟨g102, 3, none⟩ (.int .i64 ((rd_T54 l0 x10_1).f2.f0))).setCell ⟨g102, 4, none⟩ (.int .i64 ((rd_T54 l0 x10_1).f2.f1))) = w14 at BKn HBn ⊢
 have hc_0 : w14.cell? ⟨g102, 0, none⟩ = some (.int .i64 ((rd_T54 l0 x10_1).f0)) := (blk_cell BKn.out 0).trans rfl
 have hc_1 : w14.cell? ⟨g102, 1, none⟩ = some (.int .i64 ((rd_T54 l0 x10_1).f1.f0)) := (blk_cell BKn.out 1).trans rfl
 have hc_2 : w14.cell? ⟨g102, 2, none⟩ = some (.int .i64 ((rd_T54 l0 x10_1).f1.f1)) := (blk_cell BKn.out 2).trans rfl
 have hc_3 : w14.cell? ⟨g102, 3, none⟩ = some (.int .i64 ((rd_T54 l0 x10_1).f2.f0)) := (blk_cell BKn.out 3).trans rfl
 have hc_4 : w14.cell? ⟨g102, 4, none⟩ = some (.int .i64 ((rd_T54 l0 x10_1).f2.f1)) := (blk_cell BKn.out 4).trans rfl
 have p103 : 0 ≤ (a1 : Int) := dA
 have q103 : a1 < (l0.length : Int) := dA
 obtain ⟨ad103, e103, hx103_0, hx103_1, hx103_2, hx103_3, hx103_4⟩ := at_T54 HR0.out a1 p103 q103
 obtain rfl : ad101 = ad103 := (by injection e103)
 replace hx103_0 := (HBn.out.cell (World.block_lt_of_cell? w _ hx103_0)).trans hx103_0
 replace hx103_1 := (HBn.out.cell (World.block_lt_of_cell? w _ hx103_1)).trans hx103_1
 replace hx103_2 := (HBn.out.cell (World.block_lt_of_cell? w _ hx103_2)).trans hx103_2
 replace hx103_3 := (HBn.out.cell (World.block_lt_of_cell? w _ hx103_3)).trans hx103_3
 replace hx103_4 := (HBn.out.cell (World.block_lt_of_cell? w _ hx103_4)).trans hx103_4
 replace p103 := eq_true p103
 replace q103 := eq_true q103
 have hd_0 := fun (n_ : Nat) => impl_sideBehind.cDN n_ hc_0
 have hd_1 := fun (n_ : Nat) => impl_sideBehind.cDN n_ hc_1
 have hd_2 := fun (n_ : Nat) => impl_sideBehind.cDN n_ hc_2
 have hd_3 := fun (n_ : Nat) => impl_sideBehind.cDN n_ hc_3
 have hd_4 := fun (n_ : Nat) => impl_sideBehind.cDN n_ hc_4
 have hy_0 := fun (n_ : Nat) => impl_sideBehind.cDN n_ hx103_0
 have hy_1 := fun (n_ : Nat) => impl_sideBehind.cDN n_ hx103_1
 have hy_2 := fun (n_ : Nat) => impl_sideBehind.cDN n_ hx103_2
 have hy_3 := fun (n_ : Nat) => impl_sideBehind.cDN n_ hx103_3
 have hy_4 := fun (n_ : Nat) => impl_sideBehind.cDN n_ hx103_4
 clear hc_0 hc_1 hc_2 hc_3 hc_4 hx103_0 hx103_1 hx103_2 hx103_3 hx103_4
 go_wp2_with fail
 repeat (go_quiet (fail); try go_wp2)
 go_roundg k1
 case measure => have := HK1.out; omega
 case rel => exact ⟨(x5_1), (wrap64 (x10_1 + 1)), (by first | rfl | (simp; done) | (simp [*]; done)), (by first | rfl | (simp; done) | (simp [*]; done)), H', ⟨by have := HK1.out; omega⟩, ⟨by repeat (first | (with_reducible first | exact HBn.out | apply below_alloc | apply pw_below_drewN | apply below_drew1 | refine below_set ?_ GE102.out) | exact HBn.out)⟩⟩
end Go.Proofs.Ytnbpcacnbfbjkaa.P
namespace Go.Proofs
open Go.Shelf
def Try.grow53_ren : Go.Shelf.Ren := ⟨fun | 4 => 53 | n => n, fun | 22 => 36 | 25 => 48 | 3 => 3 | 4 => 4 | 9 => 9 | 20 => 20 | 0 => 0 | 2 => 3 | n => n, fun | n => n⟩
theorem Try.grow53 : Go.Proofs.Lays8.n4 Try.prog Try.grow53_ren := {
  mixed := by kernel_rfl
  f4 := ⟨Try.f53.name, by decide, Try.func53.trans (congrArg some (by kernel_rfl))⟩
  t0 := Try.underlying0
  a0 := Try.isAgg0
  z0 := Try.sizeOf0
  v0 := Try.zeroValue0
  t3 := Try.underlying3
  a3 := Try.isAgg3
  z3 := Try.sizeOf3
  v3 := Try.zeroValue3
  t4 := Try.underlying4
  a4 := Try.isAgg4
  z4 := Try.sizeOf4
  v4 := Try.zeroValue4
  t9 := Try.underlying9
  a9 := Try.isAgg9
  z9 := Try.sizeOf9
  v9 := Try.zeroValue9
  t20 := Try.underlying20
  a20 := Try.isAgg20
  z20 := Try.sizeOf20
  v20 := Try.zeroValue20
  t22 := Try.underlying36
  a22 := Try.isAgg36
  z22 := Try.sizeOf36
  v22 := Try.zeroValue36 }
end Go.Proofs
namespace Go.Proofs.Ytnbpcacnbfbjkaa.P
open Go.RowKit Go.Lib Go.Proofs Go.Proofs.YtnbpcacnbfbjkaaW.PrintWords Go.Proofs.YtnbpcacnbfbjkaaW.PrintLast Go.Proofs.YtnbpcacnbfbjkaaW.PrintMore
theorem grow_nil (n : Nat) (w : World) (hn : n ≤ 1000000) : Calls Try.prog 53 #[.slice none 0 0, .int .i64 n] w fun e w' => ∃ v, e = .returned v ∧ Kd.R k48 48 w' w.heap.size (fun _ => True) v [] ∧ Below w.heap.size w w' := by
  by_cases h0 : n = 0
  · subst h0
    refine Calls.mono (Any8.slices_Grow_room Try.grow53 none 0 0 0 w (by omega) (by omega) (by omega) (by omega)) ?_
    rintro e w' ⟨rfl, rfl⟩
    exact ⟨_, rfl, Kd.R_nil _ _ _ _ _, Below.refl _ _⟩
  · obtain ⟨i0, hi, hz⟩ := Option.map_eq_some_iff.1 info48
    simp only [Prod.mk.injEq] at hz
    obtain ⟨hz0, hz1, hz2⟩ := hz
    refine Calls.mono (Any8.slices_Grow_grow Try.grow53 i0 _ hi hz0 (by omega) none 0 0 n [] w (by omega) (by omega) (by rw [hz2]; omega) (by omega) (by simp) (fun _ => rfl) (fun a e => by cases e)) ?_
    rintro e w' ⟨rfl, rfl⟩
    have hg := grownCap_ge w (0 + n) 0 48
    have hm := grownCap_le_maxLen w (0 + n) 0 48 (by unfold maxLen; omega)
    have hb : (w.drew.alloc (.cells (([] : List Value).toArray ++ Builtin.zeroCells (Value.agg #[.int .i64 0, .int .i64 0]).cells (0 + n - 0) ++ Builtin.zeroCells (Value.agg #[.int .i64 0, .int .i64 0]).cells (grownCap w (0 + n) 0 48 - (0 + n))) 48)).heap[w.heap.size]? = some (.cells (([] : List Value).toArray ++ Builtin.zeroCells (Value.agg #[.int .i64 0, .int .i64 0]).cells (0 + n - 0) ++ Builtin.zeroCells (Value.agg #[.int .i64 0, .int .i64 0]).cells (grownCap w (0 + n) 0 48 - (0 + n))) 48 (0, 0)) := blk_new w.drew _
    have hs : (([] : List Value).toArray ++ Builtin.zeroCells (Value.agg #[.int .i64 0, .int .i64 0]).cells (0 + n - 0) ++ Builtin.zeroCells (Value.agg #[.int .i64 0, .int .i64 0]).cells (grownCap w (0 + n) 0 48 - (0 + n))).size = grownCap w (0 + n) 0 48 * 2 := by
      rw [Array.size_append, Array.size_append, size_zeroCells, size_zeroCells]
      have h2 : (Value.agg #[Value.int .i64 0, Value.int .i64 0]).cells.size = 2 := rfl
      rw [h2]
      show 0 + (0 + n - 0) * 2 + (grownCap w (0 + n) 0 48 - (0 + n)) * 2 = grownCap w (0 + n) 0 48 * 2
      omega
    have ho : World.ownsRow (w.drew.alloc (.cells (([] : List Value).toArray ++ Builtin.zeroCells (Value.agg #[.int .i64 0, .int .i64 0]).cells (0 + n - 0) ++ Builtin.zeroCells (Value.agg #[.int .i64 0, .int .i64 0]).cells (grownCap w (0 + n) 0 48 - (0 + n))) 48)) w.heap.size 48 2 (.slice (some ⟨w.heap.size, 0, none⟩) 0 (grownCap w (0 + n) 0 48)) 0 [] :=
      ⟨rfl, .inr ⟨w.heap.size, _, _, rfl, Nat.le_refl _, hb, Nat.zero_le _, hm, hs, by simp⟩⟩
    exact ⟨_, rfl, ⟨fun _ _ => trivial, [], ho, Reps.none _ _⟩, below_alloc (below_drew1 (Below.refl _ _)) _⟩
set_option maxHeartbeats 4000000 in
set_option maxRecDepth 100000 in
theorem concat_two (A1 A2 : Option Addr) (c1 c2 gb : Nat) (xs ys : List S48) (w : World) (hb : w.heap[gb]? = some (.cells #[.slice A1 xs.length c1, .slice A2 ys.length c2] 36 (0, 0))) (h1 : Kd.C k48 w A1 xs.length xs) (h2 : Kd.C k48 w A2 ys.length ys) (hx : xs.length ≤ 400000) (hy : ys.length ≤ 400000) :
    Calls Try.prog 47 #[.slice (some ⟨gb, 0, none⟩) 2 2] w fun e w' => ∃ v, e = .returned v ∧ Kd.R k48 48 w' w.heap.size (fun _ => True) v (xs ++ ys) ∧ Below w.heap.size w w' := by
  have q1 := (blk_cell hb 0).trans rfl
  have q2 := (blk_cell hb 1).trans rfl
  have H1 := aK h1
  have H2 := aK h2
  have BK := aK hb
  clear h1 h2 hb
  have L : Aside0 (xs.length ≤ 400000 ∧ ys.length ≤ 400000) := ⟨hx, hy⟩
  obtain ⟨s, hs⟩ : ∃ s, s = xs.length + ys.length := ⟨_, rfl⟩
  have z1 : (xs.length : Int) + (ys.length : Int) = (s : Int) := by omega
  have y1 : s < 1000000 := by omega
  have y2 : xs.length < 1000000 := by omega
  have y3 : ys.length < 1000000 := by omega
  have G := aK (grow_nil s w (by omega))
  clear hs hx hy
  go_enter Try.func47, Try.ntmps47
  go_wp2
  refine wp_loop_rounds 3 ?_
  rw [rounds_succ]
  go_wp2
  rw [rounds_succ]
  go_wp2
  rw [rounds_succ]
  go_wp2_with (first | (go_at_call 53; refine G.out.mono ?_; rintro e_ w1 ⟨v1, rfl, hv, hb⟩; have HV1 := aK hv; have BB1 := aK hb; have r1 := (hb.cell (World.block_lt_of_cell? w _ q1)).trans q1; have r2 := (hb.cell (World.block_lt_of_cell? w _ q2)).trans q2; obtain ⟨A5, c5, e5⟩ := Kd.R_slice hv; subst e5; clear hv hb))
  refine wp_loop_rounds 3 ?_
  rw [rounds_succ]
  go_wp2_with (first | ((with_reducible refine gate_builtin (b := .append) (xs := #[.tmp 31, .tmp 32]) rfl ?_); at_builtin; refine Kd.R_append_rows k48 (w0 := w) w.heap.size rfl (.tmp 31) (.tmp 32) 36 48 (.agg #[(.int .i64 0), (.int .i64 0)]) 16 rfl Try.underlying36 info48 rfl (by decide) (by omega) (.slice A5 ([] : List S48).length c5) ([] : List S48) xs _ _ _ (fun _ => True) (fun _ => False) rfl rfl ?aO ?aR (fun _ _ h => h) (fun _ h => h.elim) ?aF ?aB ?aS ?aL ?_; (case aR => exact Kd.C_below H1.out BB1.out); (case aB => exact BB1.out); (case aF => exact (fun _ _ => trivial)); (case aO => exact HV1.out); (case aS => exact BB1.out.size); (case aL => have := L.out; first | omega | (simp; omega)); intro v2 w2 ho hb hg hat; have HV2 := aK ho; have BB2 := aK hb; obtain ⟨A6, c6, e6⟩ := Kd.R_slice ho; subst e6; clear ho hb hg hat))
  have r3 := (BB2.out.cell (World.block_lt_of_cell? w _ q2)).trans q2
  rw [rounds_succ]
  go_wp2_with (first | ((with_reducible refine gate_builtin (b := .append) (xs := #[.tmp 31, .tmp 32]) rfl ?_); at_builtin; refine Kd.R_append_rows k48 (w0 := w) w.heap.size rfl (.tmp 31) (.tmp 32) 36 48 (.agg #[(.int .i64 0), (.int .i64 0)]) 16 rfl Try.underlying36 info48 rfl (by decide) (by omega) (.slice A6 (([] : List S48) ++ xs).length c6) (([] : List S48) ++ xs) ys _ _ _ (fun _ => True) (fun _ => False) rfl rfl ?aO ?aR (fun _ _ h => h) (fun _ h => h.elim) ?aF ?aB ?aS ?aL ?_; (case aR => exact Kd.C_below H2.out BB2.out); (case aB => exact BB2.out); (case aF => exact (fun _ _ => trivial)); (case aO => exact HV2.out); (case aS => exact BB2.out.size); (case aL => have := L.out; first | omega | (simp; omega)); intro v3 w3 ho hb hg hat; have HV3 := aK ho; have BB3 := aK hb; obtain ⟨A7, c7, e7⟩ := Kd.R_slice ho; subst e7; clear ho hb hg hat))
  rw [rounds_succ]
  go_wp2
  go_ret
  have hf := HV3.out
  rw [List.nil_append, List.length_append] at hf
  exact ⟨_, rfl, hf, BB3.out⟩
end Go.Proofs.Ytnbpcacnbfbjkaa.P
namespace Go.Proofs.Ytnbpcacnbfbjkaa.P
attribute [local go_sem] max2_int min2_int max_two min_two max_three min_three max_four min_four
mutual
def impl_cornersOf.l0 : Nat → List (S54) → List (S48) → List (S54) → Int → Int → Option ((List (S48)))
 | 0, _, _, _, _, _ => none
 | k + 1, x0, x3, x10, x11, x12 => if x12 < x11 then (if 0 ≤ x12 then (if x12 < (x10.length : Int) then (if (x0.length : Int) = 0 then (none) else (if 0 ≤ (Int.tmod (wrap64 ((wrap64 (x12 + (x0.length : Int))) - 1)) (x0.length : Int)) then (if (Int.tmod (wrap64 ((wrap64 (x12 + (x0.length : Int))) - 1)) (x0.length : Int)) < (x0.length : Int) then (if (wrap64 (((rd_T54 x10 x12).f2.f0) - ((rd_T54 x10 x12).f1.f0))) = (wrap64 (((rd_T54 x0 (Int.tmod (wrap64 ((wrap64 (x12 + (x0.length : Int))) - 1)) (x0.length : Int))).f2.f0) - ((rd_T54 x0 (Int.tmod (wrap64 ((wrap64 (x12 + (x0.length : Int))) - 1)) (x0.length : Int))).f1.f0))) then (impl_cornersOf.l0 k x0 x3 x10 x11 (wrap64 (x12 + 1))) else (if x3.length < 8796093022208 then (impl_cornersOf.l0 k x0 (x3 ++ [(⟨(rd_T54 x10 x12).f1.f0, (rd_T54 x10 x12).f1.f1⟩ : S48)]) x10 x11 (wrap64 (x12 + 1))) else (none))) else (none)) else (none))) else (none)) else (none)) else (impl_cornersOf.l1 k x3 0 x3 (x3.length : Int) 0)
def impl_cornersOf.l1 : Nat → List (S48) → Int → List (S48) → Int → Int → Option ((List (S48)))
 | 0, _, _, _, _, _ => none
 | k + 1, x3, x7, x49, x50, x51 => if x51 < x50 then (if 0 ≤ x51 then (if x51 < (x49.length : Int) then (if 0 ≤ x7 then (if x7 < (x3.length : Int) then ((impl_comparePoints.f k ((rd_T48 x49 x51).f0) ((rd_T48 x49 x51).f1) ((rd_T48 x3 x7).f0) ((rd_T48 x3 x7).f1)).bind fun t111 => (if t111 < 0 then (impl_cornersOf.l1 k x3 x51 x49 x50 (wrap64 (x51 + 1))) else (impl_cornersOf.l1 k x3 x7 x49 x50 (wrap64 (x51 + 1))))) else (none)) else (none)) else (none)) else (none)) else (if 0 ≤ x7 then (if x7 ≤ (x3.length : Int) then (if x3.length ≤ 400000 then (some (x3.drop x7.toNat ++ x3.take x7.toNat)) else (none)) else (none)) else (none))
end
def impl_cornersOf.f (k : Nat) (l0 : List (S54)) : Option ((List (S48))) := impl_cornersOf.l0 k l0 ([] : List (S48)) l0 (l0.length : Int) 0
theorem impl_cornersOf.calls (k : Nat) (A0 : Option Addr) (c0 : Nat) (l0 : List (S54)) (r : List (S48)) (w : World) (hr0 : Kd.C k54 w A0 l0.length l0) (hc0 : l0.length ≤ c0) (h : impl_cornersOf.f k l0 = some r) :
  Calls Try.prog 34 #[.slice A0 l0.length c0] w fun e w' => ∃ v0_ : Value, e = .returned (v0_) ∧ Kd.R k48 48 w' w.heap.size (fun _ => True) v0_ r ∧ Below w.heap.size w w' := by
 have hu54 := Try.underlying54
 have hu48 := Try.underlying48
 have HR0 := aK hr0
 have HC0 := aK hc0
 clear hr0 hc0
 have HB := aK (Below.refl w.heap.size w)
 have H : (impl_cornersOf.l0 k l0 ([] : List (S48)) l0 (l0.length : Int) 0) = some r := h
 clear h
 have H' := aK H
 clear H
 go_enter Try.func34, Try.ntmps34
 go_wp2
 go_loopg [3, 12] k (fun kq v3 v12 w' => ∃ (x3_1 : List (S48)) (x12_1 : Int), v12 = .int .i64 x12_1 ∧ Aside0 (impl_cornersOf.l0 kq l0 x3_1 l0 (l0.length : Int) x12_1 = some r) ∧ Aside0 (kq ≤ k) ∧ Aside0 (Kd.R k48 48 w' w.heap.size (fun _ => True) v3 x3_1) ∧ Aside0 (Below w.heap.size w w'))
 case atStart => exact ⟨(([] : List (S48))), (0), (by first | rfl | (simp; done) | (simp [*]; done)), H', ⟨Nat.le_refl _⟩, ⟨by first | exact Kd.R_nil _ _ _ _ _ | exact Kd.N_nil _ _ _ _ _ | exact Kd.V_nil _ _ _ _ _ | exact Kd.Q_nil _ _ _ _ _ | exact Kd.S_nil _ _ _ _ _⟩, ⟨pT HB.out⟩⟩
 case round =>
 clear H'
 obtain ⟨x3_1, x12_1, rfl, HA, HK1, HO_3, HB⟩ := hrel
 cases gk with
 | zero => exact absurd HA.out (by simp [impl_cornersOf.l0])
 | succ k1 =>
 have H := HA.out
 clear HA
 simp only [impl_cornersOf.l0] at H
 by_cases c2 : x12_1 < (l0.length : Int)
 ·
  rw [if_pos c2] at H
  have c2b0 : decide (x12_1 < (l0.length : Int)) = true := decide_eq_true c2
  clear c2
  by_cases c3 : 0 ≤ x12_1
  rotate_left
  ·
   rw [if_neg c3] at H
   exact absurd H (by simp)
  rw [if_pos c3] at H
  have c3b0 : decide (0 ≤ x12_1) = true := decide_eq_true c3
  clear c3
  by_cases c4 : x12_1 < (l0.length : Int)
  rotate_left
  ·
   rw [if_neg c4] at H
   exact absurd H (by simp)
  rw [if_pos c4] at H
  have c4b0 : decide (x12_1 < (l0.length : Int)) = true := decide_eq_true c4
  clear c4
  by_cases c5 : (l0.length : Int) = 0
  ·
   rw [if_pos c5] at H
   exact absurd H (by simp)
  rw [if_neg c5] at H
  have c5b0 : ((l0.length : Int) == 0) = false := beq_eq_false_iff_ne.mpr c5
  have c5b1 : ((l0.length : Int) != 0) = true := bne_iff_ne.mpr c5
  have c5b2 : ¬ (l0 = []) := fun h_ => c5 (by rw [h_]; rfl)
  obtain ⟨ji6, hji6⟩ : ∃ j_ : Int, (Int.tmod (wrap64 ((wrap64 (x12_1 + (l0.length : Int))) - 1)) (l0.length : Int)) = j_ := ⟨_, rfl⟩
  replace H : (if 0 ≤ (ji6) then (if (ji6) < (l0.length : Int) then (if (wrap64 (((rd_T54 l0 x12_1).f2.f0) - ((rd_T54 l0 x12_1).f1.f0))) = (wrap64 (((rd_T54 l0 (ji6)).f2.f0) - ((rd_T54 l0 (ji6)).f1.f0))) then (impl_cornersOf.l0 k1 l0 x3_1 l0 (l0.length : Int) (wrap64 (x12_1 + 1))) else (if x3_1.length < 8796093022208 then (impl_cornersOf.l0 k1 l0 (x3_1 ++ [(⟨(rd_T54 l0 x12_1).f1.f0, (rd_T54 l0 x12_1).f1.f1⟩ : S48)]) l0 (l0.length : Int) (wrap64 (x12_1 + 1))) else (none))) else (none)) else (none)) = some r := by first | (rw [hji6] at H; exact H) | (simp only [hji6] at H ⊢; exact H)
  by_cases c7 : 0 ≤ (ji6)
  rotate_left
  ·
   rw [if_neg c7] at H
   exact absurd H (by simp)
  rw [if_pos c7] at H
  have c7b0 : decide (0 ≤ (ji6)) = true := decide_eq_true c7
  clear c7
  by_cases c8 : (ji6) < (l0.length : Int)
  rotate_left
  ·
   rw [if_neg c8] at H
   exact absurd H (by simp)
  rw [if_pos c8] at H
  have c8b0 : decide ((ji6) < (l0.length : Int)) = true := decide_eq_true c8
  clear c8
  by_cases c9 : (wrap64 (((rd_T54 l0 x12_1).f2.f0) - ((rd_T54 l0 x12_1).f1.f0))) = (wrap64 (((rd_T54 l0 (ji6)).f2.f0) - ((rd_T54 l0 (ji6)).f1.f0)))
  ·
   rw [if_pos c9] at H
   have c9b0 : ((wrap64 (((rd_T54 l0 x12_1).f2.f0) - ((rd_T54 l0 x12_1).f1.f0))) == (wrap64 (((rd_T54 l0 (ji6)).f2.f0) - ((rd_T54 l0 (ji6)).f1.f0)))) = true := beq_iff_eq.mpr c9
   have c9b1 : ((wrap64 (((rd_T54 l0 x12_1).f2.f0) - ((rd_T54 l0 x12_1).f1.f0))) != (wrap64 (((rd_T54 l0 (ji6)).f2.f0) - ((rd_T54 l0 (ji6)).f1.f0)))) = false := bne_eq_false_iff_eq.mpr c9
   clear c9; have H' := aK H; clear H
   have p101 : 0 ≤ (x12_1 : Int) := dA
   have q101 : x12_1 < (l0.length : Int) := dA
   obtain ⟨ad101, e101, hx101_0, hx101_1, hx101_2, hx101_3, hx101_4⟩ := at_T54 HR0.out x12_1 p101 q101; cases e101; replace hx101_0 := (HB.out.cell (World.block_lt_of_cell? w _ hx101_0)).trans hx101_0; replace hx101_1 := (HB.out.cell (World.block_lt_of_cell? w _ hx101_1)).trans hx101_1; replace hx101_2 := (HB.out.cell (World.block_lt_of_cell? w _ hx101_2)).trans hx101_2; replace hx101_3 := (HB.out.cell (World.block_lt_of_cell? w _ hx101_3)).trans hx101_3; replace hx101_4 := (HB.out.cell (World.block_lt_of_cell? w _ hx101_4)).trans hx101_4; replace p101 := eq_true p101; replace q101 := eq_true q101
   go_wp2_with (first | ((with_reducible refine ga 5 rfl ?_); refine bxa #[.int .i64 0, .int .i64 0, .int .i64 0, .int .i64 0, .int .i64 0] 54 ?_; intro g102 hg w10 B102 hb; replace HO_3 := rb HO_3 hb; have GW102 := gA hg HB; replace HB := bS HB hb; clear hb hg; obtain ⟨z11_0, z11_1, z11_2, z11_3, z11_4, y11_0, y11_1, y11_2, y11_3, y11_4⟩ := bc5 B102.out; have p103 : 0 ≤ ((ji6) : Int) := dA; have q103 : (ji6) < (l0.length : Int) := dA; obtain ⟨ad103, e103, hx103_0, hx103_1, hx103_2, hx103_3, hx103_4⟩ := at_T54 HR0.out (ji6) p103 q103; obtain rfl : ad101 = ad103 := (by injection e103); have hn103_0 : ad101.block ≠ g102 := Nat.ne_of_lt (Nat.lt_of_lt_of_le (by have := World.block_lt_of_cell? _ _ hx103_0; first | rwa [add_block] at this | exact this) GW102.out); have hn103_1 : ad101.block ≠ g102 := Nat.ne_of_lt (Nat.lt_of_lt_of_le (by have := World.block_lt_of_cell? _ _ hx103_0; first | rwa [add_block] at this | exact this) GW102.out); have hn103_2 : ad101.block ≠ g102 := Nat.ne_of_lt (Nat.lt_of_lt_of_le (by have := World.block_lt_of_cell? _ _ hx103_0; first | rwa [add_block] at this | exact this) GW102.out); have hn103_3 : ad101.block ≠ g102 := Nat.ne_of_lt (Nat.lt_of_lt_of_le (by have := World.block_lt_of_cell? _ _ hx103_0; first | rwa [add_block] at this | exact this) GW102.out); have hn103_4 : ad101.block ≠ g102 := Nat.ne_of_lt (Nat.lt_of_lt_of_le (by have := World.block_lt_of_cell? _ _ hx103_0; first | rwa [add_block] at this | exact this) GW102.out); replace hx103_0 := (HB.out.cell (World.block_lt_of_cell? w _ hx103_0)).trans hx103_0; replace hx103_1 := (HB.out.cell (World.block_lt_of_cell? w _ hx103_1)).trans hx103_1; replace hx103_2 := (HB.out.cell (World.block_lt_of_cell? w _ hx103_2)).trans hx103_2; replace hx103_3 := (HB.out.cell (World.block_lt_of_cell? w _ hx103_3)).trans hx103_3; replace hx103_4 := (HB.out.cell (World.block_lt_of_cell? w _ hx103_4)).trans hx103_4; replace hx103_0 := (cell_far (p := ⟨g102, 0, none⟩) (by first | (rw [add_block]; exact hn103_0) | (show (Addr.add _ _).block ≠ _; rw [add_block]; exact hn103_0) | exact hn103_0) (.int .i64 ((rd_T54 l0 x12_1).f0))).trans hx103_0; replace hx103_1 := (cell_far (p := ⟨g102, 0, none⟩) (by first | (rw [add_block]; exact hn103_0) | (show (Addr.add _ _).block ≠ _; rw [add_block]; exact hn103_0) | exact hn103_0) (.int .i64 ((rd_T54 l0 x12_1).f0))).trans hx103_1; replace hx103_2 := (cell_far (p := ⟨g102, 0, none⟩) (by first | (rw [add_block]; exact hn103_0) | (show (Addr.add _ _).block ≠ _; rw [add_block]; exact hn103_0) | exact hn103_0) (.int .i64 ((rd_T54 l0 x12_1).f0))).trans hx103_2; replace hx103_3 := (cell_far (p := ⟨g102, 0, none⟩) (by first | (rw [add_block]; exact hn103_0) | (show (Addr.add _ _).block ≠ _; rw [add_block]; exact hn103_0) | exact hn103_0) (.int .i64 ((rd_T54 l0 x12_1).f0))).trans hx103_3; replace hx103_4 := (cell_far (p := ⟨g102, 0, none⟩) (by first | (rw [add_block]; exact hn103_0) | (show (Addr.add _ _).block ≠ _; rw [add_block]; exact hn103_0) | exact hn103_0) (.int .i64 ((rd_T54 l0 x12_1).f0))).trans hx103_4; replace hx103_0 := (cell_far (p := ⟨g102, 1, none⟩) (by first | (rw [add_block]; exact hn103_1) | (show (Addr.add _ _).block ≠ _; rw [add_block]; exact hn103_1) | exact hn103_1) (.int .i64 ((rd_T54 l0 x12_1).f1.f0))).trans hx103_0; replace hx103_1 := (cell_far (p := ⟨g102, 1, none⟩) (by first | (rw [add_block]; exact hn103_1) | (show (Addr.add _ _).block ≠ _; rw [add_block]; exact hn103_1) | exact hn103_1) (.int .i64 ((rd_T54 l0 x12_1).f1.f0))).trans hx103_1; replace hx103_2 := (cell_far (p := ⟨g102, 1, none⟩) (by first | (rw [add_block]; exact hn103_1) | (show (Addr.add _ _).block ≠ _; rw [add_block]; exact hn103_1) | exact hn103_1) (.int .i64 ((rd_T54 l0 x12_1).f1.f0))).trans hx103_2; replace hx103_3 := (cell_far (p := ⟨g102, 1, none⟩) (by first | (rw [add_block]; exact hn103_1) | (show (Addr.add _ _).block ≠ _; rw [add_block]; exact hn103_1) | exact hn103_1) (.int .i64 ((rd_T54 l0 x12_1).f1.f0))).trans hx103_3; replace hx103_4 := (cell_far (p := ⟨g102, 1, none⟩) (by first | (rw [add_block]; exact hn103_1) | (show (Addr.add _ _).block ≠ _; rw [add_block]; exact hn103_1) | exact hn103_1) (.int .i64 ((rd_T54 l0 x12_1).f1.f0))).trans hx103_4; replace hx103_0 := (cell_far (p := ⟨g102, 2, none⟩) (by first | (rw [add_block]; exact hn103_2) | (show (Addr.add _ _).block ≠ _; rw [add_block]; exact hn103_2) | exact hn103_2) (.int .i64 ((rd_T54 l0 x12_1).f1.f1))).trans hx103_0; replace hx103_1 := (cell_far (p := ⟨g102, 2, none⟩) (by first | (rw [add_block]; exact hn103_2) | (show (Addr.add _ _).block ≠ _; rw [add_block]; exact hn103_2) | exact hn103_2) (.int .i64 ((rd_T54 l0 x12_1).f1.f1))).trans hx103_1; replace hx103_2 := (cell_far (p := ⟨g102, 2, none⟩) (by first | (rw [add_block]; exact hn103_2) | (show (Addr.add _ _).block ≠ _; rw [add_block]; exact hn103_2) | exact hn103_2) (.int .i64 ((rd_T54 l0 x12_1).f1.f1))).trans hx103_2; replace hx103_3 := (cell_far (p := ⟨g102, 2, none⟩) (by first | (rw [add_block]; exact hn103_2) | (show (Addr.add _ _).block ≠ _; rw [add_block]; exact hn103_2) | exact hn103_2) (.int .i64 ((rd_T54 l0 x12_1).f1.f1))).trans hx103_3; replace hx103_4 := (cell_far (p := ⟨g102, 2, none⟩) (by first | (rw [add_block]; exact hn103_2) | (show (Addr.add _ _).block ≠ _; rw [add_block]; exact hn103_2) | exact hn103_2) (.int .i64 ((rd_T54 l0 x12_1).f1.f1))).trans hx103_4; replace hx103_0 := (cell_far (p := ⟨g102, 3, none⟩) (by first | (rw [add_block]; exact hn103_3) | (show (Addr.add _ _).block ≠ _; rw [add_block]; exact hn103_3) | exact hn103_3) (.int .i64 ((rd_T54 l0 x12_1).f2.f0))).trans hx103_0; replace hx103_1 := (cell_far (p := ⟨g102, 3, none⟩) (by first | (rw [add_block]; exact hn103_3) | (show (Addr.add _ _).block ≠ _; rw [add_block]; exact hn103_3) | exact hn103_3) (.int .i64 ((rd_T54 l0 x12_1).f2.f0))).trans hx103_1; replace hx103_2 := (cell_far (p := ⟨g102, 3, none⟩) (by first | (rw [add_block]; exact hn103_3) | (show (Addr.add _ _).block ≠ _; rw [add_block]; exact hn103_3) | exact hn103_3) (.int .i64 ((rd_T54 l0 x12_1).f2.f0))).trans hx103_2; replace hx103_3 := (cell_far (p := ⟨g102, 3, none⟩) (by first | (rw [add_block]; exact hn103_3) | (show (Addr.add _ _).block ≠ _; rw [add_block]; exact hn103_3) | exact hn103_3) (.int .i64 ((rd_T54 l0 x12_1).f2.f0))).trans hx103_3; replace hx103_4 := (cell_far (p := ⟨g102, 3, none⟩) (by first | (rw [add_block]; exact hn103_3) | (show (Addr.add _ _).block ≠ _; rw [add_block]; exact hn103_3) | exact hn103_3) (.int .i64 ((rd_T54 l0 x12_1).f2.f0))).trans hx103_4; replace hx103_0 := (cell_far (p := ⟨g102, 4, none⟩) (by first | (rw [add_block]; exact hn103_4) | (show (Addr.add _ _).block ≠ _; rw [add_block]; exact hn103_4) | exact hn103_4) (.int .i64 ((rd_T54 l0 x12_1).f2.f1))).trans hx103_0; replace hx103_1 := (cell_far (p := ⟨g102, 4, none⟩) (by first | (rw [add_block]; exact hn103_4) | (show (Addr.add _ _).block ≠ _; rw [add_block]; exact hn103_4) | exact hn103_4) (.int .i64 ((rd_T54 l0 x12_1).f2.f1))).trans hx103_1; replace hx103_2 := (cell_far (p := ⟨g102, 4, none⟩) (by first | (rw [add_block]; exact hn103_4) | (show (Addr.add _ _).block ≠ _; rw [add_block]; exact hn103_4) | exact hn103_4) (.int .i64 ((rd_T54 l0 x12_1).f2.f1))).trans hx103_2; replace hx103_3 := (cell_far (p := ⟨g102, 4, none⟩) (by first | (rw [add_block]; exact hn103_4) | (show (Addr.add _ _).block ≠ _; rw [add_block]; exact hn103_4) | exact hn103_4) (.int .i64 ((rd_T54 l0 x12_1).f2.f1))).trans hx103_3; replace hx103_4 := (cell_far (p := ⟨g102, 4, none⟩) (by first | (rw [add_block]; exact hn103_4) | (show (Addr.add _ _).block ≠ _; rw [add_block]; exact hn103_4) | exact hn103_4) (.int .i64 ((rd_T54 l0 x12_1).f2.f1))).trans hx103_4; clear hn103_0 hn103_1 hn103_2 hn103_3 hn103_4; replace p103 := eq_true p103; replace q103 := eq_true q103) | ((with_reducible refine ga 6 rfl ?_); refine bxe (cs := #[.int .i64 0, .int .i64 0, .int .i64 0, .int .i64 0, .int .i64 0]) (t := 54) ?_; intro g104 hg w12 hbox hb; replace HO_3 := aK (Kd.R_below (pR ((Kd.R_mono (Kd.R_far (p := ⟨g102, 4, none⟩) (Kd.R_far (p := ⟨g102, 3, none⟩) (Kd.R_far (p := ⟨g102, 2, none⟩) (Kd.R_far (p := ⟨g102, 1, none⟩) (Kd.R_far (p := ⟨g102, 0, none⟩) (Kd.R_types HO_3.out B102.out (by decide)) (fun _ hk => hk.2) (.int .i64 ((rd_T54 l0 x12_1).f0))) (fun _ hk => hk.2) (.int .i64 ((rd_T54 l0 x12_1).f1.f0))) (fun _ hk => hk.2) (.int .i64 ((rd_T54 l0 x12_1).f1.f1))) (fun _ hk => hk.2) (.int .i64 ((rd_T54 l0 x12_1).f2.f0))) (fun _ hk => hk.2) (.int .i64 ((rd_T54 l0 x12_1).f2.f1))) (fun _ h_ => h_.1)))) hb); have n1_ := aK (blk_below (g := g102) (o := .cells #[.int .i64 ((rd_T54 l0 x12_1).f0), .int .i64 ((rd_T54 l0 x12_1).f1.f0), .int .i64 ((rd_T54 l0 x12_1).f1.f1), .int .i64 ((rd_T54 l0 x12_1).f2.f0), .int .i64 ((rd_T54 l0 x12_1).f2.f1)] 54 (0, 0)) (by refine bq #[.int .i64 ((rd_T54 l0 x12_1).f0), .int .i64 ((rd_T54 l0 x12_1).f1.f0), .int .i64 ((rd_T54 l0 x12_1).f1.f1), .int .i64 ((rd_T54 l0 x12_1).f2.f0), .int .i64 0] 4 ?_; refine bq #[.int .i64 ((rd_T54 l0 x12_1).f0), .int .i64 ((rd_T54 l0 x12_1).f1.f0), .int .i64 ((rd_T54 l0 x12_1).f1.f1), .int .i64 0, .int .i64 0] 3 ?_; refine bq #[.int .i64 ((rd_T54 l0 x12_1).f0), .int .i64 ((rd_T54 l0 x12_1).f1.f0), .int .i64 0, .int .i64 0, .int .i64 0] 2 ?_; refine bq #[.int .i64 ((rd_T54 l0 x12_1).f0), .int .i64 0, .int .i64 0, .int .i64 0, .int .i64 0] 1 ?_; refine bq #[.int .i64 0, .int .i64 0, .int .i64 0, .int .i64 0, .int .i64 0] 0 ?_; refine bk ?_; exact B102.out) hb); have B104 := aK (hbox); have GW104 := gA hg HB; have N102_104 := aK (nL hg (a := g102) (o := .cells #[.int .i64 ((rd_T54 l0 x12_1).f0), .int .i64 ((rd_T54 l0 x12_1).f1.f0), .int .i64 ((rd_T54 l0 x12_1).f1.f1), .int .i64 ((rd_T54 l0 x12_1).f2.f0), .int .i64 ((rd_T54 l0 x12_1).f2.f1)] 54 (0, 0)) (by refine bq #[.int .i64 ((rd_T54 l0 x12_1).f0), .int .i64 ((rd_T54 l0 x12_1).f1.f0), .int .i64 ((rd_T54 l0 x12_1).f1.f1), .int .i64 ((rd_T54 l0 x12_1).f2.f0), .int .i64 0] 4 ?_; refine bq #[.int .i64 ((rd_T54 l0 x12_1).f0), .int .i64 ((rd_T54 l0 x12_1).f1.f0), .int .i64 ((rd_T54 l0 x12_1).f1.f1), .int .i64 0, .int .i64 0] 3 ?_; refine bq #[.int .i64 ((rd_T54 l0 x12_1).f0), .int .i64 ((rd_T54 l0 x12_1).f1.f0), .int .i64 0, .int .i64 0, .int .i64 0] 2 ?_; refine bq #[.int .i64 ((rd_T54 l0 x12_1).f0), .int .i64 0, .int .i64 0, .int .i64 0, .int .i64 0] 1 ?_; refine bq #[.int .i64 0, .int .i64 0, .int .i64 0, .int .i64 0, .int .i64 0] 0 ?_; refine bk ?_; exact B102.out)); have N104_102 := aK (nG hg (a := g102) (o := .cells #[.int .i64 ((rd_T54 l0 x12_1).f0), .int .i64 ((rd_T54 l0 x12_1).f1.f0), .int .i64 ((rd_T54 l0 x12_1).f1.f1), .int .i64 ((rd_T54 l0 x12_1).f2.f0), .int .i64 ((rd_T54 l0 x12_1).f2.f1)] 54 (0, 0)) (by refine bq #[.int .i64 ((rd_T54 l0 x12_1).f0), .int .i64 ((rd_T54 l0 x12_1).f1.f0), .int .i64 ((rd_T54 l0 x12_1).f1.f1), .int .i64 ((rd_T54 l0 x12_1).f2.f0), .int .i64 0] 4 ?_; refine bq #[.int .i64 ((rd_T54 l0 x12_1).f0), .int .i64 ((rd_T54 l0 x12_1).f1.f0), .int .i64 ((rd_T54 l0 x12_1).f1.f1), .int .i64 0, .int .i64 0] 3 ?_; refine bq #[.int .i64 ((rd_T54 l0 x12_1).f0), .int .i64 ((rd_T54 l0 x12_1).f1.f0), .int .i64 0, .int .i64 0, .int .i64 0] 2 ?_; refine bq #[.int .i64 ((rd_T54 l0 x12_1).f0), .int .i64 0, .int .i64 0, .int .i64 0, .int .i64 0] 1 ?_; refine bq #[.int .i64 0, .int .i64 0, .int .i64 0, .int .i64 0, .int .i64 0] 0 ?_; refine bk ?_; exact B102.out)); replace HB := bS HB hb; clear B102; have B102 := n1_; clear n1_ hb hbox hg; obtain ⟨_, _⟩ := nB N104_102; obtain ⟨z14_0, z14_1, z14_2, z14_3, z14_4, y14_0, y14_1, y14_2, y14_3, y14_4⟩ := bc5 B104.out; obtain ⟨z15_0, z15_1, z15_2, z15_3, z15_4, y15_0, y15_1, y15_2, y15_3, y15_4⟩ := bc5 B102.out))
   go_roundg k1
   case measure => have := HK1.out; omega
   case rel => exact ⟨(x3_1), (wrap64 (x12_1 + 1)), (by first | rfl | (simp; done) | (simp [*]; done)), H', ⟨by have := HK1.out; omega⟩, ⟨by (with_reducible repeat (first | apply Kd.R_alloc | apply Kd.R_drewN | apply Kd.R_drew)); exact Kd.R_mono (Kd.R_far (p := ⟨g104, 4, none⟩) (Kd.R_far (p := ⟨g104, 3, none⟩) (Kd.R_far (p := ⟨g104, 2, none⟩) (Kd.R_far (p := ⟨g104, 1, none⟩) (Kd.R_far (p := ⟨g104, 0, none⟩) (Kd.R_types HO_3.out B104.out (by decide)) (fun _ hk => hk.2) (.int .i64 ((rd_T54 l0 (ji6)).f0))) (fun _ hk => hk.2) (.int .i64 ((rd_T54 l0 (ji6)).f1.f0))) (fun _ hk => hk.2) (.int .i64 ((rd_T54 l0 (ji6)).f1.f1))) (fun _ hk => hk.2) (.int .i64 ((rd_T54 l0 (ji6)).f2.f0))) (fun _ hk => hk.2) (.int .i64 ((rd_T54 l0 (ji6)).f2.f1))) (fun _ hk => trivial)⟩, ⟨pT HB.out⟩⟩
  rw [if_neg c9] at H
  have c9b0 : ((wrap64 (((rd_T54 l0 x12_1).f2.f0) - ((rd_T54 l0 x12_1).f1.f0))) == (wrap64 (((rd_T54 l0 (ji6)).f2.f0) - ((rd_T54 l0 (ji6)).f1.f0)))) = false := beq_eq_false_iff_ne.mpr c9
  have c9b1 : ((wrap64 (((rd_T54 l0 x12_1).f2.f0) - ((rd_T54 l0 x12_1).f1.f0))) != (wrap64 (((rd_T54 l0 (ji6)).f2.f0) - ((rd_T54 l0 (ji6)).f1.f0)))) = true := bne_iff_ne.mpr c9
  by_cases c16 : x3_1.length < 8796093022208
  rotate_left
  ·
   rw [if_neg c16] at H
   exact absurd H (by simp)
  rw [if_pos c16] at H; have LMc16 := aK c16; clear c16
  obtain ⟨y105, hy105⟩ : ∃ y_ : List (S48), y_ = (x3_1 ++ [(⟨(rd_T54 l0 x12_1).f1.f0, (rd_T54 l0 x12_1).f1.f1⟩ : S48)]) := ⟨_, rfl⟩
  replace H : (impl_cornersOf.l0 k1 l0 y105 l0 (l0.length : Int) (wrap64 (x12_1 + 1))) = some r := by first | (rw [hy105]; first | with_reducible exact H | with_reducible exact (oS H :)) | with_reducible exact (oS H :) | with_reducible exact H | exact H
  have Ny105 := aK hy105; clear hy105; have H' := aK H; clear H
  have p101 : 0 ≤ (x12_1 : Int) := dA
  have q101 : x12_1 < (l0.length : Int) := dA
  obtain ⟨ad101, e101, hx101_0, hx101_1, hx101_2, hx101_3, hx101_4⟩ := at_T54 HR0.out x12_1 p101 q101; cases e101; replace hx101_0 := (HB.out.cell (World.block_lt_of_cell? w _ hx101_0)).trans hx101_0; replace hx101_1 := (HB.out.cell (World.block_lt_of_cell? w _ hx101_1)).trans hx101_1; replace hx101_2 := (HB.out.cell (World.block_lt_of_cell? w _ hx101_2)).trans hx101_2; replace hx101_3 := (HB.out.cell (World.block_lt_of_cell? w _ hx101_3)).trans hx101_3; replace hx101_4 := (HB.out.cell (World.block_lt_of_cell? w _ hx101_4)).trans hx101_4; replace p101 := eq_true p101; replace q101 := eq_true q101
  go_wp2_with (first | ((with_reducible refine ga 5 rfl ?_); refine bxa #[.int .i64 0, .int .i64 0, .int .i64 0, .int .i64 0, .int .i64 0] 54 ?_; intro g102 hg w17 B102 hb; replace HO_3 := rb HO_3 hb; have GW102 := gA hg HB; replace HB := bS HB hb; clear hb hg; obtain ⟨z18_0, z18_1, z18_2, z18_3, z18_4, y18_0, y18_1, y18_2, y18_3, y18_4⟩ := bc5 B102.out; have p103 : 0 ≤ ((ji6) : Int) := dA; have q103 : (ji6) < (l0.length : Int) := dA; obtain ⟨ad103, e103, hx103_0, hx103_1, hx103_2, hx103_3, hx103_4⟩ := at_T54 HR0.out (ji6) p103 q103; obtain rfl : ad101 = ad103 := (by injection e103); have hn103_0 : ad101.block ≠ g102 := Nat.ne_of_lt (Nat.lt_of_lt_of_le (by have := World.block_lt_of_cell? _ _ hx103_0; first | rwa [add_block] at this | exact this) GW102.out); have hn103_1 : ad101.block ≠ g102 := Nat.ne_of_lt (Nat.lt_of_lt_of_le (by have := World.block_lt_of_cell? _ _ hx103_0; first | rwa [add_block] at this | exact this) GW102.out); have hn103_2 : ad101.block ≠ g102 := Nat.ne_of_lt (Nat.lt_of_lt_of_le (by have := World.block_lt_of_cell? _ _ hx103_0; first | rwa [add_block] at this | exact this) GW102.out); have hn103_3 : ad101.block ≠ g102 := Nat.ne_of_lt (Nat.lt_of_lt_of_le (by have := World.block_lt_of_cell? _ _ hx103_0; first | rwa [add_block] at this | exact this) GW102.out); have hn103_4 : ad101.block ≠ g102 := Nat.ne_of_lt (Nat.lt_of_lt_of_le (by have := World.block_lt_of_cell? _ _ hx103_0; first | rwa [add_block] at this | exact this) GW102.out); replace hx103_0 := (HB.out.cell (World.block_lt_of_cell? w _ hx103_0)).trans hx103_0; replace hx103_1 := (HB.out.cell (World.block_lt_of_cell? w _ hx103_1)).trans hx103_1; replace hx103_2 := (HB.out.cell (World.block_lt_of_cell? w _ hx103_2)).trans hx103_2; replace hx103_3 := (HB.out.cell (World.block_lt_of_cell? w _ hx103_3)).trans hx103_3; replace hx103_4 := (HB.out.cell (World.block_lt_of_cell? w _ hx103_4)).trans hx103_4; replace hx103_0 := (cell_far (p := ⟨g102, 0, none⟩) (by first | (rw [add_block]; exact hn103_0) | (show (Addr.add _ _).block ≠ _; rw [add_block]; exact hn103_0) | exact hn103_0) (.int .i64 ((rd_T54 l0 x12_1).f0))).trans hx103_0; replace hx103_1 := (cell_far (p := ⟨g102, 0, none⟩) (by first | (rw [add_block]; exact hn103_0) | (show (Addr.add _ _).block ≠ _; rw [add_block]; exact hn103_0) | exact hn103_0) (.int .i64 ((rd_T54 l0 x12_1).f0))).trans hx103_1; replace hx103_2 := (cell_far (p := ⟨g102, 0, none⟩) (by first | (rw [add_block]; exact hn103_0) | (show (Addr.add _ _).block ≠ _; rw [add_block]; exact hn103_0) | exact hn103_0) (.int .i64 ((rd_T54 l0 x12_1).f0))).trans hx103_2; replace hx103_3 := (cell_far (p := ⟨g102, 0, none⟩) (by first | (rw [add_block]; exact hn103_0) | (show (Addr.add _ _).block ≠ _; rw [add_block]; exact hn103_0) | exact hn103_0) (.int .i64 ((rd_T54 l0 x12_1).f0))).trans hx103_3; replace hx103_4 := (cell_far (p := ⟨g102, 0, none⟩) (by first | (rw [add_block]; exact hn103_0) | (show (Addr.add _ _).block ≠ _; rw [add_block]; exact hn103_0) | exact hn103_0) (.int .i64 ((rd_T54 l0 x12_1).f0))).trans hx103_4; replace hx103_0 := (cell_far (p := ⟨g102, 1, none⟩) (by first | (rw [add_block]; exact hn103_1) | (show (Addr.add _ _).block ≠ _; rw [add_block]; exact hn103_1) | exact hn103_1) (.int .i64 ((rd_T54 l0 x12_1).f1.f0))).trans hx103_0; replace hx103_1 := (cell_far (p := ⟨g102, 1, none⟩) (by first | (rw [add_block]; exact hn103_1) | (show (Addr.add _ _).block ≠ _; rw [add_block]; exact hn103_1) | exact hn103_1) (.int .i64 ((rd_T54 l0 x12_1).f1.f0))).trans hx103_1; replace hx103_2 := (cell_far (p := ⟨g102, 1, none⟩) (by first | (rw [add_block]; exact hn103_1) | (show (Addr.add _ _).block ≠ _; rw [add_block]; exact hn103_1) | exact hn103_1) (.int .i64 ((rd_T54 l0 x12_1).f1.f0))).trans hx103_2; replace hx103_3 := (cell_far (p := ⟨g102, 1, none⟩) (by first | (rw [add_block]; exact hn103_1) | (show (Addr.add _ _).block ≠ _; rw [add_block]; exact hn103_1) | exact hn103_1) (.int .i64 ((rd_T54 l0 x12_1).f1.f0))).trans hx103_3; replace hx103_4 := (cell_far (p := ⟨g102, 1, none⟩) (by first | (rw [add_block]; exact hn103_1) | (show (Addr.add _ _).block ≠ _; rw [add_block]; exact hn103_1) | exact hn103_1) (.int .i64 ((rd_T54 l0 x12_1).f1.f0))).trans hx103_4; replace hx103_0 := (cell_far (p := ⟨g102, 2, none⟩) (by first | (rw [add_block]; exact hn103_2) | (show (Addr.add _ _).block ≠ _; rw [add_block]; exact hn103_2) | exact hn103_2) (.int .i64 ((rd_T54 l0 x12_1).f1.f1))).trans hx103_0; replace hx103_1 := (cell_far (p := ⟨g102, 2, none⟩) (by first | (rw [add_block]; exact hn103_2) | (show (Addr.add _ _).block ≠ _; rw [add_block]; exact hn103_2) | exact hn103_2) (.int .i64 ((rd_T54 l0 x12_1).f1.f1))).trans hx103_1; replace hx103_2 := (cell_far (p := ⟨g102, 2, none⟩) (by first | (rw [add_block]; exact hn103_2) | (show (Addr.add _ _).block ≠ _; rw [add_block]; exact hn103_2) | exact hn103_2) (.int .i64 ((rd_T54 l0 x12_1).f1.f1))).trans hx103_2; replace hx103_3 := (cell_far (p := ⟨g102, 2, none⟩) (by first | (rw [add_block]; exact hn103_2) | (show (Addr.add _ _).block ≠ _; rw [add_block]; exact hn103_2) | exact hn103_2) (.int .i64 ((rd_T54 l0 x12_1).f1.f1))).trans hx103_3; replace hx103_4 := (cell_far (p := ⟨g102, 2, none⟩) (by first | (rw [add_block]; exact hn103_2) | (show (Addr.add _ _).block ≠ _; rw [add_block]; exact hn103_2) | exact hn103_2) (.int .i64 ((rd_T54 l0 x12_1).f1.f1))).trans hx103_4; replace hx103_0 := (cell_far (p := ⟨g102, 3, none⟩) (by first | (rw [add_block]; exact hn103_3) | (show (Addr.add _ _).block ≠ _; rw [add_block]; exact hn103_3) | exact hn103_3) (.int .i64 ((rd_T54 l0 x12_1).f2.f0))).trans hx103_0; replace hx103_1 := (cell_far (p := ⟨g102, 3, none⟩) (by first | (rw [add_block]; exact hn103_3) | (show (Addr.add _ _).block ≠ _; rw [add_block]; exact hn103_3) | exact hn103_3) (.int .i64 ((rd_T54 l0 x12_1).f2.f0))).trans hx103_1; replace hx103_2 := (cell_far (p := ⟨g102, 3, none⟩) (by first | (rw [add_block]; exact hn103_3) | (show (Addr.add _ _).block ≠ _; rw [add_block]; exact hn103_3) | exact hn103_3) (.int .i64 ((rd_T54 l0 x12_1).f2.f0))).trans hx103_2; replace hx103_3 := (cell_far (p := ⟨g102, 3, none⟩) (by first | (rw [add_block]; exact hn103_3) | (show (Addr.add _ _).block ≠ _; rw [add_block]; exact hn103_3) | exact hn103_3) (.int .i64 ((rd_T54 l0 x12_1).f2.f0))).trans hx103_3; replace hx103_4 := (cell_far (p := ⟨g102, 3, none⟩) (by first | (rw [add_block]; exact hn103_3) | (show (Addr.add _ _).block ≠ _; rw [add_block]; exact hn103_3) | exact hn103_3) (.int .i64 ((rd_T54 l0 x12_1).f2.f0))).trans hx103_4; replace hx103_0 := (cell_far (p := ⟨g102, 4, none⟩) (by first | (rw [add_block]; exact hn103_4) | (show (Addr.add _ _).block ≠ _; rw [add_block]; exact hn103_4) | exact hn103_4) (.int .i64 ((rd_T54 l0 x12_1).f2.f1))).trans hx103_0; replace hx103_1 := (cell_far (p := ⟨g102, 4, none⟩) (by first | (rw [add_block]; exact hn103_4) | (show (Addr.add _ _).block ≠ _; rw [add_block]; exact hn103_4) | exact hn103_4) (.int .i64 ((rd_T54 l0 x12_1).f2.f1))).trans hx103_1; replace hx103_2 := (cell_far (p := ⟨g102, 4, none⟩) (by first | (rw [add_block]; exact hn103_4) | (show (Addr.add _ _).block ≠ _; rw [add_block]; exact hn103_4) | exact hn103_4) (.int .i64 ((rd_T54 l0 x12_1).f2.f1))).trans hx103_2; replace hx103_3 := (cell_far (p := ⟨g102, 4, none⟩) (by first | (rw [add_block]; exact hn103_4) | (show (Addr.add _ _).block ≠ _; rw [add_block]; exact hn103_4) | exact hn103_4) (.int .i64 ((rd_T54 l0 x12_1).f2.f1))).trans hx103_3; replace hx103_4 := (cell_far (p := ⟨g102, 4, none⟩) (by first | (rw [add_block]; exact hn103_4) | (show (Addr.add _ _).block ≠ _; rw [add_block]; exact hn103_4) | exact hn103_4) (.int .i64 ((rd_T54 l0 x12_1).f2.f1))).trans hx103_4; clear hn103_0 hn103_1 hn103_2 hn103_3 hn103_4; replace p103 := eq_true p103; replace q103 := eq_true q103) | ((with_reducible refine ga 6 rfl ?_); refine bxe (cs := #[.int .i64 0, .int .i64 0, .int .i64 0, .int .i64 0, .int .i64 0]) (t := 54) ?_; intro g104 hg w19 hbox hb; replace HO_3 := aK (Kd.R_below (pR ((Kd.R_mono (Kd.R_far (p := ⟨g102, 4, none⟩) (Kd.R_far (p := ⟨g102, 3, none⟩) (Kd.R_far (p := ⟨g102, 2, none⟩) (Kd.R_far (p := ⟨g102, 1, none⟩) (Kd.R_far (p := ⟨g102, 0, none⟩) (Kd.R_types HO_3.out B102.out (by decide)) (fun _ hk => hk.2) (.int .i64 ((rd_T54 l0 x12_1).f0))) (fun _ hk => hk.2) (.int .i64 ((rd_T54 l0 x12_1).f1.f0))) (fun _ hk => hk.2) (.int .i64 ((rd_T54 l0 x12_1).f1.f1))) (fun _ hk => hk.2) (.int .i64 ((rd_T54 l0 x12_1).f2.f0))) (fun _ hk => hk.2) (.int .i64 ((rd_T54 l0 x12_1).f2.f1))) (fun _ h_ => h_.1)))) hb); have n1_ := aK (blk_below (g := g102) (o := .cells #[.int .i64 ((rd_T54 l0 x12_1).f0), .int .i64 ((rd_T54 l0 x12_1).f1.f0), .int .i64 ((rd_T54 l0 x12_1).f1.f1), .int .i64 ((rd_T54 l0 x12_1).f2.f0), .int .i64 ((rd_T54 l0 x12_1).f2.f1)] 54 (0, 0)) (by refine bq #[.int .i64 ((rd_T54 l0 x12_1).f0), .int .i64 ((rd_T54 l0 x12_1).f1.f0), .int .i64 ((rd_T54 l0 x12_1).f1.f1), .int .i64 ((rd_T54 l0 x12_1).f2.f0), .int .i64 0] 4 ?_; refine bq #[.int .i64 ((rd_T54 l0 x12_1).f0), .int .i64 ((rd_T54 l0 x12_1).f1.f0), .int .i64 ((rd_T54 l0 x12_1).f1.f1), .int .i64 0, .int .i64 0] 3 ?_; refine bq #[.int .i64 ((rd_T54 l0 x12_1).f0), .int .i64 ((rd_T54 l0 x12_1).f1.f0), .int .i64 0, .int .i64 0, .int .i64 0] 2 ?_; refine bq #[.int .i64 ((rd_T54 l0 x12_1).f0), .int .i64 0, .int .i64 0, .int .i64 0, .int .i64 0] 1 ?_; refine bq #[.int .i64 0, .int .i64 0, .int .i64 0, .int .i64 0, .int .i64 0] 0 ?_; refine bk ?_; exact B102.out) hb); have B104 := aK (hbox); have GW104 := gA hg HB; have N102_104 := aK (nL hg (a := g102) (o := .cells #[.int .i64 ((rd_T54 l0 x12_1).f0), .int .i64 ((rd_T54 l0 x12_1).f1.f0), .int .i64 ((rd_T54 l0 x12_1).f1.f1), .int .i64 ((rd_T54 l0 x12_1).f2.f0), .int .i64 ((rd_T54 l0 x12_1).f2.f1)] 54 (0, 0)) (by refine bq #[.int .i64 ((rd_T54 l0 x12_1).f0), .int .i64 ((rd_T54 l0 x12_1).f1.f0), .int .i64 ((rd_T54 l0 x12_1).f1.f1), .int .i64 ((rd_T54 l0 x12_1).f2.f0), .int .i64 0] 4 ?_; refine bq #[.int .i64 ((rd_T54 l0 x12_1).f0), .int .i64 ((rd_T54 l0 x12_1).f1.f0), .int .i64 ((rd_T54 l0 x12_1).f1.f1), .int .i64 0, .int .i64 0] 3 ?_; refine bq #[.int .i64 ((rd_T54 l0 x12_1).f0), .int .i64 ((rd_T54 l0 x12_1).f1.f0), .int .i64 0, .int .i64 0, .int .i64 0] 2 ?_; refine bq #[.int .i64 ((rd_T54 l0 x12_1).f0), .int .i64 0, .int .i64 0, .int .i64 0, .int .i64 0] 1 ?_; refine bq #[.int .i64 0, .int .i64 0, .int .i64 0, .int .i64 0, .int .i64 0] 0 ?_; refine bk ?_; exact B102.out)); have N104_102 := aK (nG hg (a := g102) (o := .cells #[.int .i64 ((rd_T54 l0 x12_1).f0), .int .i64 ((rd_T54 l0 x12_1).f1.f0), .int .i64 ((rd_T54 l0 x12_1).f1.f1), .int .i64 ((rd_T54 l0 x12_1).f2.f0), .int .i64 ((rd_T54 l0 x12_1).f2.f1)] 54 (0, 0)) (by refine bq #[.int .i64 ((rd_T54 l0 x12_1).f0), .int .i64 ((rd_T54 l0 x12_1).f1.f0), .int .i64 ((rd_T54 l0 x12_1).f1.f1), .int .i64 ((rd_T54 l0 x12_1).f2.f0), .int .i64 0] 4 ?_; refine bq #[.int .i64 ((rd_T54 l0 x12_1).f0), .int .i64 ((rd_T54 l0 x12_1).f1.f0), .int .i64 ((rd_T54 l0 x12_1).f1.f1), .int .i64 0, .int .i64 0] 3 ?_; refine bq #[.int .i64 ((rd_T54 l0 x12_1).f0), .int .i64 ((rd_T54 l0 x12_1).f1.f0), .int .i64 0, .int .i64 0, .int .i64 0] 2 ?_; refine bq #[.int .i64 ((rd_T54 l0 x12_1).f0), .int .i64 0, .int .i64 0, .int .i64 0, .int .i64 0] 1 ?_; refine bq #[.int .i64 0, .int .i64 0, .int .i64 0, .int .i64 0, .int .i64 0] 0 ?_; refine bk ?_; exact B102.out)); replace HB := bS HB hb; clear B102; have B102 := n1_; clear n1_ hb hbox hg; obtain ⟨_, _⟩ := nB N104_102; obtain ⟨z21_0, z21_1, z21_2, z21_3, z21_4, y21_0, y21_1, y21_2, y21_3, y21_4⟩ := bc5 B104.out; obtain ⟨z22_0, z22_1, z22_2, z22_3, z22_4, y22_0, y22_1, y22_2, y22_3, y22_4⟩ := bc5 B102.out) | ((with_reducible refine gate_builtin (b := .append) (xs := #[.tmp 43, .tmp 46]) rfl ?_); at_builtin; refine Kd.R_append k48 (w0 := w) w.heap.size rfl (.tmp 43) (.tmp 46) 36 48 (.agg #[(.int .i64 0), (.int .i64 0)]) 16 rfl Try.underlying36 info48 rfl (by decide) (by omega) u3 x3_1 (⟨(rd_T54 l0 x12_1).f1.f0, (rd_T54 l0 x12_1).f1.f1⟩ : S48) [.int .i64 ((rd_T54 l0 x12_1).f1.f0), .int .i64 ((rd_T54 l0 x12_1).f1.f1)] (fun _ => True) (fun _ => False) rfl (by first | (go_simp; done) | (go_simp; rfl)) ?aP (fun _ hk => hk.elim) ?aF ?aO ?aB ?aS ?aL ?_; (case aP => exact k48_mkM _ _ _ (⟨(rd_T54 l0 x12_1).f1.f0, (rd_T54 l0 x12_1).f1.f1⟩ : S48)); (case aB => exact (pS HB.out)); (case aF => exact (fun _ _ => trivial)); (case aO => exact (pR (Kd.R_mono (Kd.R_far (p := ⟨g104, 4, none⟩) (Kd.R_far (p := ⟨g104, 3, none⟩) (Kd.R_far (p := ⟨g104, 2, none⟩) (Kd.R_far (p := ⟨g104, 1, none⟩) (Kd.R_far (p := ⟨g104, 0, none⟩) (Kd.R_types HO_3.out B104.out (by decide)) (fun _ hk => hk.2) (.int .i64 ((rd_T54 l0 (ji6)).f0))) (fun _ hk => hk.2) (.int .i64 ((rd_T54 l0 (ji6)).f1.f0))) (fun _ hk => hk.2) (.int .i64 ((rd_T54 l0 (ji6)).f1.f1))) (fun _ hk => hk.2) (.int .i64 ((rd_T54 l0 (ji6)).f2.f0))) (fun _ hk => hk.2) (.int .i64 ((rd_T54 l0 (ji6)).f2.f1))) (fun _ hk => trivial)))); (case aS => exact (below_size (pS HB.out))); (case aL => have := LMc16.out; omega); intro v106 w23 ho hb hg hat; rw [← Ny105.out] at ho; replace B102 := aK (blk_grown (g := g102) (o := .cells #[.int .i64 ((rd_T54 l0 x12_1).f0), .int .i64 ((rd_T54 l0 x12_1).f1.f0), .int .i64 ((rd_T54 l0 x12_1).f1.f1), .int .i64 ((rd_T54 l0 x12_1).f2.f0), .int .i64 ((rd_T54 l0 x12_1).f2.f1)] 54 (0, 0)) (by refine bg N102_104 ?_; refine bg N102_104 ?_; refine bg N102_104 ?_; refine bg N102_104 ?_; refine bg N102_104 ?_; refine bk ?_; exact B102.out) hg (Kd.R_ne HO_3.out B102.out (by decide))); replace B104 := aK (blk_grown (g := g104) (o := .cells #[.int .i64 ((rd_T54 l0 (ji6)).f0), .int .i64 ((rd_T54 l0 (ji6)).f1.f0), .int .i64 ((rd_T54 l0 (ji6)).f1.f1), .int .i64 ((rd_T54 l0 (ji6)).f2.f0), .int .i64 ((rd_T54 l0 (ji6)).f2.f1)] 54 (0, 0)) (by refine bq #[.int .i64 ((rd_T54 l0 (ji6)).f0), .int .i64 ((rd_T54 l0 (ji6)).f1.f0), .int .i64 ((rd_T54 l0 (ji6)).f1.f1), .int .i64 ((rd_T54 l0 (ji6)).f2.f0), .int .i64 0] 4 ?_; refine bq #[.int .i64 ((rd_T54 l0 (ji6)).f0), .int .i64 ((rd_T54 l0 (ji6)).f1.f0), .int .i64 ((rd_T54 l0 (ji6)).f1.f1), .int .i64 0, .int .i64 0] 3 ?_; refine bq #[.int .i64 ((rd_T54 l0 (ji6)).f0), .int .i64 ((rd_T54 l0 (ji6)).f1.f0), .int .i64 0, .int .i64 0, .int .i64 0] 2 ?_; refine bq #[.int .i64 ((rd_T54 l0 (ji6)).f0), .int .i64 0, .int .i64 0, .int .i64 0, .int .i64 0] 1 ?_; refine bq #[.int .i64 0, .int .i64 0, .int .i64 0, .int .i64 0, .int .i64 0] 0 ?_; refine bk ?_; exact B104.out) hg (Kd.R_ne HO_3.out B104.out (by decide))); replace HB := aK (hb); have HO107 := aK (ho); clear HO_3; clear ho hb hg hat))
  go_roundg k1
  case measure => have := HK1.out; omega
  case rel => exact ⟨(y105), (wrap64 (x12_1 + 1)), (by first | rfl | (simp; done) | (simp [*]; done)), H', ⟨by have := HK1.out; omega⟩, ⟨pR HO107.out⟩, ⟨pT HB.out⟩⟩
 rw [if_neg c2] at H
 have c2b0 : decide (x12_1 < (l0.length : Int)) = false := decide_eq_false c2
 clear c2
 have H' := aK H
 clear H
 obtain ⟨Ao24, co24, eo24⟩ := Kd.R_slice HO_3.out
 subst eo24
 go_wp2
 go_loopg [7, 51] k1 (fun kq v7 v51 w' => ∃ (x7_2 : Int) (x51_2 : Int), v7 = .int .i64 x7_2 ∧ v51 = .int .i64 x51_2 ∧ Aside0 (impl_cornersOf.l1 kq x3_1 x7_2 x3_1 (x3_1.length : Int) x51_2 = some r) ∧ Aside0 (kq ≤ k1) ∧ Aside0 (Kd.R k48 48 w' w.heap.size (fun _ => True) (.slice Ao24 x3_1.length co24) x3_1) ∧ Aside0 (Kd.R k48 48 w' w.heap.size (fun _ => True) (.slice Ao24 x3_1.length co24) x3_1) ∧ Aside0 (Below w.heap.size w w'))
 case atStart => exact ⟨(0), (0), (by first | rfl | (simp; done) | (simp [*]; done)), (by first | rfl | (simp; done) | (simp [*]; done)), H', ⟨Nat.le_refl _⟩, ⟨pR HO_3.out⟩, ⟨pR HO_3.out⟩, ⟨pT HB.out⟩⟩
 case round =>
 clear H'
 try clear c1
 try clear p1
 try clear q1
 try clear hx1
 try clear c2
 try clear c2b0
 try clear p2
 try clear c3
 try clear c3b0
 try clear c4
 try clear c4b0
 try clear c5
 try clear c5b0
 try clear c5b1
 try clear c5b2
 try clear p6
 try clear c7
 try clear c7b0
 try clear c8
 try clear c8b0
 try clear c9
 try clear c9b0
 try clear c9b1
 try clear p10
 try clear q10
 try clear hx10
 try clear c13
 try clear c16
 try clear c20
 try clear z11_0
 try clear z11_1
 try clear z11_2
 try clear z11_3
 try clear z11_4
 try clear z14_0
 try clear z14_1
 try clear z14_2
 try clear z14_3
 try clear z14_4
 try clear z15_0
 try clear z15_1
 try clear z15_2
 try clear z15_3
 try clear z15_4
 try clear z18_0
 try clear z18_1
 try clear z18_2
 try clear z18_3
 try clear z18_4
 try clear z21_0
 try clear z21_1
 try clear z21_2
 try clear z21_3
 try clear z21_4
 try clear z22_0
 try clear z22_1
 try clear z22_2
 try clear z22_3
 try clear z22_4
 try clear y11_0
 try clear y11_1
 try clear y11_2
 try clear y11_3
 try clear y11_4
 try clear y14_0
 try clear y14_1
 try clear y14_2
 try clear y14_3
 try clear y14_4
 try clear y15_0
 try clear y15_1
 try clear y15_2
 try clear y15_3
 try clear y15_4
 try clear y18_0
 try clear y18_1
 try clear y18_2
 try clear y18_3
 try clear y18_4
 try clear y21_0
 try clear y21_1
 try clear y21_2
 try clear y21_3
 try clear y21_4
 try clear y22_0
 try clear y22_1
 try clear y22_2
 try clear y22_3
 try clear y22_4
 try clear hx101_0
 try clear hx101_1
 try clear hx101_2
 try clear hx101_3
 try clear hx101_4
 try clear hx103_0
 try clear hx103_1
 try clear hx103_2
 try clear hx103_3
 try clear hx103_4
 try clear p101
 try clear p103
 try clear q101
 try clear q103
 obtain ⟨x7_2, x51_2, rfl, rfl, HA, HK2, HO_3, HO_49, HB⟩ := hrel
 cases gk with
 | zero => exact absurd HA.out (by simp [impl_cornersOf.l1])
 | succ k2 =>
 have H := HA.out
 clear HA
 simp only [impl_cornersOf.l1] at H
 by_cases c25 : x51_2 < (x3_1.length : Int)
 rotate_left
 ·
  rw [if_neg c25] at H
  have c25b0 : decide (x51_2 < (x3_1.length : Int)) = false := decide_eq_false c25
  clear c25
  by_cases d1 : 0 ≤ x7_2
  case neg => rw [if_neg d1] at H; exact absurd H (by simp)
  rw [if_pos d1] at H
  by_cases d2 : x7_2 ≤ (x3_1.length : Int)
  case neg => rw [if_neg d2] at H; exact absurd H (by simp)
  rw [if_pos d2] at H
  by_cases d3 : x3_1.length ≤ 400000
  case neg => rw [if_neg d3] at H; exact absurd H (by simp)
  rw [if_pos d3] at H; have H9 := aK (Option.some.inj H); clear H; obtain ⟨i0, hi0, _, hsz, _⟩ := info_parts info48
  have hroom : x3_1.length ≤ co24 := (Kd.R_reads' HO_3.out).2.1
  have hC : Kd.C k48 _ Ao24 x3_1.length x3_1 := (Kd.R_reads' HO_3.out).2.2
  have hcut1 := cut_from (P := Try.prog) 36 48 .i64 Try.underlying36 hi0 2 hsz Ao24 x3_1.length co24 x7_2 d1 d2; have hcut2 := cut_to (P := Try.prog) 36 48 .i64 Try.underlying36 hi0 Ao24 x3_1.length co24 x7_2 d1 d2 hroom
  obtain ⟨l1, hl1⟩ : ∃ y, y = x3_1.drop (x7_2 : Int).toNat := ⟨_, rfl⟩
  obtain ⟨l2, hl2⟩ : ∃ y, y = x3_1.take (x7_2 : Int).toNat := ⟨_, rfl⟩
  obtain ⟨A1, hA1⟩ : ∃ A1, A1 = (if co24 = (x7_2 : Int).toNat then Ao24 else (Ao24 : Option Addr).map (·.add ((x7_2 : Int).toNat * 2))) := ⟨_, rfl⟩
  obtain ⟨c1, hc1⟩ : ∃ c1, c1 = co24 - (x7_2 : Int).toNat := ⟨_, rfl⟩
  have hn1 : l1.length = x3_1.length - (x7_2 : Int).toNat := (by rw [hl1, List.length_drop])
  have hn2 : l2.length = (x7_2 : Int).toNat := (by rw [hl2, List.length_take]; omega)
  have hm1 : l1.length ≤ 400000 := by omega
  have hm2 : l2.length ≤ 400000 := by omega
  rw [← hl1, ← hl2] at H9
  have hr1 : Kd.C k48 wr A1 l1.length l1 := (by rw [hl1, hA1]; exact Kd.C_drop (m := (x7_2 : Int).toNat) (c := co24) hC (by omega) hroom)
  have hr2 : Kd.C k48 wr Ao24 l2.length l2 := (by rw [hl2]; exact Kd.C_take (m := (x7_2 : Int).toNat) hC (by omega))
  rw [← hn1, ← hA1, ← hc1] at hcut1; rw [← hn2] at hcut2; have hs1 := aK (Kd.C_drew hr1); have hs2 := aK (Kd.C_drew hr2); have HB2 := aK (below_drew1 HB.out); clear hr1 hr2 hC hi0 hsz hl1 hl2 hA1 hc1 hn1 hn2
  go_wp2_with fail
  go_still_tail 6, (by kernel_rfl)
  change wpList _ _ _ _ _ wr.drew
  generalize wr.drew = w2 at HB2 hs1 hs2 ⊢
  have IC := aK (concat_two A1 Ao24 c1 co24 w2.heap.size l1 l2 (w2.alloc (.cells #[.slice A1 l1.length c1, .slice Ao24 l2.length co24] 36 (0, 0))) (by show (w2.heap.push _)[w2.heap.size]? = _; exact Array.getElem?_push_size) (Kd.C_below hs1.out (below_alloc (Below.refl _ _) _)) (Kd.C_below hs2.out (below_alloc (Below.refl _ _) _)) hm1 hm2)
  clear hm1 hm2 HB HO_3
  go_wp2_with (first | (go_at_call 47; refine IC.out.mono ?_; rintro e_ w3 ⟨v3, rfl, hv_, hb_⟩; have HV3 := aK hv_; have HB3 := aK hb_; clear hv_ hb_))
  go_ret
  have hq := below_alloc HB2.out (.cells #[.slice A1 l1.length c1, .slice Ao24 l2.length co24] 36 (0, 0)); have h9 := H9.out
  rw [← h9]
  exact ⟨_, rfl, Kd.R_lower HV3.out hq.size, below_then hq hq.size HB3.out⟩
 rw [if_pos c25] at H
 have c25b0 : decide (x51_2 < (x3_1.length : Int)) = true := decide_eq_true c25
 clear c25
 by_cases c26 : 0 ≤ x51_2
 rotate_left
 ·
  rw [if_neg c26] at H
  exact absurd H (by simp)
 rw [if_pos c26] at H
 have c26b0 : decide (0 ≤ x51_2) = true := decide_eq_true c26
 clear c26
 by_cases c27 : x51_2 < (x3_1.length : Int)
 rotate_left
 ·
  rw [if_neg c27] at H
  exact absurd H (by simp)
 rw [if_pos c27] at H
 have c27b0 : decide (x51_2 < (x3_1.length : Int)) = true := decide_eq_true c27
 clear c27
 by_cases c28 : 0 ≤ x7_2
 rotate_left
 ·
  rw [if_neg c28] at H
  exact absurd H (by simp)
 rw [if_pos c28] at H
 have c28b0 : decide (0 ≤ x7_2) = true := decide_eq_true c28
 clear c28
 by_cases c29 : x7_2 < (x3_1.length : Int)
 rotate_left
 ·
  rw [if_neg c29] at H
  exact absurd H (by simp)
 rw [if_pos c29] at H
 have c29b0 : decide (x7_2 < (x3_1.length : Int)) = true := decide_eq_true c29
 clear c29
 replace H := oA H
 obtain ⟨t111, A30, H⟩ := H
 replace H : (if t111 < 0 then (impl_cornersOf.l1 k2 x3_1 x51_2 x3_1 (x3_1.length : Int) (wrap64 (x51_2 + 1))) else (impl_cornersOf.l1 k2 x3_1 x7_2 x3_1 (x3_1.length : Int) (wrap64 (x51_2 + 1)))) = some r := H
 by_cases c31 : t111 < 0
 ·
  rw [if_pos c31] at H
  have c31b0 : decide (t111 < 0) = true := decide_eq_true c31
  clear c31; have H' := aK H; clear H
  have p108 : 0 ≤ (x51_2 : Int) := dA
  have q108 : x51_2 < (x3_1.length : Int) := dA
  obtain ⟨ad108, e108, hx108_0, hx108_1⟩ := at_T48 (Kd.R_reads' HO_49.out).2.2 x51_2 p108 q108; cases e108; replace p108 := eq_true p108; replace q108 := eq_true q108
  try go_wp2_with (first | ((with_reducible refine ga 9 rfl ?_); refine bxa #[.int .i64 0, .int .i64 0] 48 ?_; intro g109 hg w32 B109 hb; replace HO_3 := aK (Kd.R_below (Kd.R_elderB (pR HO_3.out) g109 (Nat.le_of_eq hg.symm)) hb); replace HO_49 := aK (Kd.R_below (Kd.R_elderB (pR HO_49.out) g109 (Nat.le_of_eq hg.symm)) hb); have GW109 := gA hg HB; replace HB := bS HB hb; clear hb hg; obtain ⟨_, _, _, _⟩ := bc2 B109.out))
  obtain ⟨w34, e_⟩ : ∃ w_, w_ = (w32.setCell ⟨g109, 0, none⟩ (.int .i64 ((rd_T48 x3_1 x51_2).f0))).setCell ⟨g109, 1, none⟩ (.int .i64 ((rd_T48 x3_1 x51_2).f1)) := ⟨_, rfl⟩
  have n0_ : Aside0 (Kd.R k48 48 w34 w.heap.size (fun k_ => k_ ≠ g109) (.slice (some ad108) x3_1.length co24) x3_1) := ⟨by rw [e_]; exact pR (Kd.R_mono (Kd.R_far (p := ⟨g109, 1, none⟩) (Kd.R_far (p := ⟨g109, 0, none⟩) (Kd.R_mono HO_3.out (fun k_ hk => (⟨hk, hk.2⟩ : _ ∧ k_ ≠ g109))) (fun _ hk => hk.2) (.int .i64 ((rd_T48 x3_1 x51_2).f0))) (fun _ hk => hk.2) (.int .i64 ((rd_T48 x3_1 x51_2).f1))) (fun _ hk => hk.1.2))⟩
  have n1_ : Aside0 (Kd.R k48 48 w34 w.heap.size (fun k_ => k_ ≠ g109) (.slice (some ad108) x3_1.length co24) x3_1) := ⟨by rw [e_]; exact pR (Kd.R_mono (Kd.R_far (p := ⟨g109, 1, none⟩) (Kd.R_far (p := ⟨g109, 0, none⟩) (Kd.R_mono HO_49.out (fun k_ hk => (⟨hk, hk.2⟩ : _ ∧ k_ ≠ g109))) (fun _ hk => hk.2) (.int .i64 ((rd_T48 x3_1 x51_2).f0))) (fun _ hk => hk.2) (.int .i64 ((rd_T48 x3_1 x51_2).f1))) (fun _ hk => hk.1.2))⟩
  have n2_ : Aside0 (w34.heap[g109]? = some (.cells #[.int .i64 ((rd_T48 x3_1 x51_2).f0), .int .i64 ((rd_T48 x3_1 x51_2).f1)] 48 (0, 0))) := ⟨by rw [e_]; refine bq #[.int .i64 ((rd_T48 x3_1 x51_2).f0), .int .i64 0] 1 ?_; refine bq #[.int .i64 0, .int .i64 0] 0 ?_; refine bk ?_; exact B109.out⟩
  have n3_ : Aside0 (Below w.heap.size w w34) := ⟨by rw [e_]; exact pT HB.out⟩
  (try clear HO_3)
  (try clear HO_49)
  (try clear B109)
  (try clear HB)
  (try rw [← e_]); clear e_
  have HO_3 := n0_; have HO_49 := n1_; have B109 := n2_; have HB := n3_; clear n0_ n1_ n2_ n3_; replace HO_3 := rdw HO_3; replace HO_49 := rdw HO_49; replace B109 := bD B109; replace HB := aK (below_drew1 HB.out)
  have p110 : 0 ≤ (x7_2 : Int) := dA
  have q110 : x7_2 < (x3_1.length : Int) := dA
  obtain ⟨ad110, e110, hx110_0, hx110_1⟩ := at_T48 (Kd.R_reads' HO_3.out).2.2 x7_2 p110 q110
  obtain rfl : ad108 = ad110 := (by injection e110)
  replace p110 := eq_true p110; replace q110 := eq_true q110
  refine start_ (n := 7) (S := fun w' => w'.cell? ⟨g109, 0, none⟩ = some (.int .i64 ((rd_T48 x3_1 x51_2).f0)) ∧ w'.cell? ⟨g109, 1, none⟩ = some (.int .i64 ((rd_T48 x3_1 x51_2).f1)) ∧ w'.cell? (ad108.add ((x7_2).toNat * 2)) = some (.int .i64 ((rd_T48 x3_1 x7_2).f0)) ∧ w'.cell? ⟨(ad108.add ((x7_2).toNat * 2)).block, (ad108.add ((x7_2).toNat * 2)).off + 1, none⟩ = some (.int .i64 ((rd_T48 x3_1 x7_2).f1))) (ds := []) (bz [0, 7]) (by kernel_rfl) rfl rfl (cj2 B109.out ⟨hx110_0, hx110_1⟩) (fun hHeld => ?_)
  generalize w34.drew = w35 at HO_3 HO_49 B109 HB hx110_0 hx110_1 hHeld ⊢
  refine pure_ (i := 1) (N := some 57) (v := ?_) (a' := ?_) (bz [0, 1, 1, 5]) rfl rfl (by kernel_rfl) (fun _ _ _ h => h) (Or.inl ⟨by rfl, ?_⟩) ?_ ?_
  rotate_left
  ·
   intro w'
   go_simp
   with_reducible rfl
  rotate_left
  ·
   simp only [sP]
   rfl
  refine pure_ (i := 2) (N := some 58) (v := ?_) (a' := ?_) (bz [0, 1, 2, 4]) rfl rfl (by kernel_rfl) (fun _ _ _ h => h) (Or.inl ⟨by rfl, ?_⟩) ?_ ?_
  rotate_left
  ·
   intro w'
   go_simp
   with_reducible rfl
  rotate_left
  ·
   simp only [sP]
   rfl
  refine pure_ (i := 3) (N := some 59) (v := ?_) (a' := ?_) (bz [0, 1, 3, 3]) rfl rfl (by kernel_rfl) (fun _ _ _ h => h) (Or.inl ⟨by rfl, ?_⟩) ?_ ?_
  rotate_left
  ·
   intro w'
   go_simp
   with_reducible rfl
  rotate_left
  ·
   simp only [sP]
   rfl
  refine take_ (i := 0) (N := some 56) (v := ?_) (a' := ?_) (bz [4, 3]) rfl rfl (by kernel_rfl) (fun _ _ _ h => h) (Or.inl ⟨by rfl, ?_⟩) hHeld ?_ ?_
  rotate_left
  ·
   rintro w' ⟨s0, s1, s2, s3⟩
   go_simp
   with_reducible rfl
  rotate_left
  ·
   simp only [sP]
   rfl
  refine take_ (i := 4) (N := some 60) (v := ?_) (a' := ?_) (bz [5, 2]) rfl rfl (by kernel_rfl) (fun _ _ _ h => h) (Or.inl ⟨by rfl, ?_⟩) hHeld ?_ ?_
  rotate_left
  ·
   rintro w' ⟨s0, s1, s2, s3⟩
   go_simp
   with_reducible rfl
  rotate_left
  ·
   simp only [sP]
   rfl
  refine one_ (i := 5) (N := some 61) (bz [6, 1]) rfl rfl (by kernel_rfl) (by decide) (fun K hK => ?_)
  refine gs Try.func38 #[.agg #[.int .i64 ((rd_T48 x3_1 x51_2).f0), .int .i64 ((rd_T48 x3_1 x51_2).f1)], .agg #[.int .i64 ((rd_T48 x3_1 x7_2).f0), .int .i64 ((rd_T48 x3_1 x7_2).f1)]] ?_
  with_reducible refine (impl_comparePoints.calls k2 ((rd_T48 x3_1 x51_2).f0) ((rd_T48 x3_1 x51_2).f1) ((rd_T48 x3_1 x7_2).f0) ((rd_T48 x3_1 x7_2).f1) t111 _ A30.out).mono ?_
  rintro e w36 ⟨rfl, hb⟩
  have HS2_ := hs hb hHeld.2.2.1; have HS3_ := hs hb hHeld.2.2.2
  refine ⟨_, rfl, ?_⟩
  replace HO_3 := rb HO_3 hb; replace HO_49 := rb HO_49 hb; replace B109 := bB B109 hb; replace HB := bS HB hb
  (try clear hb)
  (try clear hb2)
  (try clear hk)
  (try clear hi)
  refine hK.out _ _ (cj2 B109.out ⟨HS2_, HS3_⟩) (fun hHeld => ?_)
  clear hK K
  refine nm 61 ?_
  refine pure_ (i := 6) (N := some 62) (v := ?_) (a' := ?_) (bz [7, 0]) rfl rfl (by kernel_rfl) (fun _ _ _ h => h) (Or.inl ⟨by rfl, ?_⟩) ?_ ?_
  rotate_left
  ·
   intro w'
   go_simp
   with_reducible rfl
  rotate_left
  ·
   simp only [sP]
   rfl
  refine done_ (by kernel_rfl) ?_
  try go_wp2
  go_roundg k2
  case measure => have := HK1.out; have := HK2.out; omega
  case rel => exact ⟨(x51_2), (wrap64 (x51_2 + 1)), (by first | rfl | (simp; done) | (simp [*]; done)), (by first | rfl | (simp; done) | (simp [*]; done)), H', ⟨by have := HK1.out; have := HK2.out; omega⟩, ⟨pR (Kd.R_mono HO_3.out (fun _ hk => trivial))⟩, ⟨pR (Kd.R_mono HO_49.out (fun _ hk => trivial))⟩, ⟨pT HB.out⟩⟩
 rw [if_neg c31] at H
 have c31b0 : decide (t111 < 0) = false := decide_eq_false c31
 clear c31
 have H' := aK H
 clear H
 have p108 : 0 ≤ (x51_2 : Int) := dA
 have q108 : x51_2 < (x3_1.length : Int) := dA
 obtain ⟨ad108, e108, hx108_0, hx108_1⟩ := at_T48 (Kd.R_reads' HO_49.out).2.2 x51_2 p108 q108
 cases e108
 replace p108 := eq_true p108
 replace q108 := eq_true q108
 try go_wp2_with (first | ((with_reducible refine ga 9 rfl ?_); refine bxa #[.int .i64 0, .int .i64 0] 48 ?_; intro g109 hg w37 B109 hb; replace HO_3 := aK (Kd.R_below (Kd.R_elderB (pR HO_3.out) g109 (Nat.le_of_eq hg.symm)) hb); replace HO_49 := aK (Kd.R_below (Kd.R_elderB (pR HO_49.out) g109 (Nat.le_of_eq hg.symm)) hb); have GW109 := gA hg HB; replace HB := bS HB hb; clear hb hg; obtain ⟨_, _, _, _⟩ := bc2 B109.out))
 obtain ⟨w39, e_⟩ : ∃ w_, w_ = (w37.setCell ⟨g109, 0, none⟩ (.int .i64 ((rd_T48 x3_1 x51_2).f0))).setCell ⟨g109, 1, none⟩ (.int .i64 ((rd_T48 x3_1 x51_2).f1)) := ⟨_, rfl⟩
 have n0_ : Aside0 (Kd.R k48 48 w39 w.heap.size (fun k_ => k_ ≠ g109) (.slice (some ad108) x3_1.length co24) x3_1) := ⟨by rw [e_]; exact pR (Kd.R_mono (Kd.R_far (p := ⟨g109, 1, none⟩) (Kd.R_far (p := ⟨g109, 0, none⟩) (Kd.R_mono HO_3.out (fun k_ hk => (⟨hk, hk.2⟩ : _ ∧ k_ ≠ g109))) (fun _ hk => hk.2) (.int .i64 ((rd_T48 x3_1 x51_2).f0))) (fun _ hk => hk.2) (.int .i64 ((rd_T48 x3_1 x51_2).f1))) (fun _ hk => hk.1.2))⟩
 have n1_ : Aside0 (Kd.R k48 48 w39 w.heap.size (fun k_ => k_ ≠ g109) (.slice (some ad108) x3_1.length co24) x3_1) := ⟨by rw [e_]; exact pR (Kd.R_mono (Kd.R_far (p := ⟨g109, 1, none⟩) (Kd.R_far (p := ⟨g109, 0, none⟩) (Kd.R_mono HO_49.out (fun k_ hk => (⟨hk, hk.2⟩ : _ ∧ k_ ≠ g109))) (fun _ hk => hk.2) (.int .i64 ((rd_T48 x3_1 x51_2).f0))) (fun _ hk => hk.2) (.int .i64 ((rd_T48 x3_1 x51_2).f1))) (fun _ hk => hk.1.2))⟩
 have n2_ : Aside0 (w39.heap[g109]? = some (.cells #[.int .i64 ((rd_T48 x3_1 x51_2).f0), .int .i64 ((rd_T48 x3_1 x51_2).f1)] 48 (0, 0))) := ⟨by rw [e_]; refine bq #[.int .i64 ((rd_T48 x3_1 x51_2).f0), .int .i64 0] 1 ?_; refine bq #[.int .i64 0, .int .i64 0] 0 ?_; refine bk ?_; exact B109.out⟩
 have n3_ : Aside0 (Below w.heap.size w w39) := ⟨by rw [e_]; exact pT HB.out⟩
 (try clear HO_3)
 (try clear HO_49)
 (try clear B109)
 (try clear HB)
 (try rw [← e_]); clear e_
 have HO_3 := n0_
 have HO_49 := n1_
 have B109 := n2_
 have HB := n3_
 clear n0_ n1_ n2_ n3_
 replace HO_3 := rdw HO_3
 replace HO_49 := rdw HO_49
 replace B109 := bD B109
 replace HB := aK (below_drew1 HB.out)
 have p110 : 0 ≤ (x7_2 : Int) := dA
 have q110 : x7_2 < (x3_1.length : Int) := dA
 obtain ⟨ad110, e110, hx110_0, hx110_1⟩ := at_T48 (Kd.R_reads' HO_3.out).2.2 x7_2 p110 q110
 obtain rfl : ad108 = ad110 := (by injection e110)
 replace p110 := eq_true p110
 replace q110 := eq_true q110
 refine start_ (n := 7) (S := fun w' => w'.cell? ⟨g109, 0, none⟩ = some (.int .i64 ((rd_T48 x3_1 x51_2).f0)) ∧ w'.cell? ⟨g109, 1, none⟩ = some (.int .i64 ((rd_T48 x3_1 x51_2).f1)) ∧ w'.cell? (ad108.add ((x7_2).toNat * 2)) = some (.int .i64 ((rd_T48 x3_1 x7_2).f0)) ∧ w'.cell? ⟨(ad108.add ((x7_2).toNat * 2)).block, (ad108.add ((x7_2).toNat * 2)).off + 1, none⟩ = some (.int .i64 ((rd_T48 x3_1 x7_2).f1))) (ds := []) (bz [0, 7]) (by kernel_rfl) rfl rfl (cj2 B109.out ⟨hx110_0, hx110_1⟩) (fun hHeld => ?_)
 generalize w39.drew = w40 at HO_3 HO_49 B109 HB hx110_0 hx110_1 hHeld ⊢
 refine pure_ (i := 1) (N := some 57) (v := ?_) (a' := ?_) (bz [0, 1, 1, 5]) rfl rfl (by kernel_rfl) (fun _ _ _ h => h) (Or.inl ⟨by rfl, ?_⟩) ?_ ?_
 rotate_left
 ·
  intro w'
  go_simp
  with_reducible rfl
 rotate_left
 ·
  simp only [sP]
  rfl
 refine pure_ (i := 2) (N := some 58) (v := ?_) (a' := ?_) (bz [0, 1, 2, 4]) rfl rfl (by kernel_rfl) (fun _ _ _ h => h) (Or.inl ⟨by rfl, ?_⟩) ?_ ?_
 rotate_left
 ·
  intro w'
  go_simp
  with_reducible rfl
 rotate_left
 ·
  simp only [sP]
  rfl
 refine pure_ (i := 3) (N := some 59) (v := ?_) (a' := ?_) (bz [0, 1, 3, 3]) rfl rfl (by kernel_rfl) (fun _ _ _ h => h) (Or.inl ⟨by rfl, ?_⟩) ?_ ?_
 rotate_left
 ·
  intro w'
  go_simp
  with_reducible rfl
 rotate_left
 ·
  simp only [sP]
  rfl
 refine take_ (i := 0) (N := some 56) (v := ?_) (a' := ?_) (bz [4, 3]) rfl rfl (by kernel_rfl) (fun _ _ _ h => h) (Or.inl ⟨by rfl, ?_⟩) hHeld ?_ ?_
 rotate_left
 ·
  rintro w' ⟨s0, s1, s2, s3⟩
  go_simp
  with_reducible rfl
 rotate_left
 ·
  simp only [sP]
  rfl
 refine take_ (i := 4) (N := some 60) (v := ?_) (a' := ?_) (bz [5, 2]) rfl rfl (by kernel_rfl) (fun _ _ _ h => h) (Or.inl ⟨by rfl, ?_⟩) hHeld ?_ ?_
 rotate_left
 ·
  rintro w' ⟨s0, s1, s2, s3⟩
  go_simp
  with_reducible rfl
 rotate_left
 ·
  simp only [sP]
  rfl
 refine one_ (i := 5) (N := some 61) (bz [6, 1]) rfl rfl (by kernel_rfl) (by decide) (fun K hK => ?_)
 refine gs Try.func38 #[.agg #[.int .i64 ((rd_T48 x3_1 x51_2).f0), .int .i64 ((rd_T48 x3_1 x51_2).f1)], .agg #[.int .i64 ((rd_T48 x3_1 x7_2).f0), .int .i64 ((rd_T48 x3_1 x7_2).f1)]] ?_
 with_reducible refine (impl_comparePoints.calls k2 ((rd_T48 x3_1 x51_2).f0) ((rd_T48 x3_1 x51_2).f1) ((rd_T48 x3_1 x7_2).f0) ((rd_T48 x3_1 x7_2).f1) t111 _ A30.out).mono ?_
 rintro e w41 ⟨rfl, hb⟩
 have HS2_ := hs hb hHeld.2.2.1
 have HS3_ := hs hb hHeld.2.2.2
 refine ⟨_, rfl, ?_⟩
 replace HO_3 := rb HO_3 hb
 replace HO_49 := rb HO_49 hb
 replace B109 := bB B109 hb
 replace HB := bS HB hb
 (try clear hb)
 (try clear hb2)
 (try clear hk)
 (try clear hi)
 refine hK.out _ _ (cj2 B109.out ⟨HS2_, HS3_⟩) (fun hHeld => ?_)
 clear hK K
 refine nm 61 ?_
 refine pure_ (i := 6) (N := some 62) (v := ?_) (a' := ?_) (bz [7, 0]) rfl rfl (by kernel_rfl) (fun _ _ _ h => h) (Or.inl ⟨by rfl, ?_⟩) ?_ ?_
 rotate_left
 ·
  intro w'
  go_simp
  with_reducible rfl
 rotate_left
 ·
  simp only [sP]
  rfl
 refine done_ (by kernel_rfl) ?_
 try go_wp2
 go_roundg k2
 case measure => have := HK1.out; have := HK2.out; omega
 case rel => exact ⟨(x7_2), (wrap64 (x51_2 + 1)), (by first | rfl | (simp; done) | (simp [*]; done)), (by first | rfl | (simp; done) | (simp [*]; done)), H', ⟨by have := HK1.out; have := HK2.out; omega⟩, ⟨pR (Kd.R_mono HO_3.out (fun _ hk => trivial))⟩, ⟨pR (Kd.R_mono HO_49.out (fun _ hk => trivial))⟩, ⟨pT HB.out⟩⟩
mutual
def impl_outlines.l0 : Nat → List (S54) → List Bool → List (List (S48)) → Int → Int → Option ((List (List (S48))))
 | 0, _, _, _, _, _ => none
 | k + 1, x5, x6, x7, x18, x19 => if x19 < x18 then (if 0 ≤ x19 then (if x19 < (x6.length : Int) then (if rdOf false x6 x19 = true then (impl_outlines.l0 k x5 x6 x7 x18 (wrap64 (x19 + 1))) else (impl_outlines.l1 k x5 x6 x7 ([] : List (S54)) x19 x18 x19)) else (none)) else (none)) else (if x7.length < 1000000000 ∧ lpOk x7 = true then some (lpSrt x7) else none)
def impl_outlines.l1 : Nat → List (S54) → List Bool → List (List (S48)) → List (S54) → Int → Int → Int → Option ((List (List (S48))))
 | 0, _, _, _, _, _, _, _ => none
 | k + 1, x5, x6, x7, x9, x10, x18, x19 => if 0 ≤ x10 then (if x10 < (x6.length : Int) then (if rdOf false x6 x10 = true then ((impl_cornersOf.f k x9).bind fun t109 => (if x7.length < 5864062014805 then (impl_outlines.l0 k x5 x6 (x7 ++ [t109]) x18 (wrap64 (x19 + 1))) else (none))) else (if x10 < (x5.length : Int) then (if x9.length < 3518437208883 then ((impl_sideBehind.f k x5 x10).bind fun t120 => (impl_outlines.l1 k x5 (x6.set (x10 : Int).toNat true) x7 (x9 ++ [(⟨(rd_T54 x5 x10).f0, (⟨(rd_T54 x5 x10).f1.f0, (rd_T54 x5 x10).f1.f1⟩ : S48), (⟨(rd_T54 x5 x10).f2.f0, (rd_T54 x5 x10).f2.f1⟩ : S48)⟩ : S54)]) t120 x18 x19)) else (none)) else (none))) else (none)) else (none)
end
def impl_outlines.f (k : Nat) (a0 : Int) (l1 : List Int) : Option ((List (List (S48)))) := (impl_sidesOf.f k a0 l1).bind fun t101 => (if 0 ≤ (t101.length : Int) then (if ((t101.length : Int) : Int).toNat ≤ 281474976710656 then (impl_outlines.l0 k t101 (List.replicate ((t101.length : Int) : Int).toNat false) ([] : List (List (S48))) (t101.length : Int) 0) else (none)) else (none))
theorem impl_outlines.calls (k : Nat) (a0 : Int) (A1 : Option Addr) (c1 : Nat) (l1 : List Int) (r : List (List (S48))) (w : World) (hr1 : Kd.C (Kd.int .i64) w A1 l1.length l1) (hc1 : l1.length ≤ c1) (h : impl_outlines.f k a0 l1 = some r) :
  Calls Try.prog 19 #[.int .i64 a0, .slice A1 l1.length c1] w fun e w' => ∃ v0_ : Value, e = .returned (v0_) ∧ Kd.S (Kd.slice 48 k48) 36 w' w.heap.size (fun _ => True) v0_ r ∧ Below w.heap.size w w' := by
 have hu54 := Try.underlying54
 have HR1 := aK hr1
 have HC1 := aK hc1
 clear hr1 hc1
 have HB := aK (Below.refl w.heap.size w)
 have H : ((impl_sidesOf.f k a0 l1).bind fun t101 => (if 0 ≤ (t101.length : Int) then (if ((t101.length : Int) : Int).toNat ≤ 281474976710656 then (impl_outlines.l0 k t101 (List.replicate ((t101.length : Int) : Int).toNat false) ([] : List (List (S48))) (t101.length : Int) 0) else (none)) else (none))) = some r := h
 clear h
 replace H := oA H
 obtain ⟨t101, A3, H⟩ := H
 replace H : (if 0 ≤ (t101.length : Int) then (if ((t101.length : Int) : Int).toNat ≤ 281474976710656 then (impl_outlines.l0 k t101 (List.replicate ((t101.length : Int) : Int).toNat false) ([] : List (List (S48))) (t101.length : Int) 0) else (none)) else (none)) = some r := H
 by_cases c4 : 0 ≤ (t101.length : Int)
 rotate_left
 ·
  rw [if_neg c4] at H
  exact absurd H (by simp)
 rw [if_pos c4] at H
 have c4b0 := eq_true c4
 have c4b1 : decide (0 ≤ (t101.length : Int)) = true := decide_eq_true c4
 clear c4
 by_cases c5 : ((t101.length : Int) : Int).toNat ≤ 281474976710656
 rotate_left
 ·
  rw [if_neg c5] at H
  exact absurd H (by simp)
 rw [if_pos c5] at H
 have c5b0 := eq_true c5
 have c5b1 : decide (((t101.length : Int) : Int).toNat ≤ 281474976710656) = true := decide_eq_true c5
 clear c5
 obtain ⟨y104, hy104⟩ : ∃ y_ : List Bool, y_ = (List.replicate ((t101.length : Int) : Int).toNat false) := ⟨_, rfl⟩
 replace H : (impl_outlines.l0 k t101 y104 ([] : List (List (S48))) (t101.length : Int) 0) = some r := by first | (rw [hy104]; first | with_reducible exact H | with_reducible exact (oS H :)) | with_reducible exact (oS H :) | with_reducible exact H | exact H
 have Ny104 := aK hy104
 clear hy104
 have H' := aK H
 clear H
 go_enter Try.func19, Try.ntmps19
 go_wp2_with (first | ((with_reducible refine gc 32 rfl ?_); refine gl (some 13) Try.func32 #[.int .i64 a0, .slice A1 l1.length c1] ?_; (with_reducible refine (impl_sidesOf.calls k a0 _ _ l1 t101 _ ?side1 ?side2 A3.out).mono ?_); (case side1 => exact pC HR1.out); (case side2 => exact HC1.out); rintro e w6 ⟨v102, rfl, ho0, hb⟩; refine ⟨_, rfl, ?_⟩; have HO103 := aK (Kd.R_lower ho0 (below_size (pS HB.out))); replace HB := bS HB hb; (try clear hb); (try clear ho0); obtain ⟨Ao7, co7, eo7⟩ := Kd.R_slice HO103.out; subst eo7) | ((with_reducible refine ga 16 rfl ?_); refine Kd.R_make Kd.bool _ 4 rfl (N := 16) rfl 44 _ _ rfl (t101.length : Int) rfl rfl Try.underlying44 (.bool false) 1 info4 rfl (by decide) (by omega) false (ok := fun _ => True) (okp := fun _ => True) rfl (fun _ hk => hk) trivial (dA) (Nat.le_trans (Nat.mul_le_mul_right _ (dA : (t101.length : Int).toNat ≤ 281474976710656)) (by omega)) (Below.refl _ _) (Nat.le_refl _) ?_; intro v105 w8 ho9 hb hg_ hnew_; clear hg_ hnew_; (first | rw [← Ny104.out] at ho9 | (simp only [Int.reduceToNat] at ho9; rw [← Ny104.out] at ho9)); replace HO103 := rb HO103 hb; have HO106 := aK (Kd.R_lower ho9 (below_size (pS HB.out))); replace HB := bS HB hb; clear hb ho9))
 go_loopg [7, 19] k (fun kq v7 v19 w' => ∃ (x6_1 : List Bool) (x7_1 : List (List (S48))) (x19_1 : Int), v19 = .int .i64 x19_1 ∧ Aside0 (impl_outlines.l0 kq t101 x6_1 x7_1 (t101.length : Int) x19_1 = some r) ∧ Aside0 (kq ≤ k) ∧ Aside0 (Kd.R k54 54 w' w.heap.size (fun _ => True) (.slice Ao7 t101.length co7) t101) ∧ Aside0 (Kd.R Kd.bool 4 w' w.heap.size (fun _ => True) v105 x6_1) ∧ Aside0 (Kd.S (Kd.slice 48 k48) 36 w' w.heap.size (fun _ => True) v7 x7_1) ∧ Aside0 (Below w.heap.size w w'))
 case atStart => exact ⟨(y104), (([] : List (List (S48)))), (0), (by first | rfl | (simp; done) | (simp [*]; done)), H', ⟨Nat.le_refl _⟩, ⟨pR HO103.out⟩, ⟨pR HO106.out⟩, ⟨by first | exact Kd.S_nil _ _ _ _ _ | exact Kd.N_nil _ _ _ _ _ | exact Kd.V_nil _ _ _ _ _ | exact Kd.Q_nil _ _ _ _ _ | exact Kd.R_nil _ _ _ _ _⟩, ⟨pT HB.out⟩⟩
 case round =>
 clear H'
 try clear c1
 try clear p2
 try clear c3
 try clear c4
 try clear c4b0
 try clear c4b1
 try clear c5
 try clear c5b0
 try clear c5b1
 obtain ⟨x6_1, x7_1, x19_1, rfl, HA, HK1, HO_5, HO_6, HO_7, HB⟩ := hrel
 cases gk with
 | zero => exact absurd HA.out (by simp [impl_outlines.l0])
 | succ k1 =>
 have H := HA.out
 clear HA
 simp only [impl_outlines.l0] at H
 by_cases c10 : x19_1 < (t101.length : Int)
 rotate_left
 ·
  rw [if_neg c10] at H
  have c10b0 : decide (x19_1 < (t101.length : Int)) = false := decide_eq_false c10
  clear c10
  by_cases hg : x7_1.length < 1000000000 ∧ lpOk x7_1 = true
  case neg => rw [if_neg hg] at H; exact absurd H (by simp)
  rw [if_pos hg] at H
  obtain rfl := Option.some.inj H
  have IC := aK (sortLoops_given (P0_ := fun _ => True) HB.out HO_7.out hg.2 hg.1)
  clear HO_7 HB HO_5 HO_6 H
  go_wp2_with (first | (go_at_call 35; refine IC.out.mono ?_; rintro e_ w1 ⟨rfl, hS_, hB_, _⟩; have HS_ := aK hS_; have HBB := aK hB_; clear hS_ hB_))
  go_ret
  exact ⟨_, rfl, Kd.S_mono HS_.out (fun _ _ => trivial), HBB.out⟩
 rw [if_pos c10] at H
 have c10b0 : decide (x19_1 < (t101.length : Int)) = true := decide_eq_true c10
 clear c10
 by_cases c11 : 0 ≤ x19_1
 rotate_left
 ·
  rw [if_neg c11] at H
  exact absurd H (by simp)
 rw [if_pos c11] at H
 have c11b0 : decide (0 ≤ x19_1) = true := decide_eq_true c11
 clear c11
 by_cases c12 : x19_1 < (x6_1.length : Int)
 rotate_left
 ·
  rw [if_neg c12] at H
  exact absurd H (by simp)
 rw [if_pos c12] at H
 have c12b0 : decide (x19_1 < (x6_1.length : Int)) = true := decide_eq_true c12
 clear c12
 obtain ⟨bq13, hbq13⟩ : ∃ b_ : Bool, b_ = (rdOf false x6_1 x19_1) := ⟨_, rfl⟩
 replace H : (if bq13 = true then (impl_outlines.l0 k1 t101 x6_1 x7_1 (t101.length : Int) (wrap64 (x19_1 + 1))) else (impl_outlines.l1 k1 t101 x6_1 x7_1 ([] : List (S54)) x19_1 (t101.length : Int) x19_1)) = some r := by rw [← hbq13] at H; exact H
 have Nbq13 := aK hbq13
 clear hbq13
 by_cases c14 : bq13 = true
 ·
  subst c14
  have H1 : (impl_outlines.l0 k1 t101 x6_1 x7_1 (t101.length : Int) (wrap64 (x19_1 + 1))) = some r := by rw [if_pos rfl] at H; exact H
  clear H; have H := H1; clear H1; have H' := aK H; clear H; obtain ⟨Ao15, co15, eo15⟩ := Kd.R_slice HO_6.out; subst eo15
  have p107 : 0 ≤ (x19_1 : Int) := dA
  have q107 : x19_1 < (x6_1.length : Int) := dA
  obtain ⟨ad107, e107, hx107_0⟩ := Kd.at_bool (Kd.R_reads' HO_6.out).2.2 x19_1 p107 q107
  (try rw [← Nbq13.out] at hx107_0)
  cases e107; replace p107 := eq_true p107; replace q107 := eq_true q107
  go_wp2
  go_roundg k1
  case measure => have := HK1.out; omega
  case rel => exact ⟨(x6_1), (x7_1), (wrap64 (x19_1 + 1)), (by first | rfl | (simp; done) | (simp [*]; done)), H', ⟨by have := HK1.out; omega⟩, ⟨pR HO_5.out⟩, ⟨pR HO_6.out⟩, ⟨by (with_reducible repeat (first | apply Kd.S_alloc | apply Kd.S_drewN | apply Kd.S_drew)); exact HO_7.out⟩, ⟨pT HB.out⟩⟩
 replace c14 := Bool.eq_false_iff.mpr c14
 subst c14
 have H1 : (impl_outlines.l1 k1 t101 x6_1 x7_1 ([] : List (S54)) x19_1 (t101.length : Int) x19_1) = some r := by rw [if_neg (show ¬ (false = true) by decide)] at H; exact H
 clear H
 have H := H1
 clear H1
 have H' := aK H
 clear H
 obtain ⟨Ao16, co16, eo16⟩ := Kd.R_slice HO_6.out
 subst eo16
 have p107 : 0 ≤ (x19_1 : Int) := dA
 have q107 : x19_1 < (x6_1.length : Int) := dA
 obtain ⟨ad107, e107, hx107_0⟩ := Kd.at_bool (Kd.R_reads' HO_6.out).2.2 x19_1 p107 q107
 (try rw [← Nbq13.out] at hx107_0)
 cases e107
 replace p107 := eq_true p107
 replace q107 := eq_true q107
 go_wp2
 go_loopg [9, 10] k1 (fun kq v9 v10 w' => ∃ (x6_2 : List Bool) (x9_2 : List (S54)) (x10_2 : Int), v10 = .int .i64 x10_2 ∧ Aside0 (impl_outlines.l1 kq t101 x6_2 x7_1 x9_2 x10_2 (t101.length : Int) x19_1 = some r) ∧ Aside0 (kq ≤ k1) ∧ Aside0 (Kd.R k54 54 w' w.heap.size (fun k_ => some k_ ≠ (v9 : Value).ownBlock) (.slice Ao7 t101.length co7) t101) ∧ Aside0 (Kd.R Kd.bool 4 w' w.heap.size (fun _ => True) (.slice (some ad107) x6_1.length co16) x6_2) ∧ Aside0 (Kd.S (Kd.slice 48 k48) 36 w' w.heap.size (fun _ => True) u7 x7_1) ∧ Aside0 (Kd.R k54 54 w' w.heap.size (fun k_ => some k_ ≠ ((.slice Ao7 t101.length co7) : Value).ownBlock) v9 x9_2) ∧ Aside0 (Below w.heap.size w w'))
 case atStart => exact ⟨(x6_1), (([] : List (S54))), (x19_1), (by first | rfl | (simp; done) | (simp [*]; done)), H', ⟨Nat.le_refl _⟩, ⟨by (with_reducible repeat (first | apply Kd.R_alloc | apply Kd.R_drewN | apply Kd.R_drew)); exact Kd.R_mono HO_5.out (fun _ hk => (by simp [Value.ownBlock]))⟩, ⟨pR HO_6.out⟩, ⟨by (with_reducible repeat (first | apply Kd.S_alloc | apply Kd.S_drewN | apply Kd.S_drew)); exact HO_7.out⟩, ⟨by first | exact Kd.R_nil _ _ _ _ _ | exact Kd.N_nil _ _ _ _ _ | exact Kd.V_nil _ _ _ _ _ | exact Kd.Q_nil _ _ _ _ _ | exact Kd.S_nil _ _ _ _ _⟩, ⟨pT HB.out⟩⟩
 case round =>
 clear H'
 try clear c1
 try clear p1
 try clear q1
 try clear hx1
 try clear p2
 try clear c3
 try clear c4
 try clear c4b0
 try clear c4b1
 try clear c5
 try clear c5b0
 try clear c5b1
 try clear p6
 try clear c10
 try clear c10b0
 try clear p10
 try clear q10
 try clear hx10
 try clear c11
 try clear c11b0
 try clear c12
 try clear c12b0
 try clear q13
 try clear c14
 try clear hx107_0
 try clear p107
 try clear p2
 try clear q107
 obtain ⟨x6_2, x9_2, x10_2, rfl, HA, HK2, HO_5, HO_6, HO_7, HO_9, HB⟩ := hrel
 have hl6_2 := (Kd.R_reads' HO_6.out).1
 rw [hl6_2] at HO_6
 (try simp only [hl6_2])
 (try simp only [hl6_2] at HO_5)
 (try simp only [hl6_2] at HO_7)
 (try simp only [hl6_2] at HO_9)
 cases gk with
 | zero => exact absurd HA.out (by simp [impl_outlines.l1])
 | succ k2 =>
 have H := HA.out
 clear HA
 simp only [impl_outlines.l1] at H
 by_cases c17 : 0 ≤ x10_2
 rotate_left
 ·
  rw [if_neg c17] at H
  exact absurd H (by simp)
 rw [if_pos c17] at H
 have c17b0 : decide (0 ≤ x10_2) = true := decide_eq_true c17
 clear c17
 by_cases c18 : x10_2 < (x6_2.length : Int)
 rotate_left
 ·
  rw [if_neg c18] at H
  exact absurd H (by simp)
 rw [if_pos c18] at H
 have c18b0 : decide (x10_2 < (x6_2.length : Int)) = true := decide_eq_true c18
 clear c18
 obtain ⟨bq19, hbq19⟩ : ∃ b_ : Bool, b_ = (rdOf false x6_2 x10_2) := ⟨_, rfl⟩
 replace H : (if bq19 = true then ((impl_cornersOf.f k2 x9_2).bind fun t109 => (if x7_1.length < 5864062014805 then (impl_outlines.l0 k2 t101 x6_2 (x7_1 ++ [t109]) (t101.length : Int) (wrap64 (x19_1 + 1))) else (none))) else (if x10_2 < (t101.length : Int) then (if x9_2.length < 3518437208883 then ((impl_sideBehind.f k2 t101 x10_2).bind fun t120 => (impl_outlines.l1 k2 t101 (x6_2.set (x10_2 : Int).toNat true) x7_1 (x9_2 ++ [(⟨(rd_T54 t101 x10_2).f0, (⟨(rd_T54 t101 x10_2).f1.f0, (rd_T54 t101 x10_2).f1.f1⟩ : S48), (⟨(rd_T54 t101 x10_2).f2.f0, (rd_T54 t101 x10_2).f2.f1⟩ : S48)⟩ : S54)]) t120 (t101.length : Int) x19_1)) else (none)) else (none))) = some r := by rw [← hbq19] at H; exact H
 have Nbq19 := aK hbq19
 clear hbq19
 by_cases c20 : bq19 = true
 ·
  subst c20
  have H1 : ((impl_cornersOf.f k2 x9_2).bind fun t109 => (if x7_1.length < 5864062014805 then (impl_outlines.l0 k2 t101 x6_2 (x7_1 ++ [t109]) (t101.length : Int) (wrap64 (x19_1 + 1))) else (none))) = some r := by rw [if_pos rfl] at H; exact H
  clear H; have H := H1; clear H1; replace H := oA H; obtain ⟨t109, A21, H⟩ := H
  replace H : (if x7_1.length < 5864062014805 then (impl_outlines.l0 k2 t101 x6_2 (x7_1 ++ [t109]) (t101.length : Int) (wrap64 (x19_1 + 1))) else (none)) = some r := H
  by_cases c22 : x7_1.length < 5864062014805
  rotate_left
  ·
   rw [if_neg c22] at H
   exact absurd H (by simp)
  rw [if_pos c22] at H; have LMc22 := aK c22; clear c22
  obtain ⟨y112, hy112⟩ : ∃ y_ : List (List (S48)), y_ = (x7_1 ++ [t109]) := ⟨_, rfl⟩
  replace H : (impl_outlines.l0 k2 t101 x6_2 y112 (t101.length : Int) (wrap64 (x19_1 + 1))) = some r := by first | (rw [hy112]; first | with_reducible exact H | with_reducible exact (oS H :)) | with_reducible exact (oS H :) | with_reducible exact H | exact H
  have Ny112 := aK hy112; clear hy112; have H' := aK H; clear H
  have p108 : 0 ≤ (x10_2 : Int) := dA
  have q108 : x10_2 < (x6_2.length : Int) := dA
  obtain ⟨ad108, e108, hx108_0⟩ := Kd.at_bool (Kd.R_reads' HO_6.out).2.2 x10_2 p108 q108
  (try rw [← Nbq13.out] at hx108_0)
  (try rw [← Nbq19.out] at hx108_0)
  obtain rfl : ad107 = ad108 := (by injection e108)
  replace p108 := eq_true p108; replace q108 := eq_true q108; obtain ⟨Ao23, co23, eo23⟩ := Kd.R_slice HO_9.out; subst eo23
  go_wp2_with (first | ((with_reducible refine gc 34 rfl ?_); refine gl (some 47) Try.func34 #[.slice Ao23 x9_2.length co23] ?_; (with_reducible refine (impl_cornersOf.calls k2 _ _ x9_2 t109 _ ?side1 ?side2 A21.out).mono ?_); (case side1 => exact pC (Kd.R_reads' HO_9.out).2.2); (case side2 => exact (Kd.R_reads' HO_9.out).2.1); rintro e w24 ⟨v110, rfl, ho0, hb⟩; refine ⟨_, rfl, ?_⟩; replace HO_5 := rb HO_5 hb; replace HO_6 := rb HO_6 hb; replace HO_7 := aK (Kd.S_elder' (pY HO_7.out) (Kd.R_base ho0) hb); replace HO_9 := rb HO_9 hb; have HO111 := aK (Kd.R_lower ho0 (below_size (pS HB.out))); replace HB := bS HB hb; (try clear hb); (try clear ho0); obtain ⟨Ao26, co26, eo26⟩ := Kd.R_slice HO111.out; subst eo26) | ((with_reducible refine gate_builtin (b := .append) (xs := #[.tmp 45, .tmp 48]) rfl ?_); at_builtin; refine Kd.S_append (Kd.slice 48 k48) (w0 := w) w.heap.size rfl (.tmp 45) (.tmp 48) 28 36 (.slice none 0 0) 24 rfl Try.underlying28 info36 rfl (by decide) (by omega) u7 x7_1 t109 [.slice Ao26 t109.length co26] (fun _ => True) (fun k_ => some k_ = (.slice Ao26 t109.length co26 : Value).ownBlock) rfl rfl ?aP (fun k_ hk_ => ((Kd.R_mono (ok' := fun k_ => ((fun _ => True)) k_ ∧ some k_ ≠ (u7 : Value).ownBlock) (Kd.R_apart' (HO111.out) (Kd.S_typed HO_7.out) (by decide)) (fun k_ hk => ⟨trivial, hk.2⟩))).1 k_ hk_.symm) ?aF ?aO ?aB ?aS ?aL ?_; (case aP => exact Kd.M_row (Kd.R_mono (Kd.R_tight rfl (Kd.R_mono (ok' := fun k_ => ((fun _ => True)) k_ ∧ some k_ ≠ (u7 : Value).ownBlock) (Kd.R_apart' (HO111.out) (Kd.S_typed HO_7.out) (by decide)) (fun k_ hk => ⟨trivial, hk.2⟩))) (fun _ h_ => h_))); (case aB => exact (pS HB.out)); (case aF => exact (fun _ _ => trivial)); (case aO => exact (pY (Kd.S_mono HO_7.out (fun k_ hk => ⟨trivial, fun e_ => hk.2 e_⟩)))); (case aS => exact (below_size (pS HB.out))); (case aL => have := LMc22.out; omega); intro v113 w25 ho hb hg hat; rw [← Ny112.out] at ho; replace HO_5 := aK (Kd.R_over' (pR HO_5.out) (Kd.S_typed (pY HO_7.out)) (by decide) hg); replace HO_6 := aK (Kd.R_over' (pR HO_6.out) (Kd.S_typed (pY HO_7.out)) (by decide) hg); replace HO_9 := aK (Kd.R_over' (pR HO_9.out) (Kd.S_typed (pY HO_7.out)) (by decide) hg); replace HB := aK (hb); have HO114 := aK (ho); clear HO_7 HO111; clear ho hb hg hat))
  (try simp only [← hl6_2])
  go_roundg k2
  case measure => have := HK1.out; have := HK2.out; omega
  case rel => exact ⟨(x6_2), (y112), (wrap64 (x19_1 + 1)), (by first | rfl | (simp; done) | (simp [*]; done)), H', ⟨by have := HK1.out; have := HK2.out; omega⟩, ⟨by (try simp only [hl6_2]); (with_reducible repeat (first | apply Kd.R_alloc | apply Kd.R_drewN | apply Kd.R_drew)); exact Kd.R_mono HO_5.out (fun _ hk => trivial)⟩, ⟨by (try simp only [hl6_2]); (with_reducible repeat (first | apply Kd.R_alloc | apply Kd.R_drewN | apply Kd.R_drew)); exact HO_6.out⟩, ⟨by (try simp only [hl6_2]); (with_reducible repeat (first | apply Kd.S_alloc | apply Kd.S_drewN | apply Kd.S_drew)); exact HO114.out⟩, ⟨pT HB.out⟩⟩
 replace c20 := Bool.eq_false_iff.mpr c20
 subst c20
 have H1 : (if x10_2 < (t101.length : Int) then (if x9_2.length < 3518437208883 then ((impl_sideBehind.f k2 t101 x10_2).bind fun t120 => (impl_outlines.l1 k2 t101 (x6_2.set (x10_2 : Int).toNat true) x7_1 (x9_2 ++ [(⟨(rd_T54 t101 x10_2).f0, (⟨(rd_T54 t101 x10_2).f1.f0, (rd_T54 t101 x10_2).f1.f1⟩ : S48), (⟨(rd_T54 t101 x10_2).f2.f0, (rd_T54 t101 x10_2).f2.f1⟩ : S48)⟩ : S54)]) t120 (t101.length : Int) x19_1)) else (none)) else (none)) = some r := by rw [if_neg (show ¬ (false = true) by decide)] at H; exact H
 clear H
 have H := H1
 clear H1
 obtain ⟨y115, hy115⟩ : ∃ y_ : List Bool, y_ = (x6_2.set (x10_2 : Int).toNat true) := ⟨_, rfl⟩
 replace H : (if x10_2 < (t101.length : Int) then (if x9_2.length < 3518437208883 then ((impl_sideBehind.f k2 t101 x10_2).bind fun t120 => (impl_outlines.l1 k2 t101 y115 x7_1 (x9_2 ++ [(⟨(rd_T54 t101 x10_2).f0, (⟨(rd_T54 t101 x10_2).f1.f0, (rd_T54 t101 x10_2).f1.f1⟩ : S48), (⟨(rd_T54 t101 x10_2).f2.f0, (rd_T54 t101 x10_2).f2.f1⟩ : S48)⟩ : S54)]) t120 (t101.length : Int) x19_1)) else (none)) else (none)) = some r := by first | (rw [hy115]; first | with_reducible exact H | with_reducible exact (oS H :)) | with_reducible exact (oS H :) | with_reducible exact H | exact H
 have Ny115 := aK hy115
 clear hy115
 by_cases c28 : x10_2 < (t101.length : Int)
 rotate_left
 ·
  rw [if_neg c28] at H
  exact absurd H (by simp)
 rw [if_pos c28] at H
 have c28b0 : decide (x10_2 < (t101.length : Int)) = true := decide_eq_true c28
 clear c28
 by_cases c29 : x9_2.length < 3518437208883
 rotate_left
 ·
  rw [if_neg c29] at H
  exact absurd H (by simp)
 rw [if_pos c29] at H
 have LMc29 := aK c29
 clear c29
 obtain ⟨y117, hy117⟩ : ∃ y_ : List (S54), y_ = (x9_2 ++ [(⟨(rd_T54 t101 x10_2).f0, (⟨(rd_T54 t101 x10_2).f1.f0, (rd_T54 t101 x10_2).f1.f1⟩ : S48), (⟨(rd_T54 t101 x10_2).f2.f0, (rd_T54 t101 x10_2).f2.f1⟩ : S48)⟩ : S54)]) := ⟨_, rfl⟩
 replace H : ((impl_sideBehind.f k2 t101 x10_2).bind fun t120 => (impl_outlines.l1 k2 t101 y115 x7_1 y117 t120 (t101.length : Int) x19_1)) = some r := by first | (rw [hy117]; first | with_reducible exact H | with_reducible exact (oS H :)) | with_reducible exact (oS H :) | with_reducible exact H | exact H
 have Ny117 := aK hy117
 clear hy117
 replace H := oA H
 obtain ⟨t120, A30, H⟩ := H
 replace H : (impl_outlines.l1 k2 t101 y115 x7_1 y117 t120 (t101.length : Int) x19_1) = some r := H
 have H' := aK H
 clear H
 have p108 : 0 ≤ (x10_2 : Int) := dA
 have q108 : x10_2 < (x6_2.length : Int) := dA
 obtain ⟨ad108, e108, hx108_0⟩ := Kd.at_bool (Kd.R_reads' HO_6.out).2.2 x10_2 p108 q108
 (try rw [← Nbq13.out] at hx108_0)
 (try rw [← Nbq19.out] at hx108_0)
 obtain rfl : ad107 = ad108 := (by injection e108)
 replace p108 := eq_true p108
 replace q108 := eq_true q108
 have p27 : 0 ≤ (x10_2 : Int) := dA
 have q27 : (x10_2 : Int) < ((x6_2.length : Int) : Int) := dA
 obtain ⟨go27, co27, eo27, g27, gl27, cl27, HG27⟩ := Kd.R_form HO_6.out (by omega)
 (first | cases eo27 | (injection eo27 with ea_ en_ ec_; (first | subst ea_ | (injection ea_ with ea_; subst ea_)); subst ec_; clear en_))
 have GB27 := aK g27
 have GG27 := aK HG27
 clear g27 gl27 HG27
 (try simp only [add_plain] at *)
 (first | simp only [add_plain] at hx107_0 | skip)
 (first | simp only [add_plain] at hx108_0 | skip)
 obtain ⟨hx27_0, hf27_0⟩ := Kd.R_celln false HO_6.out (x10_2 : Int) p27 q27
 replace p27 := eq_true p27
 replace q27 := eq_true q27
 have HP31 := Kd.R_putg HO_6.out (x10_2 : Int) true
 go_wp2_with (first | ((with_reducible refine gate_store (t := 4) (p := 37) rfl ?_); refine store_event (t := 4) (p := 37) (v := ?vo_w32) (w1 := (wr.setCell ⟨go27, (x10_2 : Int).toNat, none⟩ (.bool true))) ?hg ?ho ?hn ?hr ?_; (case ho => rfl); (case hg => rfl); (case hn => rfl); (case hr => first | (go_simp; done) | (go_simp; rfl)); intro w32 hw; have hg : wr.grownBy w32 (some go27) := (by rw [hw]; exact HP31.2); have hp_ : Kd.R Kd.bool 4 w32 w.heap.size (fun _ => True) (.slice (some ⟨go27, 0, none⟩) x6_2.length co16) y115 := (by rw [hw, Ny115.out]; exact HP31.1); clear HP31; replace HO_5 := aK (Kd.R_over' (v := (.slice (some ⟨go27, 0, none⟩) x6_2.length co16)) (pR HO_5.out) (Kd.R_typed HO_6.out) (by decide) hg); have n1_ := aK (hp_); replace HO_7 := aK (Kd.S_over' (v := (.slice (some ⟨go27, 0, none⟩) x6_2.length co16)) (pY HO_7.out) (Kd.R_typed HO_6.out) (by decide) hg); replace HO_9 := aK (Kd.R_over' (v := (.slice (some ⟨go27, 0, none⟩) x6_2.length co16)) (pR HO_9.out) (Kd.R_typed HO_6.out) (by decide) hg); replace HB := aK ((by rw [hw]; exact below_set (HB.out) GB27.out : Below w.heap.size w w32)); clear HO_6; have HO_6 := n1_; clear n1_ hg hw hp_; have p116 : 0 ≤ (x10_2 : Int) := dA; have q116 : x10_2 < (t101.length : Int) := dA; obtain ⟨ad116, e116, hx116_0, hx116_1, hx116_2, hx116_3, hx116_4⟩ := at_T54 (Kd.R_reads' HO_5.out).2.2 x10_2 p116 q116; cases e116; replace p116 := eq_true p116; replace q116 := eq_true q116) | ((with_reducible refine gate_builtin (b := .append) (xs := #[.tmp 38, .tmp 43]) rfl ?_); at_builtin; refine Kd.R_append k54 (w0 := w) w.heap.size rfl (.tmp 38) (.tmp 43) 50 54 (.agg #[(.int .i64 0), (.int .i64 0), (.int .i64 0), (.int .i64 0), (.int .i64 0)]) 40 rfl Try.underlying50 info54 rfl (by decide) (by omega) u9 x9_2 (⟨(rd_T54 t101 x10_2).f0, (⟨(rd_T54 t101 x10_2).f1.f0, (rd_T54 t101 x10_2).f1.f1⟩ : S48), (⟨(rd_T54 t101 x10_2).f2.f0, (rd_T54 t101 x10_2).f2.f1⟩ : S48)⟩ : S54) [.int .i64 ((rd_T54 t101 x10_2).f0), .int .i64 ((rd_T54 t101 x10_2).f1.f0), .int .i64 ((rd_T54 t101 x10_2).f1.f1), .int .i64 ((rd_T54 t101 x10_2).f2.f0), .int .i64 ((rd_T54 t101 x10_2).f2.f1)] (fun k_ => some k_ ≠ (.slice (some ad116) t101.length co7 : Value).ownBlock) (fun _ => False) rfl rfl ?aP (fun _ hk => hk.elim) ?aF ?aO ?aB ?aS ?aL ?_; (case aP => exact k54_mkM _ _ _ (⟨(rd_T54 t101 x10_2).f0, (⟨(rd_T54 t101 x10_2).f1.f0, (rd_T54 t101 x10_2).f1.f1⟩ : S48), (⟨(rd_T54 t101 x10_2).f2.f0, (rd_T54 t101 x10_2).f2.f1⟩ : S48)⟩ : S54)); (case aB => exact (pS HB.out)); (case aF => exact (fun k_ hk => Kd.fresh' (Kd.R_lt (pR HO_5.out)) k_ hk)); (case aO => exact (pR HO_9.out)); (case aS => exact (below_size (pS HB.out))); (case aL => have := LMc29.out; omega); intro v118 w33 ho hb hg hat; rw [← Ny117.out] at ho; replace HO_5 := aK (Kd.R_after (ok := (fun _ => True)) (pR (Kd.R_mono HO_5.out (fun _ hk => ⟨trivial, hk⟩))) hg hat); replace HO_6 := aK (Kd.R_over' (pR HO_6.out) (Kd.R_typed (pR HO_9.out)) (by decide) hg); replace HO_7 := aK (Kd.S_over' (pY HO_7.out) (Kd.R_typed (pR HO_9.out)) (by decide) hg); replace HB := aK (hb); have HO119 := aK (ho); clear HO_9; clear ho hb hg hat) | ((with_reducible refine gc 33 rfl ?_); refine gl (some 34) Try.func33 #[.slice (some ad116) t101.length co7, .int .i64 x10_2] ?_; (with_reducible refine (impl_sideBehind.calls k2 _ _ t101 x10_2 t120 _ ?side1 ?side2 A30.out).mono ?_); (case side1 => exact pC (Kd.R_reads' HO_5.out).2.2); (case side2 => exact (Kd.R_reads' HO_5.out).2.1); rintro e w34 ⟨rfl, hb⟩; refine ⟨_, rfl, ?_⟩; replace HO_5 := rb HO_5 hb; replace HO_6 := rb HO_6 hb; replace HO_7 := sb HO_7 hb; replace HO119 := rb HO119 hb; replace HB := bS HB hb; (try clear hb)))
 (try simp only [← hl6_2])
 go_roundg k2
 case measure => have := HK1.out; have := HK2.out; omega
 case rel => exact ⟨(y115), (y117), (t120), (by first | rfl | (simp; done) | (simp [*]; done)), H', ⟨by have := HK1.out; have := HK2.out; omega⟩, ⟨by (try simp only [hl6_2]); (with_reducible repeat (first | apply Kd.R_alloc | apply Kd.R_drewN | apply Kd.R_drew)); exact Kd.R_mono HO_5.out (fun _ hk => hk.2)⟩, ⟨by (try simp only [hl6_2]); (with_reducible repeat (first | apply Kd.R_alloc | apply Kd.R_drewN | apply Kd.R_drew)); exact HO_6.out⟩, ⟨by (try simp only [hl6_2]); (with_reducible repeat (first | apply Kd.S_alloc | apply Kd.S_drewN | apply Kd.S_drew)); exact HO_7.out⟩, ⟨by (try simp only [hl6_2]); (with_reducible repeat (first | apply Kd.R_alloc | apply Kd.R_drewN | apply Kd.R_drew)); exact HO119.out⟩, ⟨pT HB.out⟩⟩
def impl_loopArea.l0 : Nat → List (S48) → Int → List (S48) → Int → Int → Option (Int)
 | 0, _, _, _, _, _ => none
 | k + 1, x0, x3, x7, x8, x9 => if x9 < x8 then (if 0 ≤ x9 then (if x9 < (x7.length : Int) then (if (x0.length : Int) = 0 then (none) else (if 0 ≤ (Int.tmod (wrap64 (x9 + 1)) (x0.length : Int)) then (if (Int.tmod (wrap64 (x9 + 1)) (x0.length : Int)) < (x0.length : Int) then (impl_loopArea.l0 k x0 (wrap64 (x3 + (wrap64 ((wrap64 (((rd_T48 x7 x9).f0) * ((rd_T48 x0 (Int.tmod (wrap64 (x9 + 1)) (x0.length : Int))).f1))) - (wrap64 (((rd_T48 x0 (Int.tmod (wrap64 (x9 + 1)) (x0.length : Int))).f0) * ((rd_T48 x7 x9).f1))))))) x7 x8 (wrap64 (x9 + 1))) else (none)) else (none))) else (none)) else (none)) else (some (wrap64 (Int.tdiv x3 2)))
def impl_loopArea.f (k : Nat) (l0 : List (S48)) : Option (Int) := impl_loopArea.l0 k l0 0 l0 (l0.length : Int) 0
theorem impl_loopArea.calls (k : Nat) (A0 : Option Addr) (c0 : Nat) (l0 : List (S48)) (r : Int) (w : World) (hr0 : Kd.C k48 w A0 l0.length l0) (hc0 : l0.length ≤ c0) (h : impl_loopArea.f k l0 = some r) :
  Calls Try.prog 20 #[.slice A0 l0.length c0] w fun e w' => e = .returned (.int .i64 r) ∧ Below w.heap.size w w' := by
 have hu48 := Try.underlying48
 have HR0 := aK hr0
 have HC0 := aK hc0
 clear hr0 hc0
 have HB := aK (Below.refl w.heap.size w)
 have H : (impl_loopArea.l0 k l0 0 l0 (l0.length : Int) 0) = some r := h
 clear h
 have H' := aK H
 clear H
 go_enter Try.func20, Try.ntmps20
 go_wp2
 go_loopg [3, 9] k (fun kq v3 v9 w' => ∃ (x3_1 : Int) (x9_1 : Int), v3 = .int .i64 x3_1 ∧ v9 = .int .i64 x9_1 ∧ Aside0 (impl_loopArea.l0 kq l0 x3_1 l0 (l0.length : Int) x9_1 = some r) ∧ Aside0 (kq ≤ k) ∧ Aside0 (Below w.heap.size w w'))
 case atStart => exact ⟨(0), (0), (by first | rfl | (simp; done) | (simp [*]; done)), (by first | rfl | (simp; done) | (simp [*]; done)), H', ⟨Nat.le_refl _⟩, ⟨pT HB.out⟩⟩
 case round =>
 clear H'
 obtain ⟨x3_1, x9_1, rfl, rfl, HA, HK1, HB⟩ := hrel
 cases gk with
 | zero => exact absurd HA.out (by simp [impl_loopArea.l0])
 | succ k1 =>
 have H := HA.out
 clear HA
 simp only [impl_loopArea.l0] at H
 by_cases c2 : x9_1 < (l0.length : Int)
 rotate_left
 ·
  rw [if_neg c2] at H
  have c2b0 : decide (x9_1 < (l0.length : Int)) = false := decide_eq_false c2
  clear c2
  obtain rfl := Option.some.inj H
  go_wp2
  go_ret
  exact ⟨er, pT HB.out⟩
 rw [if_pos c2] at H
 have c2b0 : decide (x9_1 < (l0.length : Int)) = true := decide_eq_true c2
 clear c2
 by_cases c3 : 0 ≤ x9_1
 rotate_left
 ·
  rw [if_neg c3] at H
  exact absurd H (by simp)
 rw [if_pos c3] at H
 have c3b0 : decide (0 ≤ x9_1) = true := decide_eq_true c3
 clear c3
 by_cases c4 : x9_1 < (l0.length : Int)
 rotate_left
 ·
  rw [if_neg c4] at H
  exact absurd H (by simp)
 rw [if_pos c4] at H
 have c4b0 : decide (x9_1 < (l0.length : Int)) = true := decide_eq_true c4
 clear c4
 by_cases c5 : (l0.length : Int) = 0
 ·
  rw [if_pos c5] at H
  exact absurd H (by simp)
 rw [if_neg c5] at H
 have c5b0 : ((l0.length : Int) == 0) = false := beq_eq_false_iff_ne.mpr c5
 have c5b1 : ((l0.length : Int) != 0) = true := bne_iff_ne.mpr c5
 have c5b2 : ¬ (l0 = []) := fun h_ => c5 (by rw [h_]; rfl)
 obtain ⟨ji6, hji6⟩ : ∃ j_ : Int, (Int.tmod (wrap64 (x9_1 + 1)) (l0.length : Int)) = j_ := ⟨_, rfl⟩
 replace H : (if 0 ≤ (ji6) then (if (ji6) < (l0.length : Int) then (impl_loopArea.l0 k1 l0 (wrap64 (x3_1 + (wrap64 ((wrap64 (((rd_T48 l0 x9_1).f0) * ((rd_T48 l0 (ji6)).f1))) - (wrap64 (((rd_T48 l0 (ji6)).f0) * ((rd_T48 l0 x9_1).f1))))))) l0 (l0.length : Int) (wrap64 (x9_1 + 1))) else (none)) else (none)) = some r := by first | (rw [hji6] at H; exact H) | (simp only [hji6] at H ⊢; exact H)
 by_cases c7 : 0 ≤ (ji6)
 rotate_left
 ·
  rw [if_neg c7] at H
  exact absurd H (by simp)
 rw [if_pos c7] at H
 have c7b0 : decide (0 ≤ (ji6)) = true := decide_eq_true c7
 clear c7
 by_cases c8 : (ji6) < (l0.length : Int)
 rotate_left
 ·
  rw [if_neg c8] at H
  exact absurd H (by simp)
 rw [if_pos c8] at H
 have c8b0 : decide ((ji6) < (l0.length : Int)) = true := decide_eq_true c8
 clear c8
 have H' := aK H
 clear H
 have p101 : 0 ≤ (x9_1 : Int) := dA
 have q101 : x9_1 < (l0.length : Int) := dA
 obtain ⟨ad101, e101, hx101_0, hx101_1⟩ := at_T48 HR0.out x9_1 p101 q101
 cases e101
 replace hx101_0 := (HB.out.cell (World.block_lt_of_cell? w _ hx101_0)).trans hx101_0
 replace hx101_1 := (HB.out.cell (World.block_lt_of_cell? w _ hx101_1)).trans hx101_1
 replace p101 := eq_true p101
 replace q101 := eq_true q101
 go_wp2_with (first | ((with_reducible refine ga 5 rfl ?_); refine bxa #[.int .i64 0, .int .i64 0] 48 ?_; intro g102 hg w9 B102 hb; have GW102 := gA hg HB; replace HB := bS HB hb; clear hb hg; obtain ⟨_, _, _, _⟩ := bc2 B102.out; have p103 : 0 ≤ ((ji6) : Int) := dA; have q103 : (ji6) < (l0.length : Int) := dA; obtain ⟨ad103, e103, hx103_0, hx103_1⟩ := at_T48 HR0.out (ji6) p103 q103; obtain rfl : ad101 = ad103 := (by injection e103); have hn103_0 : ad101.block ≠ g102 := Nat.ne_of_lt (Nat.lt_of_lt_of_le (by have := World.block_lt_of_cell? _ _ hx103_0; first | rwa [add_block] at this | exact this) GW102.out); have hn103_1 : ad101.block ≠ g102 := Nat.ne_of_lt (Nat.lt_of_lt_of_le (by have := World.block_lt_of_cell? _ _ hx103_0; first | rwa [add_block] at this | exact this) GW102.out); replace hx103_0 := (HB.out.cell (World.block_lt_of_cell? w _ hx103_0)).trans hx103_0; replace hx103_1 := (HB.out.cell (World.block_lt_of_cell? w _ hx103_1)).trans hx103_1; replace hx103_0 := (cell_far (p := ⟨g102, 0, none⟩) (by first | (rw [add_block]; exact hn103_0) | (show (Addr.add _ _).block ≠ _; rw [add_block]; exact hn103_0) | exact hn103_0) (.int .i64 ((rd_T48 l0 x9_1).f0))).trans hx103_0; replace hx103_1 := (cell_far (p := ⟨g102, 0, none⟩) (by first | (rw [add_block]; exact hn103_0) | (show (Addr.add _ _).block ≠ _; rw [add_block]; exact hn103_0) | exact hn103_0) (.int .i64 ((rd_T48 l0 x9_1).f0))).trans hx103_1; replace hx103_0 := (cell_far (p := ⟨g102, 1, none⟩) (by first | (rw [add_block]; exact hn103_1) | (show (Addr.add _ _).block ≠ _; rw [add_block]; exact hn103_1) | exact hn103_1) (.int .i64 ((rd_T48 l0 x9_1).f1))).trans hx103_0; replace hx103_1 := (cell_far (p := ⟨g102, 1, none⟩) (by first | (rw [add_block]; exact hn103_1) | (show (Addr.add _ _).block ≠ _; rw [add_block]; exact hn103_1) | exact hn103_1) (.int .i64 ((rd_T48 l0 x9_1).f1))).trans hx103_1; clear hn103_0 hn103_1; replace p103 := eq_true p103; replace q103 := eq_true q103) | ((with_reducible refine ga 6 rfl ?_); refine bxe (cs := #[.int .i64 0, .int .i64 0]) (t := 48) ?_; intro g104 hg w11 hbox hb; have n0_ := aK (blk_below (g := g102) (o := .cells #[.int .i64 ((rd_T48 l0 x9_1).f0), .int .i64 ((rd_T48 l0 x9_1).f1)] 48 (0, 0)) (by refine bq #[.int .i64 ((rd_T48 l0 x9_1).f0), .int .i64 0] 1 ?_; refine bq #[.int .i64 0, .int .i64 0] 0 ?_; refine bk ?_; exact B102.out) hb); have B104 := aK (hbox); have GW104 := gA hg HB; have N102_104 := aK (nL hg (a := g102) (o := .cells #[.int .i64 ((rd_T48 l0 x9_1).f0), .int .i64 ((rd_T48 l0 x9_1).f1)] 48 (0, 0)) (by refine bq #[.int .i64 ((rd_T48 l0 x9_1).f0), .int .i64 0] 1 ?_; refine bq #[.int .i64 0, .int .i64 0] 0 ?_; refine bk ?_; exact B102.out)); have N104_102 := aK (nG hg (a := g102) (o := .cells #[.int .i64 ((rd_T48 l0 x9_1).f0), .int .i64 ((rd_T48 l0 x9_1).f1)] 48 (0, 0)) (by refine bq #[.int .i64 ((rd_T48 l0 x9_1).f0), .int .i64 0] 1 ?_; refine bq #[.int .i64 0, .int .i64 0] 0 ?_; refine bk ?_; exact B102.out)); replace HB := bS HB hb; clear B102; have B102 := n0_; clear n0_ hb hbox hg; obtain ⟨_, _⟩ := nB N104_102; obtain ⟨_, _, _, _⟩ := bc2 B104.out; obtain ⟨_, _, _, _⟩ := bc2 B102.out))
 go_roundg k1
 case measure => have := HK1.out; omega
 case rel => exact ⟨(wrap64 (x3_1 + (wrap64 ((wrap64 (((rd_T48 l0 x9_1).f0) * ((rd_T48 l0 (ji6)).f1))) - (wrap64 (((rd_T48 l0 (ji6)).f0) * ((rd_T48 l0 x9_1).f1))))))), (wrap64 (x9_1 + 1)), (by first | rfl | (simp; done) | (simp only [← hji6] <;> (first | rfl | simp)) | (simp [*]; done)), (by first | rfl | (simp; done) | (simp [*]; done)), H', ⟨by have := HK1.out; omega⟩, ⟨pT HB.out⟩⟩
end Go.Proofs.Ytnbpcacnbfbjkaa.P
