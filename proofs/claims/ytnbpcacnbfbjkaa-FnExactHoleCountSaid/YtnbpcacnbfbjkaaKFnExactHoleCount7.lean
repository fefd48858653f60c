/- Texts of the claim FnExactHoleCount, merged: part 7 of 10: the program's and the reference's functions as Lean functions, the walks that show it, and plain lemmas; no conditions. -/
import Derived.Test.YtnbpcacnbfbjkaaKFnExactHoleCount3
import Derived.Test.YtnbpcacnbfbjkaaKFnExactHoleCount6
import Derived.Test.YtnbpcacnbfbjkaaKFnExactHoleCount2
import Derived.WalkKit
open Go.RowKit Go.Proofs.YtnbpcacnbfbjkaaW.PrintWords Go.Proofs.YtnbpcacnbfbjkaaW.PrintLast Go.Proofs.YtnbpcacnbfbjkaaW.PrintMore
set_option linter.unusedVariables false
set_option linter.unusedSimpArgs false
set_option maxHeartbeats 8000000
set_option maxRecDepth 100000
namespace Go.Proofs.Ytnbpcacnbfbjkaa.P
attribute [local go_sem] max2_int min2_int max_two min_two max_three min_three max_four min_four
def spec_HoleCount.l0 : Nat → List (List (S48)) → Int → Int → Option (Int × Bool)
 | 0, _, _, _ => none
 | k + 1, x8, x9, x10 => if x10 < (x8.length : Int) then (if 0 ≤ x10 then ((spec_l8Area.f k (rd_L3 x8 x10)).bind fun t106 => (if t106 < 0 then (spec_HoleCount.l0 k x8 (wrap64 (x9 + 1)) (wrap64 (x10 + 1))) else (spec_HoleCount.l0 k x8 x9 (wrap64 (x10 + 1))))) else (none)) else (some (x9, true))
def spec_HoleCount.f (k : Nat) (a0 : Int) (a1 : Int) (l2 : List Int) : Option (Int × Bool) := (spec_l8Region.f k a0 a1 l2).bind fun t101 => (if t101 = true then ((spec_l8Loops.f k a0 a1 l2).bind fun t102 => (spec_HoleCount.l0 k t102 0 0)) else (some (0, false)))
theorem spec_HoleCount.calls (k : Nat) (a0 : Int) (a1 : Int) (A2 : Option Addr) (c2 : Nat) (l2 : List Int) (r1 : Int) (r2 : Bool) (w : World) (hr2 : Kd.C (Kd.int .i64) w A2 l2.length l2) (hc2 : l2.length ≤ c2) (h : spec_HoleCount.f k a0 a1 l2 = some (r1, r2)) :
  Calls Try.prog 5 #[.int .i64 a0, .int .i64 a1, .slice A2 l2.length c2] w fun e w' => e = .returned (.tuple #[.int .i64 r1, .bool r2]) ∧ Below w.heap.size w w' := by
 have HR2 := aK hr2
 have HC2 := aK hc2
 clear hr2 hc2
 have HB := aK (Below.refl w.heap.size w)
 have H : ((spec_l8Region.f k a0 a1 l2).bind fun t101 => (if t101 = true then ((spec_l8Loops.f k a0 a1 l2).bind fun t102 => (spec_HoleCount.l0 k t102 0 0)) else (some (0, false)))) = some (r1, r2) := h
 clear h
 replace H := oA H
 obtain ⟨t101, A4, H⟩ := H
 replace H : (if t101 = true then ((spec_l8Loops.f k a0 a1 l2).bind fun t102 => (spec_HoleCount.l0 k t102 0 0)) else (some (0, false))) = some (r1, r2) := H
 by_cases c5 : t101 = true
 rotate_left
 ·
  replace c5 := Bool.eq_false_iff.mpr c5; subst c5
  have H1 : (some (0, false)) = some (r1, r2) := by rw [if_neg (show ¬ (false = true) by decide)] at H; exact H
  clear H; have H := H1; clear H1
  simp only [Option.some.injEq, Prod.mk.injEq] at H
  obtain ⟨rfl, rfl⟩ := H
  go_enter Try.func5, Try.ntmps5
  go_wp2_with (first | ((with_reducible refine gc 15 rfl ?_); refine gl (some 14) Try.func15 #[.int .i64 a0, .int .i64 a1, .slice A2 l2.length c2] ?_; (with_reducible refine (spec_l8Region.calls k a0 a1 _ _ l2 false _ ?side1 ?side2 A4.out).mono ?_); (case side1 => exact pC HR2.out); (case side2 => exact HC2.out); rintro e w' ⟨rfl, ⟨nd, rfl⟩⟩; refine ⟨_, rfl, ?_⟩))
  go_ret2
  exact ⟨er, pT HB.out⟩
 subst c5
 have H1 : ((spec_l8Loops.f k a0 a1 l2).bind fun t102 => (spec_HoleCount.l0 k t102 0 0)) = some (r1, r2) := by rw [if_pos rfl] at H; exact H
 clear H
 have H := H1
 clear H1
 replace H := oA H
 obtain ⟨t102, A6, H⟩ := H
 replace H : (spec_HoleCount.l0 k t102 0 0) = some (r1, r2) := H
 have H' := aK H
 clear H
 go_enter Try.func5, Try.ntmps5
 go_wp2_with (first | ((with_reducible refine gc 15 rfl ?_); refine gl (some 14) Try.func15 #[.int .i64 a0, .int .i64 a1, .slice A2 l2.length c2] ?_; (with_reducible refine (spec_l8Region.calls k a0 a1 _ _ l2 true _ ?side1 ?side2 A4.out).mono ?_); (case side1 => exact pC HR2.out); (case side2 => exact HC2.out); rintro e w' ⟨rfl, ⟨nd, rfl⟩⟩; refine ⟨_, rfl, ?_⟩) | ((with_reducible refine gc 16 rfl ?_); refine gl (some 19) Try.func16 #[.int .i64 a0, .int .i64 a1, .slice A2 l2.length c2] ?_; (with_reducible refine (spec_l8Loops.calls k a0 a1 _ _ l2 t102 _ ?side1 ?side2 A6.out).mono ?_); (case side1 => exact pC HR2.out); (case side2 => exact HC2.out); rintro e w7 ⟨v103, rfl, ho0, hb⟩; refine ⟨_, rfl, ?_⟩; have HO104 := aK (Kd.N_lower (Kd.N_mono (ok' := fun k_ => True) ho0 (fun k_ hk_ => trivial)) (below_size (pS HB.out))); replace HB := bS HB hb; (try clear hb); (try clear ho0)))
 go_loopg [9, 10] k (fun kq v9 v10 w' => ∃ (x9_1 : Int) (x10_1 : Int), v9 = .int .i64 x9_1 ∧ v10 = .int .i64 x10_1 ∧ Aside0 (spec_HoleCount.l0 kq t102 x9_1 x10_1 = some (r1, r2)) ∧ Aside0 (kq ≤ k) ∧ Aside0 (Kd.N (Kd.slice 48 k48) 36 w' w.heap.size (fun _ => True) v103 t102) ∧ Aside0 (Below w.heap.size w w'))
 case atStart => exact ⟨(0), (0), (by first | rfl | (simp; done) | (simp [*]; done)), (by first | rfl | (simp; done) | (simp [*]; done)), H', ⟨Nat.le_refl _⟩, ⟨by (with_reducible repeat (first | apply Kd.N_alloc | apply Kd.N_drewN | apply Kd.N_drew)); exact HO104.out⟩, ⟨pT HB.out⟩⟩
 case round =>
 clear H'
 try clear c1
 try clear c2
 try clear p2
 try clear c5
 obtain ⟨x9_1, x10_1, rfl, rfl, HA, HK1, HO_8, HB⟩ := hrel
 cases gk with
 | zero => exact absurd HA.out (by simp [spec_HoleCount.l0])
 | succ k1 =>
 have H := HA.out
 clear HA
 simp only [spec_HoleCount.l0] at H
 by_cases c8 : x10_1 < (t102.length : Int)
 rotate_left
 ·
  rw [if_neg c8] at H
  have c8b0 : decide (x10_1 < (t102.length : Int)) = false := decide_eq_false c8
  clear c8
  simp only [Option.some.injEq, Prod.mk.injEq] at H
  obtain ⟨rfl, rfl⟩ := H; obtain ⟨Ao16, co16, eo16⟩ := Kd.N_slice HO_8.out; subst eo16
  go_wp2
  go_ret2
  exact ⟨er, pT HB.out⟩
 rw [if_pos c8] at H
 have c8b0 : decide (x10_1 < (t102.length : Int)) = true := decide_eq_true c8
 clear c8
 by_cases c9 : 0 ≤ x10_1
 rotate_left
 ·
  rw [if_neg c9] at H
  exact absurd H (by simp)
 rw [if_pos c9] at H
 have c9b0 : decide (0 ≤ x10_1) = true := decide_eq_true c9
 clear c9
 replace H := oA H
 obtain ⟨t106, A10, H⟩ := H
 replace H : (if t106 < 0 then (spec_HoleCount.l0 k1 t102 (wrap64 (x9_1 + 1)) (wrap64 (x10_1 + 1))) else (spec_HoleCount.l0 k1 t102 x9_1 (wrap64 (x10_1 + 1)))) = some (r1, r2) := H
 by_cases c11 : t106 < 0
 ·
  rw [if_pos c11] at H
  have c11b0 : decide (t106 < 0) = true := decide_eq_true c11
  clear c11; have H' := aK H; clear H; obtain ⟨Ao12, co12, eo12⟩ := Kd.N_slice HO_8.out; subst eo12
  have p105 : 0 ≤ (x10_1 : Int) := dA
  have q105 : x10_1 < (t102.length : Int) := dA
  obtain ⟨ad105, A105_0, c105_0, e105, hx105_0, hl105_0, hi105_0⟩ := at_L3 (Kd.N_reads' HO_8.out).2.2 x10_1 p105 q105; cases e105
  obtain ⟨ce105, hce105, hMe105, hcc105⟩ := Kd.N_get HO_8.out [] x10_1 p105 (by first | exact q105 | exact dA | (have e_ := (Kd.N_reads' HO_8.out).1; omega))
  obtain ⟨ua105_0, uc105_0, rfl, ul105_0, ge105_0⟩ := Kd.FK_slice_open hMe105; have hv105_0 := hcc105 0 _ rfl
  rw [Nat.add_zero, show ((Kd.slice 48 k48)).sz = 1 from rfl, Nat.mul_one] at hv105_0
  replace hv105_0 := Option.some.inj (hv105_0.symm.trans hx105_0)
  injection hv105_0 with hva_ hvn_ hvc_
  rw [hva_] at ge105_0; rw [hvc_] at ul105_0
  have HL105_0 := aK (show Kd.V k48 48 _ w.heap.size _ _ (rd_L3 t102 x10_1) from Kd.V_mk ul105_0 ge105_0)
  clear hva_ hvn_ hvc_ ge105_0 ul105_0 hcc105 hce105; have HR105_0 := aK hi105_0; have HC105_0 := aK hl105_0; clear hi105_0 hl105_0; replace p105 := eq_true p105; replace q105 := eq_true q105
  go_wp2_with (first | ((with_reducible refine gc 17 rfl ?_); refine gl (some 30) Try.func17 #[.slice A105_0 (rd_L3 t102 x10_1).length c105_0] ?_; (with_reducible refine (spec_l8Area.calls k1 _ _ (rd_L3 t102 x10_1) t106 _ ?side1 ?side2 A10.out).mono ?_); (case side1 => repeat (first | exact (pC HR105_0.out) | (with_reducible refine Kd.C_alloc ?_ _) | (with_reducible refine Kd.C_drewN ?_ _) | (with_reducible refine Kd.C_drew ?_))); (case side2 => exact HC105_0.out); rintro e w13 ⟨rfl, hb⟩; refine ⟨_, rfl, ?_⟩; replace HO_8 := aK (Kd.N_below (by (with_reducible repeat (first | apply Kd.N_alloc | apply Kd.N_drewN | apply Kd.N_drew)); exact HO_8.out) hb); replace HL105_0 := vb HL105_0 hb; replace HR105_0 := aK (Kd.C_below (pC HR105_0.out) hb); replace HB := bS HB hb; (try clear hb)))
  go_roundg k1
  case measure => have := HK1.out; omega
  case rel => exact ⟨(wrap64 (x9_1 + 1)), (wrap64 (x10_1 + 1)), (by first | rfl | (simp; done) | (simp [*]; done)), (by first | rfl | (simp; done) | (simp [*]; done)), H', ⟨by have := HK1.out; omega⟩, ⟨by (with_reducible repeat (first | apply Kd.N_alloc | apply Kd.N_drewN | apply Kd.N_drew)); exact HO_8.out⟩, ⟨pT HB.out⟩⟩
 rw [if_neg c11] at H
 have c11b0 : decide (t106 < 0) = false := decide_eq_false c11
 clear c11
 have H' := aK H
 clear H
 obtain ⟨Ao14, co14, eo14⟩ := Kd.N_slice HO_8.out
 subst eo14
 have p105 : 0 ≤ (x10_1 : Int) := dA
 have q105 : x10_1 < (t102.length : Int) := dA
 obtain ⟨ad105, A105_0, c105_0, e105, hx105_0, hl105_0, hi105_0⟩ := at_L3 (Kd.N_reads' HO_8.out).2.2 x10_1 p105 q105
 cases e105
 obtain ⟨ce105, hce105, hMe105, hcc105⟩ := Kd.N_get HO_8.out [] x10_1 p105 (by first | exact q105 | exact dA | (have e_ := (Kd.N_reads' HO_8.out).1; omega))
 obtain ⟨ua105_0, uc105_0, rfl, ul105_0, ge105_0⟩ := Kd.FK_slice_open hMe105
 have hv105_0 := hcc105 0 _ rfl
 rw [Nat.add_zero, show ((Kd.slice 48 k48)).sz = 1 from rfl, Nat.mul_one] at hv105_0
 replace hv105_0 := Option.some.inj (hv105_0.symm.trans hx105_0)
 injection hv105_0 with hva_ hvn_ hvc_
 rw [hva_] at ge105_0
 rw [hvc_] at ul105_0
 have HL105_0 := aK (show Kd.V k48 48 _ w.heap.size _ _ (rd_L3 t102 x10_1) from Kd.V_mk ul105_0 ge105_0)
 clear hva_ hvn_ hvc_ ge105_0 ul105_0 hcc105 hce105
 have HR105_0 := aK hi105_0
 have HC105_0 := aK hl105_0
 clear hi105_0 hl105_0
 replace p105 := eq_true p105
 replace q105 := eq_true q105
 go_wp2_with (first | ((with_reducible refine gc 17 rfl ?_); refine gl (some 30) Try.func17 #[.slice A105_0 (rd_L3 t102 x10_1).length c105_0] ?_; (with_reducible refine (spec_l8Area.calls k1 _ _ (rd_L3 t102 x10_1) t106 _ ?side1 ?side2 A10.out).mono ?_); (case side1 => repeat (first | exact (pC HR105_0.out) | (with_reducible refine Kd.C_alloc ?_ _) | (with_reducible refine Kd.C_drewN ?_ _) | (with_reducible refine Kd.C_drew ?_))); (case side2 => exact HC105_0.out); rintro e w15 ⟨rfl, hb⟩; refine ⟨_, rfl, ?_⟩; replace HO_8 := aK (Kd.N_below (by (with_reducible repeat (first | apply Kd.N_alloc | apply Kd.N_drewN | apply Kd.N_drew)); exact HO_8.out) hb); replace HL105_0 := vb HL105_0 hb; replace HR105_0 := aK (Kd.C_below (pC HR105_0.out) hb); replace HB := bS HB hb; (try clear hb)))
 go_roundg k1
 case measure => have := HK1.out; omega
 case rel => exact ⟨(x9_1), (wrap64 (x10_1 + 1)), (by first | rfl | (simp; done) | (simp [*]; done)), (by first | rfl | (simp; done) | (simp [*]; done)), H', ⟨by have := HK1.out; omega⟩, ⟨by (with_reducible repeat (first | apply Kd.N_alloc | apply Kd.N_drewN | apply Kd.N_drew)); exact HO_8.out⟩, ⟨pT HB.out⟩⟩
def laws_toIntS.l0 : Nat → List Int → List Int → Int → Option (List Int)
 | 0, _, _, _ => none
 | k + 1, x0, x3, x4 => if x4 < (x0.length : Int) then (if 0 ≤ x4 then (if x4 < (x3.length : Int) then (laws_toIntS.l0 k x0 (x3.set (x4 : Int).toNat (rd x0 x4)) (wrap64 (x4 + 1))) else (none)) else (none)) else (some x3)
def laws_toIntS.f (k : Nat) (l0 : List Int) : Option (List Int) := if 0 ≤ (l0.length : Int) then (if ((l0.length : Int) : Int).toNat ≤ 35184372088832 then (laws_toIntS.l0 k l0 (List.replicate ((l0.length : Int) : Int).toNat 0) 0) else (none)) else (none)
theorem laws_toIntS.calls (k : Nat) (A0 : Option Addr) (c0 : Nat) (l0 : List Int) (r : List Int) (w : World) (hr0 : Kd.C (Kd.int .i64) w A0 l0.length l0) (hc0 : l0.length ≤ c0) (h : laws_toIntS.f k l0 = some r) :
  Calls Try.prog 6 #[.slice A0 l0.length c0] w fun e w' => ∃ v0_ : Value, e = .returned (v0_) ∧ Kd.R (Kd.int .i64) 3 w' w.heap.size (fun _ => True) v0_ r ∧ Below w.heap.size w w' := by
 have HR0 := aK hr0
 have HC0 := aK hc0
 clear hr0 hc0
 have HB := aK (Below.refl w.heap.size w)
 have H : (if 0 ≤ (l0.length : Int) then (if ((l0.length : Int) : Int).toNat ≤ 35184372088832 then (laws_toIntS.l0 k l0 (List.replicate ((l0.length : Int) : Int).toNat 0) 0) else (none)) else (none)) = some r := h
 clear h
 by_cases c2 : 0 ≤ (l0.length : Int)
 rotate_left
 ·
  rw [if_neg c2] at H
  exact absurd H (by simp)
 rw [if_pos c2] at H
 have c2b0 := eq_true c2
 have c2b1 : decide (0 ≤ (l0.length : Int)) = true := decide_eq_true c2
 clear c2
 by_cases c3 : ((l0.length : Int) : Int).toNat ≤ 35184372088832
 rotate_left
 ·
  rw [if_neg c3] at H
  exact absurd H (by simp)
 rw [if_pos c3] at H
 have c3b0 := eq_true c3
 have c3b1 : decide (((l0.length : Int) : Int).toNat ≤ 35184372088832) = true := decide_eq_true c3
 clear c3
 obtain ⟨y101, hy101⟩ : ∃ y_ : List Int, y_ = (List.replicate ((l0.length : Int) : Int).toNat 0) := ⟨_, rfl⟩
 replace H : (laws_toIntS.l0 k l0 y101 0) = some r := by first | (rw [hy101]; first | with_reducible exact H | with_reducible exact (oS H :)) | with_reducible exact (oS H :) | with_reducible exact H | exact H
 have Ny101 := aK hy101
 clear hy101
 have H' := aK H
 clear H
 go_enter Try.func6, Try.ntmps6
 go_wp2_with (first | ((with_reducible refine ga 7 rfl ?_); refine Kd.R_make (Kd.int .i64) _ 3 rfl (N := 7) rfl 22 _ _ rfl (l0.length : Int) rfl rfl Try.underlying22 (.int .i64 0) 8 info3 rfl (by decide) (by omega) 0 (ok := fun _ => True) (okp := fun _ => True) rfl (fun _ hk => hk) trivial (dA) (Nat.le_trans (Nat.mul_le_mul_right _ (dA : (l0.length : Int).toNat ≤ 35184372088832)) (by omega)) (Below.refl _ _) (Nat.le_refl _) ?_; intro v102 w4 ho5 hb hg_ hnew_; clear hg_ hnew_; (first | rw [← Ny101.out] at ho5 | (simp only [Int.reduceToNat] at ho5; rw [← Ny101.out] at ho5)); have HO103 := aK (Kd.R_lower ho5 (below_size (pS HB.out))); replace HB := bS HB hb; clear hb ho5))
 go_loopg [4] k (fun kq v4 w' => ∃ (x3_1 : List Int) (x4_1 : Int), v4 = .int .i64 x4_1 ∧ Aside0 (laws_toIntS.l0 kq l0 x3_1 x4_1 = some r) ∧ Aside0 (kq ≤ k) ∧ Aside0 (Kd.R (Kd.int .i64) 3 w' w.heap.size (fun _ => True) v102 x3_1) ∧ Aside0 (Below w.heap.size w w'))
 case atStart => exact ⟨(y101), (0), (by first | rfl | (simp; done) | (simp [*]; done)), H', ⟨Nat.le_refl _⟩, ⟨pR HO103.out⟩, ⟨pT HB.out⟩⟩
 case round =>
 clear H'
 try clear c2
 try clear c2b0
 try clear c2b1
 try clear p2
 try clear c3
 try clear c3b0
 try clear c3b1
 obtain ⟨x3_1, x4_1, rfl, HA, HK1, HO_3, HB⟩ := hrel
 cases gk with
 | zero => exact absurd HA.out (by simp [laws_toIntS.l0])
 | succ k1 =>
 have H := HA.out
 clear HA
 simp only [laws_toIntS.l0] at H
 by_cases c6 : x4_1 < (l0.length : Int)
 rotate_left
 ·
  rw [if_neg c6] at H
  have c6b0 : decide (x4_1 < (l0.length : Int)) = false := decide_eq_false c6
  clear c6
  obtain rfl := Option.some.inj H
  go_wp2
  go_ret
  exact ⟨_, er, by (with_reducible repeat (first | apply Kd.R_alloc | apply Kd.R_drewN | apply Kd.R_drew)); exact HO_3.out, pT HB.out⟩
 rw [if_pos c6] at H
 have c6b0 : decide (x4_1 < (l0.length : Int)) = true := decide_eq_true c6
 clear c6
 by_cases c7 : 0 ≤ x4_1
 rotate_left
 ·
  rw [if_neg c7] at H
  exact absurd H (by simp)
 rw [if_pos c7] at H
 have c7b0 : decide (0 ≤ x4_1) = true := decide_eq_true c7
 clear c7
 by_cases c8 : x4_1 < (x3_1.length : Int)
 rotate_left
 ·
  rw [if_neg c8] at H
  exact absurd H (by simp)
 rw [if_pos c8] at H
 have c8b0 : decide (x4_1 < (x3_1.length : Int)) = true := decide_eq_true c8
 clear c8
 obtain ⟨y105, hy105⟩ : ∃ y_ : List Int, y_ = (x3_1.set (x4_1 : Int).toNat (rd l0 x4_1)) := ⟨_, rfl⟩
 replace H : (laws_toIntS.l0 k1 l0 y105 (wrap64 (x4_1 + 1))) = some r := by first | (rw [hy105]; first | with_reducible exact H | with_reducible exact (oS H :)) | with_reducible exact (oS H :) | with_reducible exact H | exact H
 have Ny105 := aK hy105
 clear hy105
 have H' := aK H
 clear H
 have p104 : 0 ≤ (x4_1 : Int) := dA
 have q104 : x4_1 < (l0.length : Int) := dA
 obtain ⟨ad104, e104, hx104_0⟩ := Kd.at_int HR0.out x4_1 p104 q104
 cases e104
 replace hx104_0 := (HB.out.cell (World.block_lt_of_cell? w _ hx104_0)).trans hx104_0
 replace p104 := eq_true p104
 replace q104 := eq_true q104
 have p9 : 0 ≤ (x4_1 : Int) := dA
 have q9 : (x4_1 : Int) < ((x3_1.length : Int) : Int) := dA
 obtain ⟨go9, co9, eo9, g9, gl9, cl9, HG9⟩ := Kd.R_form HO_3.out (by omega)
 (first | cases eo9 | (injection eo9 with ea_ en_ ec_; (first | subst ea_ | (injection ea_ with ea_; subst ea_)); subst ec_; clear en_))
 have GB9 := aK g9
 have GG9 := aK HG9
 clear g9 gl9 HG9
 obtain ⟨hx9_0, hf9_0⟩ := Kd.R_celln 0 HO_3.out (x4_1 : Int) p9 q9
 replace p9 := eq_true p9
 replace q9 := eq_true q9
 have HP10 := Kd.R_putg HO_3.out (x4_1 : Int) (rd l0 x4_1)
 go_wp2_with (first | ((with_reducible refine gate_store (t := 3) (p := 20) rfl ?_); refine store_event (t := 3) (p := 20) (v := ?vo_w11) (w1 := (wr.setCell ⟨go9, (x4_1 : Int).toNat, none⟩ (.int .i64 (rd l0 x4_1)))) ?hg ?ho ?hn ?hr ?_; (case ho => rfl); (case hg => rfl); (case hn => rfl); (case hr => first | (go_simp; done) | (go_simp; rfl)); intro w11 hw; have hg : wr.grownBy w11 (some go9) := (by rw [hw]; exact HP10.2); have hp_ : Kd.R (Kd.int .i64) 3 w11 w.heap.size (fun _ => True) (.slice (some ⟨go9, 0, none⟩) x3_1.length co9) y105 := (by rw [hw, Ny105.out]; exact HP10.1); clear HP10; replace HO_3 := aK (hp_); replace HB := aK ((by rw [hw]; exact below_set (HB.out) GB9.out : Below w.heap.size w w11)); clear hg hw hp_))
 go_roundg k1
 case measure => have := HK1.out; omega
 case rel => exact ⟨(y105), (wrap64 (x4_1 + 1)), (by first | rfl | (simp; done) | (simp [*]; done)), H', ⟨by have := HK1.out; omega⟩, ⟨pR HO_3.out⟩, ⟨pT HB.out⟩⟩
def impl_within.f (a0 : Int) (a1 : Int) (a2 : Int) : Option (Bool) := if a0 ≥ a1 then (some (decide (a0 ≤ a2))) else (some false)
theorem impl_within.calls (a0 : Int) (a1 : Int) (a2 : Int) (r : Bool) (w : World) (h : impl_within.f a0 a1 a2 = some r) :
  Calls Try.prog 44 #[.int .i64 a0, .int .i64 a1, .int .i64 a2] w fun e w' => e = .returned (.bool r) ∧ Drawn0 w w' := by
 have H : (if a0 ≥ a1 then (some (decide (a0 ≤ a2))) else (some false)) = some r := h
 clear h
 by_cases c4 : a0 ≥ a1
 ·
  rw [if_pos c4] at H
  have c4b0 : decide (a1 ≤ a0) = true := decide_eq_true c4
  clear c4
  obtain rfl := Option.some.inj H
  go_enter Try.func44, Try.ntmps44
  go_wp2
  go_ret
  exact ⟨by first | rfl | (simp; done) | (simp [*]; done), by repeat (first | exact Drawn0.refl _ | apply Drawn0.step)⟩
 rw [if_neg c4] at H
 have c4b0 : decide (a1 ≤ a0) = false := decide_eq_false c4
 clear c4
 obtain rfl := Option.some.inj H
 go_enter Try.func44, Try.ntmps44
 go_wp2
 go_ret
 exact ⟨by first | rfl | (simp; done) | (simp [*]; done), by repeat (first | exact Drawn0.refl _ | apply Drawn0.step)⟩
def impl_isShape.f (a0 : Int) (a1 : Int) : Option (Bool) := (impl_within.f a0 1 8).bind fun t101 => (if t101 = true then ((impl_within.f a1 1 8).bind fun t102 => (some t102)) else (some false))
theorem impl_isShape.calls (a0 : Int) (a1 : Int) (r : Bool) (w : World) (h : impl_isShape.f a0 a1 = some r) :
  Calls Try.prog 29 #[.int .i64 a0, .int .i64 a1] w fun e w' => e = .returned (.bool r) ∧ Drawn0 w w' := by
 have H : ((impl_within.f a0 1 8).bind fun t101 => (if t101 = true then ((impl_within.f a1 1 8).bind fun t102 => (some t102)) else (some false))) = some r := h
 clear h
 replace H := oA H
 obtain ⟨t101, A3, H⟩ := H
 replace H : (if t101 = true then ((impl_within.f a1 1 8).bind fun t102 => (some t102)) else (some false)) = some r := H
 by_cases c4 : t101 = true
 ·
  subst c4
  have H1 : ((impl_within.f a1 1 8).bind fun t102 => (some t102)) = some r := by rw [if_pos rfl] at H; exact H
  clear H; have H := H1; clear H1; replace H := oA H; obtain ⟨t102, A5, H⟩ := H
  replace H : (some t102) = some r := H
  obtain rfl := Option.some.inj H
  go_enter Try.func29, Try.ntmps29
  go_wp2_with (first | ((with_reducible refine gc 44 rfl ?_); refine gl (some 6) Try.func44 #[.int .i64 a0, .int .i64 1, .int .i64 8] ?_; (with_reducible refine (impl_within.calls a0 1 8 true _ A3.out).mono ?_); rintro e w' ⟨rfl, ⟨nd, rfl⟩⟩; refine ⟨_, rfl, ?_⟩) | (go_at_call 44; (with_reducible refine (impl_within.calls a1 1 8 t102 _ A5.out).mono ?_); rintro e w' ⟨rfl, ⟨nd, rfl⟩⟩))
  go_ret
  exact ⟨by first | rfl | (simp; done) | (simp [*]; done), by repeat (first | exact Drawn0.refl _ | apply Drawn0.step)⟩
 replace c4 := Bool.eq_false_iff.mpr c4
 subst c4
 have H1 : (some false) = some r := by rw [if_neg (show ¬ (false = true) by decide)] at H; exact H
 clear H
 have H := H1
 clear H1
 obtain rfl := Option.some.inj H
 go_enter Try.func29, Try.ntmps29
 go_wp2_with (first | ((with_reducible refine gc 44 rfl ?_); refine gl (some 6) Try.func44 #[.int .i64 a0, .int .i64 1, .int .i64 8] ?_; (with_reducible refine (impl_within.calls a0 1 8 false _ A3.out).mono ?_); rintro e w' ⟨rfl, ⟨nd, rfl⟩⟩; refine ⟨_, rfl, ?_⟩))
 go_ret
 exact ⟨by first | rfl | (simp; done) | (simp [*]; done), by repeat (first | exact Drawn0.refl _ | apply Drawn0.step)⟩
def impl_increasing.l0 : Nat → List Int → Int → Option (Bool)
 | 0, _, _ => none
 | k + 1, x0, x3 => if x3 < (x0.length : Int) then (if 0 ≤ (wrap64 (x3 - 1)) then (if (wrap64 (x3 - 1)) < (x0.length : Int) then (if 0 ≤ x3 then (if (rd x0 (wrap64 (x3 - 1))) ≥ (rd x0 x3) then (some false) else (impl_increasing.l0 k x0 (wrap64 (x3 + 1)))) else (none)) else (none)) else (none)) else (some true)
def impl_increasing.f (k : Nat) (l0 : List Int) : Option (Bool) := impl_increasing.l0 k l0 1
theorem impl_increasing.calls (k : Nat) (A0 : Option Addr) (c0 : Nat) (l0 : List Int) (r : Bool) (w : World) (hr0 : Kd.C (Kd.int .i64) w A0 l0.length l0) (hc0 : l0.length ≤ c0) (h : impl_increasing.f k l0 = some r) :
  Calls Try.prog 30 #[.slice A0 l0.length c0] w fun e w' => e = .returned (.bool r) ∧ Drawn0 w w' := by
 have HR0 := aK hr0
 have HC0 := aK hc0
 clear hr0 hc0
 have H : (impl_increasing.l0 k l0 1) = some r := h
 clear h
 have H' := aK H
 clear H
 go_enter Try.func30, Try.ntmps30
 go_wp2
 repeat (go_quiet (fail); try go_wp2)
 go_loopg [3] k (fun kq v3 w' => ∃ (x3_1 : Int), v3 = .int .i64 x3_1 ∧ Aside0 (impl_increasing.l0 kq l0 x3_1 = some r) ∧ Aside0 (kq ≤ k) ∧ Drawn0 w w')
 case atStart => exact ⟨(1), (by first | rfl | (simp; done) | (simp [*]; done)), H', ⟨Nat.le_refl _⟩, by repeat (first | exact Drawn0.refl _ | apply Drawn0.step)⟩
 case round =>
 clear H'
 obtain ⟨x3_1, rfl, HA, HK1, ⟨m1, rfl⟩⟩ := hrel
 cases gk with
 | zero => exact absurd HA.out (by simp [impl_increasing.l0])
 | succ k1 =>
 have H := HA.out
 clear HA
 simp only [impl_increasing.l0] at H
 by_cases c2 : x3_1 < (l0.length : Int)
 rotate_left
 ·
  rw [if_neg c2] at H
  have c2b0 : decide (x3_1 < (l0.length : Int)) = false := decide_eq_false c2
  clear c2
  obtain rfl := Option.some.inj H
  go_wp2
  repeat (go_quiet (fail); try go_wp2)
  go_ret
  exact ⟨by first | rfl | (simp; done) | (simp [*]; done), by repeat (first | exact Drawn0.refl _ | apply Drawn0.step)⟩
 rw [if_pos c2] at H
 have c2b0 : decide (x3_1 < (l0.length : Int)) = true := decide_eq_true c2
 clear c2
 obtain ⟨ji3, hji3⟩ : ∃ j_ : Int, (wrap64 (x3_1 - 1)) = j_ := ⟨_, rfl⟩
 replace H : (if 0 ≤ (ji3) then (if (ji3) < (l0.length : Int) then (if 0 ≤ x3_1 then (if (rd l0 (ji3)) ≥ (rd l0 x3_1) then (some false) else (impl_increasing.l0 k1 l0 (wrap64 (x3_1 + 1)))) else (none)) else (none)) else (none)) = some r := by first | (rw [hji3] at H; exact H) | (simp only [hji3] at H ⊢; exact H)
 have hji3w : (IntKind.i64.wrap (x3_1 - 1)) = ji3 := (i64_w _).trans hji3
 by_cases c4 : 0 ≤ (ji3)
 rotate_left
 ·
  rw [if_neg c4] at H
  exact absurd H (by simp)
 rw [if_pos c4] at H
 have c4b0 : decide (0 ≤ (ji3)) = true := decide_eq_true c4
 clear c4
 by_cases c5 : (ji3) < (l0.length : Int)
 rotate_left
 ·
  rw [if_neg c5] at H
  exact absurd H (by simp)
 rw [if_pos c5] at H
 have c5b0 : decide ((ji3) < (l0.length : Int)) = true := decide_eq_true c5
 clear c5
 by_cases c6 : 0 ≤ x3_1
 rotate_left
 ·
  rw [if_neg c6] at H
  exact absurd H (by simp)
 rw [if_pos c6] at H
 have c6b0 : decide (0 ≤ x3_1) = true := decide_eq_true c6
 clear c6
 by_cases c7 : (rd l0 (ji3)) ≥ (rd l0 x3_1)
 ·
  rw [if_pos c7] at H
  have c7b0 : decide ((rd l0 x3_1) ≤ (rd l0 (ji3))) = true := decide_eq_true c7
  clear c7
  obtain rfl := Option.some.inj H
  have p101 : 0 ≤ ((ji3) : Int) := dA
  have q101 : (ji3) < (l0.length : Int) := dA
  obtain ⟨ad101, e101, hx101_0⟩ := Kd.at_int HR0.out (ji3) p101 q101; cases e101; replace p101 := eq_true p101; replace q101 := eq_true q101
  have p102 : 0 ≤ (x3_1 : Int) := dA
  have q102 : x3_1 < (l0.length : Int) := dA
  obtain ⟨ad102, e102, hx102_0⟩ := Kd.at_int HR0.out x3_1 p102 q102
  obtain rfl : ad101 = ad102 := (by injection e102)
  replace p102 := eq_true p102; replace q102 := eq_true q102
  go_wp2
  repeat (go_quiet (fail); try go_wp2)
  go_ret
  exact ⟨by first | rfl | (simp; done) | (simp only [← hji3] <;> (first | rfl | simp)) | (simp [*]; done), by repeat (first | exact Drawn0.refl _ | apply Drawn0.step)⟩
 rw [if_neg c7] at H
 have c7b0 : decide ((rd l0 x3_1) ≤ (rd l0 (ji3))) = false := decide_eq_false c7
 clear c7
 have H' := aK H
 clear H
 have p101 : 0 ≤ ((ji3) : Int) := dA
 have q101 : (ji3) < (l0.length : Int) := dA
 obtain ⟨ad101, e101, hx101_0⟩ := Kd.at_int HR0.out (ji3) p101 q101
 cases e101
 replace p101 := eq_true p101
 replace q101 := eq_true q101
 have p102 : 0 ≤ (x3_1 : Int) := dA
 have q102 : x3_1 < (l0.length : Int) := dA
 obtain ⟨ad102, e102, hx102_0⟩ := Kd.at_int HR0.out x3_1 p102 q102
 obtain rfl : ad101 = ad102 := (by injection e102)
 replace p102 := eq_true p102
 replace q102 := eq_true q102
 go_wp2
 repeat (go_quiet (fail); try go_wp2)
 go_roundg k1
 case measure => have := HK1.out; omega
 case rel => exact ⟨(wrap64 (x3_1 + 1)), (by first | rfl | (simp; done) | (simp [*]; done)), H', ⟨by have := HK1.out; omega⟩, by repeat (first | exact Drawn0.refl _ | apply Drawn0.step)⟩
def impl_allWithin.l0 : Nat → Int → Int → List Int → Int → Int → Option (Bool)
 | 0, _, _, _, _, _ => none
 | k + 1, x1, x2, x9, x10, x11 => if x11 < x10 then (if 0 ≤ x11 then (if x11 < (x9.length : Int) then ((impl_within.f (rd x9 x11) x1 x2).bind fun t102 => (if t102 = true then (impl_allWithin.l0 k x1 x2 x9 x10 (wrap64 (x11 + 1))) else (some false))) else (none)) else (none)) else (some true)
def impl_allWithin.f (k : Nat) (l0 : List Int) (a1 : Int) (a2 : Int) : Option (Bool) := impl_allWithin.l0 k a1 a2 l0 (l0.length : Int) 0
theorem impl_allWithin.calls (k : Nat) (A0 : Option Addr) (c0 : Nat) (l0 : List Int) (a1 : Int) (a2 : Int) (r : Bool) (w : World) (hr0 : Kd.C (Kd.int .i64) w A0 l0.length l0) (hc0 : l0.length ≤ c0) (h : impl_allWithin.f k l0 a1 a2 = some r) :
  Calls Try.prog 31 #[.slice A0 l0.length c0, .int .i64 a1, .int .i64 a2] w fun e w' => e = .returned (.bool r) ∧ Drawn0 w w' := by
 have HR0 := aK hr0
 have HC0 := aK hc0
 clear hr0 hc0
 have H : (impl_allWithin.l0 k a1 a2 l0 (l0.length : Int) 0) = some r := h
 clear h
 have H' := aK H
 clear H
 go_enter Try.func31, Try.ntmps31
 go_wp2
 go_loopg [11] k (fun kq v11 w' => ∃ (x11_1 : Int), v11 = .int .i64 x11_1 ∧ Aside0 (impl_allWithin.l0 kq a1 a2 l0 (l0.length : Int) x11_1 = some r) ∧ Aside0 (kq ≤ k) ∧ Drawn0 w w')
 case atStart => exact ⟨(0), (by first | rfl | (simp; done) | (simp [*]; done)), H', ⟨Nat.le_refl _⟩, by repeat (first | exact Drawn0.refl _ | apply Drawn0.step)⟩
 case round =>
 clear H'
 try clear p2
 try clear c3
 obtain ⟨x11_1, rfl, HA, HK1, ⟨m1, rfl⟩⟩ := hrel
 cases gk with
 | zero => exact absurd HA.out (by simp [impl_allWithin.l0])
 | succ k1 =>
 have H := HA.out
 clear HA
 simp only [impl_allWithin.l0] at H
 by_cases c4 : x11_1 < (l0.length : Int)
 rotate_left
 ·
  rw [if_neg c4] at H
  have c4b0 : decide (x11_1 < (l0.length : Int)) = false := decide_eq_false c4
  clear c4
  obtain rfl := Option.some.inj H
  go_wp2
  go_ret
  exact ⟨by first | rfl | (simp; done) | (simp [*]; done), by repeat (first | exact Drawn0.refl _ | apply Drawn0.step)⟩
 rw [if_pos c4] at H
 have c4b0 : decide (x11_1 < (l0.length : Int)) = true := decide_eq_true c4
 clear c4
 by_cases c5 : 0 ≤ x11_1
 rotate_left
 ·
  rw [if_neg c5] at H
  exact absurd H (by simp)
 rw [if_pos c5] at H
 have c5b0 : decide (0 ≤ x11_1) = true := decide_eq_true c5
 clear c5
 by_cases c6 : x11_1 < (l0.length : Int)
 rotate_left
 ·
  rw [if_neg c6] at H
  exact absurd H (by simp)
 rw [if_pos c6] at H
 have c6b0 : decide (x11_1 < (l0.length : Int)) = true := decide_eq_true c6
 clear c6
 replace H := oA H
 obtain ⟨t102, A7, H⟩ := H
 replace H : (if t102 = true then (impl_allWithin.l0 k1 a1 a2 l0 (l0.length : Int) (wrap64 (x11_1 + 1))) else (some false)) = some r := H
 by_cases c8 : t102 = true
 ·
  subst c8
  have H1 : (impl_allWithin.l0 k1 a1 a2 l0 (l0.length : Int) (wrap64 (x11_1 + 1))) = some r := by rw [if_pos rfl] at H; exact H
  clear H; have H := H1; clear H1; have H' := aK H; clear H
  have p101 : 0 ≤ (x11_1 : Int) := dA
  have q101 : x11_1 < (l0.length : Int) := dA
  obtain ⟨ad101, e101, hx101_0⟩ := Kd.at_int HR0.out x11_1 p101 q101; cases e101; replace p101 := eq_true p101; replace q101 := eq_true q101
  go_wp2_with (first | ((with_reducible refine gc 44 rfl ?_); refine gl (some 18) Try.func44 #[.int .i64 (rd l0 x11_1), .int .i64 a1, .int .i64 a2] ?_; (with_reducible refine (impl_within.calls (rd l0 x11_1) a1 a2 true _ A7.out).mono ?_); rintro e w' ⟨rfl, ⟨nd, rfl⟩⟩; refine ⟨_, rfl, ?_⟩))
  go_roundg k1
  case measure => have := HK1.out; omega
  case rel => exact ⟨(wrap64 (x11_1 + 1)), (by first | rfl | (simp; done) | (simp [*]; done)), H', ⟨by have := HK1.out; omega⟩, by repeat (first | exact Drawn0.refl _ | apply Drawn0.step)⟩
 replace c8 := Bool.eq_false_iff.mpr c8
 subst c8
 have H1 : (some false) = some r := by rw [if_neg (show ¬ (false = true) by decide)] at H; exact H
 clear H
 have H := H1
 clear H1
 obtain rfl := Option.some.inj H
 have p101 : 0 ≤ (x11_1 : Int) := dA
 have q101 : x11_1 < (l0.length : Int) := dA
 obtain ⟨ad101, e101, hx101_0⟩ := Kd.at_int HR0.out x11_1 p101 q101
 cases e101
 replace p101 := eq_true p101
 replace q101 := eq_true q101
 go_wp2_with (first | ((with_reducible refine gc 44 rfl ?_); refine gl (some 18) Try.func44 #[.int .i64 (rd l0 x11_1), .int .i64 a1, .int .i64 a2] ?_; (with_reducible refine (impl_within.calls (rd l0 x11_1) a1 a2 false _ A7.out).mono ?_); rintro e w' ⟨rfl, ⟨nd, rfl⟩⟩; refine ⟨_, rfl, ?_⟩))
 go_ret
 exact ⟨by first | rfl | (simp; done) | (simp [*]; done), by repeat (first | exact Drawn0.refl _ | apply Drawn0.step)⟩
def impl_isRegion.f (k : Nat) (a0 : Int) (a1 : Int) (l2 : List Int) : Option (Bool) := (impl_isShape.f a0 a1).bind fun t101 => (if t101 = true then ((impl_increasing.f k l2).bind fun t102 => (if t102 = true then ((impl_allWithin.f k l2 0 (wrap64 ((wrap64 (a0 * a1)) - 1))).bind fun t103 => (some t103)) else (some false))) else (some false))
theorem impl_isRegion.calls (k : Nat) (a0 : Int) (a1 : Int) (A2 : Option Addr) (c2 : Nat) (l2 : List Int) (r : Bool) (w : World) (hr2 : Kd.C (Kd.int .i64) w A2 l2.length l2) (hc2 : l2.length ≤ c2) (h : impl_isRegion.f k a0 a1 l2 = some r) :
  Calls Try.prog 18 #[.int .i64 a0, .int .i64 a1, .slice A2 l2.length c2] w fun e w' => e = .returned (.bool r) ∧ Drawn0 w w' := by
 have HR2 := aK hr2
 have HC2 := aK hc2
 clear hr2 hc2
 have H : ((impl_isShape.f a0 a1).bind fun t101 => (if t101 = true then ((impl_increasing.f k l2).bind fun t102 => (if t102 = true then ((impl_allWithin.f k l2 0 (wrap64 ((wrap64 (a0 * a1)) - 1))).bind fun t103 => (some t103)) else (some false))) else (some false))) = some r := h
 clear h
 replace H := oA H
 obtain ⟨t101, A4, H⟩ := H
 replace H : (if t101 = true then ((impl_increasing.f k l2).bind fun t102 => (if t102 = true then ((impl_allWithin.f k l2 0 (wrap64 ((wrap64 (a0 * a1)) - 1))).bind fun t103 => (some t103)) else (some false))) else (some false)) = some r := H
 by_cases c5 : t101 = true
 rotate_left
 ·
  replace c5 := Bool.eq_false_iff.mpr c5; subst c5
  have H1 : (some false) = some r := by rw [if_neg (show ¬ (false = true) by decide)] at H; exact H
  clear H; have H := H1; clear H1
  obtain rfl := Option.some.inj H
  go_enter Try.func18, Try.ntmps18
  go_wp2_with (first | ((with_reducible refine gc 29 rfl ?_); refine gl (some 9) Try.func29 #[.int .i64 a0, .int .i64 a1] ?_; (with_reducible refine (impl_isShape.calls a0 a1 false _ A4.out).mono ?_); rintro e w' ⟨rfl, ⟨nd, rfl⟩⟩; refine ⟨_, rfl, ?_⟩))
  go_ret
  exact ⟨by first | rfl | (simp; done) | (simp [*]; done), by repeat (first | exact Drawn0.refl _ | apply Drawn0.step)⟩
 subst c5
 have H1 : ((impl_increasing.f k l2).bind fun t102 => (if t102 = true then ((impl_allWithin.f k l2 0 (wrap64 ((wrap64 (a0 * a1)) - 1))).bind fun t103 => (some t103)) else (some false))) = some r := by rw [if_pos rfl] at H; exact H
 clear H
 have H := H1
 clear H1
 replace H := oA H
 obtain ⟨t102, A6, H⟩ := H
 replace H : (if t102 = true then ((impl_allWithin.f k l2 0 (wrap64 ((wrap64 (a0 * a1)) - 1))).bind fun t103 => (some t103)) else (some false)) = some r := H
 by_cases c7 : t102 = true
 ·
  subst c7
  have H1 : ((impl_allWithin.f k l2 0 (wrap64 ((wrap64 (a0 * a1)) - 1))).bind fun t103 => (some t103)) = some r := by rw [if_pos rfl] at H; exact H
  clear H; have H := H1; clear H1; replace H := oA H; obtain ⟨t103, A8, H⟩ := H
  replace H : (some t103) = some r := H
  obtain rfl := Option.some.inj H
  go_enter Try.func18, Try.ntmps18
  go_wp2_with (first | ((with_reducible refine gc 29 rfl ?_); refine gl (some 9) Try.func29 #[.int .i64 a0, .int .i64 a1] ?_; (with_reducible refine (impl_isShape.calls a0 a1 true _ A4.out).mono ?_); rintro e w' ⟨rfl, ⟨nd, rfl⟩⟩; refine ⟨_, rfl, ?_⟩) | (go_at_call 30; (with_reducible refine (impl_increasing.calls k _ _ l2 true _ ?side1 ?side2 A6.out).mono ?_); (case side1 => exact pC HR2.out); (case side2 => exact HC2.out); rintro e w' ⟨rfl, ⟨nd, rfl⟩⟩) | (go_at_call 31; (with_reducible refine (impl_allWithin.calls k _ _ l2 0 (wrap64 ((wrap64 (a0 * a1)) - 1)) t103 _ ?side1 ?side2 A8.out).mono ?_); (case side1 => exact pC HR2.out); (case side2 => exact HC2.out); rintro e w' ⟨rfl, ⟨nd, rfl⟩⟩))
  go_ret
  exact ⟨by first | rfl | (simp; done) | (simp [*]; done), by repeat (first | exact Drawn0.refl _ | apply Drawn0.step)⟩
 replace c7 := Bool.eq_false_iff.mpr c7
 subst c7
 have H1 : (some false) = some r := by rw [if_neg (show ¬ (false = true) by decide)] at H; exact H
 clear H
 have H := H1
 clear H1
 obtain rfl := Option.some.inj H
 go_enter Try.func18, Try.ntmps18
 go_wp2_with (first | ((with_reducible refine gc 29 rfl ?_); refine gl (some 9) Try.func29 #[.int .i64 a0, .int .i64 a1] ?_; (with_reducible refine (impl_isShape.calls a0 a1 true _ A4.out).mono ?_); rintro e w' ⟨rfl, ⟨nd, rfl⟩⟩; refine ⟨_, rfl, ?_⟩) | (go_at_call 30; (with_reducible refine (impl_increasing.calls k _ _ l2 false _ ?side1 ?side2 A6.out).mono ?_); (case side1 => exact pC HR2.out); (case side2 => exact HC2.out); rintro e w' ⟨rfl, ⟨nd, rfl⟩⟩))
 go_ret
 exact ⟨by first | rfl | (simp; done) | (simp [*]; done), by repeat (first | exact Drawn0.refl _ | apply Drawn0.step)⟩
end Go.Proofs.Ytnbpcacnbfbjkaa.P
namespace Go.Proofs.Ytnbpcacnbfbjkaa.P
theorem goesLA {P : Program} {ops : Array Oper} {Q : Exit → Act → World → Prop} {rest : List Oper} {oi : Oper} {a : Act} {w : World} (N : Option Tmp) (hd : oi.dst = N) (hg : oi.guard = none) {g : FuncId} {lb : Array Value} {c : Operand} {aa : Array Operand} {ts : Array TypeId}
    (eg : ∀ args w, (callFunc g args).run P w = .ok (.enter g args) w) (args all : Array Value) (hop : oi.op = .call { callee := .value c, args := aa, argTypes := ts })
    (hc : a.eval c = .func (.func g) #[] lb) (hargs : aa.map a.eval = args) (hall : args ++ lb = all) (h : Calls P g all w fun e w' => ∃ v, e = .returned v ∧ wpList P ops Q rest (a.put N v) w') : wpList P ops Q (oi :: rest) a w := by
  subst hall
  refine wpList_plain hg fun K hK => ?_
  have hrun : (execOp a.eval oi).run P w = .ok (.enter g (args ++ lb)) w := by
    unfold execOp
    simp [hop, hc, resolve, Deferred.ofValue, invoke, hargs, eg]
  unfold Oper.wp
  rw [hrun, Oper.upon_enter]
  refine h.mono fun e w'' hh => ?_
  obtain ⟨v, rfl, hk⟩ := hh
  subst hd
  exact hK _ _ hk
theorem run_index_agg {P : Program} {w : World} (t : TypeId) (cs : Array Value) (k : IntKind) (i : Int) (h : P.underlying t = some (.array (P.arrayLen t) (P.elem t))) :
    (Instr.index t (.agg cs) (.int k i)).run P w =
      if 0 ≤ i ∧ i < P.arrayLen t then ((sizeOf (P.elem t)).run P w).andThen fun s w => (part (P.elem t) cs (i.toNat * s)).run P w
      else (boundsPanic k i (P.arrayLen t) .index).run P w := by
  simp [Instr.index, run_underlying h, asIntOf]
theorem w64_1 : wrap64 1 = 1 := by simp [wrap64]
theorem w64_2 : wrap64 2 = 2 := by simp [wrap64]
theorem w64_3 : wrap64 3 = 3 := by simp [wrap64]
theorem w64_4 : wrap64 4 = 4 := by simp [wrap64]
end Go.Proofs.Ytnbpcacnbfbjkaa.P
namespace Go.Proofs.Ytnbpcacnbfbjkaa.P
attribute [local go_sem] max2_int min2_int max_two min_two max_three min_three max_four min_four
def slices_Index_int_int.l0 : Nat → List Int → Int → Int → Int → Option (Int)
 | 0, _, _, _, _ => none
 | k + 1, x0, x1, x7, x8 => if x8 < x7 then (if 0 ≤ x8 then (if x8 < (x0.length : Int) then (if x1 = (rd x0 x8) then (some x8) else (slices_Index_int_int.l0 k x0 x1 x7 (wrap64 (x8 + 1)))) else (none)) else (none)) else (some (-1))
def slices_Index_int_int.f (k : Nat) (l0 : List Int) (a1 : Int) : Option (Int) := slices_Index_int_int.l0 k l0 a1 (l0.length : Int) 0
theorem slices_Index_int_int.calls (k : Nat) (A0 : Option Addr) (c0 : Nat) (l0 : List Int) (a1 : Int) (r : Int) (w : World) (hr0 : Kd.C (Kd.int .i64) w A0 l0.length l0) (hc0 : l0.length ≤ c0) (h : slices_Index_int_int.f k l0 a1 = some r) :
  Calls Try.prog 52 #[.slice A0 l0.length c0, .int .i64 a1] w fun e w' => e = .returned (.int .i64 r) ∧ Drawn0 w w' := by
 have HR0 := aK hr0
 have HC0 := aK hc0
 clear hr0 hc0
 have H : (slices_Index_int_int.l0 k l0 a1 (l0.length : Int) 0) = some r := h
 clear h
 have H' := aK H
 clear H
 go_enter Try.func52, Try.ntmps52
 go_wp2
 go_loopg [8] k (fun kq v8 w' => ∃ (x8_1 : Int), v8 = .int .i64 x8_1 ∧ Aside0 (slices_Index_int_int.l0 kq l0 a1 (l0.length : Int) x8_1 = some r) ∧ Aside0 (kq ≤ k) ∧ Drawn0 w w')
 case atStart => exact ⟨(0), (by first | rfl | (simp; done) | (simp [*]; done)), H', ⟨Nat.le_refl _⟩, by repeat (first | exact Drawn0.refl _ | apply Drawn0.step)⟩
 case round =>
 clear H'
 try clear p2
 obtain ⟨x8_1, rfl, HA, HK1, ⟨m1, rfl⟩⟩ := hrel
 cases gk with
 | zero => exact absurd HA.out (by simp [slices_Index_int_int.l0])
 | succ k1 =>
 have H := HA.out
 clear HA
 simp only [slices_Index_int_int.l0] at H
 by_cases c3 : x8_1 < (l0.length : Int)
 rotate_left
 ·
  rw [if_neg c3] at H
  have c3b0 : decide (x8_1 < (l0.length : Int)) = false := decide_eq_false c3
  clear c3
  obtain rfl := Option.some.inj H
  go_wp2
  go_ret
  exact ⟨by first | rfl | (simp; done) | (simp [*]; done), by repeat (first | exact Drawn0.refl _ | apply Drawn0.step)⟩
 rw [if_pos c3] at H
 have c3b0 : decide (x8_1 < (l0.length : Int)) = true := decide_eq_true c3
 clear c3
 by_cases c4 : 0 ≤ x8_1
 rotate_left
 ·
  rw [if_neg c4] at H
  exact absurd H (by simp)
 rw [if_pos c4] at H
 have c4b0 : decide (0 ≤ x8_1) = true := decide_eq_true c4
 clear c4
 by_cases c5 : x8_1 < (l0.length : Int)
 rotate_left
 ·
  rw [if_neg c5] at H
  exact absurd H (by simp)
 rw [if_pos c5] at H
 have c5b0 : decide (x8_1 < (l0.length : Int)) = true := decide_eq_true c5
 clear c5
 by_cases c6 : a1 = (rd l0 x8_1)
 ·
  rw [if_pos c6] at H
  have c6b0 : (a1 == (rd l0 x8_1)) = true := beq_iff_eq.mpr c6
  have c6b1 : (a1 != (rd l0 x8_1)) = false := bne_eq_false_iff_eq.mpr c6
  clear c6
  obtain rfl := Option.some.inj H
  have p101 : 0 ≤ (x8_1 : Int) := dA
  have q101 : x8_1 < (l0.length : Int) := dA
  obtain ⟨ad101, e101, hx101_0⟩ := Kd.at_int HR0.out x8_1 p101 q101; cases e101; replace p101 := eq_true p101; replace q101 := eq_true q101
  go_wp2
  go_ret
  exact ⟨by first | rfl | (simp; done) | (simp [*]; done), by repeat (first | exact Drawn0.refl _ | apply Drawn0.step)⟩
 rw [if_neg c6] at H
 have c6b0 : (a1 == (rd l0 x8_1)) = false := beq_eq_false_iff_ne.mpr c6
 have c6b1 : (a1 != (rd l0 x8_1)) = true := bne_iff_ne.mpr c6
 have H' := aK H
 clear H
 have p101 : 0 ≤ (x8_1 : Int) := dA
 have q101 : x8_1 < (l0.length : Int) := dA
 obtain ⟨ad101, e101, hx101_0⟩ := Kd.at_int HR0.out x8_1 p101 q101
 cases e101
 replace p101 := eq_true p101
 replace q101 := eq_true q101
 go_wp2
 go_roundg k1
 case measure => have := HK1.out; omega
 case rel => exact ⟨(wrap64 (x8_1 + 1)), (by first | rfl | (simp; done) | (simp [*]; done)), H', ⟨by have := HK1.out; omega⟩, by repeat (first | exact Drawn0.refl _ | apply Drawn0.step)⟩
def slices_Contains_int_int.f (k : Nat) (l0 : List Int) (a1 : Int) : Option (Bool) := (slices_Index_int_int.f k l0 a1).bind fun t101 => (some (decide (t101 ≥ 0)))
theorem slices_Contains_int_int.calls (k : Nat) (A0 : Option Addr) (c0 : Nat) (l0 : List Int) (a1 : Int) (r : Bool) (w : World) (hr0 : Kd.C (Kd.int .i64) w A0 l0.length l0) (hc0 : l0.length ≤ c0) (h : slices_Contains_int_int.f k l0 a1 = some r) :
  Calls Try.prog 46 #[.slice A0 l0.length c0, .int .i64 a1] w fun e w' => e = .returned (.bool r) ∧ Drawn0 w w' := by
 have HR0 := aK hr0
 have HC0 := aK hc0
 clear hr0 hc0
 have H : ((slices_Index_int_int.f k l0 a1).bind fun t101 => (some (decide (t101 ≥ 0)))) = some r := h
 clear h
 replace H := oA H
 obtain ⟨t101, A3, H⟩ := H
 replace H : (some (decide (t101 ≥ 0))) = some r := H
 obtain rfl := Option.some.inj H
 go_enter Try.func46, Try.ntmps46
 go_wp2_with (first | ((with_reducible refine gc 52 rfl ?_); refine gl (some 7) Try.func52 #[.slice A0 l0.length c0, .int .i64 a1] ?_; (with_reducible refine (slices_Index_int_int.calls k _ _ l0 a1 t101 _ ?side1 ?side2 A3.out).mono ?_); (case side1 => exact pC HR0.out); (case side2 => exact HC0.out); rintro e w' ⟨rfl, ⟨nd, rfl⟩⟩; refine ⟨_, rfl, ?_⟩))
 go_ret
 exact ⟨by first | rfl | (simp; done) | (simp [*]; done), by repeat (first | exact Drawn0.refl _ | apply Drawn0.step)⟩
def impl_sidesOf_1.f (k : Nat) (a0 : Int) (a1 : Int) (a2_0 : Int) (l3_0 : List Int) : Option (Bool) := if a0 ≥ 0 then (if a0 < a2_0 then (if a1 ≥ 0 then ((slices_Contains_int_int.f k l3_0 (wrap64 ((wrap64 (a1 * a2_0)) + a0))).bind fun t103 => (some t103)) else (some false)) else (some false)) else (some false)
theorem impl_sidesOf_1.calls (k : Nat) (a0 : Int) (a1 : Int) (cb2 : Nat) (a2_0 : Int) (cb3 : Nat) (A3_0 : Option Addr) (c3_0 : Nat) (l3_0 : List Int) (r : Bool) (w : World) (hk2 : w.heap[cb2]? = some (.cells #[.int .i64 a2_0] 3 (0, 0))) (hk3 : w.heap[cb3]? = some (.cells #[.slice A3_0 l3_0.length c3_0] 22 (0, 0))) (hn2_3 : cb2 ≠ cb3) (hr3_0 : Kd.C (Kd.int .i64) w A3_0 l3_0.length l3_0) (hc3_0 : l3_0.length ≤ c3_0) (h : impl_sidesOf_1.f k a0 a1 a2_0 l3_0 = some r) :
  Calls Try.prog 45 #[.int .i64 a0, .int .i64 a1, .pointer (some ⟨cb2, 0, none⟩), .pointer (some ⟨cb3, 0, none⟩)] w fun e w' => e = .returned (.bool r) ∧ Drawn0 w w' := by
 have HR3_0 := aK hr3_0
 have HC3_0 := aK hc3_0
 clear hr3_0 hc3_0
 have B101 := aK hk2
 clear hk2
 have B102 := aK hk3
 clear hk3
 have N101_102 := aK hn2_3
 have N102_101 := aK (Ne.symm hn2_3)
 clear hn2_3
 have H : (if a0 ≥ 0 then (if a0 < a2_0 then (if a1 ≥ 0 then ((slices_Contains_int_int.f k l3_0 (wrap64 ((wrap64 (a1 * a2_0)) + a0))).bind fun t103 => (some t103)) else (some false)) else (some false)) else (some false)) = some r := h
 clear h
 by_cases c5 : a0 ≥ 0
 rotate_left
 ·
  rw [if_neg c5] at H
  have c5b0 : decide (0 ≤ a0) = false := decide_eq_false c5
  clear c5
  obtain rfl := Option.some.inj H
  go_enter Try.func45, Try.ntmps45
  go_wp2
  go_ret
  exact ⟨by first | rfl | (simp; done) | (simp [*]; done), by repeat (first | exact Drawn0.refl _ | apply Drawn0.step)⟩
 rw [if_pos c5] at H
 have c5b0 : decide (0 ≤ a0) = true := decide_eq_true c5
 clear c5
 by_cases c6 : a0 < a2_0
 rotate_left
 ·
  rw [if_neg c6] at H
  have c6b0 : decide (a0 < a2_0) = false := decide_eq_false c6
  clear c6
  obtain rfl := Option.some.inj H
  obtain ⟨_, _⟩ := nB N101_102; obtain ⟨_, _⟩ := bc1 B101.out
  go_enter Try.func45, Try.ntmps45
  go_wp2
  go_ret
  exact ⟨by first | rfl | (simp; done) | (simp [*]; done), by repeat (first | exact Drawn0.refl _ | apply Drawn0.step)⟩
 rw [if_pos c6] at H
 have c6b0 : decide (a0 < a2_0) = true := decide_eq_true c6
 clear c6
 by_cases c7 : a1 ≥ 0
 ·
  rw [if_pos c7] at H
  have c7b0 : decide (0 ≤ a1) = true := decide_eq_true c7
  clear c7; replace H := oA H; obtain ⟨t103, A8, H⟩ := H
  replace H : (some t103) = some r := H
  obtain rfl := Option.some.inj H
  obtain ⟨_, _⟩ := nB N101_102; obtain ⟨_, _⟩ := bc1 B101.out; obtain ⟨_, _⟩ := bc1 B102.out
  go_enter Try.func45, Try.ntmps45
  go_wp2_with (first | (go_at_call 46; (with_reducible refine (slices_Contains_int_int.calls k _ _ l3_0 (wrap64 ((wrap64 (a1 * a2_0)) + a0)) t103 _ ?side1 ?side2 A8.out).mono ?_); (case side1 => exact pC HR3_0.out); (case side2 => exact HC3_0.out); rintro e w' ⟨rfl, ⟨nd, rfl⟩⟩))
  go_ret
  exact ⟨by first | rfl | (simp; done) | (simp [*]; done), by repeat (first | exact Drawn0.refl _ | apply Drawn0.step)⟩
 rw [if_neg c7] at H
 have c7b0 : decide (0 ≤ a1) = false := decide_eq_false c7
 clear c7
 obtain rfl := Option.some.inj H
 obtain ⟨_, _⟩ := nB N101_102
 obtain ⟨_, _⟩ := bc1 B101.out
 go_enter Try.func45, Try.ntmps45
 go_wp2
 go_ret
 exact ⟨by first | rfl | (simp; done) | (simp [*]; done), by repeat (first | exact Drawn0.refl _ | apply Drawn0.step)⟩
end Go.Proofs.Ytnbpcacnbfbjkaa.P
namespace Go.Proofs.Ytnbpcacnbfbjkaa.P
attribute [local go_sem] max2_int min2_int max_two min_two max_three min_three max_four min_four run_index_agg part w64_1 w64_2 w64_3 w64_4
mutual
def impl_sidesOf.l0 : Nat → List (S54) → List Int → Int → Int → Int → List Int → Option ((List (S54)))
 | 0, _, _, _, _, _, _ => none
 | k + 1, x6, x16, x17, x18, r0, r1 => if x18 < x17 then (if 0 ≤ x18 then (if x18 < (x16.length : Int) then (if r0 = 0 then (none) else ((impl_sidesOf_1.f k (Int.tmod (rd x16 x18) r0) (wrap64 ((wrap64 (Int.tdiv (rd x16 x18) r0)) - 1)) r0 r1).bind fun t105 => ((impl_sidesOf_1.f k (wrap64 ((Int.tmod (rd x16 x18) r0) + 1)) (wrap64 (Int.tdiv (rd x16 x18) r0)) r0 r1).bind fun t106 => ((impl_sidesOf_1.f k (Int.tmod (rd x16 x18) r0) (wrap64 ((wrap64 (Int.tdiv (rd x16 x18) r0)) + 1)) r0 r1).bind fun t107 => ((impl_sidesOf_1.f k (wrap64 ((Int.tmod (rd x16 x18) r0) - 1)) (wrap64 (Int.tdiv (rd x16 x18) r0)) r0 r1).bind fun t108 => (impl_sidesOf.l1 k x6 (rd x16 x18) x16 x17 x18 0 r0 r1 (Int.tmod (rd x16 x18) r0) (wrap64 (Int.tdiv (rd x16 x18) r0)) (wrap64 ((Int.tmod (rd x16 x18) r0) + 1)) (wrap64 (Int.tdiv (rd x16 x18) r0)) (wrap64 ((Int.tmod (rd x16 x18) r0) + 1)) (wrap64 ((wrap64 (Int.tdiv (rd x16 x18) r0)) + 1)) (Int.tmod (rd x16 x18) r0) (wrap64 ((wrap64 (Int.tdiv (rd x16 x18) r0)) + 1)) t105 t106 t107 t108)))))) else (none)) else (none)) else (some x6)
def impl_sidesOf.l1 : Nat → List (S54) → Int → List Int → Int → Int → Int → Int → List Int → Int → Int → Int → Int → Int → Int → Int → Int → Bool → Bool → Bool → Bool → Option ((List (S54)))
 | 0, _, _, _, _, _, _, _, _, _, _, _, _, _, _, _, _, _, _, _, _ => none
 | k + 1, x6, x8, x16, x17, x18, x67, r0, r1, r2, r3, r4, r5, r6, r7, r8, r9, r10, r11, r12, r13 => if x67 < 4 then (if x67 = 0 then (if r10 = true then (impl_sidesOf.l1 k x6 x8 x16 x17 x18 1 r0 r1 r2 r3 r4 r5 r6 r7 r8 r9 r10 r11 r12 r13) else (if x6.length < 3518437208883 then (impl_sidesOf.l1 k (x6 ++ [(⟨x8, (⟨r2, r3⟩ : S48), (⟨r4, r5⟩ : S48)⟩ : S54)]) x8 x16 x17 x18 1 r0 r1 r2 r3 r4 r5 r6 r7 r8 r9 r10 r11 r12 r13) else (none))) else (if x67 = 1 then (if r11 = true then (impl_sidesOf.l1 k x6 x8 x16 x17 x18 2 r0 r1 r2 r3 r4 r5 r6 r7 r8 r9 r10 r11 r12 r13) else (if x6.length < 3518437208883 then (impl_sidesOf.l1 k (x6 ++ [(⟨x8, (⟨r4, r5⟩ : S48), (⟨r6, r7⟩ : S48)⟩ : S54)]) x8 x16 x17 x18 2 r0 r1 r2 r3 r4 r5 r6 r7 r8 r9 r10 r11 r12 r13) else (none))) else (if x67 = 2 then (if r12 = true then (impl_sidesOf.l1 k x6 x8 x16 x17 x18 3 r0 r1 r2 r3 r4 r5 r6 r7 r8 r9 r10 r11 r12 r13) else (if x6.length < 3518437208883 then (impl_sidesOf.l1 k (x6 ++ [(⟨x8, (⟨r6, r7⟩ : S48), (⟨r8, r9⟩ : S48)⟩ : S54)]) x8 x16 x17 x18 3 r0 r1 r2 r3 r4 r5 r6 r7 r8 r9 r10 r11 r12 r13) else (none))) else (if x67 = 3 then (if r13 = true then (impl_sidesOf.l1 k x6 x8 x16 x17 x18 4 r0 r1 r2 r3 r4 r5 r6 r7 r8 r9 r10 r11 r12 r13) else (if x6.length < 3518437208883 then (impl_sidesOf.l1 k (x6 ++ [(⟨x8, (⟨r8, r9⟩ : S48), (⟨r2, r3⟩ : S48)⟩ : S54)]) x8 x16 x17 x18 4 r0 r1 r2 r3 r4 r5 r6 r7 r8 r9 r10 r11 r12 r13) else (none))) else (none))))) else (impl_sidesOf.l0 k x6 x16 x17 (wrap64 (x18 + 1)) r0 r1)
end
def impl_sidesOf.f (k : Nat) (a0 : Int) (l1 : List Int) : Option ((List (S54))) := impl_sidesOf.l0 k ([] : List (S54)) l1 (l1.length : Int) 0 a0 l1
def impl_sidesOf.T6 : Bool × List (List Nat × List Nat) := (true, [([], []), ([], []), ([0, 1], [0, 1]), ([], []), ([], []), ([3, 4], [3, 4]), ([2, 0, 1, 2], [2]), ([5, 6, 0, 1, 2, 3, 4, 5, 6], [5])])
def impl_sidesOf.B6 : List Nat := [0, 0, 3, 0, 0, 24, 7, 127]
theorem impl_sidesOf.tab6 : rtab .any (opsOf Try.f32 6) = impl_sidesOf.T6 := by kernel_rfl
theorem impl_sidesOf.bits6 : waitsOk impl_sidesOf.T6.2 impl_sidesOf.B6 = true := by kernel_rfl
def impl_sidesOf.T13 : Bool × List (List Nat × List Nat) := (true, [([], []), ([], []), ([], []), ([2], [2]), ([3], [3]), ([], []), ([5], [5]), ([6], [6]), ([7], [7]), ([8], [8]), ([1, 4, 9], [1, 4, 9]), ([10], [10]), ([0, 11], [0, 11]), ([12, 12, 0, 1, 2, 3, 4, 5, 6, 7, 8, 9, 10, 11, 12], [0, 12])])
def impl_sidesOf.B13 : List Nat := [0, 0, 0, 4, 12, 0, 32, 96, 224, 480, 1022, 2046, 4095, 8191]
theorem impl_sidesOf.tab13 : rtab .any (opsOf Try.f32 13) = impl_sidesOf.T13 := by kernel_rfl
theorem impl_sidesOf.bits13 : waitsOk impl_sidesOf.T13.2 impl_sidesOf.B13 = true := by kernel_rfl
theorem impl_sidesOf.calls (k : Nat) (a0 : Int) (A1 : Option Addr) (c1 : Nat) (l1 : List Int) (r : List (S54)) (w : World) (hr1 : Kd.C (Kd.int .i64) w A1 l1.length l1) (hc1 : l1.length ≤ c1) (h : impl_sidesOf.f k a0 l1 = some r) :
  Calls Try.prog 32 #[.int .i64 a0, .slice A1 l1.length c1] w fun e w' => ∃ v0_ : Value, e = .returned (v0_) ∧ Kd.R k54 54 w' w.heap.size (fun _ => True) v0_ r ∧ Below w.heap.size w w' := by
 have hu48 := Try.underlying48
 have hu67 := Try.underlying67
 have hu68 := Try.underlying68
 have hu54 := Try.underlying54
 have HR1 := aK hr1
 have HC1 := aK hc1
 clear hr1 hc1
 have HB := aK (Below.refl w.heap.size w)
 have H : (impl_sidesOf.l0 k ([] : List (S54)) l1 (l1.length : Int) 0 a0 l1) = some r := h
 clear h
 have H' := aK H
 clear H
 go_enter Try.func32, Try.ntmps32
 go_wp2_with (first | ((with_reducible refine ga 2 rfl ?_); refine bxa #[.int .i64 a0] 3 ?_; intro g101 hg w3 B101 hb; have GW101 := gA hg HB; replace HB := bS HB hb; clear hb hg) | ((with_reducible refine ga 3 rfl ?_); refine bxa #[.slice A1 l1.length c1] 22 ?_; intro g102 hg w4 B102 hb; have GW102 := gA hg HB; obtain ⟨N101_102, N102_101⟩ := na hg B101; replace B101 := bB B101 hb; replace HB := bS HB hb; clear hb hg; obtain ⟨_, _⟩ := nB N102_101; obtain ⟨z6_0, y6_0⟩ := bc1 B102.out))
 go_loopg [6, 18] k (fun kq v6 v18 w' => ∃ (x6_1 : List (S54)) (x18_1 : Int), v18 = .int .i64 x18_1 ∧ Aside0 (impl_sidesOf.l0 kq x6_1 l1 (l1.length : Int) x18_1 a0 l1 = some r) ∧ Aside0 (kq ≤ k) ∧ Aside0 (Kd.R k54 54 w' w.heap.size (fun _ => True) v6 x6_1) ∧ Aside0 (w'.heap[g101]? = some (.cells #[.int .i64 a0] 3 (0, 0))) ∧ Aside0 (w'.heap[g102]? = some (.cells #[(.slice A1 l1.length c1)] 22 (0, 0))) ∧ Aside0 (Below w.heap.size w w'))
 case atStart => exact ⟨(([] : List (S54))), (0), (by first | rfl | (simp; done) | (simp [*]; done)), H', ⟨Nat.le_refl _⟩, ⟨by first | exact Kd.R_nil _ _ _ _ _ | exact Kd.N_nil _ _ _ _ _ | exact Kd.V_nil _ _ _ _ _ | exact Kd.Q_nil _ _ _ _ _ | exact Kd.S_nil _ _ _ _ _⟩, ⟨by refine bk ?_; exact B101.out⟩, ⟨by refine bk ?_; exact B102.out⟩, ⟨pT HB.out⟩⟩
 case round =>
 clear H'
 try clear c1
 try clear p2
 try clear c3
 try clear c5
 try clear z6_0
 try clear y6_0
 obtain ⟨x6_1, x18_1, rfl, HA, HK1, HO_6, B101, B102, HB⟩ := hrel
 cases gk with
 | zero => exact absurd HA.out (by simp [impl_sidesOf.l0])
 | succ k1 =>
 have H := HA.out
 clear HA
 simp only [impl_sidesOf.l0] at H
 by_cases c7 : x18_1 < (l1.length : Int)
 rotate_left
 ·
  rw [if_neg c7] at H
  have c7b0 : decide (x18_1 < (l1.length : Int)) = false := decide_eq_false c7
  clear c7
  obtain rfl := Option.some.inj H
  go_wp2
  go_ret
  exact ⟨_, er, by (with_reducible repeat (first | apply Kd.R_alloc | apply Kd.R_drewN | apply Kd.R_drew)); exact HO_6.out, pT HB.out⟩
 rw [if_pos c7] at H
 have c7b0 : decide (x18_1 < (l1.length : Int)) = true := decide_eq_true c7
 clear c7
 by_cases c8 : 0 ≤ x18_1
 rotate_left
 ·
  rw [if_neg c8] at H
  exact absurd H (by simp)
 rw [if_pos c8] at H
 have c8b0 : decide (0 ≤ x18_1) = true := decide_eq_true c8
 clear c8
 by_cases c9 : x18_1 < (l1.length : Int)
 rotate_left
 ·
  rw [if_neg c9] at H
  exact absurd H (by simp)
 rw [if_pos c9] at H
 have c9b0 : decide (x18_1 < (l1.length : Int)) = true := decide_eq_true c9
 clear c9
 by_cases c10 : a0 = 0
 ·
  rw [if_pos c10] at H
  exact absurd H (by simp)
 rw [if_neg c10] at H
 have c10b0 : (a0 == 0) = false := beq_eq_false_iff_ne.mpr c10
 have c10b1 : (a0 != 0) = true := bne_iff_ne.mpr c10
 replace H := oA H
 obtain ⟨t105, A11, H⟩ := H
 replace H : ((impl_sidesOf_1.f k1 (wrap64 ((Int.tmod (rd l1 x18_1) a0) + 1)) (wrap64 (Int.tdiv (rd l1 x18_1) a0)) a0 l1).bind fun t106 => ((impl_sidesOf_1.f k1 (Int.tmod (rd l1 x18_1) a0) (wrap64 ((wrap64 (Int.tdiv (rd l1 x18_1) a0)) + 1)) a0 l1).bind fun t107 => ((impl_sidesOf_1.f k1 (wrap64 ((Int.tmod (rd l1 x18_1) a0) - 1)) (wrap64 (Int.tdiv (rd l1 x18_1) a0)) a0 l1).bind fun t108 => (impl_sidesOf.l1 k1 x6_1 (rd l1 x18_1) l1 (l1.length : Int) x18_1 0 a0 l1 (Int.tmod (rd l1 x18_1) a0) (wrap64 (Int.tdiv (rd l1 x18_1) a0)) (wrap64 ((Int.tmod (rd l1 x18_1) a0) + 1)) (wrap64 (Int.tdiv (rd l1 x18_1) a0)) (wrap64 ((Int.tmod (rd l1 x18_1) a0) + 1)) (wrap64 ((wrap64 (Int.tdiv (rd l1 x18_1) a0)) + 1)) (Int.tmod (rd l1 x18_1) a0) (wrap64 ((wrap64 (Int.tdiv (rd l1 x18_1) a0)) + 1)) t105 t106 t107 t108)))) = some r := H
 replace H := oA H
 obtain ⟨t106, A12, H⟩ := H
 replace H : ((impl_sidesOf_1.f k1 (Int.tmod (rd l1 x18_1) a0) (wrap64 ((wrap64 (Int.tdiv (rd l1 x18_1) a0)) + 1)) a0 l1).bind fun t107 => ((impl_sidesOf_1.f k1 (wrap64 ((Int.tmod (rd l1 x18_1) a0) - 1)) (wrap64 (Int.tdiv (rd l1 x18_1) a0)) a0 l1).bind fun t108 => (impl_sidesOf.l1 k1 x6_1 (rd l1 x18_1) l1 (l1.length : Int) x18_1 0 a0 l1 (Int.tmod (rd l1 x18_1) a0) (wrap64 (Int.tdiv (rd l1 x18_1) a0)) (wrap64 ((Int.tmod (rd l1 x18_1) a0) + 1)) (wrap64 (Int.tdiv (rd l1 x18_1) a0)) (wrap64 ((Int.tmod (rd l1 x18_1) a0) + 1)) (wrap64 ((wrap64 (Int.tdiv (rd l1 x18_1) a0)) + 1)) (Int.tmod (rd l1 x18_1) a0) (wrap64 ((wrap64 (Int.tdiv (rd l1 x18_1) a0)) + 1)) t105 t106 t107 t108))) = some r := H
 replace H := oA H
 obtain ⟨t107, A13, H⟩ := H
 replace H : ((impl_sidesOf_1.f k1 (wrap64 ((Int.tmod (rd l1 x18_1) a0) - 1)) (wrap64 (Int.tdiv (rd l1 x18_1) a0)) a0 l1).bind fun t108 => (impl_sidesOf.l1 k1 x6_1 (rd l1 x18_1) l1 (l1.length : Int) x18_1 0 a0 l1 (Int.tmod (rd l1 x18_1) a0) (wrap64 (Int.tdiv (rd l1 x18_1) a0)) (wrap64 ((Int.tmod (rd l1 x18_1) a0) + 1)) (wrap64 (Int.tdiv (rd l1 x18_1) a0)) (wrap64 ((Int.tmod (rd l1 x18_1) a0) + 1)) (wrap64 ((wrap64 (Int.tdiv (rd l1 x18_1) a0)) + 1)) (Int.tmod (rd l1 x18_1) a0) (wrap64 ((wrap64 (Int.tdiv (rd l1 x18_1) a0)) + 1)) t105 t106 t107 t108)) = some r := H
 replace H := oA H
 obtain ⟨t108, A14, H⟩ := H
 replace H : (impl_sidesOf.l1 k1 x6_1 (rd l1 x18_1) l1 (l1.length : Int) x18_1 0 a0 l1 (Int.tmod (rd l1 x18_1) a0) (wrap64 (Int.tdiv (rd l1 x18_1) a0)) (wrap64 ((Int.tmod (rd l1 x18_1) a0) + 1)) (wrap64 (Int.tdiv (rd l1 x18_1) a0)) (wrap64 ((Int.tmod (rd l1 x18_1) a0) + 1)) (wrap64 ((wrap64 (Int.tdiv (rd l1 x18_1) a0)) + 1)) (Int.tmod (rd l1 x18_1) a0) (wrap64 ((wrap64 (Int.tdiv (rd l1 x18_1) a0)) + 1)) t105 t106 t107 t108) = some r := H
 have H' := aK H
 clear H
 have p103 : 0 ≤ (x18_1 : Int) := dA
 have q103 : x18_1 < (l1.length : Int) := dA
 obtain ⟨ad103, e103, hx103_0⟩ := Kd.at_int HR1.out x18_1 p103 q103
 cases e103
 replace hx103_0 := (HB.out.cell (World.block_lt_of_cell? w _ hx103_0)).trans hx103_0
 replace p103 := eq_true p103
 replace q103 := eq_true q103
 try go_wp2
 replace HO_6 := rdw HO_6
 replace B101 := bD B101
 replace B102 := bD B102
 replace HB := aK (below_drew1 HB.out)
 refine start_ (n := 8) (S := fun w' => w'.cell? ⟨g101, 0, none⟩ = some (.int .i64 a0)) (ds := []) (bz [0, 8]) (by kernel_rfl) rfl rfl ((blk_cell B101.out 0).trans rfl) (fun hHeld => ?_); refine with_tabW impl_sidesOf.tab6 impl_sidesOf.bits6 (fun HT_ HW_ => ?_)
 generalize wr.drew = w15 at HO_6 B101 B102 HB hHeld ⊢
 refine pz 0 22 [1, 7] HT_ ?_
 refine pz 3 25 [1, 2, 1, 4] HT_ ?_
 refine take_ (i := 1) (N := some 23) (v := ?_) (a' := ?_) (bz [2, 1, 1, 4]) rfl rfl (take_ofW HT_.out HW_.out (by kernel_rfl)) (fun _ _ _ h => h) (Or.inl ⟨by rfl, ?_⟩) hHeld ?_ ?_
 rotate_left
 ·
  intro w' s0
  go_simp
  with_reducible rfl
 rotate_left
 ·
  simp only [sP]
  rfl
 refine pz 2 24 [4, 4] HT_ ?_
 refine pz 6 9 [4, 2, 1, 1] HT_ ?_
 refine take_ (i := 4) (N := some 26) (v := ?_) (a' := ?_) (bz [5, 1, 1, 1]) rfl rfl (take_ofW HT_.out HW_.out (by kernel_rfl)) (fun _ _ _ h => h) (Or.inl ⟨by rfl, ?_⟩) hHeld ?_ ?_
 rotate_left
 ·
  intro w' s0
  go_simp
  with_reducible rfl
 rotate_left
 ·
  simp only [sP]
  rfl
 refine pz 5 27 [7, 1] HT_ ?_
 refine pz 7 10 [8, 0] HT_ ?_
 refine done_ (done_of HT_.out (by kernel_rfl)) ?_
 try go_wp2_with (first | ((with_reducible refine ga 11 rfl ?_); refine bxa #[.int .i64 0, .int .i64 0, .int .i64 0, .int .i64 0, .int .i64 0, .int .i64 0, .int .i64 0, .int .i64 0] 67 ?_; intro g104 hg w16 B104 hb; replace HO_6 := rb HO_6 hb; have GW104 := gA hg HB; obtain ⟨N101_104, N104_101⟩ := na hg B101; obtain ⟨N102_104, N104_102⟩ := na hg B102; replace B101 := bB B101 hb; replace B102 := bB B102 hb; replace HB := bS HB hb; clear hb hg; obtain ⟨_, _⟩ := nB N104_101; obtain ⟨_, _⟩ := nB N104_102; have z19_0 : w16.cell? ⟨g104, 0, none⟩ = some (.int .i64 0) := (blk_cell B104.out 0).trans rfl; have z19_1 : w16.cell? ⟨g104, 1, none⟩ = some (.int .i64 0) := (blk_cell B104.out 1).trans rfl; have z19_2 : w16.cell? ⟨g104, 2, none⟩ = some (.int .i64 0) := (blk_cell B104.out 2).trans rfl; have z19_3 : w16.cell? ⟨g104, 3, none⟩ = some (.int .i64 0) := (blk_cell B104.out 3).trans rfl; have z19_4 : w16.cell? ⟨g104, 4, none⟩ = some (.int .i64 0) := (blk_cell B104.out 4).trans rfl; have z19_5 : w16.cell? ⟨g104, 5, none⟩ = some (.int .i64 0) := (blk_cell B104.out 5).trans rfl; have z19_6 : w16.cell? ⟨g104, 6, none⟩ = some (.int .i64 0) := (blk_cell B104.out 6).trans rfl; have z19_7 : w16.cell? ⟨g104, 7, none⟩ = some (.int .i64 0) := (blk_cell B104.out 7).trans rfl; have y19_0 := blk_frozen B104.out 0; have y19_1 := blk_frozen B104.out 1; have y19_2 := blk_frozen B104.out 2; have y19_3 := blk_frozen B104.out 3; have y19_4 := blk_frozen B104.out 4; have y19_5 := blk_frozen B104.out 5; have y19_6 := blk_frozen B104.out 6; have y19_7 := blk_frozen B104.out 7) | ((with_reducible refine ga 49 rfl ?_); refine goesLA (some 49) rfl rfl (lb := #[.pointer (some ⟨g101, 0, none⟩), .pointer (some ⟨g102, 0, none⟩)]) (fun args_ w_ => enters_ Try.func45 (by kernel_rfl) rfl args_ w_) #[.int .i64 (Int.tmod (rd l1 x18_1) a0), .int .i64 (wrap64 ((wrap64 (Int.tdiv (rd l1 x18_1) a0)) - 1))] #[.int .i64 (Int.tmod (rd l1 x18_1) a0), .int .i64 (wrap64 ((wrap64 (Int.tdiv (rd l1 x18_1) a0)) - 1)), .pointer (some ⟨g101, 0, none⟩), .pointer (some ⟨g102, 0, none⟩)] rfl rfl (by (try simp only [List.map_toArray, List.map_cons, List.map_nil]); first | done | rfl) rfl ?_; (with_reducible refine (impl_sidesOf_1.calls k1 (Int.tmod (rd l1 x18_1) a0) (wrap64 ((wrap64 (Int.tdiv (rd l1 x18_1) a0)) - 1)) g101 a0 g102 (some ad103) c1 l1 t105 _ ?side1 ?side2 N101_102.out ?side3 ?side4 A11.out).mono ?_); (case side1 => exact (by refine bg N101_104 ?_; refine bg N101_104 ?_; refine bg N101_104 ?_; refine bg N101_104 ?_; refine bg N101_104 ?_; refine bg N101_104 ?_; refine bg N101_104 ?_; refine bg N101_104 ?_; refine bk ?_; exact B101.out)); (case side2 => exact (by refine bg N102_104 ?_; refine bg N102_104 ?_; refine bg N102_104 ?_; refine bg N102_104 ?_; refine bg N102_104 ?_; refine bg N102_104 ?_; refine bg N102_104 ?_; refine bg N102_104 ?_; refine bk ?_; exact B102.out)); (case side3 => exact Kd.C_below HR1.out (pS HB.out)); (case side4 => exact HC1.out); rintro e w' ⟨rfl, ⟨nd, rfl⟩⟩; refine ⟨_, rfl, ?_⟩) | ((with_reducible refine ga 54 rfl ?_); refine goesLA (some 54) rfl rfl (lb := #[.pointer (some ⟨g101, 0, none⟩), .pointer (some ⟨g102, 0, none⟩)]) (fun args_ w_ => enters_ Try.func45 (by kernel_rfl) rfl args_ w_) #[.int .i64 (wrap64 ((Int.tmod (rd l1 x18_1) a0) + 1)), .int .i64 (wrap64 (Int.tdiv (rd l1 x18_1) a0))] #[.int .i64 (wrap64 ((Int.tmod (rd l1 x18_1) a0) + 1)), .int .i64 (wrap64 (Int.tdiv (rd l1 x18_1) a0)), .pointer (some ⟨g101, 0, none⟩), .pointer (some ⟨g102, 0, none⟩)] rfl rfl (by (try simp only [List.map_toArray, List.map_cons, List.map_nil]); first | done | rfl) rfl ?_; (with_reducible refine (impl_sidesOf_1.calls k1 (wrap64 ((Int.tmod (rd l1 x18_1) a0) + 1)) (wrap64 (Int.tdiv (rd l1 x18_1) a0)) g101 a0 g102 (some ad103) c1 l1 t106 _ ?side1 ?side2 N101_102.out ?side3 ?side4 A12.out).mono ?_); (case side1 => exact (by refine bg N101_104 ?_; refine bg N101_104 ?_; refine bg N101_104 ?_; refine bg N101_104 ?_; refine bg N101_104 ?_; refine bg N101_104 ?_; refine bg N101_104 ?_; refine bg N101_104 ?_; refine bk ?_; exact B101.out)); (case side2 => exact (by refine bg N102_104 ?_; refine bg N102_104 ?_; refine bg N102_104 ?_; refine bg N102_104 ?_; refine bg N102_104 ?_; refine bg N102_104 ?_; refine bg N102_104 ?_; refine bg N102_104 ?_; refine bk ?_; exact B102.out)); (case side3 => exact Kd.C_below HR1.out (pS HB.out)); (case side4 => exact HC1.out); rintro e w' ⟨rfl, ⟨nd, rfl⟩⟩; refine ⟨_, rfl, ?_⟩) | ((with_reducible refine ga 59 rfl ?_); refine goesLA (some 59) rfl rfl (lb := #[.pointer (some ⟨g101, 0, none⟩), .pointer (some ⟨g102, 0, none⟩)]) (fun args_ w_ => enters_ Try.func45 (by kernel_rfl) rfl args_ w_) #[.int .i64 (Int.tmod (rd l1 x18_1) a0), .int .i64 (wrap64 ((wrap64 (Int.tdiv (rd l1 x18_1) a0)) + 1))] #[.int .i64 (Int.tmod (rd l1 x18_1) a0), .int .i64 (wrap64 ((wrap64 (Int.tdiv (rd l1 x18_1) a0)) + 1)), .pointer (some ⟨g101, 0, none⟩), .pointer (some ⟨g102, 0, none⟩)] rfl rfl (by (try simp only [List.map_toArray, List.map_cons, List.map_nil]); first | done | rfl) rfl ?_; (with_reducible refine (impl_sidesOf_1.calls k1 (Int.tmod (rd l1 x18_1) a0) (wrap64 ((wrap64 (Int.tdiv (rd l1 x18_1) a0)) + 1)) g101 a0 g102 (some ad103) c1 l1 t107 _ ?side1 ?side2 N101_102.out ?side3 ?side4 A13.out).mono ?_); (case side1 => exact (by refine bg N101_104 ?_; refine bg N101_104 ?_; refine bg N101_104 ?_; refine bg N101_104 ?_; refine bg N101_104 ?_; refine bg N101_104 ?_; refine bg N101_104 ?_; refine bg N101_104 ?_; refine bk ?_; exact B101.out)); (case side2 => exact (by refine bg N102_104 ?_; refine bg N102_104 ?_; refine bg N102_104 ?_; refine bg N102_104 ?_; refine bg N102_104 ?_; refine bg N102_104 ?_; refine bg N102_104 ?_; refine bg N102_104 ?_; refine bk ?_; exact B102.out)); (case side3 => exact Kd.C_below HR1.out (pS HB.out)); (case side4 => exact HC1.out); rintro e w' ⟨rfl, ⟨nd, rfl⟩⟩; refine ⟨_, rfl, ?_⟩) | ((with_reducible refine ga 64 rfl ?_); refine goesLA (some 64) rfl rfl (lb := #[.pointer (some ⟨g101, 0, none⟩), .pointer (some ⟨g102, 0, none⟩)]) (fun args_ w_ => enters_ Try.func45 (by kernel_rfl) rfl args_ w_) #[.int .i64 (wrap64 ((Int.tmod (rd l1 x18_1) a0) - 1)), .int .i64 (wrap64 (Int.tdiv (rd l1 x18_1) a0))] #[.int .i64 (wrap64 ((Int.tmod (rd l1 x18_1) a0) - 1)), .int .i64 (wrap64 (Int.tdiv (rd l1 x18_1) a0)), .pointer (some ⟨g101, 0, none⟩), .pointer (some ⟨g102, 0, none⟩)] rfl rfl (by (try simp only [List.map_toArray, List.map_cons, List.map_nil]); first | done | rfl) rfl ?_; (with_reducible refine (impl_sidesOf_1.calls k1 (wrap64 ((Int.tmod (rd l1 x18_1) a0) - 1)) (wrap64 (Int.tdiv (rd l1 x18_1) a0)) g101 a0 g102 (some ad103) c1 l1 t108 _ ?side1 ?side2 N101_102.out ?side3 ?side4 A14.out).mono ?_); (case side1 => exact (by refine bg N101_104 ?_; refine bg N101_104 ?_; refine bg N101_104 ?_; refine bg N101_104 ?_; refine bg N101_104 ?_; refine bg N101_104 ?_; refine bg N101_104 ?_; refine bg N101_104 ?_; refine bk ?_; exact B101.out)); (case side2 => exact (by refine bg N102_104 ?_; refine bg N102_104 ?_; refine bg N102_104 ?_; refine bg N102_104 ?_; refine bg N102_104 ?_; refine bg N102_104 ?_; refine bg N102_104 ?_; refine bg N102_104 ?_; refine bk ?_; exact B102.out)); (case side3 => exact Kd.C_below HR1.out (pS HB.out)); (case side4 => exact HC1.out); rintro e w' ⟨rfl, ⟨nd, rfl⟩⟩; refine ⟨_, rfl, ?_⟩) | ((with_reducible refine ga 12 rfl ?_); refine bxe (cs := #[.bool false, .bool false, .bool false, .bool false]) (t := 68) ?_; intro g109 hg w20 hbox hb; replace HO_6 := aK (Kd.R_below (pR ((Kd.R_mono (Kd.R_far (p := ⟨g104, 7, none⟩) (Kd.R_far (p := ⟨g104, 6, none⟩) (Kd.R_far (p := ⟨g104, 5, none⟩) (Kd.R_far (p := ⟨g104, 4, none⟩) (Kd.R_far (p := ⟨g104, 3, none⟩) (Kd.R_far (p := ⟨g104, 2, none⟩) (Kd.R_far (p := ⟨g104, 1, none⟩) (Kd.R_far (p := ⟨g104, 0, none⟩) (Kd.R_types HO_6.out B104.out (by decide)) (fun _ hk => hk.2) (.int .i64 (Int.tmod (rd l1 x18_1) a0))) (fun _ hk => hk.2) (.int .i64 (wrap64 (Int.tdiv (rd l1 x18_1) a0)))) (fun _ hk => hk.2) (.int .i64 (wrap64 ((Int.tmod (rd l1 x18_1) a0) + 1)))) (fun _ hk => hk.2) (.int .i64 (wrap64 (Int.tdiv (rd l1 x18_1) a0)))) (fun _ hk => hk.2) (.int .i64 (wrap64 ((Int.tmod (rd l1 x18_1) a0) + 1)))) (fun _ hk => hk.2) (.int .i64 (wrap64 ((wrap64 (Int.tdiv (rd l1 x18_1) a0)) + 1)))) (fun _ hk => hk.2) (.int .i64 (Int.tmod (rd l1 x18_1) a0))) (fun _ hk => hk.2) (.int .i64 (wrap64 ((wrap64 (Int.tdiv (rd l1 x18_1) a0)) + 1)))) (fun _ h_ => h_.1)))) hb); have n1_ := aK (blk_below (g := g101) (o := .cells #[.int .i64 a0] 3 (0, 0)) (by refine bg N101_104 ?_; refine bg N101_104 ?_; refine bg N101_104 ?_; refine bg N101_104 ?_; refine bg N101_104 ?_; refine bg N101_104 ?_; refine bg N101_104 ?_; refine bg N101_104 ?_; refine bk ?_; exact B101.out) hb); have n2_ := aK (blk_below (g := g102) (o := .cells #[.slice (some ad103) l1.length c1] 22 (0, 0)) (by refine bg N102_104 ?_; refine bg N102_104 ?_; refine bg N102_104 ?_; refine bg N102_104 ?_; refine bg N102_104 ?_; refine bg N102_104 ?_; refine bg N102_104 ?_; refine bg N102_104 ?_; refine bk ?_; exact B102.out) hb); have n3_ := aK (blk_below (g := g104) (o := .cells #[.int .i64 (Int.tmod (rd l1 x18_1) a0), .int .i64 (wrap64 (Int.tdiv (rd l1 x18_1) a0)), .int .i64 (wrap64 ((Int.tmod (rd l1 x18_1) a0) + 1)), .int .i64 (wrap64 (Int.tdiv (rd l1 x18_1) a0)), .int .i64 (wrap64 ((Int.tmod (rd l1 x18_1) a0) + 1)), .int .i64 (wrap64 ((wrap64 (Int.tdiv (rd l1 x18_1) a0)) + 1)), .int .i64 (Int.tmod (rd l1 x18_1) a0), .int .i64 (wrap64 ((wrap64 (Int.tdiv (rd l1 x18_1) a0)) + 1))] 67 (0, 0)) (by refine bq #[.int .i64 (Int.tmod (rd l1 x18_1) a0), .int .i64 (wrap64 (Int.tdiv (rd l1 x18_1) a0)), .int .i64 (wrap64 ((Int.tmod (rd l1 x18_1) a0) + 1)), .int .i64 (wrap64 (Int.tdiv (rd l1 x18_1) a0)), .int .i64 (wrap64 ((Int.tmod (rd l1 x18_1) a0) + 1)), .int .i64 (wrap64 ((wrap64 (Int.tdiv (rd l1 x18_1) a0)) + 1)), .int .i64 (Int.tmod (rd l1 x18_1) a0), .int .i64 0] 7 ?_; refine bq #[.int .i64 (Int.tmod (rd l1 x18_1) a0), .int .i64 (wrap64 (Int.tdiv (rd l1 x18_1) a0)), .int .i64 (wrap64 ((Int.tmod (rd l1 x18_1) a0) + 1)), .int .i64 (wrap64 (Int.tdiv (rd l1 x18_1) a0)), .int .i64 (wrap64 ((Int.tmod (rd l1 x18_1) a0) + 1)), .int .i64 (wrap64 ((wrap64 (Int.tdiv (rd l1 x18_1) a0)) + 1)), .int .i64 0, .int .i64 0] 6 ?_; refine bq #[.int .i64 (Int.tmod (rd l1 x18_1) a0), .int .i64 (wrap64 (Int.tdiv (rd l1 x18_1) a0)), .int .i64 (wrap64 ((Int.tmod (rd l1 x18_1) a0) + 1)), .int .i64 (wrap64 (Int.tdiv (rd l1 x18_1) a0)), .int .i64 (wrap64 ((Int.tmod (rd l1 x18_1) a0) + 1)), .int .i64 0, .int .i64 0, .int .i64 0] 5 ?_; refine bq #[.int .i64 (Int.tmod (rd l1 x18_1) a0), .int .i64 (wrap64 (Int.tdiv (rd l1 x18_1) a0)), .int .i64 (wrap64 ((Int.tmod (rd l1 x18_1) a0) + 1)), .int .i64 (wrap64 (Int.tdiv (rd l1 x18_1) a0)), .int .i64 0, .int .i64 0, .int .i64 0, .int .i64 0] 4 ?_; refine bq #[.int .i64 (Int.tmod (rd l1 x18_1) a0), .int .i64 (wrap64 (Int.tdiv (rd l1 x18_1) a0)), .int .i64 (wrap64 ((Int.tmod (rd l1 x18_1) a0) + 1)), .int .i64 0, .int .i64 0, .int .i64 0, .int .i64 0, .int .i64 0] 3 ?_; refine bq #[.int .i64 (Int.tmod (rd l1 x18_1) a0), .int .i64 (wrap64 (Int.tdiv (rd l1 x18_1) a0)), .int .i64 0, .int .i64 0, .int .i64 0, .int .i64 0, .int .i64 0, .int .i64 0] 2 ?_; refine bq #[.int .i64 (Int.tmod (rd l1 x18_1) a0), .int .i64 0, .int .i64 0, .int .i64 0, .int .i64 0, .int .i64 0, .int .i64 0, .int .i64 0] 1 ?_; refine bq #[.int .i64 0, .int .i64 0, .int .i64 0, .int .i64 0, .int .i64 0, .int .i64 0, .int .i64 0, .int .i64 0] 0 ?_; refine bk ?_; exact B104.out) hb); have B109 := aK (hbox); have GW109 := gA hg HB; have N101_109 := aK (nL hg (a := g101) (o := .cells #[.int .i64 a0] 3 (0, 0)) (by refine bg N101_104 ?_; refine bg N101_104 ?_; refine bg N101_104 ?_; refine bg N101_104 ?_; refine bg N101_104 ?_; refine bg N101_104 ?_; refine bg N101_104 ?_; refine bg N101_104 ?_; refine bk ?_; exact B101.out)); have N109_101 := aK (nG hg (a := g101) (o := .cells #[.int .i64 a0] 3 (0, 0)) (by refine bg N101_104 ?_; refine bg N101_104 ?_; refine bg N101_104 ?_; refine bg N101_104 ?_; refine bg N101_104 ?_; refine bg N101_104 ?_; refine bg N101_104 ?_; refine bg N101_104 ?_; refine bk ?_; exact B101.out)); have N102_109 := aK (nL hg (a := g102) (o := .cells #[.slice (some ad103) l1.length c1] 22 (0, 0)) (by refine bg N102_104 ?_; refine bg N102_104 ?_; refine bg N102_104 ?_; refine bg N102_104 ?_; refine bg N102_104 ?_; refine bg N102_104 ?_; refine bg N102_104 ?_; refine bg N102_104 ?_; refine bk ?_; exact B102.out)); have N109_102 := aK (nG hg (a := g102) (o := .cells #[.slice (some ad103) l1.length c1] 22 (0, 0)) (by refine bg N102_104 ?_; refine bg N102_104 ?_; refine bg N102_104 ?_; refine bg N102_104 ?_; refine bg N102_104 ?_; refine bg N102_104 ?_; refine bg N102_104 ?_; refine bg N102_104 ?_; refine bk ?_; exact B102.out)); have N104_109 := aK (nL hg (a := g104) (o := .cells #[.int .i64 (Int.tmod (rd l1 x18_1) a0), .int .i64 (wrap64 (Int.tdiv (rd l1 x18_1) a0)), .int .i64 (wrap64 ((Int.tmod (rd l1 x18_1) a0) + 1)), .int .i64 (wrap64 (Int.tdiv (rd l1 x18_1) a0)), .int .i64 (wrap64 ((Int.tmod (rd l1 x18_1) a0) + 1)), .int .i64 (wrap64 ((wrap64 (Int.tdiv (rd l1 x18_1) a0)) + 1)), .int .i64 (Int.tmod (rd l1 x18_1) a0), .int .i64 (wrap64 ((wrap64 (Int.tdiv (rd l1 x18_1) a0)) + 1))] 67 (0, 0)) (by refine bq #[.int .i64 (Int.tmod (rd l1 x18_1) a0), .int .i64 (wrap64 (Int.tdiv (rd l1 x18_1) a0)), .int .i64 (wrap64 ((Int.tmod (rd l1 x18_1) a0) + 1)), .int .i64 (wrap64 (Int.tdiv (rd l1 x18_1) a0)), .int .i64 (wrap64 ((Int.tmod (rd l1 x18_1) a0) + 1)), .int .i64 (wrap64 ((wrap64 (Int.tdiv (rd l1 x18_1) a0)) + 1)), .int .i64 (Int.tmod (rd l1 x18_1) a0), .int .i64 0] 7 ?_; refine bq #[.int .i64 (Int.tmod (rd l1 x18_1) a0), .int .i64 (wrap64 (Int.tdiv (rd l1 x18_1) a0)), .int .i64 (wrap64 ((Int.tmod (rd l1 x18_1) a0) + 1)), .int .i64 (wrap64 (Int.tdiv (rd l1 x18_1) a0)), .int .i64 (wrap64 ((Int.tmod (rd l1 x18_1) a0) + 1)), .int .i64 (wrap64 ((wrap64 (Int.tdiv (rd l1 x18_1) a0)) + 1)), .int .i64 0, .int .i64 0] 6 ?_; refine bq #[.int .i64 (Int.tmod (rd l1 x18_1) a0), .int .i64 (wrap64 (Int.tdiv (rd l1 x18_1) a0)), .int .i64 (wrap64 ((Int.tmod (rd l1 x18_1) a0) + 1)), .int .i64 (wrap64 (Int.tdiv (rd l1 x18_1) a0)), .int .i64 (wrap64 ((Int.tmod (rd l1 x18_1) a0) + 1)), .int .i64 0, .int .i64 0, .int .i64 0] 5 ?_; refine bq #[.int .i64 (Int.tmod (rd l1 x18_1) a0), .int .i64 (wrap64 (Int.tdiv (rd l1 x18_1) a0)), .int .i64 (wrap64 ((Int.tmod (rd l1 x18_1) a0) + 1)), .int .i64 (wrap64 (Int.tdiv (rd l1 x18_1) a0)), .int .i64 0, .int .i64 0, .int .i64 0, .int .i64 0] 4 ?_; refine bq #[.int .i64 (Int.tmod (rd l1 x18_1) a0), .int .i64 (wrap64 (Int.tdiv (rd l1 x18_1) a0)), .int .i64 (wrap64 ((Int.tmod (rd l1 x18_1) a0) + 1)), .int .i64 0, .int .i64 0, .int .i64 0, .int .i64 0, .int .i64 0] 3 ?_; refine bq #[.int .i64 (Int.tmod (rd l1 x18_1) a0), .int .i64 (wrap64 (Int.tdiv (rd l1 x18_1) a0)), .int .i64 0, .int .i64 0, .int .i64 0, .int .i64 0, .int .i64 0, .int .i64 0] 2 ?_; refine bq #[.int .i64 (Int.tmod (rd l1 x18_1) a0), .int .i64 0, .int .i64 0, .int .i64 0, .int .i64 0, .int .i64 0, .int .i64 0, .int .i64 0] 1 ?_; refine bq #[.int .i64 0, .int .i64 0, .int .i64 0, .int .i64 0, .int .i64 0, .int .i64 0, .int .i64 0, .int .i64 0] 0 ?_; refine bk ?_; exact B104.out)); have N109_104 := aK (nG hg (a := g104) (o := .cells #[.int .i64 (Int.tmod (rd l1 x18_1) a0), .int .i64 (wrap64 (Int.tdiv (rd l1 x18_1) a0)), .int .i64 (wrap64 ((Int.tmod (rd l1 x18_1) a0) + 1)), .int .i64 (wrap64 (Int.tdiv (rd l1 x18_1) a0)), .int .i64 (wrap64 ((Int.tmod (rd l1 x18_1) a0) + 1)), .int .i64 (wrap64 ((wrap64 (Int.tdiv (rd l1 x18_1) a0)) + 1)), .int .i64 (Int.tmod (rd l1 x18_1) a0), .int .i64 (wrap64 ((wrap64 (Int.tdiv (rd l1 x18_1) a0)) + 1))] 67 (0, 0)) (by refine bq #[.int .i64 (Int.tmod (rd l1 x18_1) a0), .int .i64 (wrap64 (Int.tdiv (rd l1 x18_1) a0)), .int .i64 (wrap64 ((Int.tmod (rd l1 x18_1) a0) + 1)), .int .i64 (wrap64 (Int.tdiv (rd l1 x18_1) a0)), .int .i64 (wrap64 ((Int.tmod (rd l1 x18_1) a0) + 1)), .int .i64 (wrap64 ((wrap64 (Int.tdiv (rd l1 x18_1) a0)) + 1)), .int .i64 (Int.tmod (rd l1 x18_1) a0), .int .i64 0] 7 ?_; refine bq #[.int .i64 (Int.tmod (rd l1 x18_1) a0), .int .i64 (wrap64 (Int.tdiv (rd l1 x18_1) a0)), .int .i64 (wrap64 ((Int.tmod (rd l1 x18_1) a0) + 1)), .int .i64 (wrap64 (Int.tdiv (rd l1 x18_1) a0)), .int .i64 (wrap64 ((Int.tmod (rd l1 x18_1) a0) + 1)), .int .i64 (wrap64 ((wrap64 (Int.tdiv (rd l1 x18_1) a0)) + 1)), .int .i64 0, .int .i64 0] 6 ?_; refine bq #[.int .i64 (Int.tmod (rd l1 x18_1) a0), .int .i64 (wrap64 (Int.tdiv (rd l1 x18_1) a0)), .int .i64 (wrap64 ((Int.tmod (rd l1 x18_1) a0) + 1)), .int .i64 (wrap64 (Int.tdiv (rd l1 x18_1) a0)), .int .i64 (wrap64 ((Int.tmod (rd l1 x18_1) a0) + 1)), .int .i64 0, .int .i64 0, .int .i64 0] 5 ?_; refine bq #[.int .i64 (Int.tmod (rd l1 x18_1) a0), .int .i64 (wrap64 (Int.tdiv (rd l1 x18_1) a0)), .int .i64 (wrap64 ((Int.tmod (rd l1 x18_1) a0) + 1)), .int .i64 (wrap64 (Int.tdiv (rd l1 x18_1) a0)), .int .i64 0, .int .i64 0, .int .i64 0, .int .i64 0] 4 ?_; refine bq #[.int .i64 (Int.tmod (rd l1 x18_1) a0), .int .i64 (wrap64 (Int.tdiv (rd l1 x18_1) a0)), .int .i64 (wrap64 ((Int.tmod (rd l1 x18_1) a0) + 1)), .int .i64 0, .int .i64 0, .int .i64 0, .int .i64 0, .int .i64 0] 3 ?_; refine bq #[.int .i64 (Int.tmod (rd l1 x18_1) a0), .int .i64 (wrap64 (Int.tdiv (rd l1 x18_1) a0)), .int .i64 0, .int .i64 0, .int .i64 0, .int .i64 0, .int .i64 0, .int .i64 0] 2 ?_; refine bq #[.int .i64 (Int.tmod (rd l1 x18_1) a0), .int .i64 0, .int .i64 0, .int .i64 0, .int .i64 0, .int .i64 0, .int .i64 0, .int .i64 0] 1 ?_; refine bq #[.int .i64 0, .int .i64 0, .int .i64 0, .int .i64 0, .int .i64 0, .int .i64 0, .int .i64 0, .int .i64 0] 0 ?_; refine bk ?_; exact B104.out)); replace HB := bS HB hb; clear B101 B102 B104; have B101 := n1_; have B102 := n2_; have B104 := n3_; clear n1_ n2_ n3_ hb hbox hg; obtain ⟨_, _⟩ := nB N109_101; obtain ⟨_, _⟩ := nB N109_102; obtain ⟨_, _⟩ := nB N109_104; obtain ⟨z24_0, z24_1, z24_2, z24_3, y24_0, y24_1, y24_2, y24_3⟩ := bc4 B109.out))
 go_loopg [6, 67] k1 (fun kq v6 v67 w' => ∃ (x6_2 : List (S54)) (x67_2 : Int), v67 = .int .i64 x67_2 ∧ Aside0 (impl_sidesOf.l1 kq x6_2 (rd l1 x18_1) l1 (l1.length : Int) x18_1 x67_2 a0 l1 (Int.tmod (rd l1 x18_1) a0) (wrap64 (Int.tdiv (rd l1 x18_1) a0)) (wrap64 ((Int.tmod (rd l1 x18_1) a0) + 1)) (wrap64 (Int.tdiv (rd l1 x18_1) a0)) (wrap64 ((Int.tmod (rd l1 x18_1) a0) + 1)) (wrap64 ((wrap64 (Int.tdiv (rd l1 x18_1) a0)) + 1)) (Int.tmod (rd l1 x18_1) a0) (wrap64 ((wrap64 (Int.tdiv (rd l1 x18_1) a0)) + 1)) t105 t106 t107 t108 = some r) ∧ Aside0 (kq ≤ k1) ∧ Aside0 (Kd.R k54 54 w' w.heap.size (fun _ => True) v6 x6_2) ∧ Aside0 (w'.heap[g101]? = some (.cells #[.int .i64 a0] 3 (0, 0))) ∧ Aside0 (w'.heap[g102]? = some (.cells #[(.slice (some ad103) l1.length c1)] 22 (0, 0))) ∧ Aside0 (w'.heap[g104]? = some (.cells #[.int .i64 (Int.tmod (rd l1 x18_1) a0), .int .i64 (wrap64 (Int.tdiv (rd l1 x18_1) a0)), .int .i64 (wrap64 ((Int.tmod (rd l1 x18_1) a0) + 1)), .int .i64 (wrap64 (Int.tdiv (rd l1 x18_1) a0)), .int .i64 (wrap64 ((Int.tmod (rd l1 x18_1) a0) + 1)), .int .i64 (wrap64 ((wrap64 (Int.tdiv (rd l1 x18_1) a0)) + 1)), .int .i64 (Int.tmod (rd l1 x18_1) a0), .int .i64 (wrap64 ((wrap64 (Int.tdiv (rd l1 x18_1) a0)) + 1))] 67 (0, 0))) ∧ Aside0 (w'.heap[g109]? = some (.cells #[.bool t105, .bool t106, .bool t107, .bool t108] 68 (0, 0))) ∧ Aside0 (Below w.heap.size w w'))
 case atStart => exact ⟨(x6_1), (0), (by first | rfl | (simp; done) | (simp [*]; done)), H', ⟨Nat.le_refl _⟩, ⟨by (with_reducible repeat (first | apply Kd.R_alloc | apply Kd.R_drewN | apply Kd.R_drew)); exact Kd.R_mono (Kd.R_far (p := ⟨g109, 3, none⟩) (Kd.R_far (p := ⟨g109, 2, none⟩) (Kd.R_far (p := ⟨g109, 1, none⟩) (Kd.R_far (p := ⟨g109, 0, none⟩) (Kd.R_types HO_6.out B109.out (by decide)) (fun _ hk => hk.2) (.bool t105)) (fun _ hk => hk.2) (.bool t106)) (fun _ hk => hk.2) (.bool t107)) (fun _ hk => hk.2) (.bool t108)) (fun _ hk => trivial)⟩, ⟨by refine bg N101_109 ?_; refine bg N101_109 ?_; refine bg N101_109 ?_; refine bg N101_109 ?_; refine bk ?_; exact B101.out⟩, ⟨by refine bg N102_109 ?_; refine bg N102_109 ?_; refine bg N102_109 ?_; refine bg N102_109 ?_; refine bk ?_; exact B102.out⟩, ⟨by refine bg N104_109 ?_; refine bg N104_109 ?_; refine bg N104_109 ?_; refine bg N104_109 ?_; refine bk ?_; exact B104.out⟩, ⟨by refine bq #[.bool t105, .bool t106, .bool t107, .bool false] 3 ?_; refine bq #[.bool t105, .bool t106, .bool false, .bool false] 2 ?_; refine bq #[.bool t105, .bool false, .bool false, .bool false] 1 ?_; refine bq #[.bool false, .bool false, .bool false, .bool false] 0 ?_; refine bk ?_; exact B109.out⟩, ⟨pT HB.out⟩⟩
 case round =>
 clear H'
 try clear c1
 try clear p1
 try clear q1
 try clear hx1
 try clear c2
 try clear p2
 try clear c3
 try clear c5
 try clear p6
 try clear c7
 try clear c7b0
 try clear c8
 try clear c8b0
 try clear c9
 try clear c9b0
 try clear c10
 try clear c10b0
 try clear c10b1
 try clear p10
 try clear q10
 try clear hx10
 try clear c17
 try clear c18
 try clear c21
 try clear c22
 try clear c23
 try clear z19_0
 try clear z19_1
 try clear z19_2
 try clear z19_3
 try clear z19_4
 try clear z19_5
 try clear z19_6
 try clear z19_7
 try clear z24_0
 try clear z24_1
 try clear z24_2
 try clear z24_3
 try clear z6_0
 try clear y19_0
 try clear y19_1
 try clear y19_2
 try clear y19_3
 try clear y19_4
 try clear y19_5
 try clear y19_6
 try clear y19_7
 try clear y24_0
 try clear y24_1
 try clear y24_2
 try clear y24_3
 try clear y6_0
 try clear hx103_0
 try clear p103
 try clear p2
 try clear q103
 obtain ⟨x6_2, x67_2, rfl, HA, HK2, HO_6, B101, B102, B104, B109, HB⟩ := hrel
 cases gk with
 | zero => exact absurd HA.out (by simp [impl_sidesOf.l1])
 | succ k2 =>
 have H := HA.out
 clear HA
 simp only [impl_sidesOf.l1] at H
 by_cases c25 : x67_2 < 4
 rotate_left
 ·
  rw [if_neg c25] at H
  have c25b0 : decide (x67_2 < 4) = false := decide_eq_false c25
  clear c25; have H' := aK H; clear H
  go_wp2
  go_roundg k2
  case measure => have := HK1.out; have := HK2.out; omega
  case rel => exact ⟨(x6_2), (wrap64 (x18_1 + 1)), (by first | rfl | (simp; done) | (simp [*]; done)), H', ⟨by have := HK1.out; have := HK2.out; omega⟩, ⟨pR HO_6.out⟩, ⟨by refine bk ?_; exact B101.out⟩, ⟨by refine bk ?_; exact B102.out⟩, ⟨pT HB.out⟩⟩
 rw [if_pos c25] at H
 have c25b0 : decide (x67_2 < 4) = true := decide_eq_true c25
 clear c25
 by_cases c26 : x67_2 = 0
 ·
  subst c26
  have H1 : (if t105 = true then (impl_sidesOf.l1 k2 x6_2 (rd l1 x18_1) l1 (l1.length : Int) x18_1 1 a0 l1 (Int.tmod (rd l1 x18_1) a0) (wrap64 (Int.tdiv (rd l1 x18_1) a0)) (wrap64 ((Int.tmod (rd l1 x18_1) a0) + 1)) (wrap64 (Int.tdiv (rd l1 x18_1) a0)) (wrap64 ((Int.tmod (rd l1 x18_1) a0) + 1)) (wrap64 ((wrap64 (Int.tdiv (rd l1 x18_1) a0)) + 1)) (Int.tmod (rd l1 x18_1) a0) (wrap64 ((wrap64 (Int.tdiv (rd l1 x18_1) a0)) + 1)) t105 t106 t107 t108) else (if x6_2.length < 3518437208883 then (impl_sidesOf.l1 k2 (x6_2 ++ [(⟨(rd l1 x18_1), (⟨(Int.tmod (rd l1 x18_1) a0), (wrap64 (Int.tdiv (rd l1 x18_1) a0))⟩ : S48), (⟨(wrap64 ((Int.tmod (rd l1 x18_1) a0) + 1)), (wrap64 (Int.tdiv (rd l1 x18_1) a0))⟩ : S48)⟩ : S54)]) (rd l1 x18_1) l1 (l1.length : Int) x18_1 1 a0 l1 (Int.tmod (rd l1 x18_1) a0) (wrap64 (Int.tdiv (rd l1 x18_1) a0)) (wrap64 ((Int.tmod (rd l1 x18_1) a0) + 1)) (wrap64 (Int.tdiv (rd l1 x18_1) a0)) (wrap64 ((Int.tmod (rd l1 x18_1) a0) + 1)) (wrap64 ((wrap64 (Int.tdiv (rd l1 x18_1) a0)) + 1)) (Int.tmod (rd l1 x18_1) a0) (wrap64 ((wrap64 (Int.tdiv (rd l1 x18_1) a0)) + 1)) t105 t106 t107 t108) else (none))) = some r := by rw [if_pos rfl] at H; exact H
  clear H; have H := H1; clear H1
  by_cases c27 : t105 = true
  ·
   subst c27
   have H1 : (impl_sidesOf.l1 k2 x6_2 (rd l1 x18_1) l1 (l1.length : Int) x18_1 1 a0 l1 (Int.tmod (rd l1 x18_1) a0) (wrap64 (Int.tdiv (rd l1 x18_1) a0)) (wrap64 ((Int.tmod (rd l1 x18_1) a0) + 1)) (wrap64 (Int.tdiv (rd l1 x18_1) a0)) (wrap64 ((Int.tmod (rd l1 x18_1) a0) + 1)) (wrap64 ((wrap64 (Int.tdiv (rd l1 x18_1) a0)) + 1)) (Int.tmod (rd l1 x18_1) a0) (wrap64 ((wrap64 (Int.tdiv (rd l1 x18_1) a0)) + 1)) true t106 t107 t108) = some r := by rw [if_pos rfl] at H; exact H
   clear H; have H := H1; clear H1; have H' := aK H; clear H
   go_wp2
   go_roundg k2
   case measure => have := HK1.out; have := HK2.out; omega
   case rel => exact ⟨(x6_2), (1), (by first | rfl | (simp; done) | (simp [*]; done)), H', ⟨by have := HK1.out; have := HK2.out; omega⟩, ⟨pR HO_6.out⟩, ⟨by refine bk ?_; exact B101.out⟩, ⟨by refine bk ?_; exact B102.out⟩, ⟨by refine bk ?_; exact B104.out⟩, ⟨by refine bk ?_; exact B109.out⟩, ⟨pT HB.out⟩⟩
  replace c27 := Bool.eq_false_iff.mpr c27; subst c27
  have H1 : (if x6_2.length < 3518437208883 then (impl_sidesOf.l1 k2 (x6_2 ++ [(⟨(rd l1 x18_1), (⟨(Int.tmod (rd l1 x18_1) a0), (wrap64 (Int.tdiv (rd l1 x18_1) a0))⟩ : S48), (⟨(wrap64 ((Int.tmod (rd l1 x18_1) a0) + 1)), (wrap64 (Int.tdiv (rd l1 x18_1) a0))⟩ : S48)⟩ : S54)]) (rd l1 x18_1) l1 (l1.length : Int) x18_1 1 a0 l1 (Int.tmod (rd l1 x18_1) a0) (wrap64 (Int.tdiv (rd l1 x18_1) a0)) (wrap64 ((Int.tmod (rd l1 x18_1) a0) + 1)) (wrap64 (Int.tdiv (rd l1 x18_1) a0)) (wrap64 ((Int.tmod (rd l1 x18_1) a0) + 1)) (wrap64 ((wrap64 (Int.tdiv (rd l1 x18_1) a0)) + 1)) (Int.tmod (rd l1 x18_1) a0) (wrap64 ((wrap64 (Int.tdiv (rd l1 x18_1) a0)) + 1)) false t106 t107 t108) else (none)) = some r := by rw [if_neg (show ¬ (false = true) by decide)] at H; exact H
  clear H; have H := H1; clear H1
  by_cases c28 : x6_2.length < 3518437208883
  rotate_left
  ·
   rw [if_neg c28] at H
   exact absurd H (by simp)
  rw [if_pos c28] at H; have LMc28 := aK c28; clear c28
  obtain ⟨y110, hy110⟩ : ∃ y_ : List (S54), y_ = (x6_2 ++ [(⟨(rd l1 x18_1), (⟨(Int.tmod (rd l1 x18_1) a0), (wrap64 (Int.tdiv (rd l1 x18_1) a0))⟩ : S48), (⟨(wrap64 ((Int.tmod (rd l1 x18_1) a0) + 1)), (wrap64 (Int.tdiv (rd l1 x18_1) a0))⟩ : S48)⟩ : S54)]) := ⟨_, rfl⟩
  replace H : (impl_sidesOf.l1 k2 y110 (rd l1 x18_1) l1 (l1.length : Int) x18_1 1 a0 l1 (Int.tmod (rd l1 x18_1) a0) (wrap64 (Int.tdiv (rd l1 x18_1) a0)) (wrap64 ((Int.tmod (rd l1 x18_1) a0) + 1)) (wrap64 (Int.tdiv (rd l1 x18_1) a0)) (wrap64 ((Int.tmod (rd l1 x18_1) a0) + 1)) (wrap64 ((wrap64 (Int.tdiv (rd l1 x18_1) a0)) + 1)) (Int.tmod (rd l1 x18_1) a0) (wrap64 ((wrap64 (Int.tdiv (rd l1 x18_1) a0)) + 1)) false t106 t107 t108) = some r := by first | (rw [hy110]; first | with_reducible exact H | with_reducible exact (oS H :)) | with_reducible exact (oS H :) | with_reducible exact H | exact H
  have Ny110 := aK hy110; clear hy110; have H' := aK H; clear H
  try go_wp2
  replace HO_6 := rdw HO_6; replace B101 := bD B101; replace B102 := bD B102; replace B104 := bD B104; replace B109 := bD B109; replace HB := aK (below_drew1 HB.out)
  refine start_ (n := 14) (S := fun w' => w'.cell? ⟨g104, 0, none⟩ = some (.int .i64 (Int.tmod (rd l1 x18_1) a0)) ∧ w'.cell? ⟨g104, 1, none⟩ = some (.int .i64 (wrap64 (Int.tdiv (rd l1 x18_1) a0))) ∧ w'.cell? ⟨g104, 2, none⟩ = some (.int .i64 (wrap64 ((Int.tmod (rd l1 x18_1) a0) + 1))) ∧ w'.cell? ⟨g104, 3, none⟩ = some (.int .i64 (wrap64 (Int.tdiv (rd l1 x18_1) a0))) ∧ w'.cell? ⟨g104, 4, none⟩ = some (.int .i64 (wrap64 ((Int.tmod (rd l1 x18_1) a0) + 1))) ∧ w'.cell? ⟨g104, 5, none⟩ = some (.int .i64 (wrap64 ((wrap64 (Int.tdiv (rd l1 x18_1) a0)) + 1))) ∧ w'.cell? ⟨g104, 6, none⟩ = some (.int .i64 (Int.tmod (rd l1 x18_1) a0)) ∧ w'.cell? ⟨g104, 7, none⟩ = some (.int .i64 (wrap64 ((wrap64 (Int.tdiv (rd l1 x18_1) a0)) + 1)))) (ds := []) (bz [0, 14]) (by kernel_rfl) rfl rfl ⟨(blk_cell B104.out 0).trans rfl, (blk_cell B104.out 1).trans rfl, (blk_cell B104.out 2).trans rfl, (blk_cell B104.out 3).trans rfl, (blk_cell B104.out 4).trans rfl, (blk_cell B104.out 5).trans rfl, (blk_cell B104.out 6).trans rfl, (blk_cell B104.out 7).trans rfl⟩ (fun hHeld => ?_); refine with_tabW impl_sidesOf.tab13 impl_sidesOf.bits13 (fun HT_ HW_ => ?_)
  generalize wr.drew = w29 at HO_6 B101 B102 B104 B109 HB hHeld ⊢
  refine pz 0 73 [1, 13] HT_ ?_
  refine pz 1 74 [2, 12] HT_ ?_
  refine pz 2 75 [3, 11] HT_ ?_
  refine pz 3 76 [4, 10] HT_ ?_
  refine pz 5 78 [4, 1, 1, 8] HT_ ?_
  refine pz 6 79 [4, 1, 2, 7] HT_ ?_
  refine pz 7 80 [4, 1, 3, 6] HT_ ?_
  refine pz 8 81 [4, 1, 4, 5] HT_ ?_
  refine tz 4 77 [9, 5] HT_ HW_ rfl (by rintro w' ⟨s0, s1, s2, s3, s4, s5, s6, s7⟩; go_simp; with_reducible rfl) hHeld ?_
  refine tz 9 82 [10, 4] HT_ HW_ rfl (by rintro w' ⟨s0, s1, s2, s3, s4, s5, s6, s7⟩; go_simp; with_reducible rfl) hHeld ?_
  refine pz 10 83 [11, 3] HT_ ?_
  refine oz 11 84 [12, 2] HT_ fun K hK => ?_
  refine value_ (w1 := ?_) (v := ?_) (by rfl) rfl ?_ ?_
  rotate_left 2
  ·
   go_simp
   constructor
   ·
    rfl
   rfl
  refine hK.out _ _ ⟨(blk_cell (blk_alloc B104.out _) 0).trans rfl, (blk_cell (blk_alloc B104.out _) 1).trans rfl, (blk_cell (blk_alloc B104.out _) 2).trans rfl, (blk_cell (blk_alloc B104.out _) 3).trans rfl, (blk_cell (blk_alloc B104.out _) 4).trans rfl, (blk_cell (blk_alloc B104.out _) 5).trans rfl, (blk_cell (blk_alloc B104.out _) 6).trans rfl, (blk_cell (blk_alloc B104.out _) 7).trans rfl⟩ (fun hHeld => ?_)
  clear hK K
  refine nm 84 ?_
  refine oz 12 85 [13, 1] HT_ fun K hK => ?_
  refine Kd.R_append_step k54 (w0 := w) w.heap.size (by rfl) (.tmp 73) (.tmp 84) 50 54 (.agg #[(.int .i64 0), (.int .i64 0), (.int .i64 0), (.int .i64 0), (.int .i64 0)]) 40 rfl Try.underlying50 info54 rfl (by decide) (by omega) u6 x6_2 (⟨(rd l1 x18_1), (⟨(Int.tmod (rd l1 x18_1) a0), (wrap64 (Int.tdiv (rd l1 x18_1) a0))⟩ : S48), (⟨(wrap64 ((Int.tmod (rd l1 x18_1) a0) + 1)), (wrap64 (Int.tdiv (rd l1 x18_1) a0))⟩ : S48)⟩ : S54) [.int .i64 (rd l1 x18_1), .int .i64 (Int.tmod (rd l1 x18_1) a0), .int .i64 (wrap64 (Int.tdiv (rd l1 x18_1) a0)), .int .i64 (wrap64 ((Int.tmod (rd l1 x18_1) a0) + 1)), .int .i64 (wrap64 (Int.tdiv (rd l1 x18_1) a0))] (fun _ => True) (fun _ => False) rfl rfl ?aP (fun _ hk => hk.elim) ?aF ?aO ?aB ?aS ?aL ?_
  (case aP => exact k54_mkM _ _ _ (⟨(rd l1 x18_1), (⟨(Int.tmod (rd l1 x18_1) a0), (wrap64 (Int.tdiv (rd l1 x18_1) a0))⟩ : S48), (⟨(wrap64 ((Int.tmod (rd l1 x18_1) a0) + 1)), (wrap64 (Int.tdiv (rd l1 x18_1) a0))⟩ : S48)⟩ : S54))
  (case aB => exact (pS HB.out))
  (case aF => exact (fun _ _ => trivial))
  (case aO => exact (pR HO_6.out))
  (case aS => exact (below_size (pS HB.out)))
  (case aL => have := LMc28.out; omega)
  intro v111 w30 ho hb hg hat
  rw [← Ny110.out] at ho
  replace B101 := aK (blk_grown (pB B101.out) hg (Kd.R_ne HO_6.out B101.out (by decide)))
  replace B102 := aK (blk_grown (pB B102.out) hg (Kd.R_ne HO_6.out B102.out (by decide)))
  replace B104 := aK (blk_grown (pB B104.out) hg (Kd.R_ne HO_6.out B104.out (by decide)))
  replace B109 := aK (blk_grown (pB B109.out) hg (Kd.R_ne HO_6.out B109.out (by decide)))
  replace HB := aK (hb); have HO112 := aK (ho); clear HO_6; clear ho hb hg hat
  refine hK.out _ _ ⟨(blk_cell B104.out 0).trans rfl, (blk_cell B104.out 1).trans rfl, (blk_cell B104.out 2).trans rfl, (blk_cell B104.out 3).trans rfl, (blk_cell B104.out 4).trans rfl, (blk_cell B104.out 5).trans rfl, (blk_cell B104.out 6).trans rfl, (blk_cell B104.out 7).trans rfl⟩ (fun hHeld => ?_)
  clear hK K
  refine nm 85 ?_
  refine pz 13 6 [14, 0] HT_ ?_
  refine done_ (done_of HT_.out (by kernel_rfl)) ?_
  try go_wp2
  go_roundg k2
  case measure => have := HK1.out; have := HK2.out; omega
  case rel => exact ⟨(y110), (1), (by first | rfl | (simp; done) | (simp [*]; done)), H', ⟨by have := HK1.out; have := HK2.out; omega⟩, ⟨pR HO112.out⟩, ⟨by refine bk ?_; exact B101.out⟩, ⟨by refine bk ?_; exact B102.out⟩, ⟨by refine bk ?_; exact B104.out⟩, ⟨by refine bk ?_; exact B109.out⟩, ⟨pT HB.out⟩⟩
 rw [if_neg c26] at H
 clear c26
 by_cases c31 : x67_2 = 1
 ·
  subst c31
  have H1 : (if t106 = true then (impl_sidesOf.l1 k2 x6_2 (rd l1 x18_1) l1 (l1.length : Int) x18_1 2 a0 l1 (Int.tmod (rd l1 x18_1) a0) (wrap64 (Int.tdiv (rd l1 x18_1) a0)) (wrap64 ((Int.tmod (rd l1 x18_1) a0) + 1)) (wrap64 (Int.tdiv (rd l1 x18_1) a0)) (wrap64 ((Int.tmod (rd l1 x18_1) a0) + 1)) (wrap64 ((wrap64 (Int.tdiv (rd l1 x18_1) a0)) + 1)) (Int.tmod (rd l1 x18_1) a0) (wrap64 ((wrap64 (Int.tdiv (rd l1 x18_1) a0)) + 1)) t105 t106 t107 t108) else (if x6_2.length < 3518437208883 then (impl_sidesOf.l1 k2 (x6_2 ++ [(⟨(rd l1 x18_1), (⟨(wrap64 ((Int.tmod (rd l1 x18_1) a0) + 1)), (wrap64 (Int.tdiv (rd l1 x18_1) a0))⟩ : S48), (⟨(wrap64 ((Int.tmod (rd l1 x18_1) a0) + 1)), (wrap64 ((wrap64 (Int.tdiv (rd l1 x18_1) a0)) + 1))⟩ : S48)⟩ : S54)]) (rd l1 x18_1) l1 (l1.length : Int) x18_1 2 a0 l1 (Int.tmod (rd l1 x18_1) a0) (wrap64 (Int.tdiv (rd l1 x18_1) a0)) (wrap64 ((Int.tmod (rd l1 x18_1) a0) + 1)) (wrap64 (Int.tdiv (rd l1 x18_1) a0)) (wrap64 ((Int.tmod (rd l1 x18_1) a0) + 1)) (wrap64 ((wrap64 (Int.tdiv (rd l1 x18_1) a0)) + 1)) (Int.tmod (rd l1 x18_1) a0) (wrap64 ((wrap64 (Int.tdiv (rd l1 x18_1) a0)) + 1)) t105 t106 t107 t108) else (none))) = some r := by rw [if_pos rfl] at H; exact H
  clear H; have H := H1; clear H1
  by_cases c32 : t106 = true
  ·
   subst c32
   have H1 : (impl_sidesOf.l1 k2 x6_2 (rd l1 x18_1) l1 (l1.length : Int) x18_1 2 a0 l1 (Int.tmod (rd l1 x18_1) a0) (wrap64 (Int.tdiv (rd l1 x18_1) a0)) (wrap64 ((Int.tmod (rd l1 x18_1) a0) + 1)) (wrap64 (Int.tdiv (rd l1 x18_1) a0)) (wrap64 ((Int.tmod (rd l1 x18_1) a0) + 1)) (wrap64 ((wrap64 (Int.tdiv (rd l1 x18_1) a0)) + 1)) (Int.tmod (rd l1 x18_1) a0) (wrap64 ((wrap64 (Int.tdiv (rd l1 x18_1) a0)) + 1)) t105 true t107 t108) = some r := by rw [if_pos rfl] at H; exact H
   clear H; have H := H1; clear H1; have H' := aK H; clear H
   go_wp2
   go_roundg k2
   case measure => have := HK1.out; have := HK2.out; omega
   case rel => exact ⟨(x6_2), (2), (by first | rfl | (simp; done) | (simp [*]; done)), H', ⟨by have := HK1.out; have := HK2.out; omega⟩, ⟨pR HO_6.out⟩, ⟨by refine bk ?_; exact B101.out⟩, ⟨by refine bk ?_; exact B102.out⟩, ⟨by refine bk ?_; exact B104.out⟩, ⟨by refine bk ?_; exact B109.out⟩, ⟨pT HB.out⟩⟩
  replace c32 := Bool.eq_false_iff.mpr c32; subst c32
  have H1 : (if x6_2.length < 3518437208883 then (impl_sidesOf.l1 k2 (x6_2 ++ [(⟨(rd l1 x18_1), (⟨(wrap64 ((Int.tmod (rd l1 x18_1) a0) + 1)), (wrap64 (Int.tdiv (rd l1 x18_1) a0))⟩ : S48), (⟨(wrap64 ((Int.tmod (rd l1 x18_1) a0) + 1)), (wrap64 ((wrap64 (Int.tdiv (rd l1 x18_1) a0)) + 1))⟩ : S48)⟩ : S54)]) (rd l1 x18_1) l1 (l1.length : Int) x18_1 2 a0 l1 (Int.tmod (rd l1 x18_1) a0) (wrap64 (Int.tdiv (rd l1 x18_1) a0)) (wrap64 ((Int.tmod (rd l1 x18_1) a0) + 1)) (wrap64 (Int.tdiv (rd l1 x18_1) a0)) (wrap64 ((Int.tmod (rd l1 x18_1) a0) + 1)) (wrap64 ((wrap64 (Int.tdiv (rd l1 x18_1) a0)) + 1)) (Int.tmod (rd l1 x18_1) a0) (wrap64 ((wrap64 (Int.tdiv (rd l1 x18_1) a0)) + 1)) t105 false t107 t108) else (none)) = some r := by rw [if_neg (show ¬ (false = true) by decide)] at H; exact H
  clear H; have H := H1; clear H1
  by_cases c33 : x6_2.length < 3518437208883
  rotate_left
  ·
   rw [if_neg c33] at H
   exact absurd H (by simp)
  rw [if_pos c33] at H; have LMc33 := aK c33; clear c33
  obtain ⟨y113, hy113⟩ : ∃ y_ : List (S54), y_ = (x6_2 ++ [(⟨(rd l1 x18_1), (⟨(wrap64 ((Int.tmod (rd l1 x18_1) a0) + 1)), (wrap64 (Int.tdiv (rd l1 x18_1) a0))⟩ : S48), (⟨(wrap64 ((Int.tmod (rd l1 x18_1) a0) + 1)), (wrap64 ((wrap64 (Int.tdiv (rd l1 x18_1) a0)) + 1))⟩ : S48)⟩ : S54)]) := ⟨_, rfl⟩
  replace H : (impl_sidesOf.l1 k2 y113 (rd l1 x18_1) l1 (l1.length : Int) x18_1 2 a0 l1 (Int.tmod (rd l1 x18_1) a0) (wrap64 (Int.tdiv (rd l1 x18_1) a0)) (wrap64 ((Int.tmod (rd l1 x18_1) a0) + 1)) (wrap64 (Int.tdiv (rd l1 x18_1) a0)) (wrap64 ((Int.tmod (rd l1 x18_1) a0) + 1)) (wrap64 ((wrap64 (Int.tdiv (rd l1 x18_1) a0)) + 1)) (Int.tmod (rd l1 x18_1) a0) (wrap64 ((wrap64 (Int.tdiv (rd l1 x18_1) a0)) + 1)) t105 false t107 t108) = some r := by first | (rw [hy113]; first | with_reducible exact H | with_reducible exact (oS H :)) | with_reducible exact (oS H :) | with_reducible exact H | exact H
  have Ny113 := aK hy113; clear hy113; have H' := aK H; clear H
  try go_wp2
  replace HO_6 := rdw HO_6; replace B101 := bD B101; replace B102 := bD B102; replace B104 := bD B104; replace B109 := bD B109; replace HB := aK (below_drew1 HB.out)
  refine start_ (n := 14) (S := fun w' => w'.cell? ⟨g104, 0, none⟩ = some (.int .i64 (Int.tmod (rd l1 x18_1) a0)) ∧ w'.cell? ⟨g104, 1, none⟩ = some (.int .i64 (wrap64 (Int.tdiv (rd l1 x18_1) a0))) ∧ w'.cell? ⟨g104, 2, none⟩ = some (.int .i64 (wrap64 ((Int.tmod (rd l1 x18_1) a0) + 1))) ∧ w'.cell? ⟨g104, 3, none⟩ = some (.int .i64 (wrap64 (Int.tdiv (rd l1 x18_1) a0))) ∧ w'.cell? ⟨g104, 4, none⟩ = some (.int .i64 (wrap64 ((Int.tmod (rd l1 x18_1) a0) + 1))) ∧ w'.cell? ⟨g104, 5, none⟩ = some (.int .i64 (wrap64 ((wrap64 (Int.tdiv (rd l1 x18_1) a0)) + 1))) ∧ w'.cell? ⟨g104, 6, none⟩ = some (.int .i64 (Int.tmod (rd l1 x18_1) a0)) ∧ w'.cell? ⟨g104, 7, none⟩ = some (.int .i64 (wrap64 ((wrap64 (Int.tdiv (rd l1 x18_1) a0)) + 1)))) (ds := []) (bz [0, 14]) (by kernel_rfl) rfl rfl ⟨(blk_cell B104.out 0).trans rfl, (blk_cell B104.out 1).trans rfl, (blk_cell B104.out 2).trans rfl, (blk_cell B104.out 3).trans rfl, (blk_cell B104.out 4).trans rfl, (blk_cell B104.out 5).trans rfl, (blk_cell B104.out 6).trans rfl, (blk_cell B104.out 7).trans rfl⟩ (fun hHeld => ?_); refine with_tabW impl_sidesOf.tab13 impl_sidesOf.bits13 (fun HT_ HW_ => ?_)
  generalize wr.drew = w34 at HO_6 B101 B102 B104 B109 HB hHeld ⊢
  refine pz 0 73 [1, 13] HT_ ?_
  refine pz 1 74 [2, 12] HT_ ?_
  refine pz 2 75 [3, 11] HT_ ?_
  refine pz 3 76 [4, 10] HT_ ?_
  refine pz 5 78 [4, 1, 1, 8] HT_ ?_
  refine pz 6 79 [4, 1, 2, 7] HT_ ?_
  refine pz 7 80 [4, 1, 3, 6] HT_ ?_
  refine pz 8 81 [4, 1, 4, 5] HT_ ?_
  refine tz 4 77 [9, 5] HT_ HW_ rfl (by rintro w' ⟨s0, s1, s2, s3, s4, s5, s6, s7⟩; go_simp; with_reducible rfl) hHeld ?_
  refine tz 9 82 [10, 4] HT_ HW_ rfl (by rintro w' ⟨s0, s1, s2, s3, s4, s5, s6, s7⟩; go_simp; with_reducible rfl) hHeld ?_
  refine pz 10 83 [11, 3] HT_ ?_
  refine oz 11 84 [12, 2] HT_ fun K hK => ?_
  refine value_ (w1 := ?_) (v := ?_) (by rfl) rfl ?_ ?_
  rotate_left 2
  ·
   go_simp
   constructor
   ·
    rfl
   rfl
  refine hK.out _ _ ⟨(blk_cell (blk_alloc B104.out _) 0).trans rfl, (blk_cell (blk_alloc B104.out _) 1).trans rfl, (blk_cell (blk_alloc B104.out _) 2).trans rfl, (blk_cell (blk_alloc B104.out _) 3).trans rfl, (blk_cell (blk_alloc B104.out _) 4).trans rfl, (blk_cell (blk_alloc B104.out _) 5).trans rfl, (blk_cell (blk_alloc B104.out _) 6).trans rfl, (blk_cell (blk_alloc B104.out _) 7).trans rfl⟩ (fun hHeld => ?_)
  clear hK K
  refine nm 84 ?_
  refine oz 12 85 [13, 1] HT_ fun K hK => ?_
  refine Kd.R_append_step k54 (w0 := w) w.heap.size (by rfl) (.tmp 73) (.tmp 84) 50 54 (.agg #[(.int .i64 0), (.int .i64 0), (.int .i64 0), (.int .i64 0), (.int .i64 0)]) 40 rfl Try.underlying50 info54 rfl (by decide) (by omega) u6 x6_2 (⟨(rd l1 x18_1), (⟨(wrap64 ((Int.tmod (rd l1 x18_1) a0) + 1)), (wrap64 (Int.tdiv (rd l1 x18_1) a0))⟩ : S48), (⟨(wrap64 ((Int.tmod (rd l1 x18_1) a0) + 1)), (wrap64 ((wrap64 (Int.tdiv (rd l1 x18_1) a0)) + 1))⟩ : S48)⟩ : S54) [.int .i64 (rd l1 x18_1), .int .i64 (wrap64 ((Int.tmod (rd l1 x18_1) a0) + 1)), .int .i64 (wrap64 (Int.tdiv (rd l1 x18_1) a0)), .int .i64 (wrap64 ((Int.tmod (rd l1 x18_1) a0) + 1)), .int .i64 (wrap64 ((wrap64 (Int.tdiv (rd l1 x18_1) a0)) + 1))] (fun _ => True) (fun _ => False) rfl rfl ?aP (fun _ hk => hk.elim) ?aF ?aO ?aB ?aS ?aL ?_
  (case aP => exact k54_mkM _ _ _ (⟨(rd l1 x18_1), (⟨(wrap64 ((Int.tmod (rd l1 x18_1) a0) + 1)), (wrap64 (Int.tdiv (rd l1 x18_1) a0))⟩ : S48), (⟨(wrap64 ((Int.tmod (rd l1 x18_1) a0) + 1)), (wrap64 ((wrap64 (Int.tdiv (rd l1 x18_1) a0)) + 1))⟩ : S48)⟩ : S54))
  (case aB => exact (pS HB.out))
  (case aF => exact (fun _ _ => trivial))
  (case aO => exact (pR HO_6.out))
  (case aS => exact (below_size (pS HB.out)))
  (case aL => have := LMc33.out; omega)
  intro v114 w35 ho hb hg hat
  rw [← Ny113.out] at ho
  replace B101 := aK (blk_grown (pB B101.out) hg (Kd.R_ne HO_6.out B101.out (by decide)))
  replace B102 := aK (blk_grown (pB B102.out) hg (Kd.R_ne HO_6.out B102.out (by decide)))
  replace B104 := aK (blk_grown (pB B104.out) hg (Kd.R_ne HO_6.out B104.out (by decide)))
  replace B109 := aK (blk_grown (pB B109.out) hg (Kd.R_ne HO_6.out B109.out (by decide)))
  replace HB := aK (hb); have HO115 := aK (ho); clear HO_6; clear ho hb hg hat
  refine hK.out _ _ ⟨(blk_cell B104.out 0).trans rfl, (blk_cell B104.out 1).trans rfl, (blk_cell B104.out 2).trans rfl, (blk_cell B104.out 3).trans rfl, (blk_cell B104.out 4).trans rfl, (blk_cell B104.out 5).trans rfl, (blk_cell B104.out 6).trans rfl, (blk_cell B104.out 7).trans rfl⟩ (fun hHeld => ?_)
  clear hK K
  refine nm 85 ?_
  refine pz 13 6 [14, 0] HT_ ?_
  refine done_ (done_of HT_.out (by kernel_rfl)) ?_
  try go_wp2
  go_roundg k2
  case measure => have := HK1.out; have := HK2.out; omega
  case rel => exact ⟨(y113), (2), (by first | rfl | (simp; done) | (simp [*]; done)), H', ⟨by have := HK1.out; have := HK2.out; omega⟩, ⟨pR HO115.out⟩, ⟨by refine bk ?_; exact B101.out⟩, ⟨by refine bk ?_; exact B102.out⟩, ⟨by refine bk ?_; exact B104.out⟩, ⟨by refine bk ?_; exact B109.out⟩, ⟨pT HB.out⟩⟩
 rw [if_neg c31] at H
 clear c31
 by_cases c36 : x67_2 = 2
 ·
  subst c36
  have H1 : (if t107 = true then (impl_sidesOf.l1 k2 x6_2 (rd l1 x18_1) l1 (l1.length : Int) x18_1 3 a0 l1 (Int.tmod (rd l1 x18_1) a0) (wrap64 (Int.tdiv (rd l1 x18_1) a0)) (wrap64 ((Int.tmod (rd l1 x18_1) a0) + 1)) (wrap64 (Int.tdiv (rd l1 x18_1) a0)) (wrap64 ((Int.tmod (rd l1 x18_1) a0) + 1)) (wrap64 ((wrap64 (Int.tdiv (rd l1 x18_1) a0)) + 1)) (Int.tmod (rd l1 x18_1) a0) (wrap64 ((wrap64 (Int.tdiv (rd l1 x18_1) a0)) + 1)) t105 t106 t107 t108) else (if x6_2.length < 3518437208883 then (impl_sidesOf.l1 k2 (x6_2 ++ [(⟨(rd l1 x18_1), (⟨(wrap64 ((Int.tmod (rd l1 x18_1) a0) + 1)), (wrap64 ((wrap64 (Int.tdiv (rd l1 x18_1) a0)) + 1))⟩ : S48), (⟨(Int.tmod (rd l1 x18_1) a0), (wrap64 ((wrap64 (Int.tdiv (rd l1 x18_1) a0)) + 1))⟩ : S48)⟩ : S54)]) (rd l1 x18_1) l1 (l1.length : Int) x18_1 3 a0 l1 (Int.tmod (rd l1 x18_1) a0) (wrap64 (Int.tdiv (rd l1 x18_1) a0)) (wrap64 ((Int.tmod (rd l1 x18_1) a0) + 1)) (wrap64 (Int.tdiv (rd l1 x18_1) a0)) (wrap64 ((Int.tmod (rd l1 x18_1) a0) + 1)) (wrap64 ((wrap64 (Int.tdiv (rd l1 x18_1) a0)) + 1)) (Int.tmod (rd l1 x18_1) a0) (wrap64 ((wrap64 (Int.tdiv (rd l1 x18_1) a0)) + 1)) t105 t106 t107 t108) else (none))) = some r := by rw [if_pos rfl] at H; exact H
  clear H; have H := H1; clear H1
  by_cases c37 : t107 = true
  ·
   subst c37
   have H1 : (impl_sidesOf.l1 k2 x6_2 (rd l1 x18_1) l1 (l1.length : Int) x18_1 3 a0 l1 (Int.tmod (rd l1 x18_1) a0) (wrap64 (Int.tdiv (rd l1 x18_1) a0)) (wrap64 ((Int.tmod (rd l1 x18_1) a0) + 1)) (wrap64 (Int.tdiv (rd l1 x18_1) a0)) (wrap64 ((Int.tmod (rd l1 x18_1) a0) + 1)) (wrap64 ((wrap64 (Int.tdiv (rd l1 x18_1) a0)) + 1)) (Int.tmod (rd l1 x18_1) a0) (wrap64 ((wrap64 (Int.tdiv (rd l1 x18_1) a0)) + 1)) t105 t106 true t108) = some r := by rw [if_pos rfl] at H; exact H
   clear H; have H := H1; clear H1; have H' := aK H; clear H
   go_wp2
   go_roundg k2
   case measure => have := HK1.out; have := HK2.out; omega
   case rel => exact ⟨(x6_2), (3), (by first | rfl | (simp; done) | (simp [*]; done)), H', ⟨by have := HK1.out; have := HK2.out; omega⟩, ⟨pR HO_6.out⟩, ⟨by refine bk ?_; exact B101.out⟩, ⟨by refine bk ?_; exact B102.out⟩, ⟨by refine bk ?_; exact B104.out⟩, ⟨by refine bk ?_; exact B109.out⟩, ⟨pT HB.out⟩⟩
  replace c37 := Bool.eq_false_iff.mpr c37; subst c37
  have H1 : (if x6_2.length < 3518437208883 then (impl_sidesOf.l1 k2 (x6_2 ++ [(⟨(rd l1 x18_1), (⟨(wrap64 ((Int.tmod (rd l1 x18_1) a0) + 1)), (wrap64 ((wrap64 (Int.tdiv (rd l1 x18_1) a0)) + 1))⟩ : S48), (⟨(Int.tmod (rd l1 x18_1) a0), (wrap64 ((wrap64 (Int.tdiv (rd l1 x18_1) a0)) + 1))⟩ : S48)⟩ : S54)]) (rd l1 x18_1) l1 (l1.length : Int) x18_1 3 a0 l1 (Int.tmod (rd l1 x18_1) a0) (wrap64 (Int.tdiv (rd l1 x18_1) a0)) (wrap64 ((Int.tmod (rd l1 x18_1) a0) + 1)) (wrap64 (Int.tdiv (rd l1 x18_1) a0)) (wrap64 ((Int.tmod (rd l1 x18_1) a0) + 1)) (wrap64 ((wrap64 (Int.tdiv (rd l1 x18_1) a0)) + 1)) (Int.tmod (rd l1 x18_1) a0) (wrap64 ((wrap64 (Int.tdiv (rd l1 x18_1) a0)) + 1)) t105 t106 false t108) else (none)) = some r := by rw [if_neg (show ¬ (false = true) by decide)] at H; exact H
  clear H; have H := H1; clear H1
  by_cases c38 : x6_2.length < 3518437208883
  rotate_left
  ·
   rw [if_neg c38] at H
   exact absurd H (by simp)
  rw [if_pos c38] at H; have LMc38 := aK c38; clear c38
  obtain ⟨y116, hy116⟩ : ∃ y_ : List (S54), y_ = (x6_2 ++ [(⟨(rd l1 x18_1), (⟨(wrap64 ((Int.tmod (rd l1 x18_1) a0) + 1)), (wrap64 ((wrap64 (Int.tdiv (rd l1 x18_1) a0)) + 1))⟩ : S48), (⟨(Int.tmod (rd l1 x18_1) a0), (wrap64 ((wrap64 (Int.tdiv (rd l1 x18_1) a0)) + 1))⟩ : S48)⟩ : S54)]) := ⟨_, rfl⟩
  replace H : (impl_sidesOf.l1 k2 y116 (rd l1 x18_1) l1 (l1.length : Int) x18_1 3 a0 l1 (Int.tmod (rd l1 x18_1) a0) (wrap64 (Int.tdiv (rd l1 x18_1) a0)) (wrap64 ((Int.tmod (rd l1 x18_1) a0) + 1)) (wrap64 (Int.tdiv (rd l1 x18_1) a0)) (wrap64 ((Int.tmod (rd l1 x18_1) a0) + 1)) (wrap64 ((wrap64 (Int.tdiv (rd l1 x18_1) a0)) + 1)) (Int.tmod (rd l1 x18_1) a0) (wrap64 ((wrap64 (Int.tdiv (rd l1 x18_1) a0)) + 1)) t105 t106 false t108) = some r := by first | (rw [hy116]; first | with_reducible exact H | with_reducible exact (oS H :)) | with_reducible exact (oS H :) | with_reducible exact H | exact H
  have Ny116 := aK hy116; clear hy116; have H' := aK H; clear H
  try go_wp2
  replace HO_6 := rdw HO_6; replace B101 := bD B101; replace B102 := bD B102; replace B104 := bD B104; replace B109 := bD B109; replace HB := aK (below_drew1 HB.out)
  refine start_ (n := 14) (S := fun w' => w'.cell? ⟨g104, 0, none⟩ = some (.int .i64 (Int.tmod (rd l1 x18_1) a0)) ∧ w'.cell? ⟨g104, 1, none⟩ = some (.int .i64 (wrap64 (Int.tdiv (rd l1 x18_1) a0))) ∧ w'.cell? ⟨g104, 2, none⟩ = some (.int .i64 (wrap64 ((Int.tmod (rd l1 x18_1) a0) + 1))) ∧ w'.cell? ⟨g104, 3, none⟩ = some (.int .i64 (wrap64 (Int.tdiv (rd l1 x18_1) a0))) ∧ w'.cell? ⟨g104, 4, none⟩ = some (.int .i64 (wrap64 ((Int.tmod (rd l1 x18_1) a0) + 1))) ∧ w'.cell? ⟨g104, 5, none⟩ = some (.int .i64 (wrap64 ((wrap64 (Int.tdiv (rd l1 x18_1) a0)) + 1))) ∧ w'.cell? ⟨g104, 6, none⟩ = some (.int .i64 (Int.tmod (rd l1 x18_1) a0)) ∧ w'.cell? ⟨g104, 7, none⟩ = some (.int .i64 (wrap64 ((wrap64 (Int.tdiv (rd l1 x18_1) a0)) + 1)))) (ds := []) (bz [0, 14]) (by kernel_rfl) rfl rfl ⟨(blk_cell B104.out 0).trans rfl, (blk_cell B104.out 1).trans rfl, (blk_cell B104.out 2).trans rfl, (blk_cell B104.out 3).trans rfl, (blk_cell B104.out 4).trans rfl, (blk_cell B104.out 5).trans rfl, (blk_cell B104.out 6).trans rfl, (blk_cell B104.out 7).trans rfl⟩ (fun hHeld => ?_); refine with_tabW impl_sidesOf.tab13 impl_sidesOf.bits13 (fun HT_ HW_ => ?_)
  generalize wr.drew = w39 at HO_6 B101 B102 B104 B109 HB hHeld ⊢
  refine pz 0 73 [1, 13] HT_ ?_
  refine pz 1 74 [2, 12] HT_ ?_
  refine pz 2 75 [3, 11] HT_ ?_
  refine pz 3 76 [4, 10] HT_ ?_
  refine pz 5 78 [4, 1, 1, 8] HT_ ?_
  refine pz 6 79 [4, 1, 2, 7] HT_ ?_
  refine pz 7 80 [4, 1, 3, 6] HT_ ?_
  refine pz 8 81 [4, 1, 4, 5] HT_ ?_
  refine tz 4 77 [9, 5] HT_ HW_ rfl (by rintro w' ⟨s0, s1, s2, s3, s4, s5, s6, s7⟩; go_simp; with_reducible rfl) hHeld ?_
  refine tz 9 82 [10, 4] HT_ HW_ rfl (by rintro w' ⟨s0, s1, s2, s3, s4, s5, s6, s7⟩; go_simp; with_reducible rfl) hHeld ?_
  refine pz 10 83 [11, 3] HT_ ?_
  refine oz 11 84 [12, 2] HT_ fun K hK => ?_
  refine value_ (w1 := ?_) (v := ?_) (by rfl) rfl ?_ ?_
  rotate_left 2
  ·
   go_simp
   constructor
   ·
    rfl
   rfl
  refine hK.out _ _ ⟨(blk_cell (blk_alloc B104.out _) 0).trans rfl, (blk_cell (blk_alloc B104.out _) 1).trans rfl, (blk_cell (blk_alloc B104.out _) 2).trans rfl, (blk_cell (blk_alloc B104.out _) 3).trans rfl, (blk_cell (blk_alloc B104.out _) 4).trans rfl, (blk_cell (blk_alloc B104.out _) 5).trans rfl, (blk_cell (blk_alloc B104.out _) 6).trans rfl, (blk_cell (blk_alloc B104.out _) 7).trans rfl⟩ (fun hHeld => ?_)
  clear hK K
  refine nm 84 ?_
  refine oz 12 85 [13, 1] HT_ fun K hK => ?_
  refine Kd.R_append_step k54 (w0 := w) w.heap.size (by rfl) (.tmp 73) (.tmp 84) 50 54 (.agg #[(.int .i64 0), (.int .i64 0), (.int .i64 0), (.int .i64 0), (.int .i64 0)]) 40 rfl Try.underlying50 info54 rfl (by decide) (by omega) u6 x6_2 (⟨(rd l1 x18_1), (⟨(wrap64 ((Int.tmod (rd l1 x18_1) a0) + 1)), (wrap64 ((wrap64 (Int.tdiv (rd l1 x18_1) a0)) + 1))⟩ : S48), (⟨(Int.tmod (rd l1 x18_1) a0), (wrap64 ((wrap64 (Int.tdiv (rd l1 x18_1) a0)) + 1))⟩ : S48)⟩ : S54) [.int .i64 (rd l1 x18_1), .int .i64 (wrap64 ((Int.tmod (rd l1 x18_1) a0) + 1)), .int .i64 (wrap64 ((wrap64 (Int.tdiv (rd l1 x18_1) a0)) + 1)), .int .i64 (Int.tmod (rd l1 x18_1) a0), .int .i64 (wrap64 ((wrap64 (Int.tdiv (rd l1 x18_1) a0)) + 1))] (fun _ => True) (fun _ => False) rfl rfl ?aP (fun _ hk => hk.elim) ?aF ?aO ?aB ?aS ?aL ?_
  (case aP => exact k54_mkM _ _ _ (⟨(rd l1 x18_1), (⟨(wrap64 ((Int.tmod (rd l1 x18_1) a0) + 1)), (wrap64 ((wrap64 (Int.tdiv (rd l1 x18_1) a0)) + 1))⟩ : S48), (⟨(Int.tmod (rd l1 x18_1) a0), (wrap64 ((wrap64 (Int.tdiv (rd l1 x18_1) a0)) + 1))⟩ : S48)⟩ : S54))
  (case aB => exact (pS HB.out))
  (case aF => exact (fun _ _ => trivial))
  (case aO => exact (pR HO_6.out))
  (case aS => exact (below_size (pS HB.out)))
  (case aL => have := LMc38.out; omega)
  intro v117 w40 ho hb hg hat
  rw [← Ny116.out] at ho
  replace B101 := aK (blk_grown (pB B101.out) hg (Kd.R_ne HO_6.out B101.out (by decide)))
  replace B102 := aK (blk_grown (pB B102.out) hg (Kd.R_ne HO_6.out B102.out (by decide)))
  replace B104 := aK (blk_grown (pB B104.out) hg (Kd.R_ne HO_6.out B104.out (by decide)))
  replace B109 := aK (blk_grown (pB B109.out) hg (Kd.R_ne HO_6.out B109.out (by decide)))
  replace HB := aK (hb); have HO118 := aK (ho); clear HO_6; clear ho hb hg hat
  refine hK.out _ _ ⟨(blk_cell B104.out 0).trans rfl, (blk_cell B104.out 1).trans rfl, (blk_cell B104.out 2).trans rfl, (blk_cell B104.out 3).trans rfl, (blk_cell B104.out 4).trans rfl, (blk_cell B104.out 5).trans rfl, (blk_cell B104.out 6).trans rfl, (blk_cell B104.out 7).trans rfl⟩ (fun hHeld => ?_)
  clear hK K
  refine nm 85 ?_
  refine pz 13 6 [14, 0] HT_ ?_
  refine done_ (done_of HT_.out (by kernel_rfl)) ?_
  try go_wp2
  go_roundg k2
  case measure => have := HK1.out; have := HK2.out; omega
  case rel => exact ⟨(y116), (3), (by first | rfl | (simp; done) | (simp [*]; done)), H', ⟨by have := HK1.out; have := HK2.out; omega⟩, ⟨pR HO118.out⟩, ⟨by refine bk ?_; exact B101.out⟩, ⟨by refine bk ?_; exact B102.out⟩, ⟨by refine bk ?_; exact B104.out⟩, ⟨by refine bk ?_; exact B109.out⟩, ⟨pT HB.out⟩⟩
 rw [if_neg c36] at H
 clear c36
 by_cases c41 : x67_2 = 3
 rotate_left
 ·
  rw [if_neg c41] at H; clear c41
  exact absurd H (by simp)
 subst c41
 have H1 : (if t108 = true then (impl_sidesOf.l1 k2 x6_2 (rd l1 x18_1) l1 (l1.length : Int) x18_1 4 a0 l1 (Int.tmod (rd l1 x18_1) a0) (wrap64 (Int.tdiv (rd l1 x18_1) a0)) (wrap64 ((Int.tmod (rd l1 x18_1) a0) + 1)) (wrap64 (Int.tdiv (rd l1 x18_1) a0)) (wrap64 ((Int.tmod (rd l1 x18_1) a0) + 1)) (wrap64 ((wrap64 (Int.tdiv (rd l1 x18_1) a0)) + 1)) (Int.tmod (rd l1 x18_1) a0) (wrap64 ((wrap64 (Int.tdiv (rd l1 x18_1) a0)) + 1)) t105 t106 t107 t108) else (if x6_2.length < 3518437208883 then (impl_sidesOf.l1 k2 (x6_2 ++ [(⟨(rd l1 x18_1), (⟨(Int.tmod (rd l1 x18_1) a0), (wrap64 ((wrap64 (Int.tdiv (rd l1 x18_1) a0)) + 1))⟩ : S48), (⟨(Int.tmod (rd l1 x18_1) a0), (wrap64 (Int.tdiv (rd l1 x18_1) a0))⟩ : S48)⟩ : S54)]) (rd l1 x18_1) l1 (l1.length : Int) x18_1 4 a0 l1 (Int.tmod (rd l1 x18_1) a0) (wrap64 (Int.tdiv (rd l1 x18_1) a0)) (wrap64 ((Int.tmod (rd l1 x18_1) a0) + 1)) (wrap64 (Int.tdiv (rd l1 x18_1) a0)) (wrap64 ((Int.tmod (rd l1 x18_1) a0) + 1)) (wrap64 ((wrap64 (Int.tdiv (rd l1 x18_1) a0)) + 1)) (Int.tmod (rd l1 x18_1) a0) (wrap64 ((wrap64 (Int.tdiv (rd l1 x18_1) a0)) + 1)) t105 t106 t107 t108) else (none))) = some r := by rw [if_pos rfl] at H; exact H
 clear H
 have H := H1
 clear H1
 by_cases c42 : t108 = true
 ·
  subst c42
  have H1 : (impl_sidesOf.l1 k2 x6_2 (rd l1 x18_1) l1 (l1.length : Int) x18_1 4 a0 l1 (Int.tmod (rd l1 x18_1) a0) (wrap64 (Int.tdiv (rd l1 x18_1) a0)) (wrap64 ((Int.tmod (rd l1 x18_1) a0) + 1)) (wrap64 (Int.tdiv (rd l1 x18_1) a0)) (wrap64 ((Int.tmod (rd l1 x18_1) a0) + 1)) (wrap64 ((wrap64 (Int.tdiv (rd l1 x18_1) a0)) + 1)) (Int.tmod (rd l1 x18_1) a0) (wrap64 ((wrap64 (Int.tdiv (rd l1 x18_1) a0)) + 1)) t105 t106 t107 true) = some r := by rw [if_pos rfl] at H; exact H
  clear H; have H := H1; clear H1; have H' := aK H; clear H
  go_wp2
  go_roundg k2
  case measure => have := HK1.out; have := HK2.out; omega
  case rel => exact ⟨(x6_2), (4), (by first | rfl | (simp; done) | (simp [*]; done)), H', ⟨by have := HK1.out; have := HK2.out; omega⟩, ⟨pR HO_6.out⟩, ⟨by refine bk ?_; exact B101.out⟩, ⟨by refine bk ?_; exact B102.out⟩, ⟨by refine bk ?_; exact B104.out⟩, ⟨by refine bk ?_; exact B109.out⟩, ⟨pT HB.out⟩⟩
 replace c42 := Bool.eq_false_iff.mpr c42
 subst c42
 have H1 : (if x6_2.length < 3518437208883 then (impl_sidesOf.l1 k2 (x6_2 ++ [(⟨(rd l1 x18_1), (⟨(Int.tmod (rd l1 x18_1) a0), (wrap64 ((wrap64 (Int.tdiv (rd l1 x18_1) a0)) + 1))⟩ : S48), (⟨(Int.tmod (rd l1 x18_1) a0), (wrap64 (Int.tdiv (rd l1 x18_1) a0))⟩ : S48)⟩ : S54)]) (rd l1 x18_1) l1 (l1.length : Int) x18_1 4 a0 l1 (Int.tmod (rd l1 x18_1) a0) (wrap64 (Int.tdiv (rd l1 x18_1) a0)) (wrap64 ((Int.tmod (rd l1 x18_1) a0) + 1)) (wrap64 (Int.tdiv (rd l1 x18_1) a0)) (wrap64 ((Int.tmod (rd l1 x18_1) a0) + 1)) (wrap64 ((wrap64 (Int.tdiv (rd l1 x18_1) a0)) + 1)) (Int.tmod (rd l1 x18_1) a0) (wrap64 ((wrap64 (Int.tdiv (rd l1 x18_1) a0)) + 1)) t105 t106 t107 false) else (none)) = some r := by rw [if_neg (show ¬ (false = true) by decide)] at H; exact H
 clear H
 have H := H1
 clear H1
 by_cases c43 : x6_2.length < 3518437208883
 rotate_left
 ·
  rw [if_neg c43] at H
  exact absurd H (by simp)
 rw [if_pos c43] at H
 have LMc43 := aK c43
 clear c43
 obtain ⟨y119, hy119⟩ : ∃ y_ : List (S54), y_ = (x6_2 ++ [(⟨(rd l1 x18_1), (⟨(Int.tmod (rd l1 x18_1) a0), (wrap64 ((wrap64 (Int.tdiv (rd l1 x18_1) a0)) + 1))⟩ : S48), (⟨(Int.tmod (rd l1 x18_1) a0), (wrap64 (Int.tdiv (rd l1 x18_1) a0))⟩ : S48)⟩ : S54)]) := ⟨_, rfl⟩
 replace H : (impl_sidesOf.l1 k2 y119 (rd l1 x18_1) l1 (l1.length : Int) x18_1 4 a0 l1 (Int.tmod (rd l1 x18_1) a0) (wrap64 (Int.tdiv (rd l1 x18_1) a0)) (wrap64 ((Int.tmod (rd l1 x18_1) a0) + 1)) (wrap64 (Int.tdiv (rd l1 x18_1) a0)) (wrap64 ((Int.tmod (rd l1 x18_1) a0) + 1)) (wrap64 ((wrap64 (Int.tdiv (rd l1 x18_1) a0)) + 1)) (Int.tmod (rd l1 x18_1) a0) (wrap64 ((wrap64 (Int.tdiv (rd l1 x18_1) a0)) + 1)) t105 t106 t107 false) = some r := by first | (rw [hy119]; first | with_reducible exact H | with_reducible exact (oS H :)) | with_reducible exact (oS H :) | with_reducible exact H | exact H
 have Ny119 := aK hy119
 clear hy119
 have H' := aK H
 clear H
 try go_wp2
 replace HO_6 := rdw HO_6
 replace B101 := bD B101
 replace B102 := bD B102
 replace B104 := bD B104
 replace B109 := bD B109
 replace HB := aK (below_drew1 HB.out)
 refine start_ (n := 14) (S := fun w' => w'.cell? ⟨g104, 0, none⟩ = some (.int .i64 (Int.tmod (rd l1 x18_1) a0)) ∧ w'.cell? ⟨g104, 1, none⟩ = some (.int .i64 (wrap64 (Int.tdiv (rd l1 x18_1) a0))) ∧ w'.cell? ⟨g104, 2, none⟩ = some (.int .i64 (wrap64 ((Int.tmod (rd l1 x18_1) a0) + 1))) ∧ w'.cell? ⟨g104, 3, none⟩ = some (.int .i64 (wrap64 (Int.tdiv (rd l1 x18_1) a0))) ∧ w'.cell? ⟨g104, 4, none⟩ = some (.int .i64 (wrap64 ((Int.tmod (rd l1 x18_1) a0) + 1))) ∧ w'.cell? ⟨g104, 5, none⟩ = some (.int .i64 (wrap64 ((wrap64 (Int.tdiv (rd l1 x18_1) a0)) + 1))) ∧ w'.cell? ⟨g104, 6, none⟩ = some (.int .i64 (Int.tmod (rd l1 x18_1) a0)) ∧ w'.cell? ⟨g104, 7, none⟩ = some (.int .i64 (wrap64 ((wrap64 (Int.tdiv (rd l1 x18_1) a0)) + 1)))) (ds := []) (bz [0, 14]) (by kernel_rfl) rfl rfl ⟨(blk_cell B104.out 0).trans rfl, (blk_cell B104.out 1).trans rfl, (blk_cell B104.out 2).trans rfl, (blk_cell B104.out 3).trans rfl, (blk_cell B104.out 4).trans rfl, (blk_cell B104.out 5).trans rfl, (blk_cell B104.out 6).trans rfl, (blk_cell B104.out 7).trans rfl⟩ (fun hHeld => ?_); refine with_tabW impl_sidesOf.tab13 impl_sidesOf.bits13 (fun HT_ HW_ => ?_)
 generalize wr.drew = w44 at HO_6 B101 B102 B104 B109 HB hHeld ⊢
 refine pz 0 73 [1, 13] HT_ ?_
 refine pz 1 74 [2, 12] HT_ ?_
 refine pz 2 75 [3, 11] HT_ ?_
 refine pz 3 76 [4, 10] HT_ ?_
 refine pz 5 78 [4, 1, 1, 8] HT_ ?_
 refine pz 6 79 [4, 1, 2, 7] HT_ ?_
 refine pz 7 80 [4, 1, 3, 6] HT_ ?_
 refine pz 8 81 [4, 1, 4, 5] HT_ ?_
 refine tz 4 77 [9, 5] HT_ HW_ rfl (by rintro w' ⟨s0, s1, s2, s3, s4, s5, s6, s7⟩; go_simp; with_reducible rfl) hHeld ?_
 refine tz 9 82 [10, 4] HT_ HW_ rfl (by rintro w' ⟨s0, s1, s2, s3, s4, s5, s6, s7⟩; go_simp; with_reducible rfl) hHeld ?_
 refine pz 10 83 [11, 3] HT_ ?_
 refine oz 11 84 [12, 2] HT_ fun K hK => ?_
 refine value_ (w1 := ?_) (v := ?_) (by rfl) rfl ?_ ?_
 rotate_left 2
 ·
  go_simp
  constructor
  ·
   rfl
  rfl
 refine hK.out _ _ ⟨(blk_cell (blk_alloc B104.out _) 0).trans rfl, (blk_cell (blk_alloc B104.out _) 1).trans rfl, (blk_cell (blk_alloc B104.out _) 2).trans rfl, (blk_cell (blk_alloc B104.out _) 3).trans rfl, (blk_cell (blk_alloc B104.out _) 4).trans rfl, (blk_cell (blk_alloc B104.out _) 5).trans rfl, (blk_cell (blk_alloc B104.out _) 6).trans rfl, (blk_cell (blk_alloc B104.out _) 7).trans rfl⟩ (fun hHeld => ?_)
 clear hK K
 refine nm 84 ?_
 refine oz 12 85 [13, 1] HT_ fun K hK => ?_
 refine Kd.R_append_step k54 (w0 := w) w.heap.size (by rfl) (.tmp 73) (.tmp 84) 50 54 (.agg #[(.int .i64 0), (.int .i64 0), (.int .i64 0), (.int .i64 0), (.int .i64 0)]) 40 rfl Try.underlying50 info54 rfl (by decide) (by omega) u6 x6_2 (⟨(rd l1 x18_1), (⟨(Int.tmod (rd l1 x18_1) a0), (wrap64 ((wrap64 (Int.tdiv (rd l1 x18_1) a0)) + 1))⟩ : S48), (⟨(Int.tmod (rd l1 x18_1) a0), (wrap64 (Int.tdiv (rd l1 x18_1) a0))⟩ : S48)⟩ : S54) [.int .i64 (rd l1 x18_1), .int .i64 (Int.tmod (rd l1 x18_1) a0), .int .i64 (wrap64 ((wrap64 (Int.tdiv (rd l1 x18_1) a0)) + 1)), .int .i64 (Int.tmod (rd l1 x18_1) a0), .int .i64 (wrap64 (Int.tdiv (rd l1 x18_1) a0))] (fun _ => True) (fun _ => False) rfl rfl ?aP (fun _ hk => hk.elim) ?aF ?aO ?aB ?aS ?aL ?_
 (case aP => exact k54_mkM _ _ _ (⟨(rd l1 x18_1), (⟨(Int.tmod (rd l1 x18_1) a0), (wrap64 ((wrap64 (Int.tdiv (rd l1 x18_1) a0)) + 1))⟩ : S48), (⟨(Int.tmod (rd l1 x18_1) a0), (wrap64 (Int.tdiv (rd l1 x18_1) a0))⟩ : S48)⟩ : S54))
 (case aB => exact (pS HB.out))
 (case aF => exact (fun _ _ => trivial))
 (case aO => exact (pR HO_6.out))
 (case aS => exact (below_size (pS HB.out)))
 (case aL => have := LMc43.out; omega)
 intro v120 w45 ho hb hg hat
 rw [← Ny119.out] at ho
 replace B101 := aK (blk_grown (pB B101.out) hg (Kd.R_ne HO_6.out B101.out (by decide)))
 replace B102 := aK (blk_grown (pB B102.out) hg (Kd.R_ne HO_6.out B102.out (by decide)))
 replace B104 := aK (blk_grown (pB B104.out) hg (Kd.R_ne HO_6.out B104.out (by decide)))
 replace B109 := aK (blk_grown (pB B109.out) hg (Kd.R_ne HO_6.out B109.out (by decide)))
 replace HB := aK (hb)
 have HO121 := aK (ho)
 clear HO_6
 clear ho hb hg hat
 refine hK.out _ _ ⟨(blk_cell B104.out 0).trans rfl, (blk_cell B104.out 1).trans rfl, (blk_cell B104.out 2).trans rfl, (blk_cell B104.out 3).trans rfl, (blk_cell B104.out 4).trans rfl, (blk_cell B104.out 5).trans rfl, (blk_cell B104.out 6).trans rfl, (blk_cell B104.out 7).trans rfl⟩ (fun hHeld => ?_)
 clear hK K
 refine nm 85 ?_
 refine pz 13 6 [14, 0] HT_ ?_
 refine done_ (done_of HT_.out (by kernel_rfl)) ?_
 try go_wp2
 go_roundg k2
 case measure => have := HK1.out; have := HK2.out; omega
 case rel => exact ⟨(y119), (4), (by first | rfl | (simp; done) | (simp [*]; done)), H', ⟨by have := HK1.out; have := HK2.out; omega⟩, ⟨pR HO121.out⟩, ⟨by refine bk ?_; exact B101.out⟩, ⟨by refine bk ?_; exact B102.out⟩, ⟨by refine bk ?_; exact B104.out⟩, ⟨by refine bk ?_; exact B109.out⟩, ⟨pT HB.out⟩⟩
end Go.Proofs.Ytnbpcacnbfbjkaa.P
