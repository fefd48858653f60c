/- Texts of the claim FnExactHoleCount, merged: part 9 of 10: the program's and the reference's functions as Lean functions, the walks that show it, and plain lemmas; no conditions. -/
import Derived.Test.YtnbpcacnbfbjkaaKFnExactHoleCount3
import Derived.Test.YtnbpcacnbfbjkaaKFnExactHoleCount7
import Derived.Test.YtnbpcacnbfbjkaaKFnExactHoleCount8
import Derived.Test.YtnbpcacnbfbjkaaKFnExactHoleCount2
import Derived.ProofKit
import Derived.OpenShut
import Derived.Deep.Slices
import Derived.Deep.Strs
import Derived.Deep.Fields
import Derived.Lib.SmallJoins
import Derived.Test.YtnbpcacnbfbjkaaKFnExactHoleCount4
import Derived.Test.YtnbpcacnbfbjkaaKFnExactHoleCount5
namespace Go.Proofs.Ytnbpcacnbfbjkaa.P
open Go.RowKit Go.Proofs.YtnbpcacnbfbjkaaW.PrintWords Go.Proofs.YtnbpcacnbfbjkaaW.PrintLast Go.Proofs.YtnbpcacnbfbjkaaW.PrintMore
attribute [local go_sem] max2_int min2_int max_two min_two max_three min_three max_four min_four
set_option linter.unusedVariables false
set_option linter.unusedSimpArgs false
set_option maxHeartbeats 8000000
set_option maxRecDepth 100000
def impl_HoleCount.l0 : Nat → Int → List (List (S48)) → Int → Int → Option (Int × Bool)
 | 0, _, _, _, _ => none
 | k + 1, x8, x18, x19, x20 => if x20 < x19 then (if 0 ≤ x20 then (if x20 < (x18.length : Int) then ((impl_loopArea.f k (rd_L3 x18 x20)).bind fun t106 => (if t106 < 0 then (impl_HoleCount.l0 k (wrap64 (x8 + 1)) x18 x19 (wrap64 (x20 + 1))) else (impl_HoleCount.l0 k x8 x18 x19 (wrap64 (x20 + 1))))) else (none)) else (none)) else (some (x8, true))
def impl_HoleCount.f (k : Nat) (a0 : Int) (a1 : Int) (l2 : List Int) : Option (Int × Bool) := (impl_isRegion.f k a0 a1 l2).bind fun t101 => (if t101 = true then ((impl_outlines.f k a0 l2).bind fun t102 => (impl_HoleCount.l0 k 0 t102 (t102.length : Int) 0)) else (some (0, false)))
theorem impl_HoleCount.calls (k : Nat) (a0 : Int) (a1 : Int) (A2 : Option Addr) (c2 : Nat) (l2 : List Int) (r1 : Int) (r2 : Bool) (w : World) (hr2 : Kd.C (Kd.int .i64) w A2 l2.length l2) (hc2 : l2.length ≤ c2) (h : impl_HoleCount.f k a0 a1 l2 = some (r1, r2)) :
  Calls Try.prog 7 #[.int .i64 a0, .int .i64 a1, .slice A2 l2.length c2] w fun e w' => e = .returned (.tuple #[.int .i64 r1, .bool r2]) ∧ Below w.heap.size w w' := by
 have HR2 := aK hr2
 have HC2 := aK hc2
 clear hr2 hc2
 have HB := aK (Below.refl w.heap.size w)
 have H : ((impl_isRegion.f k a0 a1 l2).bind fun t101 => (if t101 = true then ((impl_outlines.f k a0 l2).bind fun t102 => (impl_HoleCount.l0 k 0 t102 (t102.length : Int) 0)) else (some (0, false)))) = some (r1, r2) := h
 clear h
 replace H := oA H
 obtain ⟨t101, A4, H⟩ := H
 replace H : (if t101 = true then ((impl_outlines.f k a0 l2).bind fun t102 => (impl_HoleCount.l0 k 0 t102 (t102.length : Int) 0)) else (some (0, false))) = some (r1, r2) := H
 by_cases c5 : t101 = true
 rotate_left
 ·
  replace c5 := Bool.eq_false_iff.mpr c5; subst c5
  have H1 : (some (0, false)) = some (r1, r2) := by rw [if_neg (show ¬ (false = true) by decide)] at H; exact H
  clear H; have H := H1; clear H1
  simp only [Option.some.injEq, Prod.mk.injEq] at H
  obtain ⟨rfl, rfl⟩ := H
  go_enter Try.func7, Try.ntmps7
  go_wp2_with (first | ((with_reducible refine gc 18 rfl ?_); refine gl (some 14) Try.func18 #[.int .i64 a0, .int .i64 a1, .slice A2 l2.length c2] ?_; (with_reducible refine (impl_isRegion.calls k a0 a1 _ _ l2 false _ ?side1 ?side2 A4.out).mono ?_); (case side1 => exact pC HR2.out); (case side2 => exact HC2.out); rintro e w' ⟨rfl, ⟨nd, rfl⟩⟩; refine ⟨_, rfl, ?_⟩))
  go_ret2
  exact ⟨er, pT HB.out⟩
 subst c5
 have H1 : ((impl_outlines.f k a0 l2).bind fun t102 => (impl_HoleCount.l0 k 0 t102 (t102.length : Int) 0)) = some (r1, r2) := by rw [if_pos rfl] at H; exact H
 clear H
 have H := H1
 clear H1
 replace H := oA H
 obtain ⟨t102, A6, H⟩ := H
 replace H : (impl_HoleCount.l0 k 0 t102 (t102.length : Int) 0) = some (r1, r2) := H
 have H' := aK H
 clear H
 go_enter Try.func7, Try.ntmps7
 go_wp2_with (first | ((with_reducible refine gc 18 rfl ?_); refine gl (some 14) Try.func18 #[.int .i64 a0, .int .i64 a1, .slice A2 l2.length c2] ?_; (with_reducible refine (impl_isRegion.calls k a0 a1 _ _ l2 true _ ?side1 ?side2 A4.out).mono ?_); (case side1 => exact pC HR2.out); (case side2 => exact HC2.out); rintro e w' ⟨rfl, ⟨nd, rfl⟩⟩; refine ⟨_, rfl, ?_⟩) | ((with_reducible refine gc 19 rfl ?_); refine gl (some 18) Try.func19 #[.int .i64 a0, .slice A2 l2.length c2] ?_; (with_reducible refine (impl_outlines.calls k a0 _ _ l2 t102 _ ?side1 ?side2 A6.out).mono ?_); (case side1 => exact pC HR2.out); (case side2 => exact HC2.out); rintro e w7 ⟨v103, rfl, ho0, hb⟩; refine ⟨_, rfl, ?_⟩; have HO104 := aK (Kd.S_lower ho0 (below_size (pS HB.out))); replace HB := bS HB hb; (try clear hb); (try clear ho0); obtain ⟨Ao8, co8, eo8⟩ := Kd.S_slice HO104.out; subst eo8))
 go_loopg [8, 20] k (fun kq v8 v20 w' => ∃ (x8_1 : Int) (x20_1 : Int), v8 = .int .i64 x8_1 ∧ v20 = .int .i64 x20_1 ∧ Aside0 (impl_HoleCount.l0 kq x8_1 t102 (t102.length : Int) x20_1 = some (r1, r2)) ∧ Aside0 (kq ≤ k) ∧ Aside0 (Kd.S (Kd.slice 48 k48) 36 w' w.heap.size (fun _ => True) (.slice Ao8 t102.length co8) t102) ∧ Aside0 (Below w.heap.size w w'))
 case atStart => exact ⟨(0), (0), (by first | rfl | (simp; done) | (simp [*]; done)), (by first | rfl | (simp; done) | (simp [*]; done)), H', ⟨Nat.le_refl _⟩, ⟨by (with_reducible repeat (first | apply Kd.S_alloc | apply Kd.S_drewN | apply Kd.S_drew)); exact HO104.out⟩, ⟨pT HB.out⟩⟩
 case round =>
 clear H'
 try clear c1
 try clear c2
 try clear p2
 try clear c5
 try clear c7
 obtain ⟨x8_1, x20_1, rfl, rfl, HA, HK1, HO_18, HB⟩ := hrel
 cases gk with
 | zero => exact absurd HA.out (by simp [impl_HoleCount.l0])
 | succ k1 =>
 have H := HA.out
 clear HA
 simp only [impl_HoleCount.l0] at H
 by_cases c9 : x20_1 < (t102.length : Int)
 rotate_left
 ·
  rw [if_neg c9] at H
  have c9b0 : decide (x20_1 < (t102.length : Int)) = false := decide_eq_false c9
  clear c9
  simp only [Option.some.injEq, Prod.mk.injEq] at H
  obtain ⟨rfl, rfl⟩ := H
  go_wp2
  go_ret2
  exact ⟨er, pT HB.out⟩
 rw [if_pos c9] at H
 have c9b0 : decide (x20_1 < (t102.length : Int)) = true := decide_eq_true c9
 clear c9
 by_cases c10 : 0 ≤ x20_1
 rotate_left
 ·
  rw [if_neg c10] at H
  exact absurd H (by simp)
 rw [if_pos c10] at H
 have c10b0 : decide (0 ≤ x20_1) = true := decide_eq_true c10
 clear c10
 by_cases c11 : x20_1 < (t102.length : Int)
 rotate_left
 ·
  rw [if_neg c11] at H
  exact absurd H (by simp)
 rw [if_pos c11] at H
 have c11b0 : decide (x20_1 < (t102.length : Int)) = true := decide_eq_true c11
 clear c11
 replace H := oA H
 obtain ⟨t106, A12, H⟩ := H
 replace H : (if t106 < 0 then (impl_HoleCount.l0 k1 (wrap64 (x8_1 + 1)) t102 (t102.length : Int) (wrap64 (x20_1 + 1))) else (impl_HoleCount.l0 k1 x8_1 t102 (t102.length : Int) (wrap64 (x20_1 + 1)))) = some (r1, r2) := H
 by_cases c13 : t106 < 0
 ·
  rw [if_pos c13] at H
  have c13b0 : decide (t106 < 0) = true := decide_eq_true c13
  clear c13; have H' := aK H; clear H
  have p105 : 0 ≤ (x20_1 : Int) := dA
  have q105 : x20_1 < (t102.length : Int) := dA
  obtain ⟨ad105, A105_0, c105_0, e105, hx105_0, hl105_0, hi105_0⟩ := at_L3 (Kd.S_reads' HO_18.out).2.2 x20_1 p105 q105; cases e105
  obtain ⟨ce105, hce105, hMe105, hcc105⟩ := Kd.S_get HO_18.out [] x20_1 p105 (by first | exact q105 | exact dA | (have e_ := (Kd.S_reads' HO_18.out).1; omega))
  obtain ⟨ve105_0, rfl, ge105_0⟩ := hMe105; have hv105_0 := hcc105 0 _ rfl
  rw [Nat.add_zero, show ((Kd.slice 48 k48)).sz = 1 from rfl, Nat.mul_one] at hv105_0
  replace hv105_0 := Option.some.inj (hv105_0.symm.trans hx105_0); rw [hv105_0] at ge105_0
  have HL105_0 := aK (show Kd.R k48 48 _ _ _ _ (rd_L3 t102 x20_1) from ge105_0)
  clear hv105_0 ge105_0 hcc105 hce105; have HR105_0 := aK hi105_0; have HC105_0 := aK hl105_0; clear hi105_0 hl105_0; replace p105 := eq_true p105; replace q105 := eq_true q105
  go_wp2_with (first | ((with_reducible refine gc 20 rfl ?_); refine gl (some 25) Try.func20 #[.slice A105_0 (rd_L3 t102 x20_1).length c105_0] ?_; (with_reducible refine (impl_loopArea.calls k1 _ _ (rd_L3 t102 x20_1) t106 _ ?side1 ?side2 A12.out).mono ?_); (case side1 => repeat (first | exact (pC HR105_0.out) | (with_reducible refine Kd.C_alloc ?_ _) | (with_reducible refine Kd.C_drewN ?_ _) | (with_reducible refine Kd.C_drew ?_))); (case side2 => exact HC105_0.out); rintro e w14 ⟨rfl, hb⟩; refine ⟨_, rfl, ?_⟩; replace HO_18 := sb HO_18 hb; replace HL105_0 := rb HL105_0 hb; replace HR105_0 := aK (Kd.C_below (pC HR105_0.out) hb); replace HB := bS HB hb; (try clear hb)))
  go_roundg k1
  case measure => have := HK1.out; omega
  case rel => exact ⟨(wrap64 (x8_1 + 1)), (wrap64 (x20_1 + 1)), (by first | rfl | (simp; done) | (simp [*]; done)), (by first | rfl | (simp; done) | (simp [*]; done)), H', ⟨by have := HK1.out; omega⟩, ⟨by (with_reducible repeat (first | apply Kd.S_alloc | apply Kd.S_drewN | apply Kd.S_drew)); exact HO_18.out⟩, ⟨pT HB.out⟩⟩
 rw [if_neg c13] at H
 have c13b0 : decide (t106 < 0) = false := decide_eq_false c13
 clear c13
 have H' := aK H
 clear H
 have p105 : 0 ≤ (x20_1 : Int) := dA
 have q105 : x20_1 < (t102.length : Int) := dA
 obtain ⟨ad105, A105_0, c105_0, e105, hx105_0, hl105_0, hi105_0⟩ := at_L3 (Kd.S_reads' HO_18.out).2.2 x20_1 p105 q105
 cases e105
 obtain ⟨ce105, hce105, hMe105, hcc105⟩ := Kd.S_get HO_18.out [] x20_1 p105 (by first | exact q105 | exact dA | (have e_ := (Kd.S_reads' HO_18.out).1; omega))
 obtain ⟨ve105_0, rfl, ge105_0⟩ := hMe105
 have hv105_0 := hcc105 0 _ rfl
 rw [Nat.add_zero, show ((Kd.slice 48 k48)).sz = 1 from rfl, Nat.mul_one] at hv105_0
 replace hv105_0 := Option.some.inj (hv105_0.symm.trans hx105_0)
 rw [hv105_0] at ge105_0
 have HL105_0 := aK (show Kd.R k48 48 _ _ _ _ (rd_L3 t102 x20_1) from ge105_0)
 clear hv105_0 ge105_0 hcc105 hce105
 have HR105_0 := aK hi105_0
 have HC105_0 := aK hl105_0
 clear hi105_0 hl105_0
 replace p105 := eq_true p105
 replace q105 := eq_true q105
 go_wp2_with (first | ((with_reducible refine gc 20 rfl ?_); refine gl (some 25) Try.func20 #[.slice A105_0 (rd_L3 t102 x20_1).length c105_0] ?_; (with_reducible refine (impl_loopArea.calls k1 _ _ (rd_L3 t102 x20_1) t106 _ ?side1 ?side2 A12.out).mono ?_); (case side1 => repeat (first | exact (pC HR105_0.out) | (with_reducible refine Kd.C_alloc ?_ _) | (with_reducible refine Kd.C_drewN ?_ _) | (with_reducible refine Kd.C_drew ?_))); (case side2 => exact HC105_0.out); rintro e w15 ⟨rfl, hb⟩; refine ⟨_, rfl, ?_⟩; replace HO_18 := sb HO_18 hb; replace HL105_0 := rb HL105_0 hb; replace HR105_0 := aK (Kd.C_below (pC HR105_0.out) hb); replace HB := bS HB hb; (try clear hb)))
 go_roundg k1
 case measure => have := HK1.out; omega
 case rel => exact ⟨(x8_1), (wrap64 (x20_1 + 1)), (by first | rfl | (simp; done) | (simp [*]; done)), (by first | rfl | (simp; done) | (simp [*]; done)), H', ⟨by have := HK1.out; omega⟩, ⟨by (with_reducible repeat (first | apply Kd.S_alloc | apply Kd.S_drewN | apply Kd.S_drew)); exact HO_18.out⟩, ⟨pT HB.out⟩⟩
def laws_eqIntS.l0 : Nat → List Int → List Int → Int → Option (Bool)
 | 0, _, _, _ => none
 | k + 1, x0, x1, x5 => if x5 < (x0.length : Int) then (if 0 ≤ x5 then (if x5 < (x1.length : Int) then (if (rd x0 x5) = (rd x1 x5) then (laws_eqIntS.l0 k x0 x1 (wrap64 (x5 + 1))) else (some false)) else (none)) else (none)) else (some true)
def laws_eqIntS.f (k : Nat) (l0 : List Int) (l1 : List Int) : Option (Bool) := if (l0.length : Int) = (l1.length : Int) then (laws_eqIntS.l0 k l0 l1 0) else (some false)
theorem laws_eqIntS.calls (k : Nat) (A0 : Option Addr) (c0 : Nat) (l0 : List Int) (A1 : Option Addr) (c1 : Nat) (l1 : List Int) (r : Bool) (w : World) (hr0 : Kd.C (Kd.int .i64) w A0 l0.length l0) (hc0 : l0.length ≤ c0) (hr1 : Kd.C (Kd.int .i64) w A1 l1.length l1) (hc1 : l1.length ≤ c1) (h : laws_eqIntS.f k l0 l1 = some r) :
  Calls Try.prog 8 #[.slice A0 l0.length c0, .slice A1 l1.length c1] w fun e w' => e = .returned (.bool r) ∧ Drawn0 w w' := by
 have HR0 := aK hr0
 have HC0 := aK hc0
 clear hr0 hc0
 have HR1 := aK hr1
 have HC1 := aK hc1
 clear hr1 hc1
 have H : (if (l0.length : Int) = (l1.length : Int) then (laws_eqIntS.l0 k l0 l1 0) else (some false)) = some r := h
 clear h
 by_cases c3 : (l0.length : Int) = (l1.length : Int)
 rotate_left
 ·
  rw [if_neg c3] at H
  have c3b0 : ((l0.length : Int) == (l1.length : Int)) = false := beq_eq_false_iff_ne.mpr c3
  have c3b1 : ((l0.length : Int) != (l1.length : Int)) = true := bne_iff_ne.mpr c3
  have c3b2 : (l0.length == l1.length) = false := by first | simpa using c3 | (simp at c3 ⊢; omega)
  obtain rfl := Option.some.inj H
  go_enter Try.func8, Try.ntmps8
  go_wp2
  repeat (go_quiet (fail); try go_wp2)
  go_ret
  exact ⟨by first | rfl | (simp; done) | (simp [*]; done), by repeat (first | exact Drawn0.refl _ | apply Drawn0.step)⟩
 rw [if_pos c3] at H
 have c3b0 : ((l0.length : Int) == (l1.length : Int)) = true := beq_iff_eq.mpr c3
 have c3b1 : ((l0.length : Int) != (l1.length : Int)) = false := bne_eq_false_iff_eq.mpr c3
 have c3b2 : (l0.length == l1.length) = true := by first | simpa using c3 | (simp at c3 ⊢; omega)
 clear c3
 have H' := aK H
 clear H
 go_enter Try.func8, Try.ntmps8
 go_wp2
 repeat (go_quiet (fail); try go_wp2)
 go_loopg [5] k (fun kq v5 w' => ∃ (x5_1 : Int), v5 = .int .i64 x5_1 ∧ Aside0 (laws_eqIntS.l0 kq l0 l1 x5_1 = some r) ∧ Aside0 (kq ≤ k) ∧ Drawn0 w w')
 case atStart => exact ⟨(0), (by first | rfl | (simp; done) | (simp [*]; done)), H', ⟨Nat.le_refl _⟩, by repeat (first | exact Drawn0.refl _ | apply Drawn0.step)⟩
 case round =>
 clear H'
 try clear c1
 try clear p2
 try clear c3
 try clear c3b0
 try clear c3b1
 try clear c3b2
 obtain ⟨x5_1, rfl, HA, HK1, ⟨m1, rfl⟩⟩ := hrel
 cases gk with
 | zero => exact absurd HA.out (by simp [laws_eqIntS.l0])
 | succ k1 =>
 have H := HA.out
 clear HA
 simp only [laws_eqIntS.l0] at H
 by_cases c4 : x5_1 < (l0.length : Int)
 rotate_left
 ·
  rw [if_neg c4] at H
  have c4b0 : decide (x5_1 < (l0.length : Int)) = false := decide_eq_false c4
  clear c4
  obtain rfl := Option.some.inj H
  go_wp2
  repeat (go_quiet (fail); try go_wp2)
  go_ret
  exact ⟨by first | rfl | (simp; done) | (simp [*]; done), by repeat (first | exact Drawn0.refl _ | apply Drawn0.step)⟩
 rw [if_pos c4] at H
 have c4b0 : decide (x5_1 < (l0.length : Int)) = true := decide_eq_true c4
 clear c4
 by_cases c5 : 0 ≤ x5_1
 rotate_left
 ·
  rw [if_neg c5] at H
  exact absurd H (by simp)
 rw [if_pos c5] at H
 have c5b0 : decide (0 ≤ x5_1) = true := decide_eq_true c5
 clear c5
 by_cases c6 : x5_1 < (l1.length : Int)
 rotate_left
 ·
  rw [if_neg c6] at H
  exact absurd H (by simp)
 rw [if_pos c6] at H
 have c6b0 : decide (x5_1 < (l1.length : Int)) = true := decide_eq_true c6
 clear c6
 by_cases c7 : (rd l0 x5_1) = (rd l1 x5_1)
 ·
  rw [if_pos c7] at H
  have c7b0 : ((rd l0 x5_1) == (rd l1 x5_1)) = true := beq_iff_eq.mpr c7
  have c7b1 : ((rd l0 x5_1) != (rd l1 x5_1)) = false := bne_eq_false_iff_eq.mpr c7
  clear c7; have H' := aK H; clear H
  have p101 : 0 ≤ (x5_1 : Int) := dA
  have q101 : x5_1 < (l0.length : Int) := dA
  obtain ⟨ad101, e101, hx101_0⟩ := Kd.at_int HR0.out x5_1 p101 q101; cases e101; replace p101 := eq_true p101; replace q101 := eq_true q101
  have p102 : 0 ≤ (x5_1 : Int) := dA
  have q102 : x5_1 < (l1.length : Int) := dA
  obtain ⟨ad102, e102, hx102_0⟩ := Kd.at_int HR1.out x5_1 p102 q102; cases e102; replace p102 := eq_true p102; replace q102 := eq_true q102
  go_wp2
  repeat (go_quiet (fail); try go_wp2)
  go_roundg k1
  case measure => have := HK1.out; omega
  case rel => exact ⟨(wrap64 (x5_1 + 1)), (by first | rfl | (simp; done) | (simp [*]; done)), H', ⟨by have := HK1.out; omega⟩, by repeat (first | exact Drawn0.refl _ | apply Drawn0.step)⟩
 rw [if_neg c7] at H
 have c7b0 : ((rd l0 x5_1) == (rd l1 x5_1)) = false := beq_eq_false_iff_ne.mpr c7
 have c7b1 : ((rd l0 x5_1) != (rd l1 x5_1)) = true := bne_iff_ne.mpr c7
 obtain rfl := Option.some.inj H
 have p101 : 0 ≤ (x5_1 : Int) := dA
 have q101 : x5_1 < (l0.length : Int) := dA
 obtain ⟨ad101, e101, hx101_0⟩ := Kd.at_int HR0.out x5_1 p101 q101
 cases e101
 replace p101 := eq_true p101
 replace q101 := eq_true q101
 have p102 : 0 ≤ (x5_1 : Int) := dA
 have q102 : x5_1 < (l1.length : Int) := dA
 obtain ⟨ad102, e102, hx102_0⟩ := Kd.at_int HR1.out x5_1 p102 q102
 cases e102
 replace p102 := eq_true p102
 replace q102 := eq_true q102
 go_wp2
 repeat (go_quiet (fail); try go_wp2)
 go_ret
 exact ⟨by first | rfl | (simp; done) | (simp [*]; done), by repeat (first | exact Drawn0.refl _ | apply Drawn0.step)⟩
def laws_FnExactHoleCount.j0 : Nat → List Int → List Int → Bool → Option (Bool)
 | 0, _, _, _ => none
 | k + 1, x2, x9, x39 => if x39 = true then (some false) else ((laws_toIntS.f k x2).bind fun t111 => ((laws_eqIntS.f k x9 t111).bind fun t114 => (if t114 = true then (some true) else (some false))))
def laws_FnExactHoleCount.f (k : Nat) (a0 : Int) (a1 : Int) (l2 : List Int) : Option (Bool) := if (l2.length : Int) > 1048576 then (some true) else ((laws_toIntS.f k l2).bind fun t101 => ((spec_HoleCount.f k a0 a1 t101).bind fun bt104 => ((laws_toIntS.f k l2).bind fun t106 => ((impl_HoleCount.f k a0 a1 t106).bind fun bt109 => (if bt109.1 = bt104.1 then (laws_FnExactHoleCount.j0 k l2 t106 (bt109.2 != bt104.2)) else (laws_FnExactHoleCount.j0 k l2 t106 true))))))
theorem laws_FnExactHoleCount.calls (k : Nat) (a0 : Int) (a1 : Int) (A2 : Option Addr) (c2 : Nat) (l2 : List Int) (r : Bool) (w : World) (hr2 : Kd.C (Kd.int .i64) w A2 l2.length l2) (hc2 : l2.length ≤ c2) (h : laws_FnExactHoleCount.f k a0 a1 l2 = some r) :
  Calls Try.prog 3 #[.int .i64 a0, .int .i64 a1, .slice A2 l2.length c2] w fun e w' => e = .returned (.bool r) ∧ Below w.heap.size w w' := by
 have HR2 := aK hr2
 have HC2 := aK hc2
 clear hr2 hc2
 have HB := aK (Below.refl w.heap.size w)
 have H : (if (l2.length : Int) > 1048576 then (some true) else ((laws_toIntS.f k l2).bind fun t101 => ((spec_HoleCount.f k a0 a1 t101).bind fun bt104 => ((laws_toIntS.f k l2).bind fun t106 => ((impl_HoleCount.f k a0 a1 t106).bind fun bt109 => (if bt109.1 = bt104.1 then (laws_FnExactHoleCount.j0 k l2 t106 (bt109.2 != bt104.2)) else (laws_FnExactHoleCount.j0 k l2 t106 true))))))) = some r := h
 clear h
 by_cases c4 : (l2.length : Int) > 1048576
 ·
  rw [if_pos c4] at H
  have c4b0 : decide (1048576 < (l2.length : Int)) = true := decide_eq_true c4
  have c4b1 : decide (1048576 < l2.length) = true := decide_eq_true (by omega)
  clear c4
  obtain rfl := Option.some.inj H
  go_enter Try.func3, Try.ntmps3
  go_wp2
  go_ret
  exact ⟨er, pT HB.out⟩
 rw [if_neg c4] at H
 have c4b0 : decide (1048576 < (l2.length : Int)) = false := decide_eq_false c4
 have c4b1 : decide (1048576 < l2.length) = false := decide_eq_false (by omega)
 clear c4
 replace H := oA H
 obtain ⟨t101, A5, H⟩ := H
 replace H : ((spec_HoleCount.f k a0 a1 t101).bind fun bt104 => ((laws_toIntS.f k l2).bind fun t106 => ((impl_HoleCount.f k a0 a1 t106).bind fun bt109 => (if bt109.1 = bt104.1 then (laws_FnExactHoleCount.j0 k l2 t106 (bt109.2 != bt104.2)) else (laws_FnExactHoleCount.j0 k l2 t106 true))))) = some r := H
 replace H := oA H
 obtain ⟨⟨t104, t105⟩, A6, H⟩ := H
 replace H : ((laws_toIntS.f k l2).bind fun t106 => ((impl_HoleCount.f k a0 a1 t106).bind fun bt109 => (if bt109.1 = t104 then (laws_FnExactHoleCount.j0 k l2 t106 (bt109.2 != t105)) else (laws_FnExactHoleCount.j0 k l2 t106 true)))) = some r := H
 replace H := oA H
 obtain ⟨t106, A7, H⟩ := H
 replace H : ((impl_HoleCount.f k a0 a1 t106).bind fun bt109 => (if bt109.1 = t104 then (laws_FnExactHoleCount.j0 k l2 t106 (bt109.2 != t105)) else (laws_FnExactHoleCount.j0 k l2 t106 true))) = some r := H
 replace H := oA H
 obtain ⟨⟨t109, t110⟩, A8, H⟩ := H
 replace H : (if t109 = t104 then (laws_FnExactHoleCount.j0 k l2 t106 (t110 != t105)) else (laws_FnExactHoleCount.j0 k l2 t106 true)) = some r := H
 have HC9 := aK H
 clear H
 go_enter Try.func3, Try.ntmps3
 go_upto_region 6 with (first | ((with_reducible refine gc 6 rfl ?_); refine gl (some 19) Try.func6 #[.slice A2 l2.length c2] ?_; (with_reducible refine (laws_toIntS.calls k _ _ l2 t101 _ ?side1 ?side2 A5.out).mono ?_); (case side1 => exact pC HR2.out); (case side2 => exact HC2.out); rintro e w10 ⟨v102, rfl, ho0, hb⟩; refine ⟨_, rfl, ?_⟩; have HO103 := aK (Kd.R_lower ho0 (below_size (pS HB.out))); replace HB := bS HB hb; (try clear hb); (try clear ho0); obtain ⟨Ao11, co11, eo11⟩ := Kd.R_slice HO103.out; subst eo11) | ((with_reducible refine gc 5 rfl ?_); refine gl (some 20) Try.func5 #[.int .i64 a0, .int .i64 a1, .slice Ao11 t101.length co11] ?_; (with_reducible refine (spec_HoleCount.calls k a0 a1 _ _ t101 t104 t105 _ ?side1 ?side2 A6.out).mono ?_); (case side1 => exact pC (Kd.R_reads' HO103.out).2.2); (case side2 => exact (Kd.R_reads' HO103.out).2.1); rintro e w12 ⟨rfl, hb⟩; refine ⟨_, rfl, ?_⟩; replace HO103 := rb HO103 hb; replace HB := bS HB hb; (try clear hb)) | ((with_reducible refine gc 6 rfl ?_); refine gl (some 24) Try.func6 #[.slice A2 l2.length c2] ?_; (with_reducible refine (laws_toIntS.calls k _ _ l2 t106 _ ?side1 ?side2 A7.out).mono ?_); (case side1 => exact cB HR2 HB); (case side2 => exact HC2.out); rintro e w13 ⟨v107, rfl, ho0, hb⟩; refine ⟨_, rfl, ?_⟩; have n0_ := aK (Kd.R_elder' (pR HO103.out) (Kd.R_base ho0) hb); have HO108 := aK (Kd.R_lower (nw1 ho0 (pR HO103.out)) (below_size (pS HB.out))); replace HB := bS HB hb; clear HO103; have HO103 := n0_; clear n0_; (try clear hb); (try clear ho0); obtain ⟨Ao14, co14, eo14⟩ := Kd.R_slice HO108.out; subst eo14) | ((with_reducible refine gc 7 rfl ?_); refine gl (some 29) Try.func7 #[.int .i64 a0, .int .i64 a1, .slice Ao14 t106.length co14] ?_; (with_reducible refine (impl_HoleCount.calls k a0 a1 _ _ t106 t109 t110 _ ?side1 ?side2 A8.out).mono ?_); (case side1 => exact pC (Kd.R_reads' HO108.out).2.2); (case side2 => exact (Kd.R_reads' HO108.out).2.1); rintro e w15 ⟨rfl, hb⟩; refine ⟨_, rfl, ?_⟩; replace HO103 := rb HO103 hb; replace HO108 := rb HO108 hb; replace HB := bS HB hb; (try clear hb)))
 (try simp only [Act.put, List.setIfInBounds_toArray, List.set_cons_zero, List.set_cons_succ])
 go_cut [39] (fun v39 wc => ∃ (kq : Nat) (x39_8 : Bool), v39 = .bool x39_8 ∧ Aside0 (laws_FnExactHoleCount.j0 kq l2 t106 x39_8 = some r) ∧ Aside0 (kq ≤ k) ∧ Aside0 (Kd.R (Kd.int .i64) 3 wc w.heap.size (fun _ => True) (.slice Ao14 t106.length co14) t106) ∧ Aside0 (Below w.heap.size w wc))
 case first =>
  have H := HC9.out; clear HC9
  by_cases c16 : t109 = t104
  ·
   rw [if_pos c16] at H
   have c16b0 : (t109 == t104) = true := beq_iff_eq.mpr c16
   have c16b1 : (t109 != t104) = false := bne_eq_false_iff_eq.mpr c16
   clear c16
   (first | rw [c16b0] | (simp only [i64_w, i32_w]; rw [c16b0]) | skip)
   have H' := aK H; clear H
   go_wp2
   go_meet
   case rel => exact ⟨_, ((t110 != t105)), (by first | rfl | (simp; done) | (simp [*]; done)), H', ⟨by first | omega | exact Nat.le_refl _⟩, ⟨pR (Kd.R_mono HO108.out (fun _ hk => trivial))⟩, ⟨pT HB.out⟩⟩
  rw [if_neg c16] at H
  have c16b0 : (t109 == t104) = false := beq_eq_false_iff_ne.mpr c16
  have c16b1 : (t109 != t104) = true := bne_iff_ne.mpr c16
  (first | rw [c16b0] | (simp only [i64_w, i32_w]; rw [c16b0]) | skip)
  have H' := aK H; clear H
  go_wp2
  go_meet
  case rel => exact ⟨_, (true), (by first | rfl | (simp; done) | (simp [*]; done)), H', ⟨by first | omega | exact Nat.le_refl _⟩, ⟨pR (Kd.R_mono HO108.out (fun _ hk => trivial))⟩, ⟨pT HB.out⟩⟩
 case rest =>
 clear HC9
 try clear c1
 try clear c2
 try clear p2
 try clear c3
 try clear c4
 try clear c4b0
 try clear c4b1
 try clear c5
 try clear c6
 try clear c7
 try clear c16
 try clear c16b0
 try clear c16b1
 obtain ⟨kq, x39_8, rfl, HA, HJ8, HO_9, HB⟩ := hcut
 cases kq with
 | zero => exact absurd HA.out (by simp [laws_FnExactHoleCount.j0])
 | succ kj8 =>
 have H := HA.out
 clear HA
 simp only [laws_FnExactHoleCount.j0] at H
 by_cases c17 : x39_8 = true
 ·
  subst c17
  have H1 : (some false) = some r := by rw [if_pos rfl] at H; exact H
  clear H; have H := H1; clear H1
  obtain rfl := Option.some.inj H
  go_wp2
  go_ret
  exact ⟨er, pT HB.out⟩
 replace c17 := Bool.eq_false_iff.mpr c17
 subst c17
 have H1 : ((laws_toIntS.f kj8 l2).bind fun t111 => ((laws_eqIntS.f kj8 t106 t111).bind fun t114 => (if t114 = true then (some true) else (some false)))) = some r := by rw [if_neg (show ¬ (false = true) by decide)] at H; exact H
 clear H
 have H := H1
 clear H1
 replace H := oA H
 obtain ⟨t111, A18, H⟩ := H
 replace H : ((laws_eqIntS.f kj8 t106 t111).bind fun t114 => (if t114 = true then (some true) else (some false))) = some r := H
 replace H := oA H
 obtain ⟨t114, A19, H⟩ := H
 replace H : (if t114 = true then (some true) else (some false)) = some r := H
 by_cases c20 : t114 = true
 ·
  subst c20
  have H1 : (some true) = some r := by rw [if_pos rfl] at H; exact H
  clear H; have H := H1; clear H1
  obtain rfl := Option.some.inj H
  go_wp2_with (first | ((with_reducible refine gc 6 rfl ?_); refine gl (some 42) Try.func6 #[.slice A2 l2.length c2] ?_; (with_reducible refine (laws_toIntS.calls kj8 _ _ l2 t111 _ ?side1 ?side2 A18.out).mono ?_); (case side1 => exact cB HR2 HB); (case side2 => exact HC2.out); rintro e w21 ⟨v112, rfl, ho0, hb⟩; refine ⟨_, rfl, ?_⟩; have n0_ := aK (Kd.R_elder' (pR HO_9.out) (Kd.R_base ho0) hb); have HO113 := aK (Kd.R_lower (nw1 ho0 (pR HO_9.out)) (below_size (pS HB.out))); replace HB := bS HB hb; clear HO_9; have HO_9 := n0_; clear n0_; (try clear hb); (try clear ho0); obtain ⟨Ao22, co22, eo22⟩ := Kd.R_slice HO113.out; subst eo22) | ((with_reducible refine gc 8 rfl ?_); refine gl (some 43) Try.func8 #[.slice Ao14 t106.length co14, .slice Ao22 t111.length co22] ?_; (with_reducible refine (laws_eqIntS.calls kj8 _ _ t106 _ _ t111 true _ ?side1 ?side2 ?side3 ?side4 A19.out).mono ?_); (case side1 => exact pC (Kd.R_reads' HO_9.out).2.2); (case side2 => exact (Kd.R_reads' HO_9.out).2.1); (case side3 => exact pC (Kd.R_reads' HO113.out).2.2); (case side4 => exact (Kd.R_reads' HO113.out).2.1); rintro e w' ⟨rfl, ⟨nd, rfl⟩⟩; refine ⟨_, rfl, ?_⟩))
  go_ret
  exact ⟨er, pT HB.out⟩
 replace c20 := Bool.eq_false_iff.mpr c20
 subst c20
 have H1 : (some false) = some r := by rw [if_neg (show ¬ (false = true) by decide)] at H; exact H
 clear H
 have H := H1
 clear H1
 obtain rfl := Option.some.inj H
 go_wp2_with (first | ((with_reducible refine gc 6 rfl ?_); refine gl (some 42) Try.func6 #[.slice A2 l2.length c2] ?_; (with_reducible refine (laws_toIntS.calls kj8 _ _ l2 t111 _ ?side1 ?side2 A18.out).mono ?_); (case side1 => exact cB HR2 HB); (case side2 => exact HC2.out); rintro e w23 ⟨v112, rfl, ho0, hb⟩; refine ⟨_, rfl, ?_⟩; have n0_ := aK (Kd.R_elder' (pR HO_9.out) (Kd.R_base ho0) hb); have HO113 := aK (Kd.R_lower (nw1 ho0 (pR HO_9.out)) (below_size (pS HB.out))); replace HB := bS HB hb; clear HO_9; have HO_9 := n0_; clear n0_; (try clear hb); (try clear ho0); obtain ⟨Ao24, co24, eo24⟩ := Kd.R_slice HO113.out; subst eo24) | ((with_reducible refine gc 8 rfl ?_); refine gl (some 43) Try.func8 #[.slice Ao14 t106.length co14, .slice Ao24 t111.length co24] ?_; (with_reducible refine (laws_eqIntS.calls kj8 _ _ t106 _ _ t111 false _ ?side1 ?side2 ?side3 ?side4 A19.out).mono ?_); (case side1 => exact pC (Kd.R_reads' HO_9.out).2.2); (case side2 => exact (Kd.R_reads' HO_9.out).2.1); (case side3 => exact pC (Kd.R_reads' HO113.out).2.2); (case side4 => exact (Kd.R_reads' HO113.out).2.1); rintro e w' ⟨rfl, ⟨nd, rfl⟩⟩; refine ⟨_, rfl, ?_⟩))
 go_ret
 exact ⟨er, pT HB.out⟩
def laws_FnExactHoleCount.Pure : Prop := ∀ (a0 : Int) (a1 : Int) (l2 : List Int), (Lit.int .i64 a0).wf = true → (Lit.int .i64 a1).wf = true → (l2.length ≤ 9223372036854775807 ∧ ∀ z0 ∈ l2, (Lit.int .i64 z0).wf = true) → l2.length * 8 ≤ 140737488351232 → ∃ k, laws_FnExactHoleCount.f k a0 a1 l2 = some true
end Go.Proofs.Ytnbpcacnbfbjkaa.P
namespace Go.Proofs.Ytnbpcacnbfbjkaa.Open
open Go.ChangeShapes Go.WideShapes Go.RowKit Go.Deep Go.Joins Go.Proofs.YtnbpcacnbfbjkaaW.PrintWords
def Opens {α : Type} (P : Program) (t : TypeId) (d : Kd α) (wf : α → Prop) : Prop :=
  ∀ {H : Type} {enc : TypeId × Value → H} {W : World} {fuel : Nat} {cs : List Value} {x : DataW H × List MemPlace},
    DataW.trod enc P W 0 (fun _ => true) true fuel t cs = some x → ∃ y, d.K W y cs ∧ wf y
theorem opens_int {P : Program} {t : TypeId} {k : IntKind} (h : P.underlying t = some (.int k)) : Opens P t (Kd.int k) (fun n => (Lit.int k n).wf = true) := by
  intro H enc W fuel cs x hx
  obtain ⟨n, rfl, _, hw⟩ := DataW.trod_int h hx
  exact ⟨n, rfl, hw⟩
theorem list_of {α : Type} {p : Nat → α → Prop} : ∀ (n : Nat), (∀ i, i < n → ∃ y, p i y) → ∃ ys : List α, ys.length = n ∧ ∀ (i : Nat) (y : α), ys[i]? = some y → p i y
  | 0, _ => ⟨[], rfl, fun i y h => by simp at h⟩
  | n + 1, h => by
    obtain ⟨ys, hl, hy⟩ := list_of n (fun i hi => h i (by omega))
    obtain ⟨y, hp⟩ := h n (by omega)
    refine ⟨ys ++ [y], by simp [hl], fun i z hz => ?_⟩
    by_cases hi : i < n
    · rw [List.getElem?_append_left (by omega)] at hz
      exact hy i z hz
    · have hi2 : i = n := by
        have := (List.getElem?_eq_some_iff.1 hz).1
        simp [hl] at this
        omega
      subst hi2
      rw [List.getElem?_append_right (by omega), hl] at hz
      simp at hz
      subst hz
      exact hp
theorem opens_slice {α : Type} {P : Program} {t e : TypeId} {d : Kd α} {wf : α → Prop} (h : P.underlying t = some (.slice e)) (hc : P.cellsOf e = d.sz) (he : Opens P e d wf) :
    Opens P t (Kd.slice e d) (fun l => l.length ≤ 9223372036854775807 ∧ ∀ x ∈ l, wf x) := by
  intro H enc W fuel cs x hx
  rcases open_slice h hx with ⟨rfl, _⟩ | ⟨a, len, cap, m, n, D, Pl, rfl, _, hl, hm, hmm, _, hx⟩
  · exact ⟨[], ⟨none, 0, rfl, by simp, Kd.C_nil d W⟩, by simp, by simp⟩
  · obtain ⟨ys, hlen, hy⟩ := list_of (p := fun i y => ∃ cs', W.cells? 0 (a.add (i * P.cellsOf e)) (P.cellsOf e) = some cs' ∧ d.K W y cs' ∧ wf y) len (fun i hi => by
      obtain ⟨cs', h1, h2⟩ := hx i (by rw [hmm]; split <;> omega)
      obtain ⟨y, hK, hw⟩ := he h2
      exact ⟨y, cs', h1, hK, hw⟩)
    have hm' : cap ≤ 9223372036854775807 := by simpa [maxLen] using hm
    refine ⟨ys, ⟨some a, cap, by rw [hlen], by omega, ⟨rfl, by omega, fun _ => ⟨a, rfl, fun j y hj => ?_⟩⟩⟩, by omega, fun y hmem => ?_⟩
    · obtain ⟨cs', h1, hK, _⟩ := hy j y hj
      obtain ⟨_, hl2, hcell⟩ := World.cells?_some h1
      refine ⟨cs', d.K_len hK, hK, fun i u hu => ?_⟩
      have hi : i < P.cellsOf e := by
        have := (List.getElem?_eq_some_iff.1 hu).1
        omega
      rw [← hc, ← Go.Deep.add_add, hcell i hi]
      exact hu
    · obtain ⟨j, hj⟩ := List.getElem?_of_mem hmem
      obtain ⟨_, _, _, hw⟩ := hy j y hj
      exact hw
theorem sized_any {H : Type} {enc : TypeId × Value → H} {P : Program} {W : World} {base : Nat} {spare : Nat → Bool} {held : Bool} {t e : TypeId} {a : Option Addr} {len cap : Nat} {d : DataW H} {ps : List MemPlace} {ts : List TypeId} {ds : List (DataW H)} {j : Nat}
    (hsz : (DataW.weightsEach P ts ds).all (· ≤ reachBytes) = true) (ht : ts[j]? = some t) (hd : ds[j]? = some d) (hu : P.underlying t = some (.slice e)) {B : Nat} (hB : P.bytesOf e = B)
    (h : DataW.Trod enc P W base spare held t (.slice a len cap) d ps) : len * B ≤ 140737488351232 := by
  obtain ⟨fuel, hf⟩ := h
  rcases open_slice hu hf with ⟨hcs, _⟩ | ⟨x, l, c, m, n, D, Pl, hcs, _, hl, _, _, hx, _⟩
  · simp [Value.cells] at hcs
    obtain ⟨rfl, rfl, rfl⟩ := hcs
    simp
  · simp [Value.cells] at hcs
    obtain ⟨rfl, rfl, rfl⟩ := hcs
    obtain ⟨hx, _⟩ := Prod.mk.inj hx
    subst hx
    have z := sized_slice hsz ht hd hu
    rw [hB] at z
    refine Nat.le_trans (Nat.mul_le_mul_right _ ?_) z
    simp
theorem slice_at {α : Type} {P : Program} {W : World} {t e : TypeId} {d : Kd α} {wf : List α → Prop} {H : Type} {enc : TypeId × Value → H} {a : Option Addr} {len cap : Nat} {dd : DataW H} {ps : List MemPlace} (ho : Opens P t (Kd.slice e d) wf)
    (h : DataW.Trod enc P W 0 (fun _ => true) true t (.slice a len cap) dd ps) : ∃ l : List α, len = l.length ∧ l.length ≤ cap ∧ d.C W a l.length l ∧ wf l := by
  obtain ⟨fuel, hf⟩ := h
  obtain ⟨l, ⟨A, c, hcs, hl, hC⟩, hw⟩ := ho hf
  simp [Value.cells] at hcs
  obtain ⟨rfl, rfl, rfl⟩ := hcs
  exact ⟨l, rfl, hl, hC, hw⟩
section
variable {P : Program} {t : TypeId} {W : World} {H : Type} {enc : TypeId × Value → H} {r : Reach} {b0 : Nat} {v : Value} {d : DataW H} {p : List MemPlace}
end
end Go.Proofs.Ytnbpcacnbfbjkaa.Open
namespace Go.Proofs.Ytnbpcacnbfbjkaa.P
open Go.RowKit Go.Proofs.YtnbpcacnbfbjkaaW.PrintWords Go.Proofs.YtnbpcacnbfbjkaaW.PrintLast Go.Proofs.YtnbpcacnbfbjkaaW.PrintMore
attribute [local go_sem] max2_int min2_int max_two min_two max_three min_three max_four min_four
set_option linter.unusedVariables false
set_option linter.unusedSimpArgs false
open Go.Proofs.Ytnbpcacnbfbjkaa.Open
end Go.Proofs.Ytnbpcacnbfbjkaa.P
namespace Go.Proofs.Ytnbpcacnbfbjkaa.Pure
set_option linter.unusedVariables false
set_option linter.unusedSimpArgs false
open Go.RowKit Go.Proofs.YtnbpcacnbfbjkaaW.PrintWords Go.Proofs.YtnbpcacnbfbjkaaW.PrintLast Go.Proofs.YtnbpcacnbfbjkaaW.PrintMore
theorem w64 {x : Int} (h0 : -9223372036854775808 ≤ x) (h1 : x ≤ 9223372036854775807) : wrap64 x = x := by
  unfold wrap64
  omega
theorem rd_nat (xs : List Int) (i : Nat) : rd xs (i : Int) = xs.getD i 0 := by simp [rd]
section
variable {α β : Type} {f g : Nat → Option α} {r : α}
theorem ev_some (r : α) : Ev (fun _ => some r) r := ⟨0, fun _ _ => rfl⟩
theorem ev_ifp {c : Prop} [Decidable c] (h : c) (k : Ev f r) : Ev (fun n => if c then f n else g n) r := Ev.congr (fun _ => if_pos h) k
theorem ev_ifn {c : Prop} [Decidable c] (h : ¬ c) (k : Ev g r) : Ev (fun n => if c then f n else g n) r := Ev.congr (fun _ => if_neg h) k
theorem ev_bind {F : Nat → α → Option β} {q : β} (h : Ev g r) (k : Ev (fun n => F n r) q) : Ev (fun n => (g n).bind (fun x => F n x)) q := by
  obtain ⟨K1, h1⟩ := h
  obtain ⟨K2, h2⟩ := k
  exact ⟨K1 + K2, fun n hn => by show (g n).bind (fun x => F n x) = some q; rw [h1 n (by omega)]; exact h2 n (by omega)⟩
theorem ev_const {a : Option α} (h : a = some r) : Ev (fun _ => a) r := ⟨0, fun _ _ => h⟩
theorem ev_step (h : ∀ k, g (k + 1) = f k) (k : Ev f r) : Ev g r := by
  obtain ⟨K, h1⟩ := k
  refine ⟨K + 1, fun n hn => ?_⟩
  obtain ⟨m, rfl⟩ : ∃ m, n = m + 1 := ⟨n - 1, by omega⟩
  rw [h m]
  exact h1 m (by omega)
end
def iter {σ : Type} (g : Nat → σ → σ) : Nat → Nat → σ → σ
  | _, 0, s => s
  | i, d + 1, s => iter g (i + 1) d (g i s)
theorem loop_ev {σ ρ : Type} (F : Nat → σ → Nat → Option ρ) (n : Nat) (g : Nat → σ → σ) (fin : σ → ρ) (I : Nat → σ → Prop)
    (hs : ∀ i s r, I i s → i < n → Ev (fun k => F k (g i s) (i + 1)) r → Ev (fun k => F k s i) r) (hI : ∀ i s, I i s → i < n → I (i + 1) (g i s))
    (he : ∀ s, I n s → Ev (fun k => F k s n) (fin s)) : ∀ i s, i ≤ n → I i s → Ev (fun k => F k s i) (fin (iter g i (n - i) s)) := by
  have key : ∀ d i s, n - i = d → i ≤ n → I i s → Ev (fun k => F k s i) (fin (iter g i d s)) := by
    intro d
    induction d with
    | zero =>
      intro i s h0 h1 h2
      obtain rfl : i = n := by omega
      exact he s h2
    | succ d ih =>
      intro i s h0 h1 h2
      exact hs i s _ h2 (by omega) (ih (i + 1) (g i s) (by omega) (by omega) (hI i s h2 (by omega)))
  exact fun i s h1 h2 => key (n - i) i s rfl h1 h2
theorem iter_inv {σ : Type} (g : Nat → σ → σ) (I : Nat → σ → Prop) (n : Nat) (hI : ∀ i s, I i s → i < n → I (i + 1) (g i s)) : ∀ d i s, i + d = n → I i s → I n (iter g i d s) := by
  intro d
  induction d with
  | zero => intro i s h0 h1; obtain rfl : i = n := by omega
            exact h1
  | succ d ih => intro i s h0 h1; exact ih (i + 1) _ (by omega) (hI i s h1 (by omega))
def rall (p : Nat → Bool) : Nat → Nat → Bool
  | _, 0 => true
  | i, d + 1 => p i && rall p (i + 1) d
theorem rall_iff (p : Nat → Bool) : ∀ d i, rall p i d = true ↔ ∀ j, i ≤ j → j < i + d → p j = true
  | 0, i => ⟨fun _ j h1 h2 => by omega, fun _ => rfl⟩
  | d + 1, i => by
    show (p i && rall p (i + 1) d) = true ↔ _
    rw [Bool.and_eq_true, rall_iff p d (i + 1)]
    constructor
    · rintro ⟨h0, h1⟩ j h2 h3
      by_cases e : j = i
      · rw [e]; exact h0
      · exact h1 j (by omega) (by omega)
    · intro h
      exact ⟨h i (Nat.le_refl _) (by omega), fun j h2 h3 => h j (by omega) (by omega)⟩
theorem rall_congr {p q : Nat → Bool} : ∀ d i, (∀ j, i ≤ j → j < i + d → p j = q j) → rall p i d = rall q i d
  | 0, _, _ => rfl
  | d + 1, i, h => by
    show (p i && rall p (i + 1) d) = (q i && rall q (i + 1) d)
    rw [h i (Nat.le_refl _) (by omega), rall_congr d (i + 1) (fun j h1 h2 => h j (by omega) (by omega))]
theorem all_ev {ρ : Type} (F : Nat → Nat → Option ρ) (n : Nat) (p : Nat → Bool) (no yes : ρ) (hs : ∀ i r, i < n → p i = true → Ev (fun k => F k (i + 1)) r → Ev (fun k => F k i) r)
    (hn : ∀ i, i < n → p i = false → Ev (fun k => F k i) no) (he : Ev (fun k => F k n) yes) :
    ∀ i, i ≤ n → Ev (fun k => F k i) (if rall p i (n - i) = true then yes else no) := by
  have key : ∀ d i, n - i = d → i ≤ n → Ev (fun k => F k i) (if rall p i d = true then yes else no) := by
    intro d
    induction d with
    | zero =>
      intro i h0 h1
      obtain rfl : i = n := by omega
      rw [show rall p i 0 = true from rfl, if_pos rfl]
      exact he
    | succ d ih =>
      intro i h0 h1
      have h := ih (i + 1) (by omega) (by omega)
      have e : rall p i (d + 1) = (p i && rall p (i + 1) d) := rfl
      cases hp : p i with
      | true =>
        rw [e, hp, Bool.true_and]
        exact hs i _ (by omega) hp h
      | false =>
        rw [e, hp, Bool.false_and, if_neg (by simp)]
        exact hn i (by omega) hp
  exact fun i h1 => key (n - i) i rfl h1
theorem allb_ev (F : Nat → Nat → Option Bool) (n : Nat) (p : Nat → Bool) (hs : ∀ i r, i < n → p i = true → Ev (fun k => F k (i + 1)) r → Ev (fun k => F k i) r)
    (hn : ∀ i, i < n → p i = false → Ev (fun k => F k i) false) (he : Ev (fun k => F k n) true) : Ev (fun k => F k 0) (rall p 0 n) := by
  have h := all_ev F n p false true hs hn he 0 (Nat.zero_le _)
  rw [Nat.sub_zero] at h
  cases e : rall p 0 n <;> simpa [e] using h
theorem getD_eq_get {α : Type} {xs : List α} {i : Nat} (z : α) (h : i < xs.length) : xs.getD i z = xs[i] := by simp [List.getD, List.getElem?_eq_getElem h]
theorem rall_list {α : Type} (xs : List α) (z : α) (p : α → Bool) : rall (fun j => p (xs.getD j z)) 0 xs.length = xs.all p := by
  rw [Bool.eq_iff_iff, rall_iff, List.all_eq_true]
  constructor
  · intro h x hx
    obtain ⟨i, hi, rfl⟩ := List.getElem_of_mem hx
    rw [← getD_eq_get z hi]
    exact h i (Nat.zero_le _) (by omega)
  · intro h j _ hj
    rw [getD_eq_get z (by omega)]
    exact h _ (List.getElem_mem (by omega))
theorem eq_index {α : Type} {xs ys : List α} (z : α) (h : xs.length = ys.length) (hh : ∀ j, j < xs.length → xs.getD j z = ys.getD j z) : xs = ys := by
  refine List.ext_getElem h (fun i h1 h2 => ?_)
  rw [← getD_eq_get z h1, ← getD_eq_get z h2]
  exact hh i h1
theorem rall_eq {α : Type} [DecidableEq α] {xs ys : List α} (z : α) (h : xs.length = ys.length) : rall (fun j => decide (xs.getD j z = ys.getD j z)) 0 xs.length = decide (xs = ys) := by
  rw [Bool.eq_iff_iff, rall_iff, decide_eq_true_eq]
  constructor
  · exact fun hh => eq_index z h (fun j hj => by simpa using hh j (Nat.zero_le _) (by omega))
  · rintro rfl j _ _
    simp
theorem ends_ev {σ ρ : Type} (F : Nat → σ → Nat → Option ρ) (n : Nat) (hs : ∀ i s, i < n → (∃ s', ∀ r, Ev (fun k => F k s' (i + 1)) r → Ev (fun k => F k s i) r) ∨ ∃ r, Ev (fun k => F k s i) r)
    (he : ∀ s, ∃ r, Ev (fun k => F k s n) r) : ∀ i s, i ≤ n → ∃ r, Ev (fun k => F k s i) r := by
  have key : ∀ d i s, n - i = d → i ≤ n → ∃ r, Ev (fun k => F k s i) r := by
    intro d
    induction d with
    | zero =>
      intro i s h0 h1
      obtain rfl : i = n := by omega
      exact he s
    | succ d ih =>
      intro i s h0 h1
      rcases hs i s (by omega) with ⟨s', h⟩ | h
      · obtain ⟨r, hr⟩ := ih (i + 1) s' (by omega) (by omega)
        exact ⟨r, h r hr⟩
      · exact h
  exact fun i s h1 => key (n - i) i s rfl h1
theorem tmod_next {i n : Nat} (hi : i < n) : Int.tmod ((i : Int) + 1) (n : Int) = (((i + 1) % n : Nat) : Int) := by
  rw [Int.tmod_eq_emod_of_nonneg (by omega)]
  rfl
def fidx (p : Nat → Bool) : Nat → Nat → Int
  | _, 0 => -1
  | i, d + 1 => if p i = true then (i : Int) else fidx p (i + 1) d
theorem fidx_nonneg (p : Nat → Bool) : ∀ d i, decide (fidx p i d ≥ 0) = !rall (fun j => !p j) i d
  | 0, i => rfl
  | d + 1, i => by
    have h := fidx_nonneg p d (i + 1)
    show decide ((if p i = true then (i : Int) else fidx p (i + 1) d) ≥ 0) = !((!p i) && rall (fun j => !p j) (i + 1) d)
    cases e : p i with
    | true => simp
    | false => simpa using h
theorem find_ev (F : Nat → Nat → Option Int) (n : Nat) (p : Nat → Bool) (hs : ∀ i r, i < n → p i = false → Ev (fun k => F k (i + 1)) r → Ev (fun k => F k i) r) (hx : ∀ i, i < n → p i = true → Ev (fun k => F k i) (i : Int))
    (he : Ev (fun k => F k n) (-1)) : Ev (fun k => F k 0) (fidx p 0 n) := by
  have key : ∀ d i, n - i = d → i ≤ n → Ev (fun k => F k i) (fidx p i d) := by
    intro d
    induction d with
    | zero =>
      intro i h0 h1
      obtain rfl : i = n := by omega
      exact he
    | succ d ih =>
      intro i h0 h1
      show Ev (fun k => F k i) (if p i = true then (i : Int) else fidx p (i + 1) d)
      cases e : p i with
      | true => rw [if_pos rfl]; exact hx i (by omega) e
      | false => rw [if_neg (by simp)]; exact hs i _ (by omega) e (ih (i + 1) (by omega) (by omega))
  exact key n 0 (by omega) (Nat.zero_le _)
end Go.Proofs.Ytnbpcacnbfbjkaa.Pure
namespace Go.Proofs.Ytnbpcacnbfbjkaa.Pure
set_option linter.unusedVariables false
set_option linter.unusedSimpArgs false
open Go.RowKit Go.Proofs.Ytnbpcacnbfbjkaa.P Go.Proofs.YtnbpcacnbfbjkaaW.PrintWords Go.Proofs.YtnbpcacnbfbjkaaW.PrintLast
def inb (x a b : Int) : Bool := decide (a ≤ x) && decide (x ≤ b)
theorem inb_iff {x a b : Int} : inb x a b = true ↔ a ≤ x ∧ x ≤ b := by simp [inb]
theorem l1In_is (x a b : Int) : spec_l1In.f x a b = some (inb x a b) := by
  unfold spec_l1In.f inb
  split
  · rename_i h; simp [show a ≤ x from h]
  · rename_i h; simp [show ¬ a ≤ x from h]
theorem within_is (x a b : Int) : impl_within.f x a b = some (inb x a b) := l1In_is x a b
theorem allWithin_ev (l : List Int) (a b : Int) (hl : l.length ≤ 9223372036854775806) : Ev (fun k => impl_allWithin.f k l a b) (rall (fun i => inb (l.getD i 0) a b) 0 l.length) :=
  allb_ev (fun k i => impl_allWithin.l0 k a b l (l.length : Int) (i : Int)) l.length (fun i => inb (l.getD i 0) a b)
    (fun i r hi hp h => ev_step (fun k => by
      simp only [impl_allWithin.l0, within_is, Option.bind_some, rd_nat]
      rw [if_pos (by omega), if_pos (by omega), if_pos (by omega), if_pos hp, w64 (by omega) (by omega)]
      rfl) h)
    (fun i hi hp => ev_step (f := fun _ => some false) (fun k => by
      simp only [impl_allWithin.l0, within_is, Option.bind_some, rd_nat]
      rw [if_pos (by omega), if_pos (by omega), if_pos (by omega), if_neg (by rw [hp]; decide)]) (ev_some _))
    (ev_step (f := fun _ => some true) (fun k => by
      simp only [impl_allWithin.l0]
      rw [if_neg (by omega)]) (ev_some _))
theorem mul_bd {a b : Int} (a1 : 1 ≤ a) (a8 : a ≤ 8) (b1 : 1 ≤ b) (b8 : b ≤ 8) : 1 ≤ a * b ∧ a * b ≤ 64 := by
  obtain h | h | h | h | h | h | h | h : a = 1 ∨ a = 2 ∨ a = 3 ∨ a = 4 ∨ a = 5 ∨ a = 6 ∨ a = 7 ∨ a = 8 := by omega
  all_goals subst h; omega
theorem l2Shape_is (a b : Int) : spec_l2Shape.f a b = some (inb a 1 8 && inb b 1 8) := by
  unfold spec_l2Shape.f
  rw [l1In_is, l1In_is]
  cases inb a 1 8 <;> simp
theorem shape_iff {a b : Int} : (inb a 1 8 && inb b 1 8) = true ↔ (1 ≤ a ∧ a ≤ 8) ∧ 1 ≤ b ∧ b ≤ 8 := by rw [Bool.and_eq_true, inb_iff, inb_iff]
def rising (l : List Int) : Bool := rall (fun i => decide (l.getD i 0 < l.getD (i + 1) 0)) 0 (l.length - 1)
def regionOk (a b : Int) (l : List Int) : Bool := (inb a 1 8 && inb b 1 8) && (rising l && rall (fun i => inb (l.getD i 0) 0 (a * b - 1)) 0 l.length)
theorem increasing_ev (l : List Int) (hl : l.length ≤ 9223372036854775806) : Ev (fun k => impl_increasing.f k l) (rising l) := by
  have h := allb_ev (fun k i => impl_increasing.l0 k l ((i : Int) + 1)) (l.length - 1) (fun i => decide (l.getD i 0 < l.getD (i + 1) 0))
    (fun i r hi hp h => ev_step (fun k => by
      simp only [impl_increasing.l0]
      rw [if_pos (by omega), show wrap64 ((i : Int) + 1 - 1) = (i : Int) by rw [w64 (by omega) (by omega)]; omega, if_pos (by omega), if_pos (by omega), if_pos (by omega), show ((i : Int) + 1) = ((i + 1 : Nat) : Int) by omega, rd_nat, rd_nat,
        if_neg (by have := of_decide_eq_true hp; omega), w64 (by omega) (by omega)]) h)
    (fun i hi hp => ev_step (f := fun _ => some false) (fun k => by
      simp only [impl_increasing.l0]
      rw [if_pos (by omega), show wrap64 ((i : Int) + 1 - 1) = (i : Int) by rw [w64 (by omega) (by omega)]; omega, if_pos (by omega), if_pos (by omega), if_pos (by omega), show ((i : Int) + 1) = ((i + 1 : Nat) : Int) by omega, rd_nat, rd_nat,
        if_pos (by have := of_decide_eq_false hp; omega)]) (ev_some _))
    (ev_step (f := fun _ => some true) (fun k => by
      simp only [impl_increasing.l0]
      rw [if_neg (by omega)]) (ev_some _))
  exact h
theorem isShape_is (a b : Int) : impl_isShape.f a b = some (inb a 1 8 && inb b 1 8) := by
  unfold impl_isShape.f
  rw [within_is, Option.bind_some, within_is]
  cases inb a 1 8 <;> simp
theorem isRegion_ev (a b : Int) (l : List Int) (hl : l.length ≤ 9223372036854775806) : Ev (fun k => impl_isRegion.f k a b l) (regionOk a b l) := by
  unfold impl_isRegion.f regionOk
  refine ev_bind (ev_const (isShape_is a b)) ?_
  cases e : (inb a 1 8 && inb b 1 8) with
  | false => exact ev_ifn (by simp) (ev_some _)
  | true =>
    obtain ⟨⟨a1, a8⟩, b1, b8⟩ := shape_iff.1 e
    have hm := mul_bd a1 a8 b1 b8
    rw [Bool.true_and]
    refine ev_ifp rfl (ev_bind (increasing_ev l hl) ?_)
    cases rising l with
    | false => exact ev_ifn (by simp) (ev_some _)
    | true =>
      rw [Bool.true_and, show wrap64 (wrap64 (a * b) - 1) = a * b - 1 by rw [w64 (x := a * b) (by omega) (by omega), w64 (by omega) (by omega)]]
      exact ev_ifp rfl (ev_bind (allWithin_ev l 0 (a * b - 1) hl) (ev_some _))
theorem l1Rising_ev (l : List Int) (x y : Int) (hl : l.length ≤ 9223372036854775806) : Ev (fun k => spec_l1Rising.f k l x y) (rising l && rall (fun i => inb (l.getD i 0) x y) 0 l.length) := by
  have h := allb_ev (fun k i => spec_l1Rising.l0 k l x y (i : Int)) l.length (fun i => inb (l.getD i 0) x y && (decide (i = 0) || decide (l.getD (i - 1) 0 < l.getD i 0)))
    (fun i r hi hp h => ev_step (fun k => by
      rw [Bool.and_eq_true, Bool.or_eq_true] at hp
      simp only [spec_l1Rising.l0, l1In_is, Option.bind_some, rd_nat]
      rw [if_pos (by omega), if_pos (by omega), if_pos hp.1, w64 (x := (i : Int) + 1) (by omega) (by omega)]
      by_cases e : i = 0
      · rw [if_neg (by omega)]; rfl
      · have h2 := of_decide_eq_true (hp.2.resolve_left (by simpa using e))
        rw [if_pos (by omega), show wrap64 ((i : Int) - 1) = ((i - 1 : Nat) : Int) by rw [w64 (by omega) (by omega)]; omega, if_pos (by omega), if_pos (by omega), rd_nat, if_neg (by omega)]
        rfl) h)
    (fun i hi hp => ev_step (f := fun _ => some false) (fun k => by
      simp only [spec_l1Rising.l0, l1In_is, Option.bind_some, rd_nat]
      rw [if_pos (by omega), if_pos (by omega)]
      cases e : inb (l.getD i 0) x y with
      | false => simp
      | true =>
        rw [e, Bool.true_and, Bool.or_eq_false_iff] at hp
        have h1 := of_decide_eq_false hp.1
        have h2 := of_decide_eq_false hp.2
        rw [if_pos rfl, if_pos (by omega), show wrap64 ((i : Int) - 1) = ((i - 1 : Nat) : Int) by rw [w64 (by omega) (by omega)]; omega, if_pos (by omega), if_pos (by omega), rd_nat, if_pos (by omega)]) (ev_some _))
    (ev_step (f := fun _ => some true) (fun k => by
      simp only [spec_l1Rising.l0]
      rw [if_neg (by omega)]) (ev_some _))
  have e : rall (fun i => inb (l.getD i 0) x y && (decide (i = 0) || decide (l.getD (i - 1) 0 < l.getD i 0))) 0 l.length = (rising l && rall (fun i => inb (l.getD i 0) x y) 0 l.length) := by
    rw [Bool.eq_iff_iff, Bool.and_eq_true]
    unfold rising
    rw [rall_iff, rall_iff, rall_iff]
    constructor
    · intro hh
      refine ⟨fun j _ hj => ?_, fun j _ hj => ?_⟩
      · have := hh (j + 1) (Nat.zero_le _) (by omega)
        rw [Bool.and_eq_true, Bool.or_eq_true] at this
        have h2 := this.2.resolve_left (by simp)
        simpa using h2
      · have := hh j (Nat.zero_le _) (by omega)
        rw [Bool.and_eq_true] at this
        exact this.1
    · rintro ⟨h1, h2⟩ j _ hj
      rw [Bool.and_eq_true, Bool.or_eq_true]
      refine ⟨h2 j (Nat.zero_le _) hj, ?_⟩
      by_cases e : j = 0
      · exact .inl (by simpa using e)
      · have := h1 (j - 1) (Nat.zero_le _) (by omega)
        rw [show j - 1 + 1 = j by omega] at this
        exact .inr this
  rw [e] at h
  exact h
theorem l8Region_ev (a b : Int) (l : List Int) (hl : l.length ≤ 9223372036854775806) : Ev (fun k => spec_l8Region.f k a b l) (regionOk a b l) := by
  unfold spec_l8Region.f regionOk
  refine ev_bind (ev_const (l2Shape_is a b)) ?_
  cases e : (inb a 1 8 && inb b 1 8) with
  | false => exact ev_ifn (by simp) (ev_some _)
  | true =>
    obtain ⟨⟨a1, a8⟩, b1, b8⟩ := shape_iff.1 e
    have hm := mul_bd a1 a8 b1 b8
    rw [Bool.true_and, show wrap64 (wrap64 (a * b) - 1) = a * b - 1 by rw [w64 (x := a * b) (by omega) (by omega), w64 (by omega) (by omega)]]
    exact ev_ifp rfl (ev_bind (l1Rising_ev l 0 (a * b - 1) hl) (ev_some _))
theorem mem_rall (l : List Int) (x : Int) : decide (x ∈ l) = !rall (fun i => decide (l.getD i 0 ≠ x)) 0 l.length := by
  rw [rall_list l 0 (fun y => decide (y ≠ x))]
  rw [Bool.eq_iff_iff, decide_eq_true_eq, Bool.not_eq_true', ← Bool.not_eq_true, List.all_eq_true]
  constructor
  · intro h hh
    have := hh x h
    simp at this
  · intro h
    rw [Classical.not_forall] at h
    obtain ⟨y, hy⟩ := h
    rw [Classical.not_imp] at hy
    obtain ⟨h1, h2⟩ := hy
    simp at h2
    rw [← h2]
    exact h1
theorem l1Has_ev (l : List Int) (x : Int) (hl : l.length ≤ 9223372036854775806) : Ev (fun k => spec_l1Has.f k l x) (decide (x ∈ l)) := by
  rw [mem_rall]
  have h := all_ev (fun k i => spec_l1Has.l0 k l x (i : Int)) l.length (fun i => decide (l.getD i 0 ≠ x)) true false
    (fun i r hi hp h => ev_step (fun k => by
      simp only [spec_l1Has.l0, rd_nat]
      rw [if_pos (by omega), if_pos (by omega), if_neg (by simpa using hp), w64 (by omega) (by omega)]
      rfl) h)
    (fun i hi hp => ev_step (f := fun _ => some true) (fun k => by
      simp only [spec_l1Has.l0, rd_nat]
      rw [if_pos (by omega), if_pos (by omega), if_pos (by simpa using hp)]) (ev_some _))
    (ev_step (f := fun _ => some false) (fun k => by
      simp only [spec_l1Has.l0]
      rw [if_neg (by omega)]) (ev_some _)) 0 (Nat.zero_le _)
  rw [Nat.sub_zero] at h
  cases e : rall (fun i => decide (l.getD i 0 ≠ x)) 0 l.length with
  | true => rw [e] at h; exact h
  | false => rw [e] at h; exact h
theorem contains_is (l : List Int) (x : Int) (hl : l.length ≤ 9223372036854775806) : Ev (fun k => slices_Contains_int_int.f k l x) (decide (x ∈ l)) := by
  have h := find_ev (fun k i => slices_Index_int_int.l0 k l x (l.length : Int) (i : Int)) l.length (fun i => decide (l.getD i 0 = x))
    (fun i r hi hp h => ev_step (fun k => by
      simp only [slices_Index_int_int.l0, rd_nat]
      rw [if_pos (by omega), if_pos (by omega), if_pos (by omega), if_neg (by intro e; rw [← e] at hp; simp at hp), w64 (by omega) (by omega)]
      rfl) h)
    (fun i hi hp => ev_step (f := fun _ => some (i : Int)) (fun k => by
      simp only [slices_Index_int_int.l0, rd_nat]
      rw [if_pos (by omega), if_pos (by omega), if_pos (by omega), if_pos (by have := of_decide_eq_true hp; exact this.symm)]) (ev_some _))
    (ev_step (f := fun _ => some (-1)) (fun k => by
      simp only [slices_Index_int_int.l0]
      rw [if_neg (by omega)]) (ev_some _))
  have e : decide (x ∈ l) = decide (fidx (fun i => decide (l.getD i 0 = x)) 0 l.length ≥ 0) := by
    rw [fidx_nonneg, mem_rall]
    congr 1
    exact rall_congr _ _ (fun j _ _ => by simp)
  rw [e]
  exact ev_bind h (ev_some _)
end Go.Proofs.Ytnbpcacnbfbjkaa.Pure
namespace Go.Proofs.Ytnbpcacnbfbjkaa.Pure
set_option linter.unusedVariables false
def outB (nw ne se sw : Bool) (w : Nat) : Bool := match w with
  | 0 => se && !ne
  | 1 => sw && !se
  | 2 => nw && !sw
  | 3 => ne && !nw
  | _ => false
def inB (nw ne se sw : Bool) (w : Nat) : Bool := match w with
  | 0 => sw && !nw
  | 1 => nw && !ne
  | 2 => ne && !se
  | 3 => se && !sw
  | _ => false
def turn (nw ne se sw : Bool) (w : Nat) : Nat := if outB nw ne se sw ((w + 1) % 4) then (w + 1) % 4 else if outB nw ne se sw w then w else (w + 3) % 4
theorem turn_out : ∀ nw ne se sw : Bool, ∀ w, w < 4 → inB nw ne se sw w = true → outB nw ne se sw (turn nw ne se sw w) = true ∧ turn nw ne se sw w < 4 := by decide
theorem turn_inj : ∀ nw ne se sw : Bool, ∀ w, w < 4 → ∀ v, v < 4 → inB nw ne se sw w = true → inB nw ne se sw v = true → turn nw ne se sw w = turn nw ne se sw v → w = v := by decide
theorem turn_one : ∀ nw ne se sw : Bool, ∀ w, w < 4 → inB nw ne se sw w = true → outB nw ne se sw ((w + 1) % 4) = true ∨ ∀ v, v < 4 → outB nw ne se sw v = true → v = turn nw ne se sw w := by decide
theorem turn_back : ∀ nw ne se sw : Bool, ∀ w, w < 4 → inB nw ne se sw w = true → turn nw ne se sw w ≠ (w + 2) % 4 := by decide
theorem turn_two : ∀ nw ne se sw : Bool, ¬ (inB nw ne se sw 3 = true ∧ outB nw ne se sw 1 = true) := by decide
end Go.Proofs.Ytnbpcacnbfbjkaa.Pure
namespace Go.Proofs.Ytnbpcacnbfbjkaa.Pure
set_option linter.unusedVariables false
set_option linter.unusedSimpArgs false
set_option linter.unusedSectionVars false
structure Sd where
  x : Int
  y : Int
  w : Nat
  deriving DecidableEq
def outM (M : Int → Int → Bool) (x y : Int) (w : Nat) : Bool := outB (M (x - 1) (y - 1)) (M x (y - 1)) (M x y) (M (x - 1) y) w
def inM (M : Int → Int → Bool) (x y : Int) (w : Nat) : Bool := inB (M (x - 1) (y - 1)) (M x (y - 1)) (M x y) (M (x - 1) y) w
def turnM (M : Int → Int → Bool) (x y : Int) (w : Nat) : Nat := turn (M (x - 1) (y - 1)) (M x (y - 1)) (M x y) (M (x - 1) y) w
def IsSd (M : Int → Int → Bool) (s : Sd) : Prop := s.w < 4 ∧ outM M s.x s.y s.w = true
def endX (s : Sd) : Int := if s.w = 0 then s.x + 1 else if s.w = 2 then s.x - 1 else s.x
def endY (s : Sd) : Int := if s.w = 1 then s.y + 1 else if s.w = 3 then s.y - 1 else s.y
def nextS (M : Int → Int → Bool) (s : Sd) : Sd := ⟨endX s, endY s, turnM M (endX s) (endY s) s.w⟩
theorem four {w : Nat} (h : w < 4) : w = 0 ∨ w = 1 ∨ w = 2 ∨ w = 3 := by omega
theorem end_in {M : Int → Int → Bool} {s : Sd} (h : IsSd M s) : inM M (endX s) (endY s) s.w = true := by
  obtain ⟨x, y, w⟩ := s
  obtain ⟨h1, h2⟩ := h
  simp only at h1 h2
  rcases four h1 with rfl | rfl | rfl | rfl
  · show (M (x + 1 - 1) y && !M (x + 1 - 1) (y - 1)) = true
    rw [show x + 1 - 1 = x by omega]
    exact h2
  · show (M (x - 1) (y + 1 - 1) && !M x (y + 1 - 1)) = true
    rw [show y + 1 - 1 = y by omega]
    exact h2
  · show (M (x - 1) (y - 1) && !M (x - 1) y) = true
    exact h2
  · show (M x (y - 1) && !M (x - 1) (y - 1)) = true
    exact h2
theorem next_sd {M : Int → Int → Bool} {s : Sd} (h : IsSd M s) : IsSd M (nextS M s) := by
  have h1 := turn_out _ _ _ _ s.w h.1 (end_in h)
  exact ⟨h1.2, h1.1⟩
theorem next_inj {M : Int → Int → Bool} {s t : Sd} (hs : IsSd M s) (ht : IsSd M t) (e : nextS M s = nextS M t) : s = t := by
  have ex : endX s = endX t := congrArg Sd.x e
  have ey : endY s = endY t := congrArg Sd.y e
  have ew : turnM M (endX s) (endY s) s.w = turnM M (endX t) (endY t) t.w := congrArg Sd.w e
  have hi := end_in hs
  have hj := end_in ht
  rw [← ex, ← ey] at hj ew
  have hw := turn_inj _ _ _ _ s.w hs.1 t.w ht.1 hi hj ew
  obtain ⟨x, y, w⟩ := s
  obtain ⟨x', y', w'⟩ := t
  simp only at hw
  subst hw
  unfold endX at ex
  unfold endY at ey
  simp only at ex ey
  have h4 : w < 4 := hs.1
  rcases four h4 with rfl | rfl | rfl | rfl <;> simp at ex ey <;> subst ex <;> subst ey <;> rfl
theorem idx_ne {s a : Sd} {t : List Sd} (h : ¬ s = a) : (s :: t).idxOf a = t.idxOf a + 1 := by
  rw [List.idxOf_cons, show (s == a) = false from beq_eq_false_iff_ne.mpr h]
  rfl
def pick (ex ey : Int) (w1 : Nat) : Int → Nat → List Sd → Int
  | best, _, [] => best
  | best, i, s :: t => pick ex ey w1 (if (s.x = ex ∧ s.y = ey) ∧ (best < 0 ∨ s.w = w1) then (i : Int) else best) (i + 1) t
theorem pick_keep {ex ey : Int} {w1 : Nat} : ∀ (L : List Sd) (best : Int) (i : Nat), 0 ≤ best → (⟨ex, ey, w1⟩ : Sd) ∉ L → pick ex ey w1 best i L = best
  | [], _, _, _, _ => rfl
  | s :: t, best, i, hb, hn => by
    rw [List.mem_cons, not_or] at hn
    unfold pick
    rw [if_neg (fun h => by
      rcases h.2 with h2 | h2
      · omega
      · exact hn.1 (by obtain ⟨x, y, w⟩ := s; simp only at h h2; rw [h.1.1, h.1.2, h2]))]
    exact pick_keep t best (i + 1) hb hn.2
theorem pick_pref {ex ey : Int} {w1 : Nat} : ∀ (L : List Sd) (best : Int) (i : Nat), L.Nodup → (⟨ex, ey, w1⟩ : Sd) ∈ L → pick ex ey w1 best i L = ((i + L.idxOf (⟨ex, ey, w1⟩ : Sd) : Nat) : Int)
  | s :: t, best, i, hn, hm => by
    rw [List.nodup_cons] at hn
    unfold pick
    by_cases e : s = ⟨ex, ey, w1⟩
    · subst e
      rw [if_pos ⟨⟨rfl, rfl⟩, .inr rfl⟩, pick_keep t _ _ (by omega) hn.1, List.idxOf_cons_self]
      rfl
    · have hm2 := List.mem_of_ne_of_mem (fun e2 => e e2.symm) hm
      rw [pick_pref t _ (i + 1) hn.2 hm2, idx_ne e]
      omega
theorem pick_only {ex ey : Int} {w1 w : Nat} : ∀ (L : List Sd) (best : Int) (i : Nat), best < 0 → (⟨ex, ey, w1⟩ : Sd) ∉ L → (∀ s ∈ L, s.x = ex → s.y = ey → s.w = w) → (⟨ex, ey, w⟩ : Sd) ∈ L → pick ex ey w1 best i L = ((i + L.idxOf (⟨ex, ey, w⟩ : Sd) : Nat) : Int)
  | s :: t, best, i, hb, hn, hu, hm => by
    rw [List.mem_cons, not_or] at hn
    unfold pick
    by_cases e : s = ⟨ex, ey, w⟩
    · subst e
      rw [if_pos ⟨⟨rfl, rfl⟩, .inl hb⟩, pick_keep t _ _ (by omega) hn.2, List.idxOf_cons_self]
      rfl
    · rw [if_neg (fun h => e (by
        have := hu s (List.mem_cons_self ..) h.1.1 h.1.2
        obtain ⟨x, y, w'⟩ := s
        simp only at h this
        rw [h.1.1, h.1.2, this]))]
      have hm2 := List.mem_of_ne_of_mem (fun e2 => e e2.symm) hm
      rw [pick_only t best (i + 1) hb hn.2 (fun s hs => hu s (List.mem_cons_of_mem _ hs)) hm2, idx_ne e]
      omega
theorem pick_next {M : Int → Int → Bool} {L : List Sd} (hL : ∀ s, s ∈ L ↔ IsSd M s) (hn : L.Nodup) {s : Sd} (hs : IsSd M s) : pick (endX s) (endY s) ((s.w + 1) % 4) (-1) 0 L = ((L.idxOf (nextS M s) : Nat) : Int) ∧ nextS M s ∈ L := by
  have hx := next_sd hs
  refine ⟨?_, (hL _).2 hx⟩
  by_cases h1 : outM M (endX s) (endY s) ((s.w + 1) % 4) = true
  · have e : nextS M s = ⟨endX s, endY s, (s.w + 1) % 4⟩ := by
      unfold nextS turnM turn
      rw [if_pos (show outB _ _ _ _ _ = true from h1)]
    rw [e] at hx ⊢
    rw [pick_pref L _ _ hn ((hL _).2 hx), Nat.zero_add]
  · have hno : (⟨endX s, endY s, (s.w + 1) % 4⟩ : Sd) ∉ L := fun h => h1 ((hL _).1 h).2
    have hone := (turn_one _ _ _ _ s.w hs.1 (end_in hs)).resolve_left h1
    rw [pick_only (w := turnM M (endX s) (endY s) s.w) L _ _ (by omega) hno (fun t ht ex ey => by
      have h2 := (hL t).1 ht
      have h3 := h2.2
      rw [ex, ey] at h3
      exact hone t.w h2.1 h3) ((hL _).2 hx), Nat.zero_add]
    rfl
end Go.Proofs.Ytnbpcacnbfbjkaa.Pure
namespace Go.Proofs.Ytnbpcacnbfbjkaa.Pure
set_option linter.unusedVariables false
set_option linter.unusedSimpArgs false
open Go.RowKit Go.Proofs.Ytnbpcacnbfbjkaa.P Go.Proofs.YtnbpcacnbfbjkaaW.PrintWords Go.Proofs.YtnbpcacnbfbjkaaW.PrintLast
def inR (W : Int) (l : List Int) (x y : Int) : Bool := decide (0 ≤ x) && (decide (x < W) && (decide (0 ≤ y) && decide (y * W + x ∈ l)))
def sd0 (b : Bool) (s : Sd) : List Sd := if b then [] else [s]
def toR (s : Sd) : S64 := ⟨s.x, s.y, (s.w : Int)⟩
def cellX (s : Sd) : Int := if s.w = 1 ∨ s.w = 2 then s.x - 1 else s.x
def cellY (s : Sd) : Int := if s.w = 2 ∨ s.w = 3 then s.y - 1 else s.y
def toP (W : Int) (s : Sd) : S54 := ⟨cellY s * W + cellX s, ⟨s.x, s.y⟩, ⟨endX s, endY s⟩⟩
section
variable {W H : Int} {l : List Int} (a1 : 1 ≤ W) (a8 : W ≤ 8) (b1 : 1 ≤ H) (b8 : H ≤ 8) (hl : l.length ≤ 1048576) (hr : ∀ x ∈ l, 0 ≤ x ∧ x < W * H)
include a1 a8 hl
omit hl in
theorem prodW {y : Int} (h0 : -100 ≤ y) (h1 : y ≤ 100) : -1000 ≤ y * W ∧ y * W ≤ 1000 := by
  obtain h | h | h | h | h | h | h | h : W = 1 ∨ W = 2 ∨ W = 3 ∨ W = 4 ∨ W = 5 ∨ W = 6 ∨ W = 7 ∨ W = 8 := by omega
  all_goals subst h; omega
theorem in_ev (x y : Int) (x0 : -100 ≤ x) (x1 : x ≤ 100) (y0 : -100 ≤ y) (y1 : y ≤ 100) : Ev (fun k => impl_sidesOf_1.f k x y W l) (inR W l x y) := by
  have p := prodW a1 a8 y0 y1
  unfold impl_sidesOf_1.f inR
  by_cases h1 : x ≥ 0
  · by_cases h2 : x < W
    · by_cases h3 : y ≥ 0
      · rw [decide_eq_true (show 0 ≤ x from h1), decide_eq_true h2, decide_eq_true (show 0 ≤ y from h3), Bool.true_and, Bool.true_and, Bool.true_and]
        refine ev_ifp h1 (ev_ifp h2 (ev_ifp h3 ?_))
        rw [w64 (x := y * W) (by omega) (by omega), w64 (by omega) (by omega)]
        exact ev_bind (contains_is l _ (by omega)) (ev_some _)
      · rw [decide_eq_false (show ¬ 0 ≤ y from h3), Bool.false_and, Bool.and_false, Bool.and_false]
        exact ev_ifp h1 (ev_ifp h2 (ev_ifn h3 (ev_some _)))
    · rw [decide_eq_false h2, Bool.false_and, Bool.and_false]
      exact ev_ifp h1 (ev_ifn h2 (ev_some _))
  · rw [decide_eq_false (show ¬ 0 ≤ x from h1), Bool.false_and]
    exact ev_ifn h1 (ev_some _)
include b1 b8 hr
theorem has_ev (x y : Int) (x0 : -100 ≤ x) (x1 : x ≤ 100) (y0 : -100 ≤ y) (y1 : y ≤ 100) : Ev (fun k => spec_l8Has.f k W H l x y) (inR W l x y) := by
  have p := prodW a1 a8 y0 y1
  unfold spec_l8Has.f
  rw [w64 (x := W - 1) (by omega) (by omega), w64 (x := H - 1) (by omega) (by omega), l1In_is, l1In_is]
  by_cases hx : inb x 0 (W - 1) = true
  · have hx2 := inb_iff.1 hx
    have ei : inR W l x y = (decide (0 ≤ y) && decide (y * W + x ∈ l)) := by
      unfold inR
      rw [decide_eq_true (show 0 ≤ x by omega), decide_eq_true (show x < W by omega), Bool.true_and, Bool.true_and]
    rw [ei]
    refine ev_bind (ev_some _) (ev_ifp hx (ev_bind (ev_some _) ?_))
    by_cases hy : inb y 0 (H - 1) = true
    · have hy2 := inb_iff.1 hy
      rw [decide_eq_true (show 0 ≤ y by omega), Bool.true_and]
      refine ev_ifp hy ?_
      rw [w64 (x := y * W) (by omega) (by omega), w64 (by omega) (by omega)]
      exact ev_bind (l1Has_ev l _ (by omega)) (ev_some _)
    · have no : (decide (0 ≤ y) && decide (y * W + x ∈ l)) = false := by
        by_cases h0 : 0 ≤ y
        · have hyH : H ≤ y := by
            rcases Int.lt_or_le y H with h | h
            · exact absurd (inb_iff.2 ⟨h0, by omega⟩) hy
            · exact h
          have hm : W * H ≤ y * W := by rw [Int.mul_comm W H]; exact Int.mul_le_mul_of_nonneg_right hyH (by omega)
          rw [decide_eq_false (p := y * W + x ∈ l) (fun hmem => by have := hr _ hmem; omega), Bool.and_false]
        · rw [decide_eq_false h0, Bool.false_and]
      rw [no]
      exact ev_ifn hy (ev_some _)
  · have no : inR W l x y = false := by
      unfold inR
      by_cases h0 : 0 ≤ x
      · rw [decide_eq_false (p := x < W) (fun h => hx (inb_iff.2 ⟨h0, by omega⟩)), Bool.false_and, Bool.and_false]
      · rw [decide_eq_false h0, Bool.false_and]
    rw [no]
    exact ev_bind (ev_some _) (ev_ifn hx (ev_some _))
omit b1 b8 hr in
def sdAt (W : Int) (l : List Int) (x y : Int) : List Sd := sd0 (inR W l x (y - 1)) ⟨x, y, 0⟩ ++ (sd0 (inR W l (x + 1) y) ⟨x + 1, y, 1⟩ ++ (sd0 (inR W l x (y + 1)) ⟨x + 1, y + 1, 2⟩ ++ sd0 (inR W l (x - 1) y) ⟨x, y + 1, 3⟩))
omit b1 b8 hr in
def sdFrom (W : Int) (l : List Int) : Nat → Nat → List Sd
  | _, 0 => []
  | i, d + 1 => sdAt W l (Int.tmod (l.getD i 0) W) (Int.tdiv (l.getD i 0) W) ++ sdFrom W l (i + 1) d
omit hl in
theorem cell_bd {i : Nat} (hi : i < l.length) : 0 ≤ Int.tmod (l.getD i 0) W ∧ Int.tmod (l.getD i 0) W < 8 ∧ 0 ≤ Int.tdiv (l.getD i 0) W ∧ Int.tdiv (l.getD i 0) W ≤ 64 := by
  have hm := hr (l.getD i 0) (by rw [getD_eq_get _ hi]; exact List.getElem_mem hi)
  have hp := mul_bd a1 a8 b1 b8
  have e1 := Int.emod_nonneg (l.getD i 0) (show W ≠ 0 by omega)
  have e2 := Int.emod_lt_of_pos (l.getD i 0) (show 0 < W by omega)
  have e3 := Int.ediv_nonneg hm.1 (show 0 ≤ W by omega)
  have e4 := Int.ediv_le_self W hm.1
  rw [Int.tmod_eq_emod_of_nonneg hm.1, Int.tdiv_eq_ediv_of_nonneg hm.1]
  omega
omit a1 a8 b1 b8 hl hr in
theorem toP_at {c x y : Int} (hc : c = y * W + x) : toP W ⟨x, y, 0⟩ = (⟨c, ⟨x, y⟩, ⟨x + 1, y⟩⟩ : S54) ∧ toP W ⟨x + 1, y, 1⟩ = (⟨c, ⟨x + 1, y⟩, ⟨x + 1, y + 1⟩⟩ : S54) ∧ toP W ⟨x + 1, y + 1, 2⟩ = (⟨c, ⟨x + 1, y + 1⟩, ⟨x, y + 1⟩⟩ : S54) ∧ toP W ⟨x, y + 1, 3⟩ = (⟨c, ⟨x, y + 1⟩, ⟨x, y⟩⟩ : S54) := by
  subst hc
  simp [toP, cellX, cellY, endX, endY]
theorem sides_impl : ∀ (d i : Nat) (T : List S54), i + d = l.length → T.length ≤ 4 * i → Ev (fun k => impl_sidesOf.l0 k T l (l.length : Int) (i : Int) W l) (T ++ (sdFrom W l i d).map (toP W))
  | 0, i, T, h0, hT => by
    show Ev _ (T ++ [])
    rw [List.append_nil]
    exact ev_step (fun k => impl_sidesOf.l0.eq_2 _ _ _ _ _ _ k) (ev_ifn (by omega) (ev_some _))
  | d + 1, i, T, h0, hT => by
    have hi : i < l.length := by omega
    obtain ⟨c1, c2, c3, c4⟩ := cell_bd a1 a8 b1 b8 hr hi
    have e3 := Aside0.mk (show wrap64 ((i : Int) + 1) = ((i + 1 : Nat) : Int) by rw [w64 (by omega) (by omega)]; rfl)
    have hc : l.getD i 0 = Int.tdiv (l.getD i 0) W * W + Int.tmod (l.getD i 0) W := by have := Int.tmod_add_mul_tdiv (l.getD i 0) W; rw [Int.mul_comm (Int.tdiv _ _)]; omega
    have hR : ∀ U : List S54, U.length ≤ 4 * (i + 1) → Ev (fun k => impl_sidesOf.l0 k U l (l.length : Int) ((i + 1 : Nat) : Int) W l) (U ++ (sdFrom W l (i + 1) d).map (toP W)) := fun U hU => sides_impl d (i + 1) U (by omega) hU
    show Ev _ (T ++ (sdAt W l (Int.tmod (l.getD i 0) W) (Int.tdiv (l.getD i 0) W) ++ sdFrom W l (i + 1) d).map (toP W))
    generalize ex : Int.tmod (l.getD i 0) W = x at *
    generalize ey : Int.tdiv (l.getD i 0) W = y at *
    obtain ⟨t0, t1, t2, t3⟩ := toP_at hc
    have t0 := Aside0.mk t0
    have t1 := Aside0.mk t1
    have t2 := Aside0.mk t2
    have t3 := Aside0.mk t3
    clear hc
    have g0 := in_ev a1 a8 hl x (y - 1) (by omega) (by omega) (by omega) (by omega)
    have g1 := in_ev a1 a8 hl (x + 1) y (by omega) (by omega) (by omega) (by omega)
    have g2 := in_ev a1 a8 hl x (y + 1) (by omega) (by omega) (by omega) (by omega)
    have g3 := in_ev a1 a8 hl (x - 1) y (by omega) (by omega) (by omega) (by omega)
    have w1 := Aside0.mk (show wrap64 y = y from w64 (by omega) (by omega))
    have w2 := Aside0.mk (show wrap64 (y - 1) = y - 1 from w64 (by omega) (by omega))
    have w3 := Aside0.mk (show wrap64 (x + 1) = x + 1 from w64 (by omega) (by omega))
    have w4 := Aside0.mk (show wrap64 (y + 1) = y + 1 from w64 (by omega) (by omega))
    have w5 := Aside0.mk (show wrap64 (x - 1) = x - 1 from w64 (by omega) (by omega))
    unfold sdAt
    rw [List.map_append, List.map_append, List.map_append, List.map_append, List.append_assoc, List.append_assoc, List.append_assoc]
    generalize (sdFrom W l (i + 1) d).map (toP W) = R at hR ⊢
    generalize inR W l x (y - 1) = p0 at *
    generalize inR W l (x + 1) y = p1 at *
    generalize inR W l x (y + 1) = p2 at *
    generalize inR W l (x - 1) y = p3 at *
    have s4 : ∀ U : List S54, U.length ≤ 4 * (i + 1) → Ev (fun k => impl_sidesOf.l1 k U (l.getD i 0) l (l.length : Int) (i : Int) 4 W l x y (x + 1) y (x + 1) (y + 1) x (y + 1) p0 p1 p2 p3) (U ++ R) := fun U hU => by
      refine ev_step (fun k => impl_sidesOf.l1.eq_2 _ _ _ _ _ _ _ _ _ _ _ _ _ _ _ _ _ _ _ _ k) (ev_ifn (by omega) ?_)
      rw [e3.out]
      exact hR U hU
    have s3 : ∀ U : List S54, U.length ≤ 4 * i + 3 → Ev (fun k => impl_sidesOf.l1 k U (l.getD i 0) l (l.length : Int) (i : Int) 3 W l x y (x + 1) y (x + 1) (y + 1) x (y + 1) p0 p1 p2 p3) (U ++ ((sd0 p3 ⟨x, y + 1, 3⟩).map (toP W) ++ R)) := fun U hU => by
      cases hp : p3 with
      | true =>
        rw [hp] at s4
        exact ev_step (fun k => impl_sidesOf.l1.eq_2 _ _ _ _ _ _ _ _ _ _ _ _ _ _ _ _ _ _ _ _ k) (ev_ifp (by omega) (ev_ifn (by omega) (ev_ifn (by omega) (ev_ifn (by omega) (ev_ifp rfl (ev_ifp rfl (s4 U (by omega))))))))
      | false =>
        rw [hp] at s4
        show Ev _ (U ++ ([toP W ⟨x, y + 1, 3⟩] ++ R))
        rw [t3.out, ← List.append_assoc]
        exact ev_step (fun k => impl_sidesOf.l1.eq_2 _ _ _ _ _ _ _ _ _ _ _ _ _ _ _ _ _ _ _ _ k) (ev_ifp (by omega) (ev_ifn (by omega) (ev_ifn (by omega) (ev_ifn (by omega) (ev_ifp rfl (ev_ifn (by simp) (ev_ifp (by omega) (s4 _ (by rw [List.length_append, List.length_singleton]; omega)))))))))
    have s2 : ∀ U : List S54, U.length ≤ 4 * i + 2 → Ev (fun k => impl_sidesOf.l1 k U (l.getD i 0) l (l.length : Int) (i : Int) 2 W l x y (x + 1) y (x + 1) (y + 1) x (y + 1) p0 p1 p2 p3) (U ++ ((sd0 p2 ⟨x + 1, y + 1, 2⟩).map (toP W) ++ ((sd0 p3 ⟨x, y + 1, 3⟩).map (toP W) ++ R))) := fun U hU => by
      cases hp : p2 with
      | true =>
        rw [hp] at s3
        exact ev_step (fun k => impl_sidesOf.l1.eq_2 _ _ _ _ _ _ _ _ _ _ _ _ _ _ _ _ _ _ _ _ k) (ev_ifp (by omega) (ev_ifn (by omega) (ev_ifn (by omega) (ev_ifp rfl (ev_ifp rfl (s3 U (by omega)))))))
      | false =>
        rw [hp] at s3
        show Ev _ (U ++ ([toP W ⟨x + 1, y + 1, 2⟩] ++ ((sd0 p3 ⟨x, y + 1, 3⟩).map (toP W) ++ R)))
        rw [t2.out, ← List.append_assoc]
        exact ev_step (fun k => impl_sidesOf.l1.eq_2 _ _ _ _ _ _ _ _ _ _ _ _ _ _ _ _ _ _ _ _ k) (ev_ifp (by omega) (ev_ifn (by omega) (ev_ifn (by omega) (ev_ifp rfl (ev_ifn (by simp) (ev_ifp (by omega) (s3 _ (by rw [List.length_append, List.length_singleton]; omega))))))))
    have s1 : ∀ U : List S54, U.length ≤ 4 * i + 1 → Ev (fun k => impl_sidesOf.l1 k U (l.getD i 0) l (l.length : Int) (i : Int) 1 W l x y (x + 1) y (x + 1) (y + 1) x (y + 1) p0 p1 p2 p3) (U ++ ((sd0 p1 ⟨x + 1, y, 1⟩).map (toP W) ++ ((sd0 p2 ⟨x + 1, y + 1, 2⟩).map (toP W) ++ ((sd0 p3 ⟨x, y + 1, 3⟩).map (toP W) ++ R)))) := fun U hU => by
      cases hp : p1 with
      | true =>
        rw [hp] at s2
        exact ev_step (fun k => impl_sidesOf.l1.eq_2 _ _ _ _ _ _ _ _ _ _ _ _ _ _ _ _ _ _ _ _ k) (ev_ifp (by omega) (ev_ifn (by omega) (ev_ifp rfl (ev_ifp rfl (s2 U (by omega))))))
      | false =>
        rw [hp] at s2
        show Ev _ (U ++ ([toP W ⟨x + 1, y, 1⟩] ++ ((sd0 p2 ⟨x + 1, y + 1, 2⟩).map (toP W) ++ ((sd0 p3 ⟨x, y + 1, 3⟩).map (toP W) ++ R))))
        rw [t1.out, ← List.append_assoc]
        exact ev_step (fun k => impl_sidesOf.l1.eq_2 _ _ _ _ _ _ _ _ _ _ _ _ _ _ _ _ _ _ _ _ k) (ev_ifp (by omega) (ev_ifn (by omega) (ev_ifp rfl (ev_ifn (by simp) (ev_ifp (by omega) (s2 _ (by rw [List.length_append, List.length_singleton]; omega)))))))
    have s0 : ∀ U : List S54, U.length ≤ 4 * i + 0 → Ev (fun k => impl_sidesOf.l1 k U (l.getD i 0) l (l.length : Int) (i : Int) 0 W l x y (x + 1) y (x + 1) (y + 1) x (y + 1) p0 p1 p2 p3) (U ++ ((sd0 p0 ⟨x, y, 0⟩).map (toP W) ++ ((sd0 p1 ⟨x + 1, y, 1⟩).map (toP W) ++ ((sd0 p2 ⟨x + 1, y + 1, 2⟩).map (toP W) ++ ((sd0 p3 ⟨x, y + 1, 3⟩).map (toP W) ++ R))))) := fun U hU => by
      cases hp : p0 with
      | true =>
        rw [hp] at s1
        exact ev_step (fun k => impl_sidesOf.l1.eq_2 _ _ _ _ _ _ _ _ _ _ _ _ _ _ _ _ _ _ _ _ k) (ev_ifp (by omega) (ev_ifp rfl (ev_ifp rfl (s1 U (by omega)))))
      | false =>
        rw [hp] at s1
        show Ev _ (U ++ ([toP W ⟨x, y, 0⟩] ++ ((sd0 p1 ⟨x + 1, y, 1⟩).map (toP W) ++ ((sd0 p2 ⟨x + 1, y + 1, 2⟩).map (toP W) ++ ((sd0 p3 ⟨x, y + 1, 3⟩).map (toP W) ++ R)))))
        rw [t0.out, ← List.append_assoc]
        exact ev_step (fun k => impl_sidesOf.l1.eq_2 _ _ _ _ _ _ _ _ _ _ _ _ _ _ _ _ _ _ _ _ k) (ev_ifp (by omega) (ev_ifp rfl (ev_ifn (by simp) (ev_ifp (by omega) (s1 _ (by rw [List.length_append, List.length_singleton]; omega))))))
    refine ev_step (fun k => impl_sidesOf.l0.eq_2 _ _ _ _ _ _ k) (ev_ifp (by omega) (ev_ifp (by omega) (ev_ifp (by omega) (ev_ifn (by omega) ?_))))
    rw [rd_nat, ex, ey, w1.out, w2.out, w3.out, w4.out, w5.out]
    exact ev_bind g0 (ev_bind g1 (ev_bind g2 (ev_bind g3 (s0 T (by omega)))))
theorem sides_spec : ∀ (d i : Nat) (T : List S64), i + d = l.length → T.length ≤ 4 * i → Ev (fun k => spec_l8Sides.l0 k W H l T (i : Int)) (T ++ (sdFrom W l i d).map toR)
  | 0, i, T, h0, hT => by
    show Ev _ (T ++ [])
    rw [List.append_nil]
    exact ev_step (fun k => spec_l8Sides.l0.eq_2 _ _ _ _ _ k) (ev_ifn (by omega) (ev_some _))
  | d + 1, i, T, h0, hT => by
    have hi : i < l.length := by omega
    obtain ⟨c1, c2, c3, c4⟩ := cell_bd a1 a8 b1 b8 hr hi
    have e3 := Aside0.mk (show wrap64 ((i : Int) + 1) = ((i + 1 : Nat) : Int) by rw [w64 (by omega) (by omega)]; rfl)
    have hR : ∀ U : List S64, U.length ≤ 4 * (i + 1) → Ev (fun k => spec_l8Sides.l0 k W H l U ((i + 1 : Nat) : Int)) (U ++ (sdFrom W l (i + 1) d).map toR) := fun U hU => sides_spec d (i + 1) U (by omega) hU
    show Ev _ (T ++ (sdAt W l (Int.tmod (l.getD i 0) W) (Int.tdiv (l.getD i 0) W) ++ sdFrom W l (i + 1) d).map toR)
    generalize ex : Int.tmod (l.getD i 0) W = x at *
    generalize ey : Int.tdiv (l.getD i 0) W = y at *
    have g0 := has_ev a1 a8 b1 b8 hl hr x (y - 1) (by omega) (by omega) (by omega) (by omega)
    have g1 := has_ev a1 a8 b1 b8 hl hr (x + 1) y (by omega) (by omega) (by omega) (by omega)
    have g2 := has_ev a1 a8 b1 b8 hl hr x (y + 1) (by omega) (by omega) (by omega) (by omega)
    have g3 := has_ev a1 a8 b1 b8 hl hr (x - 1) y (by omega) (by omega) (by omega) (by omega)
    have w1 := Aside0.mk (show wrap64 y = y from w64 (by omega) (by omega))
    have w2 := Aside0.mk (show wrap64 (y - 1) = y - 1 from w64 (by omega) (by omega))
    have w3 := Aside0.mk (show wrap64 (x + 1) = x + 1 from w64 (by omega) (by omega))
    have w4 := Aside0.mk (show wrap64 (y + 1) = y + 1 from w64 (by omega) (by omega))
    have w5 := Aside0.mk (show wrap64 (x - 1) = x - 1 from w64 (by omega) (by omega))
    unfold sdAt
    rw [List.map_append, List.map_append, List.map_append, List.map_append, List.append_assoc, List.append_assoc, List.append_assoc]
    generalize (sdFrom W l (i + 1) d).map toR = R at hR ⊢
    generalize inR W l x (y - 1) = p0 at *
    generalize inR W l (x + 1) y = p1 at *
    generalize inR W l x (y + 1) = p2 at *
    generalize inR W l (x - 1) y = p3 at *
    have s3 : ∀ V : List S64, V.length ≤ 4 * i + 3 → Ev (fun k => (spec_l8Has.f k W H l (x - 1) y).bind fun t => if t = true then spec_l8Sides.l0 k W H l V ((i + 1 : Nat) : Int) else if V.length < 5864062014805 then spec_l8Sides.l0 k W H l (V ++ [(⟨x, y + 1, 3⟩ : S64)]) ((i + 1 : Nat) : Int) else none) (V ++ ((sd0 p3 ⟨x, y + 1, 3⟩).map toR ++ R)) := fun V hV => by
      cases hp : p3 with
      | true =>
        rw [hp] at g3
        exact ev_bind g3 (ev_ifp rfl (hR V (by omega)))
      | false =>
        rw [hp] at g3
        show Ev _ (V ++ ([toR ⟨x, y + 1, 3⟩] ++ R))
        rw [← List.append_assoc]
        exact ev_bind g3 (ev_ifn (by simp) (ev_ifp (by omega) (hR _ (by rw [List.length_append, List.length_singleton]; omega))))
    have s2 : ∀ U : List S64, U.length ≤ 4 * i + 2 → Ev (fun k => spec_l8Sides.j2 k W H l U (i : Int) x y) (U ++ ((sd0 p2 ⟨x + 1, y + 1, 2⟩).map toR ++ ((sd0 p3 ⟨x, y + 1, 3⟩).map toR ++ R))) := fun U hU => by
      refine ev_step (fun k => spec_l8Sides.j2.eq_2 _ _ _ _ _ _ _ k) ?_
      rw [w3.out, w4.out, w5.out, e3.out]
      cases hp : p2 with
      | true =>
        rw [hp] at g2
        exact ev_bind g2 (ev_ifp rfl (s3 U (by omega)))
      | false =>
        rw [hp] at g2
        show Ev _ (U ++ ([toR ⟨x + 1, y + 1, 2⟩] ++ ((sd0 p3 ⟨x, y + 1, 3⟩).map toR ++ R)))
        rw [← List.append_assoc]
        exact ev_bind g2 (ev_ifn (by simp) (ev_ifp (by omega) (ev_bind (ev_some _) (s3 _ (by rw [List.length_append, List.length_singleton]; omega)))))
    have s1 : ∀ U : List S64, U.length ≤ 4 * i + 1 → Ev (fun k => spec_l8Sides.j1 k W H l U (i : Int) x y) (U ++ ((sd0 p1 ⟨x + 1, y, 1⟩).map toR ++ ((sd0 p2 ⟨x + 1, y + 1, 2⟩).map toR ++ ((sd0 p3 ⟨x, y + 1, 3⟩).map toR ++ R)))) := fun U hU => by
      refine ev_step (fun k => spec_l8Sides.j1.eq_2 _ _ _ _ _ _ _ k) ?_
      rw [w3.out]
      cases hp : p1 with
      | true =>
        rw [hp] at g1
        exact ev_bind g1 (ev_ifp rfl (s2 U (by omega)))
      | false =>
        rw [hp] at g1
        show Ev _ (U ++ ([toR ⟨x + 1, y, 1⟩] ++ ((sd0 p2 ⟨x + 1, y + 1, 2⟩).map toR ++ ((sd0 p3 ⟨x, y + 1, 3⟩).map toR ++ R))))
        rw [← List.append_assoc]
        exact ev_bind g1 (ev_ifn (by simp) (ev_ifp (by omega) (s2 _ (by rw [List.length_append, List.length_singleton]; omega))))
    refine ev_step (fun k => spec_l8Sides.l0.eq_2 _ _ _ _ _ k) (ev_ifp (by omega) (ev_ifp (by omega) (ev_ifn (by omega) ?_)))
    rw [rd_nat, ex, ey, w1.out, w2.out]
    cases hp : p0 with
    | true =>
      rw [hp] at g0
      exact ev_bind g0 (ev_ifp rfl (s1 T (by omega)))
    | false =>
      rw [hp] at g0
      show Ev _ (T ++ ([toR ⟨x, y, 0⟩] ++ ((sd0 p1 ⟨x + 1, y, 1⟩).map toR ++ ((sd0 p2 ⟨x + 1, y + 1, 2⟩).map toR ++ ((sd0 p3 ⟨x, y + 1, 3⟩).map toR ++ R)))))
      rw [← List.append_assoc]
      exact ev_bind g0 (ev_ifn (by simp) (ev_ifp (by omega) (s1 _ (by rw [List.length_append, List.length_singleton]; omega))))
end
end Go.Proofs.Ytnbpcacnbfbjkaa.Pure
namespace Go.Proofs.Ytnbpcacnbfbjkaa.Pure
set_option linter.unusedVariables false
set_option linter.unusedSimpArgs false
set_option linter.unusedSectionVars false
open Go.RowKit Go.Proofs.Ytnbpcacnbfbjkaa.P Go.Proofs.YtnbpcacnbfbjkaaW.PrintWords Go.Proofs.YtnbpcacnbfbjkaaW.PrintLast
def nbX (s : Sd) : Int := if s.w = 2 ∨ s.w = 3 then s.x - 1 else s.x
def nbY (s : Sd) : Int := if s.w = 0 ∨ s.w = 3 then s.y - 1 else s.y
theorem isSd_iff {M : Int → Int → Bool} {s : Sd} : IsSd M s ↔ s.w < 4 ∧ M (cellX s) (cellY s) = true ∧ M (nbX s) (nbY s) = false := by
  obtain ⟨x, y, w⟩ := s
  unfold IsSd outM cellX cellY nbX nbY
  refine and_congr_right (fun h => ?_)
  rcases four h with rfl | rfl | rfl | rfl <;> simp [outB]
theorem mem_sd0 {b : Bool} {s t : Sd} : s ∈ sd0 b t ↔ s = t ∧ b = false := by cases b <;> simp [sd0]
theorem mem_sdAt {W : Int} {l : List Int} {x y : Int} {s : Sd} : s ∈ sdAt W l x y ↔ s.w < 4 ∧ cellX s = x ∧ cellY s = y ∧ inR W l (nbX s) (nbY s) = false := by
  unfold sdAt
  simp only [List.mem_append, mem_sd0]
  constructor
  · rintro (⟨rfl, h⟩ | ⟨rfl, h⟩ | ⟨rfl, h⟩ | ⟨rfl, h⟩)
    · simp [cellX, cellY, nbX, nbY, h]
    · simp [cellX, cellY, nbX, nbY, h]
    · simp [cellX, cellY, nbX, nbY, h]
    · simp [cellX, cellY, nbX, nbY, h]
  · obtain ⟨a, b, w⟩ := s
    rintro ⟨h, hx, hy, hn⟩
    simp only at h
    rcases four h with rfl | rfl | rfl | rfl
    · simp [cellX, cellY, nbX, nbY] at hx hy hn
      subst hx; subst hy
      exact .inl ⟨rfl, hn⟩
    · simp [cellX, cellY, nbX, nbY] at hx hy hn
      subst hx; subst hy
      refine .inr (.inl ⟨by simp, ?_⟩)
      rw [show a - 1 + 1 = a by omega]; exact hn
    · simp [cellX, cellY, nbX, nbY] at hx hy hn
      subst hx; subst hy
      refine .inr (.inr (.inl ⟨by simp, ?_⟩))
      rw [show b - 1 + 1 = b by omega]; exact hn
    · simp [cellX, cellY, nbX, nbY] at hx hy hn
      subst hx; subst hy
      exact .inr (.inr (.inr ⟨by simp, hn⟩))
theorem nodup_sdAt (W : Int) (l : List Int) (x y : Int) : (sdAt W l x y).Nodup := by
  unfold sdAt sd0
  generalize inR W l x (y - 1) = p0
  generalize inR W l (x + 1) y = p1
  generalize inR W l x (y + 1) = p2
  generalize inR W l (x - 1) y = p3
  cases p0 <;> cases p1 <;> cases p2 <;> cases p3 <;> simp
theorem mem_sdFrom {W : Int} {l : List Int} {s : Sd} : ∀ (d i : Nat), s ∈ sdFrom W l i d ↔ ∃ j, i ≤ j ∧ j < i + d ∧ s ∈ sdAt W l (Int.tmod (l.getD j 0) W) (Int.tdiv (l.getD j 0) W)
  | 0, i => by
    constructor
    · intro h; cases h
    · rintro ⟨j, h1, h2, _⟩; omega
  | d + 1, i => by
    show s ∈ sdAt _ _ _ _ ++ sdFrom W l (i + 1) d ↔ _
    rw [List.mem_append, mem_sdFrom d (i + 1)]
    constructor
    · rintro (h | ⟨j, h1, h2, h3⟩)
      · exact ⟨i, Nat.le_refl _, by omega, h⟩
      · exact ⟨j, by omega, by omega, h3⟩
    · rintro ⟨j, h1, h2, h3⟩
      by_cases e : j = i
      · subst e; exact .inl h3
      · exact .inr ⟨j, by omega, by omega, h3⟩
section
variable {W : Int} {l : List Int} (a1 : 1 ≤ W) (h0 : ∀ x ∈ l, 0 ≤ x)
include a1 h0
theorem cell_code {j : Nat} (hj : j < l.length) : 0 ≤ Int.tmod (l.getD j 0) W ∧ Int.tmod (l.getD j 0) W < W ∧ 0 ≤ Int.tdiv (l.getD j 0) W ∧ Int.tdiv (l.getD j 0) W * W + Int.tmod (l.getD j 0) W = l.getD j 0 := by
  have hm := h0 (l.getD j 0) (by rw [getD_eq_get _ hj]; exact List.getElem_mem hj)
  have h4 := Int.tmod_add_mul_tdiv (l.getD j 0) W
  rw [Int.mul_comm (Int.tdiv _ _)]
  have e1 := Int.emod_nonneg (l.getD j 0) (show W ≠ 0 by omega)
  have e2 := Int.emod_lt_of_pos (l.getD j 0) (show 0 < W by omega)
  have e3 := Int.ediv_nonneg hm (show 0 ≤ W by omega)
  rw [Int.tmod_eq_emod_of_nonneg hm, Int.tdiv_eq_ediv_of_nonneg hm] at *
  exact ⟨e1, e2, e3, by omega⟩
theorem inR_iff {x y : Int} : inR W l x y = true ↔ ∃ j, j < l.length ∧ Int.tmod (l.getD j 0) W = x ∧ Int.tdiv (l.getD j 0) W = y := by
  unfold inR
  simp only [Bool.and_eq_true, decide_eq_true_eq]
  constructor
  · rintro ⟨x0, x1, y0, hm⟩
    obtain ⟨j, hj, e⟩ := List.getElem_of_mem hm
    refine ⟨j, hj, ?_⟩
    rw [getD_eq_get _ hj, e]
    have hp : 0 ≤ y * W + x := h0 _ hm
    rw [Int.tmod_eq_emod_of_nonneg hp, Int.tdiv_eq_ediv_of_nonneg hp]
    constructor
    · rw [Int.add_comm, Int.add_mul_emod_self_right, Int.emod_eq_of_lt x0 x1]
    · rw [Int.add_comm, Int.add_mul_ediv_right _ _ (show W ≠ 0 by omega), Int.ediv_eq_zero_of_lt x0 x1, Int.zero_add]
  · rintro ⟨j, hj, rfl, rfl⟩
    obtain ⟨c1, c2, c3, c4⟩ := cell_code a1 h0 hj
    refine ⟨c1, c2, c3, ?_⟩
    rw [c4, getD_eq_get _ hj]
    exact List.getElem_mem hj
theorem mem_sides {s : Sd} : s ∈ sdFrom W l 0 l.length ↔ IsSd (inR W l) s := by
  rw [mem_sdFrom, isSd_iff]
  constructor
  · rintro ⟨j, _, hj, h⟩
    obtain ⟨w4, hx, hy, hn⟩ := mem_sdAt.1 h
    exact ⟨w4, (inR_iff a1 h0).2 ⟨j, by omega, hx.symm, hy.symm⟩, hn⟩
  · rintro ⟨w4, hm, hn⟩
    obtain ⟨j, hj, hx, hy⟩ := (inR_iff a1 h0).1 hm
    exact ⟨j, Nat.zero_le _, by omega, mem_sdAt.2 ⟨w4, hx.symm, hy.symm, hn⟩⟩
theorem nodup_sdFrom (hinc : ∀ i j, i < j → j < l.length → l.getD i 0 ≠ l.getD j 0) : ∀ (d i : Nat), i + d = l.length → (sdFrom W l i d).Nodup
  | 0, i, _ => List.nodup_nil
  | d + 1, i, hd => by
    show (sdAt _ _ _ _ ++ sdFrom W l (i + 1) d).Nodup
    rw [List.nodup_append]
    refine ⟨nodup_sdAt _ _ _ _, nodup_sdFrom hinc d (i + 1) (by omega), fun s hs t ht e => ?_⟩
    subst e
    obtain ⟨j, h1, h2, h3⟩ := (mem_sdFrom d (i + 1)).1 ht
    obtain ⟨_, x1, y1, _⟩ := mem_sdAt.1 hs
    obtain ⟨_, x2, y2, _⟩ := mem_sdAt.1 h3
    have c1 := (cell_code a1 h0 (j := i) (by omega)).2.2.2
    have c2 := (cell_code a1 h0 (j := j) (by omega)).2.2.2
    rw [← x1, ← y1] at c1
    rw [← x2, ← y2] at c2
    exact hinc i j (by omega) (by omega) (c1.symm.trans c2)
end
theorem rising_lt {l : List Int} (h : rising l = true) : ∀ j i, i < j → j < l.length → l.getD i 0 < l.getD j 0 := by
  unfold rising at h
  rw [rall_iff] at h
  intro j
  induction j with
  | zero => intro i hi; omega
  | succ j ih =>
    intro i hi hj
    have h1 := of_decide_eq_true (h j (Nat.zero_le _) (by omega))
    by_cases e : i = j
    · subst e; exact h1
    · have := ih i (by omega) (by omega); omega
def z0Sd : Sd := ⟨0, 0, 0⟩
theorem rd_map {L : List Sd} {i : Nat} (h : i < L.length) : rd_T64 (L.map toR) (i : Int) = toR (L.getD i z0Sd) := by
  unfold rd_T64
  rw [Int.toNat_natCast, getD_eq_get _ (by rw [List.length_map]; exact h), List.getElem_map, getD_eq_get _ h]
theorem rd_mapP {W : Int} {L : List Sd} {i : Nat} (h : i < L.length) : rd_T54 (L.map (toP W)) (i : Int) = toP W (L.getD i z0Sd) := by
  unfold rd_T54
  rw [Int.toNat_natCast, getD_eq_get _ (by rw [List.length_map]; exact h), List.getElem_map, getD_eq_get _ h]
theorem drop_step {L : List Sd} {i : Nat} (h : i < L.length) : L.drop i = L.getD i z0Sd :: L.drop (i + 1) := by
  rw [getD_eq_get _ h]
  exact List.drop_eq_getElem_cons h
theorem cell_next {a s : Sd} (ha : a.w < 4) (hs : s.w < 4) (hx : s.x = endX a) (hy : s.y = endY a) : (cellX s = cellX a ∧ cellY s = cellY a) ↔ s.w = (a.w + 1) % 4 := by
  obtain ⟨x, y, w⟩ := a
  obtain ⟨x', y', w'⟩ := s
  simp only at ha hs hx hy
  subst hx; subst hy
  rcases four ha with rfl | rfl | rfl | rfl <;> rcases four hs with rfl | rfl | rfl | rfl <;> simp [cellX, cellY, endX, endY] <;> omega
theorem num_inj {W x y x' y' : Int} (h0 : 0 ≤ x) (h1 : x < W) (h2 : 0 ≤ x') (h3 : x' < W) (e : y * W + x = y' * W + x') : x = x' ∧ y = y' := by
  have e1 : (y * W + x) % W = x := by rw [Int.add_comm, Int.add_mul_emod_self_right, Int.emod_eq_of_lt h0 h1]
  have e2 : (y' * W + x') % W = x' := by rw [Int.add_comm, Int.add_mul_emod_self_right, Int.emod_eq_of_lt h2 h3]
  have ex : x = x' := by rw [← e1, ← e2, e]
  refine ⟨ex, ?_⟩
  subst ex
  have hw : W ≠ 0 := by omega
  exact Int.eq_of_mul_eq_mul_right hw (by omega)
theorem inR_cell {W : Int} {l : List Int} {x y : Int} (h : inR W l x y = true) : 0 ≤ x ∧ x < W := by
  unfold inR at h
  simp only [Bool.and_eq_true, decide_eq_true_eq] at h
  exact ⟨h.1, h.2.1⟩
theorem tmod_four (n : Nat) : Int.tmod ((n : Int) + 1) 4 = (((n + 1) % 4 : Nat) : Int) := by
  rw [Int.tmod_eq_emod_of_nonneg (by omega)]
  omega
section
variable {W : Int} {l : List Int} {L : List Sd} (hL : ∀ s, s ∈ L ↔ IsSd (inR W l) s) (hb : ∀ s ∈ L, -100 ≤ s.x ∧ s.x ≤ 100 ∧ -100 ≤ s.y ∧ s.y ≤ 100) (hn : L.Nodup) (hl : L.length ≤ 4194304)
include hL hb hl
theorem getD_mem {i : Nat} (h : i < L.length) : L.getD i z0Sd ∈ L := by
  rw [getD_eq_get _ h]
  exact List.getElem_mem h
theorem next_spec (a : Nat) (ha : a < L.length) (ex ey : Int) (w1 : Nat) (hw : Aside0 (Int.tmod (wrap64 (((L.getD a z0Sd).w : Int) + 1)) 4 = (w1 : Int))) : ∀ (d i : Nat) (best : Int), i + d = L.length → Ev (fun k => spec_l8Next.l0 k (L.map toR) (a : Int) best (i : Int) ex ey) (pick ex ey w1 best i (L.drop i))
  | 0, i, best, h0 => by
    rw [List.drop_of_length_le (by omega)]
    exact ev_step (fun k => spec_l8Next.l0.eq_2 _ _ _ _ _ _ k) (ev_ifn (by rw [List.length_map]; omega) (ev_some _))
  | d + 1, i, best, h0 => by
    have hi : i < L.length := by omega
    have e3 := Aside0.mk (show wrap64 ((i : Int) + 1) = ((i + 1 : Nat) : Int) by rw [w64 (by omega) (by omega)]; rfl)
    have ih := next_spec a ha ex ey w1 hw d (i + 1)
    have hlen : (L.map toR).length = L.length := List.length_map ..
    rw [drop_step hi]
    unfold pick
    generalize hs : L.getD i z0Sd = s at *
    refine ev_step (fun k => spec_l8Next.l0.eq_2 _ _ _ _ _ _ k) (ev_ifp (by rw [hlen]; omega) (ev_ifp (by omega) ?_))
    rw [rd_map hi, hs]
    by_cases hx : s.x = ex
    · by_cases hy : s.y = ey
      · refine ev_ifp hx (ev_step (fun k => spec_l8Next.j1.eq_2 _ _ _ _ _ _ _ k) (ev_ifn (by simp [toR, hy]) ?_))
        rw [e3.out]
        by_cases hb0 : best < 0
        · rw [if_pos ⟨⟨hx, hy⟩, .inl hb0⟩]
          exact ev_ifp hb0 (ih _ (by omega))
        · refine ev_ifn hb0 (ev_ifp (by omega) (ev_ifp (by rw [hlen]; omega) (ev_ifp (by omega) (ev_ifp (by rw [hlen]; omega) ?_))))
          rw [rd_map hi, rd_map ha, hs]
          rw [show Int.tmod (wrap64 ((toR (L.getD a z0Sd)).f2 + 1)) 4 = (w1 : Int) from hw.out]
          by_cases hww : s.w = w1
          · rw [if_pos ⟨⟨hx, hy⟩, .inr hww⟩]
            exact ev_ifp (show (s.w : Int) = (w1 : Int) by rw [hww]) (ih _ (by omega))
          · rw [if_neg (fun h => h.2.elim hb0 hww)]
            exact ev_ifn (show ¬ (s.w : Int) = (w1 : Int) by omega) (ih _ (by omega))
      · rw [if_neg (fun h => hy h.1.2)]
        refine ev_ifp hx (ev_step (fun k => spec_l8Next.j1.eq_2 _ _ _ _ _ _ _ k) (ev_ifp (by simp [toR, hy]) ?_))
        rw [e3.out]
        exact ih _ (by omega)
    · rw [if_neg (fun h => hx h.1.1)]
      refine ev_ifn hx (ev_step (fun k => spec_l8Next.j1.eq_2 _ _ _ _ _ _ _ k) (ev_ifp rfl ?_))
      rw [e3.out]
      exact ih _ (by omega)
theorem next_impl (a : Nat) (ha : a < L.length) : ∀ (d i : Nat) (best : Int), i + d = L.length → Ev (fun k => impl_sideBehind.l0 k (L.map (toP W)) (a : Int) best (L.map (toP W)) (L.length : Int) (i : Int)) (pick (endX (L.getD a z0Sd)) (endY (L.getD a z0Sd)) (((L.getD a z0Sd).w + 1) % 4) best i (L.drop i))
  | 0, i, best, h0 => by
    rw [List.drop_of_length_le (by omega)]
    exact ev_step (fun k => impl_sideBehind.l0.eq_2 _ _ _ _ _ _ k) (ev_ifn (by omega) (ev_some _))
  | d + 1, i, best, h0 => by
    have hi : i < L.length := by omega
    have e3 := Aside0.mk (show wrap64 ((i : Int) + 1) = ((i + 1 : Nat) : Int) by rw [w64 (by omega) (by omega)]; rfl)
    have ih := next_impl a ha d (i + 1)
    have hlen : (L.map (toP W)).length = L.length := List.length_map ..
    rw [drop_step hi]
    unfold pick
    have hsd := (isSd_iff).1 ((hL _).1 (getD_mem (L := L) hL hb hl hi))
    have had := (isSd_iff).1 ((hL _).1 (getD_mem (L := L) hL hb hl ha))
    generalize hs : L.getD i z0Sd = s at *
    generalize hsa : L.getD a z0Sd = t at *
    refine ev_step (fun k => impl_sideBehind.l0.eq_2 _ _ _ _ _ _ k) (ev_ifp (by omega) (ev_ifp (by omega) (ev_ifp (by rw [hlen]; omega) (ev_ifp (by omega) (ev_ifp (by rw [hlen]; omega) ?_)))))
    rw [rd_mapP hi, rd_mapP ha, hs, hsa, e3.out]
    by_cases hxy : s.x = endX t ∧ s.y = endY t
    · refine ev_ifp (by simp [toP, hxy.1, hxy.2]) ?_
      by_cases hb0 : best < 0
      · rw [if_pos ⟨hxy, .inl hb0⟩]
        exact ev_ifp hb0 (ih _ (by omega))
      · refine ev_ifn hb0 ?_
        have key := cell_next had.1 hsd.1 hxy.1 hxy.2
        have c1 := inR_cell hsd.2.1
        have c2 := inR_cell had.2.1
        by_cases hww : s.w = (t.w + 1) % 4
        · rw [if_pos ⟨hxy, .inr hww⟩]
          have h5 := key.2 hww
          exact ev_ifp (show cellY s * W + cellX s = cellY t * W + cellX t by rw [h5.1, h5.2]) (ih _ (by omega))
        · rw [if_neg (fun h => h.2.elim hb0 hww)]
          refine ev_ifn (show ¬ cellY s * W + cellX s = cellY t * W + cellX t from fun e => ?_) (ih _ (by omega))
          obtain ⟨q1, q2⟩ := num_inj c1.1 c1.2 c2.1 c2.2 e
          exact hww (key.1 ⟨q1, q2⟩)
    · rw [if_neg (fun h => hxy h.1)]
      refine ev_ifn (fun h => hxy ?_) (ih _ (by omega))
      rw [Bool.and_eq_true, beq_iff_eq, beq_iff_eq] at h
      exact h
def nxI (W : Int) (l : List Int) (L : List Sd) (a : Nat) : Nat := L.idxOf (nextS (inR W l) (L.getD a z0Sd))
include hn
theorem nxI_lt {a : Nat} (ha : a < L.length) : nxI W l L a < L.length :=
  List.idxOf_lt_length_iff.2 (pick_next hL hn ((hL _).1 (getD_mem (L := L) hL hb hl ha))).2
theorem nxI_get {a : Nat} (ha : a < L.length) : L.getD (nxI W l L a) z0Sd = nextS (inR W l) (L.getD a z0Sd) := by
  rw [getD_eq_get _ (nxI_lt (L := L) hL hb hn hl ha)]
  exact List.getElem_idxOf _
theorem nxI_inj {a b : Nat} (ha : a < L.length) (hb2 : b < L.length) (e : nxI W l L a = nxI W l L b) : a = b := by
  have h1 := nxI_get (L := L) hL hb hn hl ha
  have h2 := nxI_get (L := L) hL hb hn hl hb2
  rw [e] at h1
  have h3 := next_inj ((hL _).1 (getD_mem (L := L) hL hb hl ha)) ((hL _).1 (getD_mem (L := L) hL hb hl hb2)) (h1.symm.trans h2)
  rw [getD_eq_get _ ha, getD_eq_get _ hb2] at h3
  exact (List.getElem_inj hn).1 h3
theorem l8Next_ev {a : Nat} (ha : a < L.length) : Ev (fun k => spec_l8Next.f k (L.map toR) (a : Int)) ((nxI W l L a : Nat) : Int) := by
  have hm := getD_mem (L := L) hL hb hl ha
  have hs := (hL _).1 hm
  have h4 := hs.1
  have hbd := hb _ hm
  have hp := (pick_next hL hn hs).1
  have hlen : (L.map toR).length = L.length := List.length_map ..
  unfold spec_l8Next.f
  refine ev_ifp (by omega) (ev_ifp (by rw [hlen]; omega) ?_)
  rw [rd_map ha]
  have hend : spec_l8End.f (toR (L.getD a z0Sd)).f0 (toR (L.getD a z0Sd)).f1 (toR (L.getD a z0Sd)).f2 = some (endX (L.getD a z0Sd), endY (L.getD a z0Sd)) := by
    generalize L.getD a z0Sd = s at *
    obtain ⟨x, y, w⟩ := s
    simp only at h4 hbd
    unfold spec_l8End.f toR endX endY
    simp only
    rcases four h4 with rfl | rfl | rfl | rfl
    · simp [w64 (x := x + 1) (by omega) (by omega)]
    · simp [w64 (x := y + 1) (by omega) (by omega)]
    · simp [w64 (x := x - 1) (by omega) (by omega)]
    · simp [w64 (x := y - 1) (by omega) (by omega)]
  refine ev_bind (ev_const hend) ?_
  have hw : Aside0 (Int.tmod (wrap64 (((L.getD a z0Sd).w : Int) + 1)) 4 = ((((L.getD a z0Sd).w + 1) % 4 : Nat) : Int)) := ⟨by
    rw [w64 (by omega) (by omega)]
    exact tmod_four _⟩
  have h := next_spec (L := L) hL hb hl a ha (endX (L.getD a z0Sd)) (endY (L.getD a z0Sd)) _ hw L.length 0 (-1) (by omega)
  rw [List.drop_zero, hp] at h
  exact h
theorem sideBehind_ev {a : Nat} (ha : a < L.length) : Ev (fun k => impl_sideBehind.f k (L.map (toP W)) (a : Int)) ((nxI W l L a : Nat) : Int) := by
  have hs := (hL _).1 (getD_mem (L := L) hL hb hl ha)
  have hp := (pick_next hL hn hs).1
  unfold impl_sideBehind.f
  rw [List.length_map]
  have h := next_impl (L := L) hL hb hl a ha L.length 0 (-1) (by omega)
  rw [List.drop_zero, hp] at h
  exact h
end
end Go.Proofs.Ytnbpcacnbfbjkaa.Pure
namespace Go.Proofs.Ytnbpcacnbfbjkaa.Pure
set_option linter.unusedVariables false
set_option linter.unusedSimpArgs false
set_option linter.unusedSectionVars false
theorem nodup_len {α : Type} [DecidableEq α] : ∀ {g l : List α}, g.Nodup → (∀ c ∈ g, c ∈ l) → g.length ≤ l.length
  | [], _, _, _ => Nat.zero_le _
  | x :: g, l, hn, hs => by
    rw [List.nodup_cons] at hn
    have hx := hs x (List.mem_cons_self ..)
    have h1 := nodup_len (l := l.erase x) hn.2 (fun c hc => (List.mem_erase_of_ne (by rintro rfl; exact hn.1 hc)).2 (hs c (List.mem_cons_of_mem _ hc)))
    rw [List.length_erase_of_mem hx] at h1
    have h2 := List.length_pos_of_mem hx
    rw [List.length_cons]
    omega
def itN (nx : Nat → Nat) : Nat → Nat → Nat
  | 0, s => s
  | j + 1, s => nx (itN nx j s)
structure Orb (nx : Nat → Nat) (n s : Nat) (u0 : List Bool) (j : Nat) (u : List Bool) : Prop where
  len : u.length = n
  lt : ∀ i, i ≤ j → itN nx i s < n
  dist : ∀ i i', i < j → i' < j → itN nx i s = itN nx i' s → i = i'
  fresh : ∀ i, i < j → u0.getD (itN nx i s) false = false
  used : ∀ x, u.getD x false = true ↔ u0.getD x false = true ∨ ∃ i, i < j ∧ itN nx i s = x
def ClosedU (nx : Nat → Nat) (n : Nat) (u : List Bool) : Prop := ∀ x, x < n → u.getD (nx x) false = true → u.getD x false = true
section
variable {nx : Nat → Nat} {n s : Nat} {u0 : List Bool} (hlt : ∀ x, x < n → nx x < n) (inj : ∀ x y, x < n → y < n → nx x = nx y → x = y) (hs : s < n) (h0 : u0.getD s false = false) (hc : ClosedU nx n u0)
include hlt inj hs h0 hc
theorem Orb.stop {j : Nat} {u : List Bool} (h : Orb nx n s u0 j u) (hu : u.getD (itN nx j s) false = true) : 0 < j ∧ itN nx j s = s := by
  rcases (h.used _).1 hu with h1 | ⟨i, hi, e⟩
  · cases j with
    | zero => rw [show itN nx 0 s = s from rfl, h0] at h1; cases h1
    | succ j =>
      have h2 := hc _ (h.lt j (by omega)) h1
      rw [h.fresh j (by omega)] at h2
      cases h2
  · refine ⟨by omega, ?_⟩
    cases i with
    | zero => exact e.symm
    | succ i =>
      cases j with
      | zero => omega
      | succ j =>
        have e2 := inj _ _ (h.lt i (by omega)) (h.lt j (by omega)) e
        have := h.dist i j (by omega) (by omega) e2
        omega
theorem Orb.step {j : Nat} {u : List Bool} (h : Orb nx n s u0 j u) (hu : ¬ u.getD (itN nx j s) false = true) : Orb nx n s u0 (j + 1) (u.set (itN nx j s) true) := by
  have hj := h.lt j (Nat.le_refl _)
  have hno : ∀ i, i < j → itN nx i s ≠ itN nx j s := fun i hi e => hu ((h.used _).2 (.inr ⟨i, hi, e⟩))
  refine ⟨by rw [List.length_set]; exact h.len, fun i hi => ?_, fun i i' hi hi' e => ?_, fun i hi => ?_, fun x => ?_⟩
  · by_cases e : i ≤ j
    · exact h.lt i e
    · obtain rfl : i = j + 1 := by omega
      exact hlt _ hj
  · by_cases e1 : i < j
    · by_cases e2 : i' < j
      · exact h.dist i i' e1 e2 e
      · obtain rfl : i' = j := by omega
        exact absurd e (hno i e1)
    · obtain rfl : i = j := by omega
      by_cases e2 : i' < i
      · exact absurd e.symm (hno i' e2)
      · omega
  · by_cases e1 : i < j
    · exact h.fresh i e1
    · obtain rfl : i = j := by omega
      cases e2 : u0.getD (itN nx i s) false with
      | false => rfl
      | true => exact absurd ((h.used _).2 (.inl e2)) hu
  · by_cases e : x = itN nx j s
    · subst e
      rw [List.getD_eq_getElem?_getD, List.getElem?_set_self (by rw [h.len]; exact hj)]
      exact ⟨fun _ => .inr ⟨j, by omega, rfl⟩, fun _ => rfl⟩
    · rw [List.getD_eq_getElem?_getD, List.getElem?_set_ne (fun e2 => e e2.symm), ← List.getD_eq_getElem?_getD, h.used]
      constructor
      · rintro (h1 | ⟨i, hi, e1⟩)
        · exact .inl h1
        · exact .inr ⟨i, by omega, e1⟩
      · rintro (h1 | ⟨i, hi, e1⟩)
        · exact .inl h1
        · by_cases e2 : i < j
          · exact .inr ⟨i, e2, e1⟩
          · obtain rfl : i = j := by omega
            exact absurd e1.symm e
theorem Orb.le {j : Nat} {u : List Bool} (h : Orb nx n s u0 j u) : j ≤ n := by
  have hn : ((List.range j).map (fun i => itN nx i s)).Nodup := by
    rw [List.Nodup, List.pairwise_map]
    refine List.Pairwise.imp_of_mem ?_ (List.pairwise_lt_range (n := j))
    intro a b ha hb hab e
    have := h.dist a b (List.mem_range.1 ha) (List.mem_range.1 hb) e
    omega
  have hsub : ∀ x ∈ (List.range j).map (fun i => itN nx i s), x ∈ List.range n := fun x hx => by
    obtain ⟨i, hi, rfl⟩ := List.mem_map.1 hx
    exact List.mem_range.2 (h.lt i (by have := List.mem_range.1 hi; omega))
  have := nodup_len hn hsub
  simpa using this
theorem Orb.closed {m : Nat} {u : List Bool} (h : Orb nx n s u0 m u) (hm : 0 < m) (he : itN nx m s = s) : ClosedU nx n u := by
  intro x hx hu
  rw [h.used] at hu ⊢
  rcases hu with h1 | ⟨i, hi, e⟩
  · exact .inl (hc x hx h1)
  · right
    cases i with
    | zero =>
      refine ⟨m - 1, by omega, inj _ _ (h.lt (m - 1) (by omega)) hx ?_⟩
      rw [← e]
      show nx (itN nx (m - 1) s) = s
      have : itN nx (m - 1 + 1) s = s := by rw [show m - 1 + 1 = m by omega]; exact he
      exact this
    | succ i => exact ⟨i, by omega, inj _ _ (h.lt i (by omega)) hx e⟩
end
def usedN (nx : Nat → Nat) (s : Nat) (u0 : List Bool) : Nat → List Bool
  | 0 => u0
  | j + 1 => (usedN nx s u0 j).set (itN nx j s) true
section
variable {nx : Nat → Nat} {n s : Nat} {u0 : List Bool} (hlt : ∀ x, x < n → nx x < n) (inj : ∀ x y, x < n → y < n → nx x = nx y → x = y) (hs : s < n) (h0 : u0.getD s false = false) (hc : ClosedU nx n u0)
include hlt inj hs h0 hc
theorem orbit_steps : ∀ (k j : Nat), Orb nx n s u0 j (usedN nx s u0 j) → (∀ i, i < j → (usedN nx s u0 i).getD (itN nx i s) false = false) → n < k + j →
    ∃ m, 0 < m ∧ itN nx m s = s ∧ (∀ i, i < m → (usedN nx s u0 i).getD (itN nx i s) false = false) ∧ (usedN nx s u0 m).getD (itN nx m s) false = true ∧ Orb nx n s u0 m (usedN nx s u0 m)
  | 0, j, h, _, hk => by have := h.le hlt inj hs h0 hc; omega
  | k + 1, j, h, hno, hk => by
    by_cases hu : (usedN nx s u0 j).getD (itN nx j s) false = true
    · obtain ⟨h1, h2⟩ := h.stop hlt inj hs h0 hc hu
      exact ⟨j, h1, h2, hno, hu, h⟩
    · refine orbit_steps k (j + 1) (h.step hlt inj hs h0 hc hu) (fun i hi => ?_) (by omega)
      by_cases e : i = j
      · subst e; exact Bool.eq_false_iff.2 hu
      · exact hno i (by omega)
theorem orb_zero (hl : u0.length = n) : Orb nx n s u0 0 (usedN nx s u0 0) :=
  ⟨hl, fun i hi => by obtain rfl : i = 0 := by omega
                      exact hs, fun i i' h => by omega, fun i h => by omega, fun x => ⟨fun h => .inl h, fun h => h.elim id (fun ⟨i, hi, _⟩ => by omega)⟩⟩
theorem orbit_all (hl : u0.length = n) : ∃ m, 0 < m ∧ m ≤ n ∧ itN nx m s = s ∧ (∀ i, i < m → (usedN nx s u0 i).getD (itN nx i s) false = false) ∧ (usedN nx s u0 m).getD (itN nx m s) false = true ∧ Orb nx n s u0 m (usedN nx s u0 m) ∧ ClosedU nx n (usedN nx s u0 m) := by
  obtain ⟨m, a1, a2, a3, a4, a5⟩ := orbit_steps hlt inj hs h0 hc (n + 1) 0 (orb_zero hlt inj hs h0 hc hl) (fun i hi => by omega) (by omega)
  exact ⟨m, a1, a5.le hlt inj hs h0 hc, a2, a3, a4, a5, a5.closed hlt inj hs h0 hc a1 a2⟩
end
theorem usedN_len (nx : Nat → Nat) (s : Nat) (u0 : List Bool) : ∀ j, (usedN nx s u0 j).length = u0.length
  | 0 => rfl
  | j + 1 => by
    show ((usedN nx s u0 j).set _ _).length = _
    rw [List.length_set, usedN_len nx s u0 j]
end Go.Proofs.Ytnbpcacnbfbjkaa.Pure
namespace Go.Proofs.Ytnbpcacnbfbjkaa.Pure
set_option linter.unusedVariables false
set_option linter.unusedSimpArgs false
set_option linter.unusedSectionVars false
open Go.RowKit Go.Proofs.Ytnbpcacnbfbjkaa.P Go.Proofs.YtnbpcacnbfbjkaaW.PrintWords Go.Proofs.YtnbpcacnbfbjkaaW.PrintLast
def cR (s t : Sd) : List S48 := if t.w = s.w then [] else [⟨t.x, t.y⟩]
def corF (g : Nat → Sd) : Nat → Nat → List S48
  | _, 0 => []
  | i, d + 1 => cR (g i) (g (i + 1)) ++ corF g (i + 1) d
theorem corF_snoc (g : Nat → Sd) : ∀ (d i : Nat), corF g i (d + 1) = corF g i d ++ cR (g (i + d)) (g (i + d + 1))
  | 0, i => by
    show cR _ _ ++ [] = [] ++ _
    rw [List.append_nil, List.nil_append]
    rfl
  | d + 1, i => by
    show cR _ _ ++ corF g (i + 1) (d + 1) = (cR _ _ ++ corF g (i + 1) d) ++ _
    rw [corF_snoc g d (i + 1), List.append_assoc, show i + 1 + d = i + (d + 1) by omega]
theorem cR_len (s t : Sd) : (cR s t).length ≤ 1 := by unfold cR; split <;> simp
theorem corF_len (g : Nat → Sd) : ∀ (d i : Nat), (corF g i d).length ≤ d
  | 0, i => Nat.zero_le _
  | d + 1, i => by
    show (cR _ _ ++ corF g (i + 1) d).length ≤ _
    have := cR_len (g i) (g (i + 1))
    have := corF_len g d (i + 1)
    rw [List.length_append]
    omega
section
variable {W : Int} {l : List Int} {L : List Sd} (hL : ∀ s, s ∈ L ↔ IsSd (inR W l) s) (hb : ∀ s ∈ L, -100 ≤ s.x ∧ s.x ≤ 100 ∧ -100 ≤ s.y ∧ s.y ≤ 100) (hn : L.Nodup) (hl : L.length ≤ 4194304)
include hL hb hn hl
theorem loop_walk {s m : Nat} {u0 : List Bool} (hlt : ∀ i, i ≤ m → itN (nxI W l L) i s < L.length) (hul : u0.length = L.length)
    (hno : ∀ i, i < m → (usedN (nxI W l L) s u0 i).getD (itN (nxI W l L) i s) false = false) (hyes : (usedN (nxI W l L) s u0 m).getD (itN (nxI W l L) m s) false = true) (hm : m ≤ L.length) (r : List S48 × List Bool)
    (hend : ∀ C, C = corF (fun i => L.getD (itN (nxI W l L) i s) z0Sd) 0 m → Ev (fun k => spec_l8Loop.l1 k (usedN (nxI W l L) s u0 m) C 0 1) r) :
    ∀ (d j : Nat), j + d = m → Ev (fun k => spec_l8Loop.l0 k (L.map toR) (usedN (nxI W l L) s u0 j) (corF (fun i => L.getD (itN (nxI W l L) i s) z0Sd) 0 j) ((itN (nxI W l L) j s : Nat) : Int)) r
  | 0, j, hj => by
    obtain rfl : j = m := by omega
    have h1 := hlt j (Nat.le_refl _)
    have h2 := usedN_len (nxI W l L) s u0 j
    have hr : rdOf false (usedN (nxI W l L) s u0 j) ((itN (nxI W l L) j s : Nat) : Int) = true := by
      unfold rdOf
      rw [Int.toNat_natCast]
      exact hyes
    exact ev_step (fun k => spec_l8Loop.l0.eq_2 _ _ _ _ k) (ev_ifp (by omega) (ev_ifp (by omega) (ev_ifp hr (hend _ rfl))))
  | d + 1, j, hj => by
    have h1 := hlt j (by omega)
    have h2 := usedN_len (nxI W l L) s u0 j
    have h3 := hlt (j + 1) (by omega)
    have hr : rdOf false (usedN (nxI W l L) s u0 j) ((itN (nxI W l L) j s : Nat) : Int) = false := by
      unfold rdOf
      rw [Int.toNat_natCast]
      exact hno j (by omega)
    have ih := loop_walk hlt hul hno hyes hm r hend d (j + 1) (by omega)
    rw [corF_snoc, Nat.zero_add] at ih
    have hcl := corF_len (fun i => L.getD (itN (nxI W l L) i s) z0Sd) j 0
    have hlen : (L.map toR).length = L.length := List.length_map ..
    have en : itN (nxI W l L) (j + 1) s = nxI W l L (itN (nxI W l L) j s) := rfl
    refine ev_step (fun k => spec_l8Loop.l0.eq_2 _ _ _ _ k) (ev_ifp (by omega) (ev_ifp (by omega) (ev_ifn (by rw [hr]; simp) (ev_bind (ev_some _) (ev_bind (l8Next_ev (L := L) hL hb hn hl h1) ?_)))))
    rw [← en]
    refine ev_ifp (by omega) (ev_ifp (by rw [hlen]; omega) (ev_ifp (by rw [hlen]; omega) ?_))
    rw [rd_map h3, rd_map h1, Int.toNat_natCast]
    have ih2 : Ev (fun k => spec_l8Loop.l0 k (L.map toR) ((usedN (nxI W l L) s u0 j).set (itN (nxI W l L) j s) true) (corF (fun i => L.getD (itN (nxI W l L) i s) z0Sd) 0 j ++ cR (L.getD (itN (nxI W l L) j s) z0Sd) (L.getD (itN (nxI W l L) (j + 1) s) z0Sd)) ((itN (nxI W l L) (j + 1) s : Nat) : Int)) r := ih
    unfold cR at ih2
    by_cases hw : (L.getD (itN (nxI W l L) (j + 1) s) z0Sd).w = (L.getD (itN (nxI W l L) j s) z0Sd).w
    · rw [if_pos hw, List.append_nil] at ih2
      exact ev_ifp (show ((L.getD (itN (nxI W l L) (j + 1) s) z0Sd).w : Int) = ((L.getD (itN (nxI W l L) j s) z0Sd).w : Int) by rw [hw]) ih2
    · rw [if_neg hw] at ih2
      exact ev_ifn (show ¬ ((L.getD (itN (nxI W l L) (j + 1) s) z0Sd).w : Int) = ((L.getD (itN (nxI W l L) j s) z0Sd).w : Int) by omega) (ev_ifp (by omega) ih2)
end
end Go.Proofs.Ytnbpcacnbfbjkaa.Pure
namespace Go.Proofs.Ytnbpcacnbfbjkaa.Pure
set_option linter.unusedVariables false
set_option linter.unusedSimpArgs false
set_option linter.unusedSectionVars false
section
variable {α : Type} (c : α → α → Int)
end
section
variable {σ π : Type} (p : σ → π) (w : σ → Nat)
end
section
variable {π : Type} (le : π → π → Bool)
def turnTo [DecidableEq π] (m : π) (l : List π) : List π := l.drop (l.idxOf m) ++ l.take (l.idxOf m)
theorem turnTo_app [DecidableEq π] {m : π} : ∀ {xs ys : List π}, m ∉ xs → turnTo m (xs ++ m :: ys) = m :: ys ++ xs := by
  intro xs ys h
  unfold turnTo
  have e : (xs ++ m :: ys).idxOf m = xs.length := by
    rw [List.idxOf_append, if_neg h, List.idxOf_cons_self]
    omega
  rw [e, List.drop_left', List.take_left']
  · rfl
  · rfl
theorem split_first [DecidableEq π] {m : π} : ∀ {l : List π}, m ∈ l → ∃ a b, l = a ++ m :: b ∧ m ∉ a
  | x :: l, h => by
    by_cases e : x = m
    · exact ⟨[], l, by rw [e]; rfl, by simp⟩
    · obtain ⟨a, b, e1, e2⟩ := split_first (List.mem_of_ne_of_mem (fun e2 => e e2.symm) h)
      exact ⟨x :: a, b, by rw [e1]; rfl, by simp only [List.mem_cons, not_or]; exact ⟨fun e3 => e e3.symm, e2⟩⟩
theorem turnTo_turn [DecidableEq π] {m : π} {xs ys : List π} (h : m ∈ xs ++ ys) (h1 : (xs ++ ys).count m ≤ 1) : turnTo m (xs ++ ys) = turnTo m (ys ++ xs) := by
  have key : ∀ {xs ys : List π}, m ∈ xs → (xs ++ ys).count m ≤ 1 → turnTo m (xs ++ ys) = turnTo m (ys ++ xs) := by
    intro xs ys hm h1
    obtain ⟨a, b, rfl, ha⟩ := split_first hm
    have hy : m ∉ ys := fun hy => by
      have := List.count_pos_iff.2 hy
      rw [List.count_append, List.count_append, List.count_cons_self] at h1
      omega
    have e1 : (a ++ m :: b) ++ ys = a ++ m :: (b ++ ys) := by simp
    have e2 : ys ++ (a ++ m :: b) = (ys ++ a) ++ m :: b := by simp
    rw [e1, e2, turnTo_app ha, turnTo_app (by rw [List.mem_append]; exact fun h => h.elim hy ha)]
    simp
  rcases List.mem_append.1 h with hm | hm
  · exact key hm h1
  · exact (key hm (by rw [List.count_append] at h1 ⊢; omega)).symm
end
end Go.Proofs.Ytnbpcacnbfbjkaa.Pure
namespace Go.Proofs.Ytnbpcacnbfbjkaa.Pure
set_option linter.unusedVariables false
set_option linter.unusedSimpArgs false
set_option linter.unusedSectionVars false
open Go.RowKit Go.Proofs.Ytnbpcacnbfbjkaa.P Go.Proofs.YtnbpcacnbfbjkaaW.PrintWords Go.Proofs.YtnbpcacnbfbjkaaW.PrintLast
instance decPt : DecidableEq S48 := fun a b => decidable_of_iff (a.f0 = b.f0 ∧ a.f1 = b.f1) ⟨fun h => by cases a; cases b; simp only at h; rw [h.1, h.2], fun h => by rw [h]; exact ⟨rfl, rfl⟩⟩
def zPt : S48 := ⟨0, 0⟩
def bef (p q : S48) : Bool := decide (p.f1 < q.f1 ∨ (p.f1 = q.f1 ∧ p.f0 < q.f0))
theorem bef_iff {p q : S48} : bef p q = true ↔ p.f1 < q.f1 ∨ (p.f1 = q.f1 ∧ p.f0 < q.f0) := decide_eq_true_iff
theorem bef_irr (p : S48) : bef p p = false := by unfold bef; exact decide_eq_false (by omega)
theorem before_is (p q : S48) : spec_l8Before.f p.f0 p.f1 q.f0 q.f1 = some (bef p q) := by
  unfold spec_l8Before.f bef
  by_cases h1 : p.f1 < q.f1
  · rw [if_pos h1, decide_eq_true (.inl h1)]
  · rw [if_neg h1]
    by_cases h2 : p.f1 = q.f1
    · rw [if_pos h2]
      congr 1
      exact decide_eq_decide.2 ⟨fun h => .inr ⟨h2, h⟩, fun h => h.elim (fun h => absurd h h1) (fun h => h.2)⟩
    · rw [if_neg h2, decide_eq_false (fun h => h.elim h1 (fun h => h2 h.1))]
def sgn (a b : Int) : Int := if a < b then -1 else if a > b then 1 else 0
theorem compare_is (a b : Int) : cmp_Compare_int.f a b = some (sgn a b) := by
  unfold cmp_Compare_int.f cmp_isNaN_int.f sgn
  simp only [Option.bind_some, bne_self_eq_false, Bool.false_eq_true, if_false]
  by_cases h1 : a < b
  · rw [if_pos h1, if_pos h1]
  · rw [if_neg h1, if_neg h1]
    by_cases h2 : a > b
    · rw [if_pos h2, if_pos h2]
    · rw [if_neg h2, if_neg h2]
theorem or_ev (a b : Int) : Ev (fun k => cmp_Or_int.f k [a, b]) (if a ≠ 0 then a else b) := by
  have e1 : wrap64 (0 + 1) = 1 := by unfold wrap64; omega
  have e2 : wrap64 (1 + 1) = 2 := by unfold wrap64; omega
  have r0 : rd [a, b] 0 = a := rfl
  have r1 : rd [a, b] 1 = b := rfl
  have hl : (([a, b] : List Int).length : Int) = 2 := rfl
  unfold cmp_Or_int.f
  refine ⟨4, fun n hn => ?_⟩
  obtain ⟨k, rfl⟩ : ∃ k, n = k + 4 := ⟨n - 4, by omega⟩
  simp only [cmp_Or_int.l0, hl, e1, e2, r0, r1]
  by_cases h0 : a = 0
  · by_cases h1 : b = 0
    · simp [h0, h1]
    · simp [h0, h1]
  · simp [h0]
theorem comparePoints_ev (p q : S48) : ∃ t, Ev (fun k => impl_comparePoints.f k p.f0 p.f1 q.f0 q.f1) t ∧ (t < 0 ↔ bef p q = true) := by
  refine ⟨if sgn p.f1 q.f1 ≠ 0 then sgn p.f1 q.f1 else sgn p.f0 q.f0, ?_, ?_⟩
  · unfold impl_comparePoints.f
    exact ev_bind (ev_const (compare_is _ _)) (ev_bind (ev_const (compare_is _ _)) (ev_bind (or_ev _ _) (ev_some _)))
  · rw [bef_iff]
    unfold sgn
    split <;> split <;> (try split) <;> (try split) <;> omega
def amF (c : List S48) : Nat → Nat → Nat → Nat
  | f, _, 0 => f
  | f, i, d + 1 => amF c (if bef (c.getD i zPt) (c.getD f zPt) = true then i else f) (i + 1) d
theorem amF_succ (c : List S48) (f i d : Nat) : amF c f i (d + 1) = amF c (if bef (c.getD i zPt) (c.getD f zPt) = true then i else f) (i + 1) d := rfl
theorem amF_spec (c : List S48) : ∀ (d f i : Nat), f < i → (∀ j, j < i → bef (c.getD j zPt) (c.getD f zPt) = false) → (∀ j, j < f → bef (c.getD f zPt) (c.getD j zPt) = true) →
    amF c f i d < i + d ∧ (∀ j, j < i + d → bef (c.getD j zPt) (c.getD (amF c f i d) zPt) = false) ∧ (∀ j, j < amF c f i d → bef (c.getD (amF c f i d) zPt) (c.getD j zPt) = true)
  | 0, f, i, h0, h1, h2 => ⟨by show f < _; omega, fun j hj => h1 j (by omega), h2⟩
  | d + 1, f, i, h0, h1, h2 => by
    rw [amF_succ]
    by_cases hb : bef (c.getD i zPt) (c.getD f zPt) = true
    · rw [if_pos hb]
      have := amF_spec c d i (i + 1) (by omega) (fun j hj => by
        by_cases e : j = i
        · subst e; exact bef_irr _
        · have q1 := h1 j (by omega)
          rw [Bool.eq_false_iff, ne_eq, bef_iff] at q1 ⊢
          rw [bef_iff] at hb
          omega) (fun j hj => by
        have q1 := h1 j (by omega)
        rw [Bool.eq_false_iff, ne_eq, bef_iff] at q1
        rw [bef_iff] at hb ⊢
        omega)
      rw [show i + 1 + d = i + (d + 1) by omega] at this
      exact this
    · rw [if_neg hb]
      have := amF_spec c d f (i + 1) (by omega) (fun j hj => by
        by_cases e : j = i
        · subst e; exact Bool.eq_false_iff.2 hb
        · exact h1 j (by omega)) h2
      rw [show i + 1 + d = i + (d + 1) by omega] at this
      exact this
def turned (c : List S48) : List S48 := c.drop (amF c 0 1 (c.length - 1)) ++ c.take (amF c 0 1 (c.length - 1))
theorem am_zero (c : List S48) (d : Nat) : amF c 0 0 (d + 1) = amF c 0 1 d := by
  show amF c (if bef (c.getD 0 zPt) (c.getD 0 zPt) = true then 0 else 0) 1 d = _
  rw [bef_irr]
  rfl
theorem rd_pt (c : List S48) (i : Nat) : rd_T48 c (i : Int) = c.getD i zPt := by
  unfold rd_T48
  rw [Int.toNat_natCast]
  rfl
theorem least_spec (u : List Bool) (c : List S48) (hc : c.length ≤ 400000) : ∀ (d f i : Nat), (c.length ≤ i ∧ d = 0 ∨ i + d = c.length) → (f < c.length ∨ (f = 0 ∧ c.length ≤ i)) →
    Ev (fun k => spec_l8Loop.l1 k u c (f : Int) (i : Int)) (c.drop (amF c f i d) ++ c.take (amF c f i d), u)
  | 0, f, i, h0, hf => by
    refine ev_step (fun k => spec_l8Loop.l1.eq_2 _ _ _ _ k) (ev_ifn (by omega) (ev_bind (ev_some _) (ev_ifp (by omega) (ev_ifp (by omega) (ev_bind (ev_some _) (ev_ifp ?_ (ev_bind (ev_some _) (ev_bind (ev_some _) (ev_ifp ?_ (ev_some _))))))))))
    · simp only [List.length_append, List.length_take, List.length_nil, List.length_drop]; omega
    · simp only [List.length_append, List.length_take, List.length_nil, List.length_drop]; omega
  | d + 1, f, i, h0, hf => by
    have hi : i < c.length := by omega
    have e3 := Aside0.mk (show wrap64 ((i : Int) + 1) = ((i + 1 : Nat) : Int) by rw [w64 (by omega) (by omega)]; rfl)
    refine ev_step (fun k => spec_l8Loop.l1.eq_2 _ _ _ _ k) (ev_ifp (by omega) (ev_ifp (by omega) (ev_ifp (by omega) (ev_ifp (by omega) ?_))))
    rw [rd_pt, rd_pt, e3.out]
    refine ev_bind (ev_const (before_is _ _)) ?_
    rw [amF_succ]
    by_cases hb : bef (c.getD i zPt) (c.getD f zPt) = true
    · rw [if_pos hb]
      exact ev_ifp hb (least_spec u c hc d i (i + 1) (by omega) (by omega))
    · rw [if_neg hb]
      exact ev_ifn hb (least_spec u c hc d f (i + 1) (by omega) (by omega))
theorem least_impl (c : List S48) (hc : c.length ≤ 400000) : ∀ (d f i : Nat), i + d = c.length → (f < c.length ∨ (f = 0 ∧ c.length = 0)) →
    Ev (fun k => impl_cornersOf.l1 k c (f : Int) c (c.length : Int) (i : Int)) (c.drop (amF c f i d) ++ c.take (amF c f i d))
  | 0, f, i, h0, hf => by
    refine ev_step (fun k => impl_cornersOf.l1.eq_2 _ _ _ _ _ k) (ev_ifn (by omega) (ev_ifp (by omega) (ev_ifp (by omega) (ev_ifp hc ?_))))
    rw [Int.toNat_natCast]
    exact ev_some _
  | d + 1, f, i, h0, hf => by
    have hi : i < c.length := by omega
    have e3 := Aside0.mk (show wrap64 ((i : Int) + 1) = ((i + 1 : Nat) : Int) by rw [w64 (by omega) (by omega)]; rfl)
    refine ev_step (fun k => impl_cornersOf.l1.eq_2 _ _ _ _ _ k) (ev_ifp (by omega) (ev_ifp (by omega) (ev_ifp (by omega) (ev_ifp (by omega) (ev_ifp (by omega) ?_)))))
    rw [rd_pt, rd_pt, e3.out]
    obtain ⟨t, ht, hb⟩ := comparePoints_ev (c.getD i zPt) (c.getD f zPt)
    refine ev_bind ht ?_
    rw [amF_succ]
    by_cases hb2 : bef (c.getD i zPt) (c.getD f zPt) = true
    · rw [if_pos hb2]
      exact ev_ifp (hb.2 hb2) (least_impl c hc d i (i + 1) (by omega) (by omega))
    · rw [if_neg hb2]
      exact ev_ifn (fun h => hb2 (hb.1 h)) (least_impl c hc d f (i + 1) (by omega) (by omega))
theorem turned_spec (u : List Bool) (c : List S48) (hc : c.length ≤ 400000) : Ev (fun k => spec_l8Loop.l1 k u c 0 1) (turned c, u) :=
  least_spec u c hc (c.length - 1) 0 1 (by omega) (by omega)
theorem turned_impl (c : List S48) (hc : c.length ≤ 400000) : Ev (fun k => impl_cornersOf.l1 k c 0 c (c.length : Int) 0) (turned c) := by
  have h := least_impl c hc c.length 0 0 (by omega) (by omega)
  unfold turned
  cases e : c.length with
  | zero =>
    obtain rfl := List.length_eq_zero_iff.1 e
    exact h
  | succ n =>
    rw [e, am_zero] at h
    exact h
theorem no_back {M : Int → Int → Bool} {s : Sd} (h : IsSd M s) : (nextS M s).w ≠ (s.w + 2) % 4 := turn_back _ _ _ _ s.w h.1 (end_in h)
theorem dx_iff {s t : Sd} (hs : s.w < 4) (ht : t.w < 4) (h : t.w ≠ (s.w + 2) % 4) : endX t - t.x = endX s - s.x ↔ t.w = s.w := by
  obtain ⟨x, y, w⟩ := s
  obtain ⟨x', y', w'⟩ := t
  simp only at hs ht h
  rcases four hs with rfl | rfl | rfl | rfl <;> rcases four ht with rfl | rfl | rfl | rfl <;> simp [endX] at h ⊢ <;> omega
theorem dx_bd (s : Sd) : -1 ≤ endX s - s.x ∧ endX s - s.x ≤ 1 := by unfold endX; split <;> (try split) <;> omega
def ahd (m i : Nat) : Nat := if i = 0 then m - 1 else i - 1
def preP (g : Nat → Sd) (m : Nat) : Nat → List S48
  | 0 => []
  | i + 1 => preP g m i ++ cR (g (ahd m i)) (g i)
theorem preP_len (g : Nat → Sd) (m : Nat) : ∀ i, (preP g m i).length ≤ i
  | 0 => Nat.le_refl _
  | i + 1 => by
    show (preP g m i ++ _).length ≤ _
    have := preP_len g m i
    have := cR_len (g (ahd m i)) (g i)
    rw [List.length_append]
    omega
theorem preP_is (g : Nat → Sd) (m : Nat) : ∀ i, preP g m (i + 1) = cR (g (m - 1)) (g 0) ++ corF g 0 i
  | 0 => by
    show [] ++ cR _ _ = _ ++ []
    rw [List.nil_append, List.append_nil]
    rfl
  | i + 1 => by
    show preP g m (i + 1) ++ cR (g (ahd m (i + 1))) (g (i + 1)) = _
    rw [preP_is g m i, corF_snoc, Nat.zero_add, List.append_assoc]
    rfl
theorem tmod_ahd {i m : Nat} (hi : i < m) (hm : m ≤ 4194304) : Int.tmod (wrap64 ((wrap64 ((i : Int) + (m : Int))) - 1)) (m : Int) = ((ahd m i : Nat) : Int) := by
  rw [w64 (x := (i : Int) + (m : Int)) (by omega) (by omega), w64 (by omega) (by omega), Int.tmod_eq_emod_of_nonneg (by omega)]
  unfold ahd
  split
  · rename_i h
    subst h
    rw [Int.emod_eq_of_lt (by omega) (by omega)]
    omega
  · rw [show (i : Int) + (m : Int) - 1 = (i : Int) - 1 + (m : Int) by omega, Int.add_emod_right, Int.emod_eq_of_lt (by omega) (by omega)]
    omega
structure RingG (M : Int → Int → Bool) (g : Nat → Sd) (m : Nat) : Prop where
  pos : 0 < m
  sd : ∀ i, i ≤ m → IsSd M (g i)
  next : ∀ i, i < m → g (i + 1) = nextS M (g i)
  back : g m = g 0
theorem RingG.ahead {M : Int → Int → Bool} {g : Nat → Sd} {m i : Nat} (h : RingG M g m) (hi : i < m) : g i = nextS M (g (ahd m i)) := by
  unfold ahd
  split
  · rename_i e
    subst e
    rw [← h.back, ← h.next (m - 1) (by omega), show m - 1 + 1 = m by omega]
  · rw [← h.next (i - 1) (by omega), show i - 1 + 1 = i by omega]
theorem rd_own {W : Int} {g : Nat → Sd} {m i : Nat} (hi : i < m) : rd_T54 ((List.range m).map (fun i => toP W (g i))) (i : Int) = toP W (g i) := by
  unfold rd_T54
  rw [Int.toNat_natCast, getD_eq_get _ (by rw [List.length_map, List.length_range]; exact hi), List.getElem_map, List.getElem_range]
section
variable {M : Int → Int → Bool} {W : Int} {g : Nat → Sd} {m : Nat} (hg : RingG M g m) (hm : m ≤ 400000)
include hg hm
theorem corners_walk : ∀ (d i : Nat), i + d = m → Ev (fun k => impl_cornersOf.l0 k ((List.range m).map (fun i => toP W (g i))) (preP g m i) ((List.range m).map (fun i => toP W (g i))) (m : Int) (i : Int)) (turned (preP g m m))
  | 0, i, hi => by
    obtain rfl : i = m := by omega
    exact ev_step (fun k => impl_cornersOf.l0.eq_2 _ _ _ _ _ k) (ev_ifn (by omega) (turned_impl _ (by have := preP_len g i i; omega)))
  | d + 1, i, hi => by
    have hi2 : i < m := by omega
    have hlen : ((List.range m).map (fun i => toP W (g i))).length = m := by rw [List.length_map, List.length_range]
    have e3 := Aside0.mk (show wrap64 ((i : Int) + 1) = ((i + 1 : Nat) : Int) by rw [w64 (by omega) (by omega)]; rfl)
    have e4 := Aside0.mk (tmod_ahd hi2 (by omega))
    have ha : ahd m i < m := by unfold ahd; split <;> omega
    have ih := corners_walk d (i + 1) (by omega)
    have hpl := preP_len g m i
    refine ev_step (fun k => impl_cornersOf.l0.eq_2 _ _ _ _ _ k) ?_
    rw [hlen, e4.out]
    refine ev_ifp (by omega) (ev_ifp (by omega) (ev_ifp (by omega) (ev_ifn (by omega) (ev_ifp (by omega) (ev_ifp (by omega) ?_)))))
    rw [rd_own hi2, rd_own ha, e3.out]
    have d1 := dx_bd (g i)
    have d2 := dx_bd (g (ahd m i))
    have hnb := no_back (hg.sd (ahd m i) (by omega))
    rw [← hg.ahead hi2] at hnb
    have hdx := dx_iff (hg.sd _ (by omega)).1 (hg.sd i (by omega)).1 hnb
    have v1 := Aside0.mk (show wrap64 ((toP W (g i)).f2.f0 - (toP W (g i)).f1.f0) = endX (g i) - (g i).x from w64 (by show _ ≤ endX (g i) - (g i).x; omega) (by show endX (g i) - (g i).x ≤ _; omega))
    have v2 := Aside0.mk (show wrap64 ((toP W (g (ahd m i))).f2.f0 - (toP W (g (ahd m i))).f1.f0) = endX (g (ahd m i)) - (g (ahd m i)).x from w64 (by show _ ≤ endX (g (ahd m i)) - (g (ahd m i)).x; omega) (by show endX (g (ahd m i)) - (g (ahd m i)).x ≤ _; omega))
    rw [v1.out, v2.out]
    have ih2 : Ev (fun k => impl_cornersOf.l0 k ((List.range m).map (fun i => toP W (g i))) (preP g m i ++ cR (g (ahd m i)) (g i)) ((List.range m).map (fun i => toP W (g i))) (m : Int) ((i + 1 : Nat) : Int)) (turned (preP g m m)) := ih
    unfold cR at ih2
    by_cases hw : (g i).w = (g (ahd m i)).w
    · rw [if_pos hw, List.append_nil] at ih2
      exact ev_ifp (hdx.2 hw) ih2
    · rw [if_neg hw] at ih2
      exact ev_ifn (fun h => hw (hdx.1 h)) (ev_ifp (by omega) ih2)
theorem cornersOf_ev : Ev (fun k => impl_cornersOf.f k ((List.range m).map (fun i => toP W (g i)))) (turned (preP g m m)) := by
  have h := corners_walk (W := W) hg hm m 0 (by omega)
  unfold impl_cornersOf.f
  rw [show (((List.range m).map (fun i => toP W (g i))).length : Int) = (m : Int) by rw [List.length_map, List.length_range]]
  exact h
end
section
variable {W : Int} {l : List Int} {L : List Sd} (hL : ∀ s, s ∈ L ↔ IsSd (inR W l) s) (hb : ∀ s ∈ L, -100 ≤ s.x ∧ s.x ≤ 100 ∧ -100 ≤ s.y ∧ s.y ≤ 100) (hn : L.Nodup) (hl : L.length ≤ 400000)
include hL hb hn hl
theorem out_walk {s m : Nat} {u0 : List Bool} (hlt : ∀ i, i ≤ m → itN (nxI W l L) i s < L.length) (hul : u0.length = L.length)
    (hno : ∀ i, i < m → (usedN (nxI W l L) s u0 i).getD (itN (nxI W l L) i s) false = false) (hyes : (usedN (nxI W l L) s u0 m).getD (itN (nxI W l L) m s) false = true) (hm : m ≤ L.length) (X : List (List S48)) (x19 : Int) (r : List (List S48))
    (hend : Ev (fun k => (impl_cornersOf.f k ((List.range m).map (fun i => toP W (L.getD (itN (nxI W l L) i s) z0Sd)))).bind fun t => (if X.length < 5864062014805 then (impl_outlines.l0 k (L.map (toP W)) (usedN (nxI W l L) s u0 m) (X ++ [t]) (L.length : Int) (wrap64 (x19 + 1))) else (none))) r) :
    ∀ (d j : Nat), j + d = m → Ev (fun k => impl_outlines.l1 k (L.map (toP W)) (usedN (nxI W l L) s u0 j) X ((List.range j).map (fun i => toP W (L.getD (itN (nxI W l L) i s) z0Sd))) ((itN (nxI W l L) j s : Nat) : Int) (L.length : Int) x19) r
  | 0, j, hj => by
    obtain rfl : j = m := by omega
    have h1 := hlt j (Nat.le_refl _)
    have h2 := usedN_len (nxI W l L) s u0 j
    have hr : rdOf false (usedN (nxI W l L) s u0 j) ((itN (nxI W l L) j s : Nat) : Int) = true := by
      unfold rdOf
      rw [Int.toNat_natCast]
      exact hyes
    exact ev_step (fun k => impl_outlines.l1.eq_2 _ _ _ _ _ _ _ k) (ev_ifp (by omega) (ev_ifp (by omega) (ev_ifp hr hend)))
  | d + 1, j, hj => by
    have h1 := hlt j (by omega)
    have h2 := usedN_len (nxI W l L) s u0 j
    have hr : rdOf false (usedN (nxI W l L) s u0 j) ((itN (nxI W l L) j s : Nat) : Int) = false := by
      unfold rdOf
      rw [Int.toNat_natCast]
      exact hno j (by omega)
    have ih := out_walk hlt hul hno hyes hm X x19 r hend d (j + 1) (by omega)
    rw [List.range_succ, List.map_append] at ih
    have hlen : (L.map (toP W)).length = L.length := List.length_map ..
    refine ev_step (fun k => impl_outlines.l1.eq_2 _ _ _ _ _ _ _ k) (ev_ifp (by omega) (ev_ifp (by omega) (ev_ifn (by rw [hr]; simp) (ev_ifp (by rw [hlen]; omega) (ev_ifp (by rw [List.length_map, List.length_range]; omega) (ev_bind (sideBehind_ev (L := L) hL hb hn (by omega) h1) ?_))))))
    rw [rd_mapP h1, Int.toNat_natCast]
    exact ih
end
end Go.Proofs.Ytnbpcacnbfbjkaa.Pure
