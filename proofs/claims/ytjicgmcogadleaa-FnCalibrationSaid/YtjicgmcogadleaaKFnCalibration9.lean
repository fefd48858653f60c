/- Texts of the claim FnCalibration, merged: part 9 of 10: the program's and the reference's functions as Lean functions, the walks that show it, and plain lemmas; no conditions. -/
import Derived.Test.YtjicgmcogadleaaKFnCalibration3
import Derived.Test.YtjicgmcogadleaaKFnCalibration4
import Derived.Test.YtjicgmcogadleaaKFnCalibration6
import Derived.Test.YtjicgmcogadleaaKFnCalibration7
import Derived.Test.YtjicgmcogadleaaKFnCalibration8
import Derived.Test.YtjicgmcogadleaaKFnCalibration2
import Derived.ProofKit
import Derived.OpenShut
import Derived.Deep.Slices
import Derived.Deep.Strs
import Derived.Deep.Fields
import Derived.Lib.SmallJoins
namespace Go.Proofs.Ytjicgmcogadleaa.P
open Go.RowKit Go.Proofs.YtjicgmcogadleaaW.PrintWords Go.Proofs.YtjicgmcogadleaaW.PrintLast Go.Proofs.YtjicgmcogadleaaW.PrintMore
attribute [local go_sem] max2_int min2_int max_two min_two max_three min_three max_four min_four
set_option linter.unusedVariables false
set_option linter.unusedSimpArgs false
set_option maxHeartbeats 8000000
set_option maxRecDepth 100000
def laws_vInts.l0 : Nat → List Int → List Int → Int → Option (Bool)
 | 0, _, _, _ => none
 | k + 1, x0, x1, x5 => if x5 < (x0.length : Int) then (if 0 ≤ x5 then (if x5 < (x1.length : Int) then (if (rd x0 x5) = (rd x1 x5) then (laws_vInts.l0 k x0 x1 (wrap64 (x5 + 1))) else (some false)) else (none)) else (none)) else (some true)
def laws_vInts.f (k : Nat) (l0 : List Int) (l1 : List Int) : Option (Bool) := if (l0.length : Int) = (l1.length : Int) then (laws_vInts.l0 k l0 l1 0) else (some false)
theorem laws_vInts.calls (k : Nat) (A0 : Option Addr) (c0 : Nat) (l0 : List Int) (A1 : Option Addr) (c1 : Nat) (l1 : List Int) (r : Bool) (w : World) (hr0 : Kd.C (Kd.int .i64) w A0 l0.length l0) (hc0 : l0.length ≤ c0) (hr1 : Kd.C (Kd.int .i64) w A1 l1.length l1) (hc1 : l1.length ≤ c1) (h : laws_vInts.f k l0 l1 = some r) :
  Calls Try.prog 47 #[.slice A0 l0.length c0, .slice A1 l1.length c1] w fun e w' => e = .returned (.bool r) ∧ Drawn0 w w' := by
 have HR0 := Aside0.mk hr0
 have HC0 := Aside0.mk hc0
 clear hr0 hc0
 have HR1 := Aside0.mk hr1
 have HC1 := Aside0.mk hc1
 clear hr1 hc1
 have H : (if (l0.length : Int) = (l1.length : Int) then (laws_vInts.l0 k l0 l1 0) else (some false)) = some r := h
 clear h
 by_cases c3 : (l0.length : Int) = (l1.length : Int)
 ·
  rw [if_pos c3] at H
  have c3b0 : ((l0.length : Int) == (l1.length : Int)) = true := beq_iff_eq.mpr c3
  have c3b1 : ((l0.length : Int) != (l1.length : Int)) = false := bne_eq_false_iff_eq.mpr c3
  have c3b2 : (l0.length == l1.length) = true := by first | simpa using c3 | (simp at c3 ⊢; omega)
  clear c3
  have H' := Aside0.mk H
  clear H
  go_enter Try.func47, Try.ntmps47
  go_wp2
  go_loopg [5] k (fun kq v5 w' => ∃ (x5_1 : Int), v5 = .int .i64 x5_1 ∧ Aside0 (laws_vInts.l0 kq l0 l1 x5_1 = some r) ∧ Aside0 (kq ≤ k) ∧ Drawn0 w w')
  case atStart => exact ⟨(0), (by first | rfl | (simp; done) | (simp [*]; done)), H', ⟨Nat.le_refl _⟩, by repeat (first | exact Drawn0.refl _ | apply Drawn0.step)⟩
  case round =>
   clear H'
   try clear c1
   try clear p2
   try clear c3
   try clear c3b0
   try clear c3b1
   try clear c3b2
   obtain ⟨x5_1, rfl, HA, HK1, ⟨m1, rfl⟩⟩ := hrel
   cases gk with
   | zero => exact absurd HA.out (by simp [laws_vInts.l0])
   | succ k1 =>
    have H := HA.out
    clear HA
    simp only [laws_vInts.l0] at H
    by_cases c4 : x5_1 < (l0.length : Int)
    ·
     rw [if_pos c4] at H
     have c4b0 : decide (x5_1 < (l0.length : Int)) = true := decide_eq_true c4
     clear c4
     by_cases c5 : 0 ≤ x5_1
     ·
      rw [if_pos c5] at H
      have c5b0 : decide (0 ≤ x5_1) = true := decide_eq_true c5
      clear c5
      by_cases c6 : x5_1 < (l1.length : Int)
      ·
       rw [if_pos c6] at H
       have c6b0 : decide (x5_1 < (l1.length : Int)) = true := decide_eq_true c6
       clear c6
       by_cases c7 : (rd l0 x5_1) = (rd l1 x5_1)
       ·
        rw [if_pos c7] at H
        have c7b0 : ((rd l0 x5_1) == (rd l1 x5_1)) = true := beq_iff_eq.mpr c7
        have c7b1 : ((rd l0 x5_1) != (rd l1 x5_1)) = false := bne_eq_false_iff_eq.mpr c7
        clear c7
        have H' := Aside0.mk H
        clear H
        have p101 : 0 ≤ (x5_1 : Int) := of_decide_eq_true (by first | (with_reducible assumption) | assumption)
        have q101 : x5_1 < (l0.length : Int) := of_decide_eq_true (by first | (with_reducible assumption) | assumption)
        obtain ⟨ad101, e101, hx101_0⟩ := Kd.at_int HR0.out x5_1 p101 q101
        cases e101
        replace p101 := eq_true p101
        replace q101 := eq_true q101
        have p102 : 0 ≤ (x5_1 : Int) := of_decide_eq_true (by first | (with_reducible assumption) | assumption)
        have q102 : x5_1 < (l1.length : Int) := of_decide_eq_true (by first | (with_reducible assumption) | assumption)
        obtain ⟨ad102, e102, hx102_0⟩ := Kd.at_int HR1.out x5_1 p102 q102
        cases e102
        replace p102 := eq_true p102
        replace q102 := eq_true q102
        go_wp2
        repeat (go_quiet (fail); try go_wp2)
        go_roundg k1
        case measure => have := HK1.out; omega
        case rel => exact ⟨(wrap64 (x5_1 + 1)), (by first | rfl | (simp; done) | (simp [*]; done)), H', ⟨by have := HK1.out; omega⟩, by repeat (first | exact Drawn0.refl _ | apply Drawn0.step)⟩
       rw [if_neg c7] at H
       have c7b0 : ((rd l0 x5_1) == (rd l1 x5_1)) = false := beq_eq_false_iff_ne.mpr c7
       have c7b1 : ((rd l0 x5_1) != (rd l1 x5_1)) = true := bne_iff_ne.mpr c7
       obtain rfl := Option.some.inj H
       have p101 : 0 ≤ (x5_1 : Int) := of_decide_eq_true (by first | (with_reducible assumption) | assumption)
       have q101 : x5_1 < (l0.length : Int) := of_decide_eq_true (by first | (with_reducible assumption) | assumption)
       obtain ⟨ad101, e101, hx101_0⟩ := Kd.at_int HR0.out x5_1 p101 q101
       cases e101
       replace p101 := eq_true p101
       replace q101 := eq_true q101
       have p102 : 0 ≤ (x5_1 : Int) := of_decide_eq_true (by first | (with_reducible assumption) | assumption)
       have q102 : x5_1 < (l1.length : Int) := of_decide_eq_true (by first | (with_reducible assumption) | assumption)
       obtain ⟨ad102, e102, hx102_0⟩ := Kd.at_int HR1.out x5_1 p102 q102
       cases e102
       replace p102 := eq_true p102
       replace q102 := eq_true q102
       go_wp2
       repeat (go_quiet (fail); try go_wp2)
       go_ret
       exact ⟨by first | rfl | (simp; done) | (simp [*]; done), by repeat (first | exact Drawn0.refl _ | apply Drawn0.step)⟩
      rw [if_neg c6] at H
      exact absurd H (by simp)
     rw [if_neg c5] at H
     exact absurd H (by simp)
    rw [if_neg c4] at H
    have c4b0 : decide (x5_1 < (l0.length : Int)) = false := decide_eq_false c4
    clear c4
    obtain rfl := Option.some.inj H
    go_wp2
    go_ret
    exact ⟨by first | rfl | (simp; done) | (simp [*]; done), by repeat (first | exact Drawn0.refl _ | apply Drawn0.step)⟩
 rw [if_neg c3] at H
 have c3b0 : ((l0.length : Int) == (l1.length : Int)) = false := beq_eq_false_iff_ne.mpr c3
 have c3b1 : ((l0.length : Int) != (l1.length : Int)) = true := bne_iff_ne.mpr c3
 have c3b2 : (l0.length == l1.length) = false := by first | simpa using c3 | (simp at c3 ⊢; omega)
 obtain rfl := Option.some.inj H
 go_enter Try.func47, Try.ntmps47
 go_wp2
 go_ret
 exact ⟨by first | rfl | (simp; done) | (simp [*]; done), by repeat (first | exact Drawn0.refl _ | apply Drawn0.step)⟩
def laws_vTable.l0 : Nat → List (List Int) → List (List Int) → Int → Option (Bool)
 | 0, _, _, _ => none
 | k + 1, x0, x1, x5 => if x5 < (x0.length : Int) then (if 0 ≤ x5 then (if x5 < (x1.length : Int) then ((laws_vInts.f k (rd_L3 x0 x5) (rd_L3 x1 x5)).bind fun t103 => (if t103 = true then (laws_vTable.l0 k x0 x1 (wrap64 (x5 + 1))) else (some false))) else (none)) else (none)) else (some true)
def laws_vTable.f (k : Nat) (l0 : List (List Int)) (l1 : List (List Int)) : Option (Bool) := if (l0.length : Int) = (l1.length : Int) then (laws_vTable.l0 k l0 l1 0) else (some false)
theorem laws_vTable.calls (k : Nat) (A0 : Option Addr) (c0 : Nat) (l0 : List (List Int)) (A1 : Option Addr) (c1 : Nat) (l1 : List (List Int)) (r : Bool) (w : World) (hr0 : Kd.C (Kd.slice 3 (Kd.int .i64)) w A0 l0.length l0) (hc0 : l0.length ≤ c0) (hr1 : Kd.C (Kd.slice 3 (Kd.int .i64)) w A1 l1.length l1) (hc1 : l1.length ≤ c1) (h : laws_vTable.f k l0 l1 = some r) :
  Calls Try.prog 37 #[.slice A0 l0.length c0, .slice A1 l1.length c1] w fun e w' => e = .returned (.bool r) ∧ Drawn0 w w' := by
 have HR0 := Aside0.mk hr0
 have HC0 := Aside0.mk hc0
 clear hr0 hc0
 have HR1 := Aside0.mk hr1
 have HC1 := Aside0.mk hc1
 clear hr1 hc1
 have H : (if (l0.length : Int) = (l1.length : Int) then (laws_vTable.l0 k l0 l1 0) else (some false)) = some r := h
 clear h
 by_cases c3 : (l0.length : Int) = (l1.length : Int)
 ·
  rw [if_pos c3] at H
  have c3b0 : ((l0.length : Int) == (l1.length : Int)) = true := beq_iff_eq.mpr c3
  have c3b1 : ((l0.length : Int) != (l1.length : Int)) = false := bne_eq_false_iff_eq.mpr c3
  have c3b2 : (l0.length == l1.length) = true := by first | simpa using c3 | (simp at c3 ⊢; omega)
  clear c3
  have H' := Aside0.mk H
  clear H
  go_enter Try.func37, Try.ntmps37
  go_wp2
  repeat (go_quiet (fail); try go_wp2)
  go_loopg [5] k (fun kq v5 w' => ∃ (x5_1 : Int), v5 = .int .i64 x5_1 ∧ Aside0 (laws_vTable.l0 kq l0 l1 x5_1 = some r) ∧ Aside0 (kq ≤ k) ∧ Drawn0 w w')
  case atStart => exact ⟨(0), (by first | rfl | (simp; done) | (simp [*]; done)), H', ⟨Nat.le_refl _⟩, by repeat (first | exact Drawn0.refl _ | apply Drawn0.step)⟩
  case round =>
   clear H'
   try clear c1
   try clear p2
   try clear c3
   try clear c3b0
   try clear c3b1
   try clear c3b2
   obtain ⟨x5_1, rfl, HA, HK1, ⟨m1, rfl⟩⟩ := hrel
   cases gk with
   | zero => exact absurd HA.out (by simp [laws_vTable.l0])
   | succ k1 =>
    have H := HA.out
    clear HA
    simp only [laws_vTable.l0] at H
    by_cases c4 : x5_1 < (l0.length : Int)
    ·
     rw [if_pos c4] at H
     have c4b0 : decide (x5_1 < (l0.length : Int)) = true := decide_eq_true c4
     clear c4
     by_cases c5 : 0 ≤ x5_1
     ·
      rw [if_pos c5] at H
      have c5b0 : decide (0 ≤ x5_1) = true := decide_eq_true c5
      clear c5
      by_cases c6 : x5_1 < (l1.length : Int)
      ·
       rw [if_pos c6] at H
       have c6b0 : decide (x5_1 < (l1.length : Int)) = true := decide_eq_true c6
       clear c6
       replace H := Option.bind_eq_some_iff.mp H
       obtain ⟨t103, A70, H⟩ := H
       replace H : (if t103 = true then (laws_vTable.l0 k1 l0 l1 (wrap64 (x5_1 + 1))) else (some false)) = some r := H
       have A7 := Aside0.mk A70
       clear A70
       by_cases c8 : t103 = true
       ·
        subst c8
        have H1 : (laws_vTable.l0 k1 l0 l1 (wrap64 (x5_1 + 1))) = some r := by rw [if_pos rfl] at H; exact H
        clear H
        have H := H1
        clear H1
        have H' := Aside0.mk H
        clear H
        have p101 : 0 ≤ (x5_1 : Int) := of_decide_eq_true (by first | (with_reducible assumption) | assumption)
        have q101 : x5_1 < (l0.length : Int) := of_decide_eq_true (by first | (with_reducible assumption) | assumption)
        obtain ⟨ad101, A101_0, c101_0, e101, hx101_0, hl101_0, hi101_0⟩ := at_L3 HR0.out x5_1 p101 q101
        cases e101
        have HR101_0 := Aside0.mk hi101_0
        have HC101_0 := Aside0.mk hl101_0
        clear hi101_0 hl101_0
        replace p101 := eq_true p101
        replace q101 := eq_true q101
        have p102 : 0 ≤ (x5_1 : Int) := of_decide_eq_true (by first | (with_reducible assumption) | assumption)
        have q102 : x5_1 < (l1.length : Int) := of_decide_eq_true (by first | (with_reducible assumption) | assumption)
        obtain ⟨ad102, A102_0, c102_0, e102, hx102_0, hl102_0, hi102_0⟩ := at_L3 HR1.out x5_1 p102 q102
        cases e102
        have HR102_0 := Aside0.mk hi102_0
        have HC102_0 := Aside0.mk hl102_0
        clear hi102_0 hl102_0
        replace p102 := eq_true p102
        replace q102 := eq_true q102
        go_wp2_with (first | (go_at_call 47; (with_reducible refine (laws_vInts.calls k1 _ _ (rd_L3 l0 x5_1) _ _ (rd_L3 l1 x5_1) true _ ?side1 ?side2 ?side3 ?side4 A7.out).mono ?_); (case side1 => exact pC HR101_0.out); (case side2 => exact HC101_0.out); (case side3 => exact pC HR102_0.out); (case side4 => exact HC102_0.out); rintro e w' ⟨rfl, ⟨nd, rfl⟩⟩; (try first | exact ⟨rfl, _, World.drewN_drewN _ _ _⟩ | exact ⟨rfl, _, Eq.trans (World.drewN_drewN _ _ _) (congrArg (World.drewN _) (Nat.add_assoc _ _ _))⟩)))
        repeat (go_quiet (first | (go_at_call 47; (with_reducible refine (laws_vInts.calls k1 _ _ (rd_L3 l0 x5_1) _ _ (rd_L3 l1 x5_1) true _ ?side1 ?side2 ?side3 ?side4 A7.out).mono ?_); (case side1 => exact pC HR101_0.out); (case side2 => exact HC101_0.out); (case side3 => exact pC HR102_0.out); (case side4 => exact HC102_0.out); rintro e w' ⟨rfl, ⟨nd, rfl⟩⟩; (try first | exact ⟨rfl, _, World.drewN_drewN _ _ _⟩ | exact ⟨rfl, _, Eq.trans (World.drewN_drewN _ _ _) (congrArg (World.drewN _) (Nat.add_assoc _ _ _))⟩))); try go_wp2_with (first | (go_at_call 47; (with_reducible refine (laws_vInts.calls k1 _ _ (rd_L3 l0 x5_1) _ _ (rd_L3 l1 x5_1) true _ ?side1 ?side2 ?side3 ?side4 A7.out).mono ?_); (case side1 => exact pC HR101_0.out); (case side2 => exact HC101_0.out); (case side3 => exact pC HR102_0.out); (case side4 => exact HC102_0.out); rintro e w' ⟨rfl, ⟨nd, rfl⟩⟩; (try first | exact ⟨rfl, _, World.drewN_drewN _ _ _⟩ | exact ⟨rfl, _, Eq.trans (World.drewN_drewN _ _ _) (congrArg (World.drewN _) (Nat.add_assoc _ _ _))⟩))))
        go_roundg k1
        case measure => have := HK1.out; omega
        case rel => exact ⟨(wrap64 (x5_1 + 1)), (by first | rfl | (simp; done) | (simp [*]; done)), H', ⟨by have := HK1.out; omega⟩, by repeat (first | exact Drawn0.refl _ | apply Drawn0.step)⟩
       replace c8 := Bool.eq_false_iff.mpr c8
       subst c8
       have H1 : (some false) = some r := by rw [if_neg (show ¬ (false = true) by decide)] at H; exact H
       clear H
       have H := H1
       clear H1
       obtain rfl := Option.some.inj H
       have p101 : 0 ≤ (x5_1 : Int) := of_decide_eq_true (by first | (with_reducible assumption) | assumption)
       have q101 : x5_1 < (l0.length : Int) := of_decide_eq_true (by first | (with_reducible assumption) | assumption)
       obtain ⟨ad101, A101_0, c101_0, e101, hx101_0, hl101_0, hi101_0⟩ := at_L3 HR0.out x5_1 p101 q101
       cases e101
       have HR101_0 := Aside0.mk hi101_0
       have HC101_0 := Aside0.mk hl101_0
       clear hi101_0 hl101_0
       replace p101 := eq_true p101
       replace q101 := eq_true q101
       have p102 : 0 ≤ (x5_1 : Int) := of_decide_eq_true (by first | (with_reducible assumption) | assumption)
       have q102 : x5_1 < (l1.length : Int) := of_decide_eq_true (by first | (with_reducible assumption) | assumption)
       obtain ⟨ad102, A102_0, c102_0, e102, hx102_0, hl102_0, hi102_0⟩ := at_L3 HR1.out x5_1 p102 q102
       cases e102
       have HR102_0 := Aside0.mk hi102_0
       have HC102_0 := Aside0.mk hl102_0
       clear hi102_0 hl102_0
       replace p102 := eq_true p102
       replace q102 := eq_true q102
       go_wp2_with (first | (go_at_call 47; (with_reducible refine (laws_vInts.calls k1 _ _ (rd_L3 l0 x5_1) _ _ (rd_L3 l1 x5_1) false _ ?side1 ?side2 ?side3 ?side4 A7.out).mono ?_); (case side1 => exact pC HR101_0.out); (case side2 => exact HC101_0.out); (case side3 => exact pC HR102_0.out); (case side4 => exact HC102_0.out); rintro e w' ⟨rfl, ⟨nd, rfl⟩⟩; (try first | exact ⟨rfl, _, World.drewN_drewN _ _ _⟩ | exact ⟨rfl, _, Eq.trans (World.drewN_drewN _ _ _) (congrArg (World.drewN _) (Nat.add_assoc _ _ _))⟩)))
       repeat (go_quiet (first | (go_at_call 47; (with_reducible refine (laws_vInts.calls k1 _ _ (rd_L3 l0 x5_1) _ _ (rd_L3 l1 x5_1) false _ ?side1 ?side2 ?side3 ?side4 A7.out).mono ?_); (case side1 => exact pC HR101_0.out); (case side2 => exact HC101_0.out); (case side3 => exact pC HR102_0.out); (case side4 => exact HC102_0.out); rintro e w' ⟨rfl, ⟨nd, rfl⟩⟩; (try first | exact ⟨rfl, _, World.drewN_drewN _ _ _⟩ | exact ⟨rfl, _, Eq.trans (World.drewN_drewN _ _ _) (congrArg (World.drewN _) (Nat.add_assoc _ _ _))⟩))); try go_wp2_with (first | (go_at_call 47; (with_reducible refine (laws_vInts.calls k1 _ _ (rd_L3 l0 x5_1) _ _ (rd_L3 l1 x5_1) false _ ?side1 ?side2 ?side3 ?side4 A7.out).mono ?_); (case side1 => exact pC HR101_0.out); (case side2 => exact HC101_0.out); (case side3 => exact pC HR102_0.out); (case side4 => exact HC102_0.out); rintro e w' ⟨rfl, ⟨nd, rfl⟩⟩; (try first | exact ⟨rfl, _, World.drewN_drewN _ _ _⟩ | exact ⟨rfl, _, Eq.trans (World.drewN_drewN _ _ _) (congrArg (World.drewN _) (Nat.add_assoc _ _ _))⟩))))
       go_ret
       exact ⟨by first | rfl | (simp; done) | (simp [*]; done), by repeat (first | exact Drawn0.refl _ | apply Drawn0.step)⟩
      rw [if_neg c6] at H
      exact absurd H (by simp)
     rw [if_neg c5] at H
     exact absurd H (by simp)
    rw [if_neg c4] at H
    have c4b0 : decide (x5_1 < (l0.length : Int)) = false := decide_eq_false c4
    clear c4
    obtain rfl := Option.some.inj H
    go_wp2
    repeat (go_quiet (fail); try go_wp2)
    go_ret
    exact ⟨by first | rfl | (simp; done) | (simp [*]; done), by repeat (first | exact Drawn0.refl _ | apply Drawn0.step)⟩
 rw [if_neg c3] at H
 have c3b0 : ((l0.length : Int) == (l1.length : Int)) = false := beq_eq_false_iff_ne.mpr c3
 have c3b1 : ((l0.length : Int) != (l1.length : Int)) = true := bne_iff_ne.mpr c3
 have c3b2 : (l0.length == l1.length) = false := by first | simpa using c3 | (simp at c3 ⊢; omega)
 obtain rfl := Option.some.inj H
 go_enter Try.func37, Try.ntmps37
 go_wp2
 repeat (go_quiet (fail); try go_wp2)
 go_ret
 exact ⟨by first | rfl | (simp; done) | (simp [*]; done), by repeat (first | exact Drawn0.refl _ | apply Drawn0.step)⟩
def laws_vBig.f (l0 : List Int) : Option (Bool) := some (decide ((l0.length : Int) > 65536))
theorem laws_vBig.calls (A0 : Option Addr) (c0 : Nat) (l0 : List Int) (r : Bool) (w : World) (hr0 : Kd.C (Kd.int .u8) w A0 l0.length l0) (hc0 : l0.length ≤ c0) (h : laws_vBig.f l0 = some r) :
  Calls Try.prog 6 #[.slice A0 l0.length c0] w fun e w' => e = .returned (.bool r) ∧ Drawn0 w w' := by
 have HR0 := Aside0.mk hr0
 have HC0 := Aside0.mk hc0
 clear hr0 hc0
 have H : (some (decide ((l0.length : Int) > 65536))) = some r := h
 clear h
 obtain rfl := Option.some.inj H
 go_enter Try.func6, Try.ntmps6
 go_wp2
 go_ret
 exact ⟨by first | rfl | (simp; done) | (simp [*]; done), by repeat (first | exact Drawn0.refl _ | apply Drawn0.step)⟩
end Go.Proofs.Ytjicgmcogadleaa.P
namespace Go.Proofs.Ytjicgmcogadleaa.P
open Go.RowKit Go.Proofs.YtjicgmcogadleaaW.PrintWords Go.Proofs.YtjicgmcogadleaaW.PrintLast Go.Proofs.YtjicgmcogadleaaW.PrintMore
attribute [local go_sem] max2_int min2_int max_two min_two max_three min_three max_four min_four
set_option linter.unusedVariables false
set_option linter.unusedSimpArgs false
set_option maxHeartbeats 8000000
set_option maxRecDepth 100000
attribute [local go_sem high] eqA33
mutual
def laws_FnCalibration.j0 : Nat → List (S33) → Bool → Bool → List Int → List Int → Option (Bool)
 | 0, _, _, _, _, _ => none
 | k + 1, x4, x5, x49, x109000, x109001 => if x49 = true then (some false) else ((impl_GroupsOf.f k x109000 x109001).bind fun bt120 => ((spec_GroupsOf.f k x109000 x109001).bind fun bt124 => (if (bt120.2 != bt124.2) = true then (laws_FnCalibration.j1 k x4 x5 bt120.1 true x109000 x109001) else ((laws_vTable.f k bt120.1 bt124.1).bind fun t128 => (laws_FnCalibration.j1 k x4 x5 bt120.1 (!t128) x109000 x109001)))))
def laws_FnCalibration.j1 : Nat → List (S33) → Bool → List (List Int) → Bool → List Int → List Int → Option (Bool)
 | 0, _, _, _, _, _, _ => none
 | k + 1, x4, x5, x8, x68, x109000, x109001 => if x68 = true then (some false) else (if x5 = true then ((impl_IsMonotone.f k x4).bind fun bt129 => (if bt129.2 = true then (if bt129.1 = true then (laws_FnCalibration.j2 k x4 x8 ((x4.length : Int) != 11) x109000 x109001) else (laws_FnCalibration.j2 k x4 x8 true x109000 x109001)) else (laws_FnCalibration.j2 k x4 x8 true x109000 x109001))) else (if (x4.length : Int) = 0 then (some ((x8.length : Int) == 0)) else (some false)))
def laws_FnCalibration.j2 : Nat → List (S33) → List (List Int) → Bool → List Int → List Int → Option (Bool)
 | 0, _, _, _, _, _ => none
 | k + 1, x4, x8, x94, x109000, x109001 => if x94 = true then (some false) else (laws_FnCalibration.l0 k x4 x8 0 x109000 x109001)
def laws_FnCalibration.l0 : Nat → List (S33) → List (List Int) → Int → List Int → List Int → Option (Bool)
 | 0, _, _, _, _, _ => none
 | k + 1, x4, x8, x14, x109000, x109001 => if x14 < (x8.length : Int) then (laws_FnCalibration.l1 k x4 x8 x14 0 0 0 x109000 x109001) else (some true)
def laws_FnCalibration.l1 : Nat → List (S33) → List (List Int) → Int → Int → Int → Int → List Int → List Int → Option (Bool)
 | 0, _, _, _, _, _, _, _, _ => none
 | k + 1, x4, x8, x14, x15, x16, x17, x109000, x109001 => if 0 ≤ x14 then (if x14 < (x8.length : Int) then (if x17 < ((rd_L3 x8 x14).length : Int) then (if 0 ≤ x17 then (if 0 ≤ (rd (rd_L3 x8 x14) x17) then (if (rd (rd_L3 x8 x14) x17) < (x109000.length : Int) then (if (rd (rd_L3 x8 x14) x17) < (x109001.length : Int) then (if (rd (rd_L3 x8 x14) x17) < (x4.length : Int) then (if 0 < ((rd_L3 x8 x14).length : Int) then (if 0 ≤ (rd (rd_L3 x8 x14) 0) then (if (rd (rd_L3 x8 x14) 0) < (x4.length : Int) then (if (!(((rd_T33 x4 (rd (rd_L3 x8 x14) x17)).f0) == ((rd_T33 x4 (rd (rd_L3 x8 x14) 0)).f0)) || (!(((rd_T33 x4 (rd (rd_L3 x8 x14) x17)).f1) == ((rd_T33 x4 (rd (rd_L3 x8 x14) 0)).f1)))) = true then (some false) else (laws_FnCalibration.l1 k x4 x8 x14 (wrap64 (x15 + (rd x109000 (rd (rd_L3 x8 x14) x17)))) (wrap64 (x16 + (rd x109001 (rd (rd_L3 x8 x14) x17)))) (wrap64 (x17 + 1)) x109000 x109001)) else (none)) else (none)) else (none)) else (none)) else (none)) else (none)) else (none)) else (none)) else (if 0 < ((rd_L3 x8 x14).length : Int) then (if 0 ≤ (rd (rd_L3 x8 x14) 0) then (if (rd (rd_L3 x8 x14) 0) < (x4.length : Int) then (if x15 < 1 then (some false) else (if (wrap64 (x16 * ((rd_T33 x4 (rd (rd_L3 x8 x14) 0)).f1))) = (wrap64 (x15 * ((rd_T33 x4 (rd (rd_L3 x8 x14) 0)).f0))) then (laws_FnCalibration.l0 k x4 x8 (wrap64 (x14 + 1)) x109000 x109001) else (some false))) else (none)) else (none)) else (none))) else (none)) else (none)
end
def laws_FnCalibration.f (k : Nat) (l0 : List Int) : Option (Bool) := (laws_vBig.f l0).bind fun t101 => (if t101 = true then (some true) else ((spec_DrawCalibrationOf.f k l0).bind fun bt102 => ((impl_CalibrationOf.f k bt102.1 bt102.2).bind fun bt109 => ((spec_CalibrationOf.f k bt102.1 bt102.2).bind fun bt113 => (if (bt109.2 != bt113.2) = true then (laws_FnCalibration.j0 k bt109.1 bt109.2 true bt102.1 bt102.2) else ((laws_vShares.f k bt109.1 bt113.1).bind fun t117 => (if t117 = true then ((impl_IsValidTally.f k bt102.1 bt102.2).bind fun t118 => ((spec_IsValidTally.f k bt102.1 bt102.2).bind fun t119 => (laws_FnCalibration.j0 k bt109.1 bt109.2 (t118 != t119) bt102.1 bt102.2))) else (laws_FnCalibration.j0 k bt109.1 bt109.2 true bt102.1 bt102.2))))))))
def laws_FnCalibration.T6 : Bool × List (List Nat × List Nat) := (true, [([], []), ([], []), ([0, 1], [0, 1]), ([2], [2]), ([3], [3]), ([3], [3]), ([4, 5, 3, 3], [3, 4, 5]), ([6, 3], [3, 6]), ([3, 7], [3, 7]), ([8, 6], [8]), ([9], [9]), ([10, 9, 9], [9, 10]), ([9], [9]), ([12, 11, 9], [9, 12]), ([11, 13, 9], [9, 11, 13]), ([9, 14], [9, 14])])
def laws_FnCalibration.B6 : List Nat := [0, 0, 3, 7, 15, 15, 63, 127, 255, 511, 1023, 2047, 1023, 8191, 16383, 32767]
theorem laws_FnCalibration.tab6 : rtab .any (opsOf Try.f5 6) = laws_FnCalibration.T6 := by kernel_rfl
theorem laws_FnCalibration.bits6 : waitsOk laws_FnCalibration.T6.2 laws_FnCalibration.B6 = true := by kernel_rfl
def laws_FnCalibration.T27 : Bool × List (List Nat × List Nat) := (true, [([], []), ([], []), ([0, 1], [0, 1]), ([2], [2]), ([], []), ([], []), ([], []), ([5, 6], [5, 6]), ([7], [7]), ([8], [8]), ([9], [9]), ([4, 10], [4, 10]), ([11], [11]), ([3, 12], [3, 12])])
def laws_FnCalibration.B27 : List Nat := [0, 0, 3, 7, 0, 0, 0, 96, 224, 480, 992, 2032, 4080, 8191]
theorem laws_FnCalibration.tab27 : rtab .any (opsOf Try.f5 27) = laws_FnCalibration.T27 := by kernel_rfl
theorem laws_FnCalibration.bits27 : waitsOk laws_FnCalibration.T27.2 laws_FnCalibration.B27 = true := by kernel_rfl
theorem laws_FnCalibration.calls (k : Nat) (A0 : Option Addr) (c0 : Nat) (l0 : List Int) (r : Bool) (w : World) (hr0 : Kd.C (Kd.int .u8) w A0 l0.length l0) (hc0 : l0.length ≤ c0) (h : laws_FnCalibration.f k l0 = some r) :
  Calls Try.prog 5 #[.slice A0 l0.length c0] w fun e w' => e = .returned (.bool r) ∧ Below w.heap.size w w' := by
 have hu26 := Try.underlying26
 have hu33 := Try.underlying33
 have HR0 := Aside0.mk hr0
 have HC0 := Aside0.mk hc0
 clear hr0 hc0
 have HB := aK (Below.refl w.heap.size w)
 have H : ((laws_vBig.f l0).bind fun t101 => (if t101 = true then (some true) else ((spec_DrawCalibrationOf.f k l0).bind fun bt102 => ((impl_CalibrationOf.f k bt102.1 bt102.2).bind fun bt109 => ((spec_CalibrationOf.f k bt102.1 bt102.2).bind fun bt113 => (if (bt109.2 != bt113.2) = true then (laws_FnCalibration.j0 k bt109.1 bt109.2 true bt102.1 bt102.2) else ((laws_vShares.f k bt109.1 bt113.1).bind fun t117 => (if t117 = true then ((impl_IsValidTally.f k bt102.1 bt102.2).bind fun t118 => ((spec_IsValidTally.f k bt102.1 bt102.2).bind fun t119 => (laws_FnCalibration.j0 k bt109.1 bt109.2 (t118 != t119) bt102.1 bt102.2))) else (laws_FnCalibration.j0 k bt109.1 bt109.2 true bt102.1 bt102.2))))))))) = some r := h
 clear h
 replace H := Option.bind_eq_some_iff.mp H
 obtain ⟨t101, A20, H⟩ := H
 replace H : (if t101 = true then (some true) else ((spec_DrawCalibrationOf.f k l0).bind fun bt102 => ((impl_CalibrationOf.f k bt102.1 bt102.2).bind fun bt109 => ((spec_CalibrationOf.f k bt102.1 bt102.2).bind fun bt113 => (if (bt109.2 != bt113.2) = true then (laws_FnCalibration.j0 k bt109.1 bt109.2 true bt102.1 bt102.2) else ((laws_vShares.f k bt109.1 bt113.1).bind fun t117 => (if t117 = true then ((impl_IsValidTally.f k bt102.1 bt102.2).bind fun t118 => ((spec_IsValidTally.f k bt102.1 bt102.2).bind fun t119 => (laws_FnCalibration.j0 k bt109.1 bt109.2 (t118 != t119) bt102.1 bt102.2))) else (laws_FnCalibration.j0 k bt109.1 bt109.2 true bt102.1 bt102.2)))))))) = some r := H
 have A2 := Aside0.mk A20
 clear A20
 by_cases c3 : t101 = true
 ·
  subst c3
  have H1 : (some true) = some r := by rw [if_pos rfl] at H; exact H
  clear H
  have H := H1
  clear H1
  obtain rfl := Option.some.inj H
  go_enter Try.func5, Try.ntmps5
  go_wp2_with (first | ((with_reducible refine gate_callee (f := 6) rfl ?_); refine gl (some 21) Try.func6 #[.slice A0 l0.length c0] ?_; (with_reducible refine (laws_vBig.calls _ _ l0 true _ ?side1 ?side2 A2.out).mono ?_); (case side1 => exact pC HR0.out); (case side2 => exact HC0.out); rintro e w' ⟨rfl, ⟨nd, rfl⟩⟩; refine ⟨_, rfl, ?_⟩))
  go_ret
  exact ⟨er, pT HB.out⟩
 replace c3 := Bool.eq_false_iff.mpr c3
 subst c3
 have H1 : ((spec_DrawCalibrationOf.f k l0).bind fun bt102 => ((impl_CalibrationOf.f k bt102.1 bt102.2).bind fun bt109 => ((spec_CalibrationOf.f k bt102.1 bt102.2).bind fun bt113 => (if (bt109.2 != bt113.2) = true then (laws_FnCalibration.j0 k bt109.1 bt109.2 true bt102.1 bt102.2) else ((laws_vShares.f k bt109.1 bt113.1).bind fun t117 => (if t117 = true then ((impl_IsValidTally.f k bt102.1 bt102.2).bind fun t118 => ((spec_IsValidTally.f k bt102.1 bt102.2).bind fun t119 => (laws_FnCalibration.j0 k bt109.1 bt109.2 (t118 != t119) bt102.1 bt102.2))) else (laws_FnCalibration.j0 k bt109.1 bt109.2 true bt102.1 bt102.2))))))) = some r := by rw [if_neg (show ¬ (false = true) by decide)] at H; exact H
 clear H
 have H := H1
 clear H1
 replace H := Option.bind_eq_some_iff.mp H
 obtain ⟨⟨t102, t105⟩, A40, H⟩ := H
 replace H : ((impl_CalibrationOf.f k t102 t105).bind fun bt109 => ((spec_CalibrationOf.f k t102 t105).bind fun bt113 => (if (bt109.2 != bt113.2) = true then (laws_FnCalibration.j0 k bt109.1 bt109.2 true t102 t105) else ((laws_vShares.f k bt109.1 bt113.1).bind fun t117 => (if t117 = true then ((impl_IsValidTally.f k t102 t105).bind fun t118 => ((spec_IsValidTally.f k t102 t105).bind fun t119 => (laws_FnCalibration.j0 k bt109.1 bt109.2 (t118 != t119) t102 t105))) else (laws_FnCalibration.j0 k bt109.1 bt109.2 true t102 t105)))))) = some r := H
 have A4 := Aside0.mk A40
 clear A40
 replace H := Option.bind_eq_some_iff.mp H
 obtain ⟨⟨t109, t112⟩, A50, H⟩ := H
 replace H : ((spec_CalibrationOf.f k t102 t105).bind fun bt113 => (if (t112 != bt113.2) = true then (laws_FnCalibration.j0 k t109 t112 true t102 t105) else ((laws_vShares.f k t109 bt113.1).bind fun t117 => (if t117 = true then ((impl_IsValidTally.f k t102 t105).bind fun t118 => ((spec_IsValidTally.f k t102 t105).bind fun t119 => (laws_FnCalibration.j0 k t109 t112 (t118 != t119) t102 t105))) else (laws_FnCalibration.j0 k t109 t112 true t102 t105))))) = some r := H
 have A5 := Aside0.mk A50
 clear A50
 replace H := Option.bind_eq_some_iff.mp H
 obtain ⟨⟨t113, t116⟩, A60, H⟩ := H
 replace H : (if (t112 != t116) = true then (laws_FnCalibration.j0 k t109 t112 true t102 t105) else ((laws_vShares.f k t109 t113).bind fun t117 => (if t117 = true then ((impl_IsValidTally.f k t102 t105).bind fun t118 => ((spec_IsValidTally.f k t102 t105).bind fun t119 => (laws_FnCalibration.j0 k t109 t112 (t118 != t119) t102 t105))) else (laws_FnCalibration.j0 k t109 t112 true t102 t105)))) = some r := H
 have A6 := Aside0.mk A60
 clear A60
 have HC7 := Aside0.mk H
 clear H
 go_enter Try.func5, Try.ntmps5
 go_upto_region 6 with (first | ((with_reducible refine gate_callee (f := 6) rfl ?_); refine gl (some 21) Try.func6 #[.slice A0 l0.length c0] ?_; (with_reducible refine (laws_vBig.calls _ _ l0 false _ ?side1 ?side2 A2.out).mono ?_); (case side1 => exact pC HR0.out); (case side2 => exact HC0.out); rintro e w' ⟨rfl, ⟨nd, rfl⟩⟩; refine ⟨_, rfl, ?_⟩) | ((with_reducible refine gate_callee (f := 32) rfl ?_); refine gl (some 23) Try.func32 #[.slice A0 l0.length c0] ?_; (with_reducible refine (spec_DrawCalibrationOf.calls k _ _ l0 t102 t105 _ ?side1 ?side2 A4.out).mono ?_); (case side1 => exact pC HR0.out); (case side2 => exact HC0.out); rintro e w8 ⟨v103, v106, rfl, ho0, ho1, hb⟩; refine ⟨_, rfl, ?_⟩; have HO104 := aK (Kd.R_lower ho0 (below_size (pS HB.out))); have HO107 := aK (Kd.Q_lower ho1 (below_size (pS HB.out))); replace HB := bS HB hb; (try clear hb); (try clear hb2); (try clear hk); (try clear hi); (try clear ho0); (try clear ho1)) | ((with_reducible refine gate_dst (N := 3) rfl ?_); (try (refine gate_guard (by rfl) ?_; dsimp only)); refine bxe (cs := #[.slice none 0 0, .slice none 0 0]) (t := 26) ?_; intro gb108 hg w9 hbox hb; have n0_ := aK (Kd.R_below (pR HO104.out) hb); have n1_ := aK (Kd.Q_below (pQ HO107.out) hb); have BK108 := aK (hbox); have GW108 := aK (gE hg (pS HB.out)); have GE108 := GW108; replace HB := bS HB hb; clear HO104 HO107; have HO104 := n0_; have HO107 := n1_; clear n0_ n1_ hb hbox hg; obtain ⟨Ao10, co10, eo10⟩ := Kd.R_slice HO104.out; subst eo10; obtain ⟨hcz11_0, hcz11_1, hfz11_0, hfz11_1⟩ := bc2 BK108.out; obtain ⟨Ao12, co12, eo12, _⟩ := Kd.Q_slice HO107.out; subst eo12) | ((with_reducible refine gate_callee (f := 19) rfl ?_); refine gl (some 26) Try.func19 #[.agg #[.slice Ao10 t102.length co10, .slice Ao12 t105.length co12]] ?_; (with_reducible refine (impl_CalibrationOf.calls k _ _ t102 _ _ t105 t109 t112 _ ?side1 ?side2 ?side3 ?side4 A5.out).mono ?_); (case side1 => exact rC (pR (rF2 HO104.out BK108.out (.slice Ao10 t102.length co10) (.slice Ao12 t105.length co12)))); (case side2 => exact (Kd.R_reads' HO104.out).2.1); (case side3 => refine (Kd.Q_reads' (e := 3) (base := w.heap.size) (ok := fun k_ => some k_ ≠ (.slice Ao10 t102.length co10 : Value).ownBlock) (n := t105.length) (c := co12) ?_).2.2; exact (pQ (qF2 HO107.out BK108.out (.slice Ao10 t102.length co10) (.slice Ao12 t105.length co12)))); (case side4 => exact (Kd.Q_reads' HO107.out).2.1); rintro e w13 ⟨v110, rfl, ho0, hb⟩; refine ⟨_, rfl, ?_⟩; have n0_ := aK (Kd.R_below (pR (rF2 HO104.out BK108.out (.slice Ao10 t102.length co10) (.slice Ao12 t105.length co12))) hb); have n1_ := aK (Kd.Q_below (pQ (qF2 HO107.out BK108.out (.slice Ao10 t102.length co10) (.slice Ao12 t105.length co12))) hb); have HO111 := aK (Kd.R_lower ho0 (below_size (pS HB.out))); have n3_ := aK (blk_below (g := gb108) (o := .cells #[.slice Ao10 t102.length co10, .slice Ao12 t105.length co12] 26 (0, 0)) (by refine bk ?_; refine blk_put (cs := #[.slice Ao10 t102.length co10, .slice none 0 0]) ?_ 1 _ rfl; refine bk ?_; refine blk_put (cs := #[.slice none 0 0, .slice none 0 0]) ?_ 0 _ rfl; refine bk ?_; exact BK108.out) hb); replace HB := bS HB hb; clear HO104 HO107 BK108; have HO104 := n0_; have HO107 := n1_; have BK108 := n3_; clear n0_ n1_ n3_; (try clear hb); (try clear hb2); (try clear hk); (try clear hi); (try clear ho0); obtain ⟨hcz14_0, hcz14_1, hfz14_0, hfz14_1⟩ := bc2 BK108.out) | ((with_reducible refine gate_callee (f := 33) rfl ?_); refine gl (some 31) Try.func33 #[.agg #[.slice Ao10 t102.length co10, .slice Ao12 t105.length co12]] ?_; (with_reducible refine (spec_CalibrationOf.calls k _ _ t102 _ _ t105 t113 t116 _ ?side1 ?side2 ?side3 ?side4 A6.out).mono ?_); (case side1 => exact pC (Kd.R_reads' HO104.out).2.2); (case side2 => exact (Kd.R_reads' HO104.out).2.1); (case side3 => exact pC (Kd.Q_reads' HO107.out).2.2); (case side4 => exact (Kd.Q_reads' HO107.out).2.1); rintro e w15 ⟨v114, rfl, ho0, hb⟩; refine ⟨_, rfl, ?_⟩; have n0_ := aK (Kd.R_below (pR HO104.out) hb); have n1_ := aK (Kd.Q_below (pQ HO107.out) hb); have n2_ := aK (Kd.R_elder' (pR HO111.out) (Kd.R_base ho0) hb); have HO115 := aK (Kd.R_lower (nw1 ho0 (pR HO111.out)) (below_size (pS HB.out))); replace BK108 := bB BK108 hb; replace HB := bS HB hb; clear HO104 HO107 HO111; have HO104 := n0_; have HO107 := n1_; have HO111 := n2_; clear n0_ n1_ n2_; (try clear hb); (try clear hb2); (try clear hk); (try clear hi); (try clear ho0)))
 (try simp only [Act.put, List.setIfInBounds_toArray, List.set_cons_zero, List.set_cons_succ])
 go_cut [49] (fun v49 wc => ∃ (kq : Nat) (x49_6 : Bool), v49 = .bool x49_6 ∧ Aside0 (laws_FnCalibration.j0 kq t109 t112 x49_6 t102 t105 = some r) ∧ Aside0 (kq ≤ k) ∧ Aside0 (Kd.R k33 33 wc w.heap.size (fun _ => True) v110 t109) ∧ Aside0 (Kd.R (Kd.int .i64) 3 wc w.heap.size (fun k_ => some k_ ≠ ((.slice Ao12 t105.length co12) : Value).ownBlock) (.slice Ao10 t102.length co10) t102) ∧ Aside0 (Kd.Q (Kd.int .i64) 3 wc w.heap.size (fun k_ => some k_ ≠ ((.slice Ao10 t102.length co10) : Value).ownBlock) (.slice Ao12 t105.length co12) t105) ∧ Aside0 (wc.heap[gb108]? = some (.cells #[(.slice Ao10 t102.length co10), (.slice Ao12 t105.length co12)] 26 (0, 0))) ∧ Aside0 (Below w.heap.size w wc))
 case first =>
  have H := HC7.out
  clear HC7
  by_cases c16 : (t112 != t116) = true
  ·
   rw [if_pos c16] at H
   have c16b0 : (t112 != t116) = true := c16
   (try (have c16b1 : decide (t112 = t116) = false := by simpa using c16))
   (try (have c16b2 : (t112 == t116) = false := by simpa using c16))
   (try (have c16b3 : ¬ (t112 = t116) := by simpa using c16))
   clear c16
   (first | rw [c16b0] | (simp only [i64_w, i32_w]; rw [c16b0]) | skip)
   have H' := Aside0.mk H
   clear H
   try go_wp2
   have n0_ := aK (Kd.R_drew HO104.out)
   have n1_ := aK (Kd.Q_drew HO107.out)
   have n2_ := aK (Kd.R_drew HO111.out)
   have n3_ := aK (Kd.R_drew HO115.out)
   have n4_ := aK (blk_drew BK108.out)
   have n5_ := aK (below_drew1 HB.out)
   clear HO104 HO107 HO111 HO115 BK108 HB
   have HO104 := n0_
   have HO107 := n1_
   have HO111 := n2_
   have HO115 := n3_
   have BK108 := n4_
   have HB := n5_
   clear n0_ n1_ n2_ n3_ n4_ n5_
   refine start_ (n := 16) (S := fun w' => True) (ds := []) #[false, false, false, false, false, false, false, false, false, false, false, false, false, false, false, false] (by kernel_rfl) rfl rfl trivial (fun hHeld => ?_); refine with_tabW laws_FnCalibration.tab6 laws_FnCalibration.bits6 (fun HT_ HW_ => ?_)
   generalize w15.drew = w17 at HO104 HO107 HO111 HO115 BK108 HB hHeld ⊢
   refine pu (i := 0) (N := some 34) #[true, false, false, false, false, false, false, false, false, false, false, false, false, false, false, false] rfl rfl HT_.out ?_
   refine pu (i := 1) (N := some 35) #[true, true, false, false, false, false, false, false, false, false, false, false, false, false, false, false] rfl rfl HT_.out ?_
   refine pu (i := 2) (N := some 36) #[true, true, true, false, false, false, false, false, false, false, false, false, false, false, false, false] rfl rfl HT_.out ?_
   refine pu (i := 3) (N := some 37) #[true, true, true, true, false, false, false, false, false, false, false, false, false, false, false, false] rfl rfl HT_.out ?_
   refine pure_ (i := 4) (N := some 38) (v := undef) (a' := ?_) #[true, true, true, true, true, false, false, false, false, false, false, false, false, false, false, false] rfl rfl (any_of HT_.out (by kernel_rfl)) (fun _ _ _ h => h) (Or.inr ⟨by rfl, rfl⟩) ?_ ?_
   rotate_left
   ·
    simp only [sP]
    rfl
   refine pure_ (i := 5) (N := some 39) (v := undef) (a' := ?_) #[true, true, true, true, true, true, false, false, false, false, false, false, false, false, false, false] rfl rfl (any_of HT_.out (by kernel_rfl)) (fun _ _ _ h => h) (Or.inr ⟨by rfl, rfl⟩) ?_ ?_
   rotate_left
   ·
    simp only [sP]
    rfl
   refine pure_ (i := 6) (N := some 40) (v := undef) (a' := ?_) #[true, true, true, true, true, true, true, false, false, false, false, false, false, false, false, false] rfl rfl (any_of HT_.out (by kernel_rfl)) (fun _ _ _ h => h) (Or.inr ⟨by rfl, rfl⟩) ?_ ?_
   rotate_left
   ·
    simp only [sP]
    rfl
   refine pure_ (i := 7) (N := some 41) (v := undef) (a' := ?_) #[true, true, true, true, true, true, true, true, false, false, false, false, false, false, false, false] rfl rfl (any_of HT_.out (by kernel_rfl)) (fun _ _ _ h => h) (Or.inr ⟨by rfl, rfl⟩) ?_ ?_
   rotate_left
   ·
    simp only [sP]
    rfl
   refine pu (i := 8) (N := some 42) #[true, true, true, true, true, true, true, true, true, false, false, false, false, false, false, false] rfl rfl HT_.out ?_
   refine pu (i := 9) (N := some 43) #[true, true, true, true, true, true, true, true, true, true, false, false, false, false, false, false] rfl rfl HT_.out ?_
   refine pure_ (i := 10) (N := some 44) (v := undef) (a' := ?_) #[true, true, true, true, true, true, true, true, true, true, true, false, false, false, false, false] rfl rfl (any_of HT_.out (by kernel_rfl)) (fun _ _ _ h => h) (Or.inr ⟨by rfl, rfl⟩) ?_ ?_
   rotate_left
   ·
    simp only [sP]
    rfl
   refine pure_ (i := 11) (N := some 45) (v := undef) (a' := ?_) #[true, true, true, true, true, true, true, true, true, true, true, true, false, false, false, false] rfl rfl (any_of HT_.out (by kernel_rfl)) (fun _ _ _ h => h) (Or.inr ⟨by rfl, rfl⟩) ?_ ?_
   rotate_left
   ·
    simp only [sP]
    rfl
   refine pure_ (i := 12) (N := some 46) (v := undef) (a' := ?_) #[true, true, true, true, true, true, true, true, true, true, true, true, true, false, false, false] rfl rfl (any_of HT_.out (by kernel_rfl)) (fun _ _ _ h => h) (Or.inr ⟨by rfl, rfl⟩) ?_ ?_
   rotate_left
   ·
    simp only [sP]
    rfl
   refine pure_ (i := 13) (N := some 47) (v := undef) (a' := ?_) #[true, true, true, true, true, true, true, true, true, true, true, true, true, true, false, false] rfl rfl (any_of HT_.out (by kernel_rfl)) (fun _ _ _ h => h) (Or.inr ⟨by rfl, rfl⟩) ?_ ?_
   rotate_left
   ·
    simp only [sP]
    rfl
   refine pure_ (i := 14) (N := some 48) (v := undef) (a' := ?_) #[true, true, true, true, true, true, true, true, true, true, true, true, true, true, true, false] rfl rfl (any_of HT_.out (by kernel_rfl)) (fun _ _ _ h => h) (Or.inr ⟨by rfl, rfl⟩) ?_ ?_
   rotate_left
   ·
    simp only [sP]
    rfl
   refine pu (i := 15) (N := some 49) #[true, true, true, true, true, true, true, true, true, true, true, true, true, true, true, true] rfl rfl HT_.out ?_
   refine done_ (done_of HT_.out (by kernel_rfl)) ?_
   try go_wp2
   go_meet
   case rel => exact ⟨_, (true), (by first | rfl | (simp; done) | (simp [*]; done)), H', ⟨by first | omega | exact Nat.le_refl _⟩, ⟨pR (Kd.R_mono HO111.out (fun _ hk => trivial))⟩, ⟨pR HO104.out⟩, ⟨pQ HO107.out⟩, ⟨by refine bk ?_; exact BK108.out⟩, ⟨pT HB.out⟩⟩
  rw [if_neg c16] at H
  have c16b0 : (t112 != t116) = false := by simpa using c16
  (try (have c16b1 : decide (t112 = t116) = true := by simpa using c16))
  (try (have c16b2 : (t112 == t116) = true := by simpa using c16))
  clear c16
  (first | rw [c16b0] | (simp only [i64_w, i32_w]; rw [c16b0]) | skip)
  replace H := Option.bind_eq_some_iff.mp H
  obtain ⟨t117, A180, H⟩ := H
  replace H : (if t117 = true then ((impl_IsValidTally.f k t102 t105).bind fun t118 => ((spec_IsValidTally.f k t102 t105).bind fun t119 => (laws_FnCalibration.j0 k t109 t112 (t118 != t119) t102 t105))) else (laws_FnCalibration.j0 k t109 t112 true t102 t105)) = some r := H
  have A18 := Aside0.mk A180
  clear A180
  by_cases c19 : t117 = true
  ·
   subst c19
   have H1 : ((impl_IsValidTally.f k t102 t105).bind fun t118 => ((spec_IsValidTally.f k t102 t105).bind fun t119 => (laws_FnCalibration.j0 k t109 t112 (t118 != t119) t102 t105))) = some r := by rw [if_pos rfl] at H; exact H
   clear H
   have H := H1
   clear H1
   replace H := Option.bind_eq_some_iff.mp H
   obtain ⟨t118, A200, H⟩ := H
   replace H : ((spec_IsValidTally.f k t102 t105).bind fun t119 => (laws_FnCalibration.j0 k t109 t112 (t118 != t119) t102 t105)) = some r := H
   have A20 := Aside0.mk A200
   clear A200
   replace H := Option.bind_eq_some_iff.mp H
   obtain ⟨t119, A210, H⟩ := H
   replace H : (laws_FnCalibration.j0 k t109 t112 (t118 != t119) t102 t105) = some r := H
   have A21 := Aside0.mk A210
   clear A210
   have H' := Aside0.mk H
   clear H
   try go_wp2
   have n0_ := aK (Kd.R_drew HO104.out)
   have n1_ := aK (Kd.Q_drew HO107.out)
   have n2_ := aK (Kd.R_drew HO111.out)
   have n3_ := aK (Kd.R_drew HO115.out)
   have n4_ := aK (blk_drew BK108.out)
   have n5_ := aK (below_drew1 HB.out)
   clear HO104 HO107 HO111 HO115 BK108 HB
   have HO104 := n0_
   have HO107 := n1_
   have HO111 := n2_
   have HO115 := n3_
   have BK108 := n4_
   have HB := n5_
   clear n0_ n1_ n2_ n3_ n4_ n5_
   obtain ⟨Ao23, co23, eo23⟩ := Kd.R_slice HO111.out
   (first | subst eo23 | (obtain ⟨f4_, f5_⟩ := sI eo23; subst f4_; subst f5_))
   obtain ⟨Ao24, co24, eo24⟩ := Kd.R_slice HO115.out
   (first | subst eo24 | (obtain ⟨f4_, f5_⟩ := sI eo24; subst f4_; subst f5_))
   refine start_ (n := 16) (S := fun w' => w'.cell? ⟨gb108, 0, none⟩ = some (.slice Ao10 t102.length co10) ∧ w'.cell? ⟨gb108, 1, none⟩ = some (.slice Ao12 t105.length co12)) (ds := []) #[false, false, false, false, false, false, false, false, false, false, false, false, false, false, false, false] (by kernel_rfl) rfl rfl (cz2 BK108.out) (fun hHeld => ?_); refine with_tabW laws_FnCalibration.tab6 laws_FnCalibration.bits6 (fun HT_ HW_ => ?_)
   generalize w15.drew = w22 at HO104 HO107 HO111 HO115 BK108 HB hHeld ⊢
   refine pu (i := 0) (N := some 34) #[true, false, false, false, false, false, false, false, false, false, false, false, false, false, false, false] rfl rfl HT_.out ?_
   refine pu (i := 1) (N := some 35) #[true, true, false, false, false, false, false, false, false, false, false, false, false, false, false, false] rfl rfl HT_.out ?_
   refine pu (i := 2) (N := some 36) #[true, true, true, false, false, false, false, false, false, false, false, false, false, false, false, false] rfl rfl HT_.out ?_
   refine pu (i := 3) (N := some 37) #[true, true, true, true, false, false, false, false, false, false, false, false, false, false, false, false] rfl rfl HT_.out ?_
   refine pu (i := 4) (N := some 38) #[true, true, true, true, true, false, false, false, false, false, false, false, false, false, false, false] rfl rfl HT_.out ?_
   refine pu (i := 5) (N := some 39) #[true, true, true, true, true, true, false, false, false, false, false, false, false, false, false, false] rfl rfl HT_.out ?_
   refine one_ (i := 6) (N := some 40) #[true, true, true, true, true, true, true, false, false, false, false, false, false, false, false, false] rfl rfl (one_of HT_.out (by kernel_rfl)) (by decide) (fun K hK => ?_)
   refine goes_ Try.func34 (by kernel_rfl) rfl #[.slice Ao23 t109.length co23, .slice Ao24 t113.length co24] (by rfl) rfl rfl (by (try simp only [List.map_toArray, List.map_cons, List.map_nil]); first | done | rfl | (simp only [List.length_drop, List.length_take]; rfl)) ?_
   with_reducible refine (laws_vShares.calls k _ _ t109 _ _ t113 true _ ?side1 ?side2 ?side3 ?side4 A18.out).mono ?_
   (case side1 => exact pC (Kd.R_reads' HO111.out).2.2)
   (case side2 => exact (Kd.R_reads' HO111.out).2.1)
   (case side3 => exact pC (Kd.R_reads' HO115.out).2.2)
   (case side4 => exact (Kd.R_reads' HO115.out).2.1)
   rintro e w' ⟨rfl, ⟨nd, rfl⟩⟩
   refine ⟨_, rfl, ?_⟩
   refine hK.out _ _ (cz2 BK108.out) (fun hHeld => ?_)
   clear hK K
   refine norm_ (a' := ?_) ?_ ?_
   rotate_left
   ·
    show Act.put _ (some 40) _ = _
    simp only [sP]
    rfl
   refine pu (i := 7) (N := some 41) #[true, true, true, true, true, true, true, true, false, false, false, false, false, false, false, false] rfl rfl HT_.out ?_
   refine pu (i := 8) (N := some 42) #[true, true, true, true, true, true, true, true, true, false, false, false, false, false, false, false] rfl rfl HT_.out ?_
   refine pu (i := 9) (N := some 43) #[true, true, true, true, true, true, true, true, true, true, false, false, false, false, false, false] rfl rfl HT_.out ?_
   refine tk (i := 10) (N := some 44) #[true, true, true, true, true, true, true, true, true, true, true, false, false, false, false, false] rfl rfl HT_.out HW_.out (Or.inl ⟨by rfl, by rintro w' ⟨s0, s1⟩; go_simp; with_reducible rfl⟩) hHeld ?_
   refine tk (i := 12) (N := some 46) #[true, true, true, true, true, true, true, true, true, true, true, false, true, false, false, false] rfl rfl HT_.out HW_.out (Or.inl ⟨by rfl, by rintro w' ⟨s0, s1⟩; go_simp; with_reducible rfl⟩) hHeld ?_
   refine one_ (i := 11) (N := some 45) #[true, true, true, true, true, true, true, true, true, true, true, true, true, false, false, false] rfl rfl (one_of HT_.out (by kernel_rfl)) (by decide) (fun K hK => ?_)
   refine goes_ Try.func35 (by kernel_rfl) rfl #[.agg #[.slice Ao10 t102.length co10, .slice Ao12 t105.length co12]] (by rfl) rfl rfl (by (try simp only [List.map_toArray, List.map_cons, List.map_nil]); first | done | rfl | (simp only [List.length_drop, List.length_take]; rfl)) ?_
   with_reducible refine (impl_IsValidTally.calls k _ _ t102 _ _ t105 t118 _ ?side1 ?side2 ?side3 ?side4 A20.out).mono ?_
   (case side1 => exact pC (Kd.R_reads' HO104.out).2.2)
   (case side2 => exact (Kd.R_reads' HO104.out).2.1)
   (case side3 => exact pC (Kd.Q_reads' HO107.out).2.2)
   (case side4 => exact (Kd.Q_reads' HO107.out).2.1)
   rintro e w25 ⟨rfl, hb⟩
   refine ⟨_, rfl, ?_⟩
   have n0_ := aK (Kd.R_below (pR HO104.out) hb)
   have n1_ := aK (Kd.Q_below (pQ HO107.out) hb)
   have n2_ := aK (Kd.R_below (pR HO111.out) hb)
   have n3_ := aK (Kd.R_below (pR HO115.out) hb)
   replace BK108 := bB BK108 hb
   replace HB := bS HB hb
   clear HO104 HO107 HO111 HO115
   have HO104 := n0_
   have HO107 := n1_
   have HO111 := n2_
   have HO115 := n3_
   clear n0_ n1_ n2_ n3_
   (try clear hb)
   (try clear hb2)
   (try clear hk)
   (try clear hi)
   refine hK.out _ _ (cz2 BK108.out) (fun hHeld => ?_)
   clear hK K
   refine norm_ (a' := ?_) ?_ ?_
   rotate_left
   ·
    show Act.put _ (some 45) _ = _
    simp only [sP]
    rfl
   refine one_ (i := 13) (N := some 47) #[true, true, true, true, true, true, true, true, true, true, true, true, true, true, false, false] rfl rfl (one_of HT_.out (by kernel_rfl)) (by decide) (fun K hK => ?_)
   refine goes_ Try.func36 (by kernel_rfl) rfl #[.agg #[.slice Ao10 t102.length co10, .slice Ao12 t105.length co12]] (by rfl) rfl rfl (by (try simp only [List.map_toArray, List.map_cons, List.map_nil]); first | done | rfl | (simp only [List.length_drop, List.length_take]; rfl)) ?_
   with_reducible refine (spec_IsValidTally.calls k _ _ t102 _ _ t105 t119 _ ?side1 ?side2 ?side3 ?side4 A21.out).mono ?_
   (case side1 => exact pC (Kd.R_reads' HO104.out).2.2)
   (case side2 => exact (Kd.R_reads' HO104.out).2.1)
   (case side3 => exact pC (Kd.Q_reads' HO107.out).2.2)
   (case side4 => exact (Kd.Q_reads' HO107.out).2.1)
   rintro e w26 ⟨rfl, hb⟩
   refine ⟨_, rfl, ?_⟩
   have n0_ := aK (Kd.R_below (pR HO104.out) hb)
   have n1_ := aK (Kd.Q_below (pQ HO107.out) hb)
   have n2_ := aK (Kd.R_below (pR HO111.out) hb)
   have n3_ := aK (Kd.R_below (pR HO115.out) hb)
   replace BK108 := bB BK108 hb
   replace HB := bS HB hb
   clear HO104 HO107 HO111 HO115
   have HO104 := n0_
   have HO107 := n1_
   have HO111 := n2_
   have HO115 := n3_
   clear n0_ n1_ n2_ n3_
   (try clear hb)
   (try clear hb2)
   (try clear hk)
   (try clear hi)
   refine hK.out _ _ (cz2 BK108.out) (fun hHeld => ?_)
   clear hK K
   refine norm_ (a' := ?_) ?_ ?_
   rotate_left
   ·
    show Act.put _ (some 47) _ = _
    simp only [sP]
    rfl
   refine pu (i := 14) (N := some 48) #[true, true, true, true, true, true, true, true, true, true, true, true, true, true, true, false] rfl rfl HT_.out ?_
   refine pu (i := 15) (N := some 49) #[true, true, true, true, true, true, true, true, true, true, true, true, true, true, true, true] rfl rfl HT_.out ?_
   refine done_ (done_of HT_.out (by kernel_rfl)) ?_
   try go_wp2
   go_meet
   case rel => exact ⟨_, ((t118 != t119)), (by first | rfl | (simp; done) | (simp [*]; done)), H', ⟨by first | omega | exact Nat.le_refl _⟩, ⟨pR (Kd.R_mono HO111.out (fun _ hk => trivial))⟩, ⟨pR HO104.out⟩, ⟨pQ HO107.out⟩, ⟨by refine bk ?_; exact BK108.out⟩, ⟨pT HB.out⟩⟩
  replace c19 := Bool.eq_false_iff.mpr c19
  subst c19
  have H1 : (laws_FnCalibration.j0 k t109 t112 true t102 t105) = some r := by rw [if_neg (show ¬ (false = true) by decide)] at H; exact H
  clear H
  have H := H1
  clear H1
  have H' := Aside0.mk H
  clear H
  try go_wp2
  have n0_ := aK (Kd.R_drew HO104.out)
  have n1_ := aK (Kd.Q_drew HO107.out)
  have n2_ := aK (Kd.R_drew HO111.out)
  have n3_ := aK (Kd.R_drew HO115.out)
  have n4_ := aK (blk_drew BK108.out)
  have n5_ := aK (below_drew1 HB.out)
  clear HO104 HO107 HO111 HO115 BK108 HB
  have HO104 := n0_
  have HO107 := n1_
  have HO111 := n2_
  have HO115 := n3_
  have BK108 := n4_
  have HB := n5_
  clear n0_ n1_ n2_ n3_ n4_ n5_
  obtain ⟨Ao28, co28, eo28⟩ := Kd.R_slice HO111.out
  (first | subst eo28 | (obtain ⟨f4_, f5_⟩ := sI eo28; subst f4_; subst f5_))
  obtain ⟨Ao29, co29, eo29⟩ := Kd.R_slice HO115.out
  (first | subst eo29 | (obtain ⟨f4_, f5_⟩ := sI eo29; subst f4_; subst f5_))
  refine start_ (n := 16) (S := fun w' => True) (ds := []) #[false, false, false, false, false, false, false, false, false, false, false, false, false, false, false, false] (by kernel_rfl) rfl rfl trivial (fun hHeld => ?_); refine with_tabW laws_FnCalibration.tab6 laws_FnCalibration.bits6 (fun HT_ HW_ => ?_)
  generalize w15.drew = w27 at HO104 HO107 HO111 HO115 BK108 HB hHeld ⊢
  refine pu (i := 0) (N := some 34) #[true, false, false, false, false, false, false, false, false, false, false, false, false, false, false, false] rfl rfl HT_.out ?_
  refine pu (i := 1) (N := some 35) #[true, true, false, false, false, false, false, false, false, false, false, false, false, false, false, false] rfl rfl HT_.out ?_
  refine pu (i := 2) (N := some 36) #[true, true, true, false, false, false, false, false, false, false, false, false, false, false, false, false] rfl rfl HT_.out ?_
  refine pu (i := 3) (N := some 37) #[true, true, true, true, false, false, false, false, false, false, false, false, false, false, false, false] rfl rfl HT_.out ?_
  refine pu (i := 4) (N := some 38) #[true, true, true, true, true, false, false, false, false, false, false, false, false, false, false, false] rfl rfl HT_.out ?_
  refine pu (i := 5) (N := some 39) #[true, true, true, true, true, true, false, false, false, false, false, false, false, false, false, false] rfl rfl HT_.out ?_
  refine one_ (i := 6) (N := some 40) #[true, true, true, true, true, true, true, false, false, false, false, false, false, false, false, false] rfl rfl (one_of HT_.out (by kernel_rfl)) (by decide) (fun K hK => ?_)
  refine goes_ Try.func34 (by kernel_rfl) rfl #[.slice Ao28 t109.length co28, .slice Ao29 t113.length co29] (by rfl) rfl rfl (by (try simp only [List.map_toArray, List.map_cons, List.map_nil]); first | done | rfl | (simp only [List.length_drop, List.length_take]; rfl)) ?_
  with_reducible refine (laws_vShares.calls k _ _ t109 _ _ t113 false _ ?side1 ?side2 ?side3 ?side4 A18.out).mono ?_
  (case side1 => exact pC (Kd.R_reads' HO111.out).2.2)
  (case side2 => exact (Kd.R_reads' HO111.out).2.1)
  (case side3 => exact pC (Kd.R_reads' HO115.out).2.2)
  (case side4 => exact (Kd.R_reads' HO115.out).2.1)
  rintro e w' ⟨rfl, ⟨nd, rfl⟩⟩
  refine ⟨_, rfl, ?_⟩
  refine hK.out _ _ trivial (fun hHeld => ?_)
  clear hK K
  refine norm_ (a' := ?_) ?_ ?_
  rotate_left
  ·
   show Act.put _ (some 40) _ = _
   simp only [sP]
   rfl
  refine pu (i := 7) (N := some 41) #[true, true, true, true, true, true, true, true, false, false, false, false, false, false, false, false] rfl rfl HT_.out ?_
  refine pu (i := 8) (N := some 42) #[true, true, true, true, true, true, true, true, true, false, false, false, false, false, false, false] rfl rfl HT_.out ?_
  refine pu (i := 9) (N := some 43) #[true, true, true, true, true, true, true, true, true, true, false, false, false, false, false, false] rfl rfl HT_.out ?_
  refine pure_ (i := 10) (N := some 44) (v := undef) (a' := ?_) #[true, true, true, true, true, true, true, true, true, true, true, false, false, false, false, false] rfl rfl (any_of HT_.out (by kernel_rfl)) (fun _ _ _ h => h) (Or.inr ⟨by rfl, rfl⟩) ?_ ?_
  rotate_left
  ·
   simp only [sP]
   rfl
  refine pure_ (i := 11) (N := some 45) (v := undef) (a' := ?_) #[true, true, true, true, true, true, true, true, true, true, true, true, false, false, false, false] rfl rfl (any_of HT_.out (by kernel_rfl)) (fun _ _ _ h => h) (Or.inr ⟨by rfl, rfl⟩) ?_ ?_
  rotate_left
  ·
   simp only [sP]
   rfl
  refine pure_ (i := 12) (N := some 46) (v := undef) (a' := ?_) #[true, true, true, true, true, true, true, true, true, true, true, true, true, false, false, false] rfl rfl (any_of HT_.out (by kernel_rfl)) (fun _ _ _ h => h) (Or.inr ⟨by rfl, rfl⟩) ?_ ?_
  rotate_left
  ·
   simp only [sP]
   rfl
  refine pure_ (i := 13) (N := some 47) (v := undef) (a' := ?_) #[true, true, true, true, true, true, true, true, true, true, true, true, true, true, false, false] rfl rfl (any_of HT_.out (by kernel_rfl)) (fun _ _ _ h => h) (Or.inr ⟨by rfl, rfl⟩) ?_ ?_
  rotate_left
  ·
   simp only [sP]
   rfl
  refine pure_ (i := 14) (N := some 48) (v := undef) (a' := ?_) #[true, true, true, true, true, true, true, true, true, true, true, true, true, true, true, false] rfl rfl (any_of HT_.out (by kernel_rfl)) (fun _ _ _ h => h) (Or.inr ⟨by rfl, rfl⟩) ?_ ?_
  rotate_left
  ·
   simp only [sP]
   rfl
  refine pu (i := 15) (N := some 49) #[true, true, true, true, true, true, true, true, true, true, true, true, true, true, true, true] rfl rfl HT_.out ?_
  refine done_ (done_of HT_.out (by kernel_rfl)) ?_
  try go_wp2
  go_meet
  case rel => exact ⟨_, (true), (by first | rfl | (simp; done) | (simp [*]; done)), H', ⟨by first | omega | exact Nat.le_refl _⟩, ⟨pR (Kd.R_mono HO111.out (fun _ hk => trivial))⟩, ⟨pR HO104.out⟩, ⟨pQ HO107.out⟩, ⟨by refine bk ?_; exact BK108.out⟩, ⟨pT HB.out⟩⟩
 case rest =>
  clear HC7
  try clear c1
  try clear p2
  try clear c3
  try clear c5
  try clear c6
  try clear c16
  try clear c16b0
  try clear c16b1
  try clear c16b2
  try clear c19
  try clear hcz11_0
  try clear hcz11_1
  try clear hcz14_0
  try clear hcz14_1
  try clear hfz11_0
  try clear hfz11_1
  try clear hfz14_0
  try clear hfz14_1
  obtain ⟨kq, x49_6, rfl, HA, HJ6, HO_4, HO_109000, HO_109001, BK108, HB⟩ := hcut
  cases kq with
  | zero => exact absurd HA.out (by simp [laws_FnCalibration.j0])
  | succ kj6 =>
   have H := HA.out
   clear HA
   simp only [laws_FnCalibration.j0] at H
   by_cases c30 : x49_6 = true
   ·
    subst c30
    have H1 : (some false) = some r := by rw [if_pos rfl] at H; exact H
    clear H
    have H := H1
    clear H1
    obtain rfl := Option.some.inj H
    go_wp2
    go_ret
    exact ⟨er, pT HB.out⟩
   replace c30 := Bool.eq_false_iff.mpr c30
   subst c30
   have H1 : ((impl_GroupsOf.f kj6 t102 t105).bind fun bt120 => ((spec_GroupsOf.f kj6 t102 t105).bind fun bt124 => (if (bt120.2 != bt124.2) = true then (laws_FnCalibration.j1 kj6 t109 t112 bt120.1 true t102 t105) else ((laws_vTable.f kj6 bt120.1 bt124.1).bind fun t128 => (laws_FnCalibration.j1 kj6 t109 t112 bt120.1 (!t128) t102 t105))))) = some r := by rw [if_neg (show ¬ (false = true) by decide)] at H; exact H
   clear H
   have H := H1
   clear H1
   replace H := Option.bind_eq_some_iff.mp H
   obtain ⟨⟨t120, t123⟩, A310, H⟩ := H
   replace H : ((spec_GroupsOf.f kj6 t102 t105).bind fun bt124 => (if (t123 != bt124.2) = true then (laws_FnCalibration.j1 kj6 t109 t112 t120 true t102 t105) else ((laws_vTable.f kj6 t120 bt124.1).bind fun t128 => (laws_FnCalibration.j1 kj6 t109 t112 t120 (!t128) t102 t105)))) = some r := H
   have A31 := Aside0.mk A310
   clear A310
   replace H := Option.bind_eq_some_iff.mp H
   obtain ⟨⟨t124, t127⟩, A320, H⟩ := H
   replace H : (if (t123 != t127) = true then (laws_FnCalibration.j1 kj6 t109 t112 t120 true t102 t105) else ((laws_vTable.f kj6 t120 t124).bind fun t128 => (laws_FnCalibration.j1 kj6 t109 t112 t120 (!t128) t102 t105))) = some r := H
   have A32 := Aside0.mk A320
   clear A320
   have HC33 := Aside0.mk H
   clear H
   obtain ⟨hcz34_0, hcz34_1, hfz34_0, hfz34_1⟩ := bc2 BK108.out
   go_upto_region 10 with (first | ((with_reducible refine gate_callee (f := 26) rfl ?_); refine gl (some 52) Try.func26 #[.agg #[.slice Ao10 t102.length co10, .slice Ao12 t105.length co12]] ?_; (with_reducible refine (impl_GroupsOf.calls kj6 _ _ t102 _ _ t105 t120 t123 _ ?side1 ?side2 ?side3 ?side4 A31.out).mono ?_); (case side1 => exact pC (Kd.R_reads' HO_109000.out).2.2); (case side2 => exact (Kd.R_reads' HO_109000.out).2.1); (case side3 => exact pC (Kd.Q_reads' HO_109001.out).2.2); (case side4 => exact (Kd.Q_reads' HO_109001.out).2.1); rintro e w35 ⟨v121, rfl, ho0, hb⟩; refine ⟨_, rfl, ?_⟩; have n0_ := aK (Kd.R_below (pR HO_4.out) hb); have n1_ := aK (Kd.R_below (pR HO_109000.out) hb); have n2_ := aK (Kd.Q_below (pQ HO_109001.out) hb); have HO122 := aK (Kd.S_lower (Kd.S_new' (Kd.S_new' ho0 (Kd.R_lt (pR HO_109000.out))) (Kd.Q_lt (pQ HO_109001.out))) (below_size (pS HB.out))); replace BK108 := bB BK108 hb; replace HB := bS HB hb; clear HO_4 HO_109000 HO_109001; have HO_4 := n0_; have HO_109000 := n1_; have HO_109001 := n2_; clear n0_ n1_ n2_; (try clear hb); (try clear hb2); (try clear hk); (try clear hi); (try clear ho0); obtain ⟨hcz36_0, hcz36_1, hfz36_0, hfz36_1⟩ := bc2 BK108.out) | ((with_reducible refine gate_callee (f := 24) rfl ?_); refine gl (some 57) Try.func24 #[.agg #[.slice Ao10 t102.length co10, .slice Ao12 t105.length co12]] ?_; (with_reducible refine (spec_GroupsOf.calls kj6 _ _ t102 _ _ t105 t124 t127 _ ?side1 ?side2 ?side3 ?side4 A32.out).mono ?_); (case side1 => exact pC (Kd.R_reads' HO_109000.out).2.2); (case side2 => exact (Kd.R_reads' HO_109000.out).2.1); (case side3 => exact pC (Kd.Q_reads' HO_109001.out).2.2); (case side4 => exact (Kd.Q_reads' HO_109001.out).2.1); rintro e w37 ⟨v125, rfl, ho0, hb⟩; refine ⟨_, rfl, ?_⟩; have n0_ := aK (Kd.R_below (pR HO_4.out) hb); have n1_ := aK (Kd.R_below (pR HO_109000.out) hb); have n2_ := aK (Kd.Q_below (pQ HO_109001.out) hb); have n3_ := aK (Kd.S_elder' (by (with_reducible repeat (first | apply Kd.S_alloc | apply Kd.S_drewN | apply Kd.S_drew)); exact HO122.out) (Kd.S_base ho0) hb); have HO126 := aK (Kd.S_lower (Kd.S_new' (Kd.S_new' (Kd.S_new' ho0 (Kd.R_lt (pR HO_109000.out))) (Kd.Q_lt (pQ HO_109001.out))) (Kd.S_lt (by (with_reducible repeat (first | apply Kd.S_alloc | apply Kd.S_drewN | apply Kd.S_drew)); exact HO122.out))) (below_size (pS HB.out))); replace BK108 := bB BK108 hb; replace HB := bS HB hb; clear HO_4 HO_109000 HO_109001 HO122; have HO_4 := n0_; have HO_109000 := n1_; have HO_109001 := n2_; have HO122 := n3_; clear n0_ n1_ n2_ n3_; (try clear hb); (try clear hb2); (try clear hk); (try clear hi); (try clear ho0)))
   (try simp only [Act.put, List.setIfInBounds_toArray, List.set_cons_zero, List.set_cons_succ])
   go_cut [68] (fun v68 wc => ∃ (kq : Nat) (x68_32 : Bool), v68 = .bool x68_32 ∧ Aside0 (laws_FnCalibration.j1 kq t109 t112 t120 x68_32 t102 t105 = some r) ∧ Aside0 (kq ≤ kj6) ∧ Aside0 (Kd.R k33 33 wc w.heap.size (fun _ => True) v110 t109) ∧ Aside0 (Kd.S (Kd.slice 3 (Kd.int .i64)) 24 wc w.heap.size (fun k_ => some k_ ≠ ((.slice Ao10 t102.length co10) : Value).ownBlock ∧ some k_ ≠ ((.slice Ao12 t105.length co12) : Value).ownBlock) v121 t120) ∧ Aside0 (Kd.R (Kd.int .i64) 3 wc w.heap.size (fun k_ => some k_ ≠ ((.slice Ao12 t105.length co12) : Value).ownBlock) (.slice Ao10 t102.length co10) t102) ∧ Aside0 (Kd.Q (Kd.int .i64) 3 wc w.heap.size (fun k_ => some k_ ≠ ((.slice Ao10 t102.length co10) : Value).ownBlock) (.slice Ao12 t105.length co12) t105) ∧ Aside0 (wc.heap[gb108]? = some (.cells #[(.slice Ao10 t102.length co10), (.slice Ao12 t105.length co12)] 26 (0, 0))) ∧ Aside0 (Below w.heap.size w wc))
   case first =>
    have H := HC33.out
    clear HC33
    by_cases c38 : (t123 != t127) = true
    ·
     rw [if_pos c38] at H
     have c38b0 : (t123 != t127) = true := c38
     (try (have c38b1 : decide (t123 = t127) = false := by simpa using c38))
     (try (have c38b2 : (t123 == t127) = false := by simpa using c38))
     (try (have c38b3 : ¬ (t123 = t127) := by simpa using c38))
     clear c38
     (first | rw [c38b0] | (simp only [i64_w, i32_w]; rw [c38b0]) | skip)
     have H' := Aside0.mk H
     clear H
     go_wp2
     go_meet
     case rel => exact ⟨_, (true), (by first | rfl | (simp; done) | (simp [*]; done)), H', ⟨by have := HJ6.out; first | omega | exact Nat.le_refl _⟩, ⟨pR HO_4.out⟩, ⟨by (with_reducible repeat (first | apply Kd.S_alloc | apply Kd.S_drewN | apply Kd.S_drew)); exact Kd.S_mono HO122.out (fun _ hk => ⟨hk.1.1.2, hk.1.2⟩)⟩, ⟨pR HO_109000.out⟩, ⟨pQ HO_109001.out⟩, ⟨by refine bk ?_; exact BK108.out⟩, ⟨pT HB.out⟩⟩
    rw [if_neg c38] at H
    have c38b0 : (t123 != t127) = false := by simpa using c38
    (try (have c38b1 : decide (t123 = t127) = true := by simpa using c38))
    (try (have c38b2 : (t123 == t127) = true := by simpa using c38))
    clear c38
    (first | rw [c38b0] | (simp only [i64_w, i32_w]; rw [c38b0]) | skip)
    replace H := Option.bind_eq_some_iff.mp H
    obtain ⟨t128, A390, H⟩ := H
    replace H : (laws_FnCalibration.j1 kj6 t109 t112 t120 (!t128) t102 t105) = some r := H
    have A39 := Aside0.mk A390
    clear A390
    have H' := Aside0.mk H
    clear H
    obtain ⟨Ao40, co40, eo40⟩ := Kd.S_slice HO122.out
    subst eo40
    obtain ⟨Ao41, co41, eo41⟩ := Kd.S_slice HO126.out
    subst eo41
    go_wp2_with (first | (go_at_call 37; (with_reducible refine (laws_vTable.calls kj6 _ _ t120 _ _ t124 t128 _ ?side1 ?side2 ?side3 ?side4 A39.out).mono ?_); (case side1 => exact pC (Kd.S_reads' HO122.out).2.2); (case side2 => exact (Kd.S_reads' HO122.out).2.1); (case side3 => exact pC (Kd.S_reads' HO126.out).2.2); (case side4 => exact (Kd.S_reads' HO126.out).2.1); rintro e w' ⟨rfl, ⟨nd, rfl⟩⟩))
    go_meet
    case rel => exact ⟨_, (!t128), (by first | rfl | (simp; done) | (simp [*]; done)), H', ⟨by have := HJ6.out; first | omega | exact Nat.le_refl _⟩, ⟨pR HO_4.out⟩, ⟨by (with_reducible repeat (first | apply Kd.S_alloc | apply Kd.S_drewN | apply Kd.S_drew)); exact Kd.S_mono HO122.out (fun _ hk => ⟨hk.1.1.2, hk.1.2⟩)⟩, ⟨pR HO_109000.out⟩, ⟨pQ HO_109001.out⟩, ⟨by refine bk ?_; exact BK108.out⟩, ⟨pT HB.out⟩⟩
   case rest =>
    clear HC33
    try clear c1
    try clear c2
    try clear p2
    try clear c3
    try clear c5
    try clear c6
    try clear c16
    try clear c16b0
    try clear c16b1
    try clear c16b2
    try clear c19
    try clear c24
    try clear c26
    try clear c30
    try clear c34
    try clear c35
    try clear c36
    try clear c38
    try clear c38b0
    try clear c38b1
    try clear c38b2
    try clear hcz11_0
    try clear hcz11_1
    try clear hcz14_0
    try clear hcz14_1
    try clear hcz34_0
    try clear hcz34_1
    try clear hcz36_0
    try clear hcz36_1
    try clear hfz11_0
    try clear hfz11_1
    try clear hfz14_0
    try clear hfz14_1
    try clear hfz34_0
    try clear hfz34_1
    try clear hfz36_0
    try clear hfz36_1
    try clear p2
    obtain ⟨kq, x68_32, rfl, HA, HJ32, HO_4, HO_8, HO_109000, HO_109001, BK108, HB⟩ := hcut
    cases kq with
    | zero => exact absurd HA.out (by simp [laws_FnCalibration.j1])
    | succ kj32 =>
     have H := HA.out
     clear HA
     simp only [laws_FnCalibration.j1] at H
     by_cases c42 : x68_32 = true
     ·
      subst c42
      have H1 : (some false) = some r := by rw [if_pos rfl] at H; exact H
      clear H
      have H := H1
      clear H1
      obtain rfl := Option.some.inj H
      go_wp2
      go_ret
      exact ⟨er, pT HB.out⟩
     replace c42 := Bool.eq_false_iff.mpr c42
     subst c42
     have H1 : (if t112 = true then ((impl_IsMonotone.f kj32 t109).bind fun bt129 => (if bt129.2 = true then (if bt129.1 = true then (laws_FnCalibration.j2 kj32 t109 t120 ((t109.length : Int) != 11) t102 t105) else (laws_FnCalibration.j2 kj32 t109 t120 true t102 t105)) else (laws_FnCalibration.j2 kj32 t109 t120 true t102 t105))) else (if (t109.length : Int) = 0 then (some ((t120.length : Int) == 0)) else (some false))) = some r := by rw [if_neg (show ¬ (false = true) by decide)] at H; exact H
     clear H
     have H := H1
     clear H1
     by_cases c43 : t112 = true
     ·
      subst c43
      have H1 : ((impl_IsMonotone.f kj32 t109).bind fun bt129 => (if bt129.2 = true then (if bt129.1 = true then (laws_FnCalibration.j2 kj32 t109 t120 ((t109.length : Int) != 11) t102 t105) else (laws_FnCalibration.j2 kj32 t109 t120 true t102 t105)) else (laws_FnCalibration.j2 kj32 t109 t120 true t102 t105))) = some r := by rw [if_pos rfl] at H; exact H
      clear H
      have H := H1
      clear H1
      replace H := Option.bind_eq_some_iff.mp H
      obtain ⟨⟨t129, t130⟩, A440, H⟩ := H
      replace H : (if t130 = true then (if t129 = true then (laws_FnCalibration.j2 kj32 t109 t120 ((t109.length : Int) != 11) t102 t105) else (laws_FnCalibration.j2 kj32 t109 t120 true t102 t105)) else (laws_FnCalibration.j2 kj32 t109 t120 true t102 t105)) = some r := H
      have A44 := Aside0.mk A440
      clear A440
      have HC45 := Aside0.mk H
      clear H
      obtain ⟨Ao46, co46, eo46⟩ := Kd.R_slice HO_4.out
      subst eo46
      go_upto_region 15 with (first | ((with_reducible refine gate_callee (f := 21) rfl ?_); refine gl (some 81) Try.func21 #[.slice Ao46 t109.length co46] ?_; (with_reducible refine (impl_IsMonotone.calls kj32 _ _ t109 t129 t130 _ ?side1 ?side2 A44.out).mono ?_); (case side1 => exact pC (Kd.R_reads' HO_4.out).2.2); (case side2 => exact (Kd.R_reads' HO_4.out).2.1); rintro e w47 ⟨rfl, hb⟩; refine ⟨_, rfl, ?_⟩; have n0_ := aK (Kd.R_below (pR HO_4.out) hb); have n1_ := aK (Kd.S_below (by (with_reducible repeat (first | apply Kd.S_alloc | apply Kd.S_drewN | apply Kd.S_drew)); exact HO_8.out) hb); have n2_ := aK (Kd.R_below (pR HO_109000.out) hb); have n3_ := aK (Kd.Q_below (pQ HO_109001.out) hb); replace BK108 := bB BK108 hb; replace HB := bS HB hb; clear HO_4 HO_8 HO_109000 HO_109001; have HO_4 := n0_; have HO_8 := n1_; have HO_109000 := n2_; have HO_109001 := n3_; clear n0_ n1_ n2_ n3_; (try clear hb); (try clear hb2); (try clear hk); (try clear hi)))
      (try simp only [Act.put, List.setIfInBounds_toArray, List.set_cons_zero, List.set_cons_succ])
      go_cut [94] (fun v94 wc => ∃ (kq : Nat) (x94_44 : Bool), v94 = .bool x94_44 ∧ Aside0 (laws_FnCalibration.j2 kq t109 t120 x94_44 t102 t105 = some r) ∧ Aside0 (kq ≤ kj32) ∧ Aside0 (Kd.R k33 33 wc w.heap.size (fun _ => True) (.slice Ao46 t109.length co46) t109) ∧ Aside0 (Kd.S (Kd.slice 3 (Kd.int .i64)) 24 wc w.heap.size (fun k_ => some k_ ≠ ((.slice Ao10 t102.length co10) : Value).ownBlock ∧ some k_ ≠ ((.slice Ao12 t105.length co12) : Value).ownBlock) v121 t120) ∧ Aside0 (Kd.R (Kd.int .i64) 3 wc w.heap.size (fun k_ => some k_ ≠ ((.slice Ao12 t105.length co12) : Value).ownBlock) (.slice Ao10 t102.length co10) t102) ∧ Aside0 (Kd.Q (Kd.int .i64) 3 wc w.heap.size (fun k_ => some k_ ≠ ((.slice Ao10 t102.length co10) : Value).ownBlock) (.slice Ao12 t105.length co12) t105) ∧ Aside0 (wc.heap[gb108]? = some (.cells #[(.slice Ao10 t102.length co10), (.slice Ao12 t105.length co12)] 26 (0, 0))) ∧ Aside0 (Below w.heap.size w wc))
      case first =>
       have H := HC45.out
       clear HC45
       by_cases c48 : t130 = true
       ·
        subst c48
        have H1 : (if t129 = true then (laws_FnCalibration.j2 kj32 t109 t120 ((t109.length : Int) != 11) t102 t105) else (laws_FnCalibration.j2 kj32 t109 t120 true t102 t105)) = some r := by rw [if_pos rfl] at H; exact H
        clear H
        have H := H1
        clear H1
        by_cases c49 : t129 = true
        ·
         subst c49
         have H1 : (laws_FnCalibration.j2 kj32 t109 t120 ((t109.length : Int) != 11) t102 t105) = some r := by rw [if_pos rfl] at H; exact H
         clear H
         have H := H1
         clear H1
         have H' := Aside0.mk H
         clear H
         go_wp2
         go_meet
         case rel => exact ⟨_, (((t109.length : Int) != 11)), (by first | rfl | (simp; done) | (simp [*]; done)), H', ⟨by have := HJ6.out; have := HJ32.out; first | omega | exact Nat.le_refl _⟩, ⟨pR HO_4.out⟩, ⟨by (with_reducible repeat (first | apply Kd.S_alloc | apply Kd.S_drewN | apply Kd.S_drew)); exact HO_8.out⟩, ⟨pR HO_109000.out⟩, ⟨pQ HO_109001.out⟩, ⟨by refine bk ?_; exact BK108.out⟩, ⟨pT HB.out⟩⟩
        replace c49 := Bool.eq_false_iff.mpr c49
        subst c49
        have H1 : (laws_FnCalibration.j2 kj32 t109 t120 true t102 t105) = some r := by rw [if_neg (show ¬ (false = true) by decide)] at H; exact H
        clear H
        have H := H1
        clear H1
        have H' := Aside0.mk H
        clear H
        go_wp2
        go_meet
        case rel => exact ⟨_, (true), (by first | rfl | (simp; done) | (simp [*]; done)), H', ⟨by have := HJ6.out; have := HJ32.out; first | omega | exact Nat.le_refl _⟩, ⟨pR HO_4.out⟩, ⟨by (with_reducible repeat (first | apply Kd.S_alloc | apply Kd.S_drewN | apply Kd.S_drew)); exact HO_8.out⟩, ⟨pR HO_109000.out⟩, ⟨pQ HO_109001.out⟩, ⟨by refine bk ?_; exact BK108.out⟩, ⟨pT HB.out⟩⟩
       replace c48 := Bool.eq_false_iff.mpr c48
       subst c48
       have H1 : (laws_FnCalibration.j2 kj32 t109 t120 true t102 t105) = some r := by rw [if_neg (show ¬ (false = true) by decide)] at H; exact H
       clear H
       have H := H1
       clear H1
       have H' := Aside0.mk H
       clear H
       go_wp2
       go_meet
       case rel => exact ⟨_, (true), (by first | rfl | (simp; done) | (simp [*]; done)), H', ⟨by have := HJ6.out; have := HJ32.out; first | omega | exact Nat.le_refl _⟩, ⟨pR HO_4.out⟩, ⟨by (with_reducible repeat (first | apply Kd.S_alloc | apply Kd.S_drewN | apply Kd.S_drew)); exact HO_8.out⟩, ⟨pR HO_109000.out⟩, ⟨pQ HO_109001.out⟩, ⟨by refine bk ?_; exact BK108.out⟩, ⟨pT HB.out⟩⟩
      case rest =>
       clear HC45
       try clear c1
       try clear c2
       try clear p2
       try clear c3
       try clear c4
       try clear c5
       try clear c6
       try clear c16
       try clear c16b0
       try clear c16b1
       try clear c16b2
       try clear c19
       try clear c21
       try clear c24
       try clear c26
       try clear c30
       try clear c34
       try clear c35
       try clear c36
       try clear c38
       try clear c38b0
       try clear c38b1
       try clear c38b2
       try clear c42
       try clear c43
       try clear c48
       try clear c49
       try clear hcz11_0
       try clear hcz11_1
       try clear hcz14_0
       try clear hcz14_1
       try clear hcz34_0
       try clear hcz34_1
       try clear hcz36_0
       try clear hcz36_1
       try clear hfz11_0
       try clear hfz11_1
       try clear hfz14_0
       try clear hfz14_1
       try clear hfz34_0
       try clear hfz34_1
       try clear hfz36_0
       try clear hfz36_1
       try clear p2
       obtain ⟨kq, x94_44, rfl, HA, HJ44, HO_4, HO_8, HO_109000, HO_109001, BK108, HB⟩ := hcut
       cases kq with
       | zero => exact absurd HA.out (by simp [laws_FnCalibration.j2])
       | succ kj44 =>
        have H := HA.out
        clear HA
        simp only [laws_FnCalibration.j2] at H
        by_cases c50 : x94_44 = true
        ·
         subst c50
         have H1 : (some false) = some r := by rw [if_pos rfl] at H; exact H
         clear H
         have H := H1
         clear H1
         obtain rfl := Option.some.inj H
         go_wp2
         go_ret
         exact ⟨er, pT HB.out⟩
        replace c50 := Bool.eq_false_iff.mpr c50
        subst c50
        have H1 : (laws_FnCalibration.l0 kj44 t109 t120 0 t102 t105) = some r := by rw [if_neg (show ¬ (false = true) by decide)] at H; exact H
        clear H
        have H := H1
        clear H1
        have H' := Aside0.mk H
        clear H
        go_wp2
        go_loopg [14] kj44 (fun kq v14 w' => ∃ (x14_4 : Int), v14 = .int .i64 x14_4 ∧ Aside0 (laws_FnCalibration.l0 kq t109 t120 x14_4 t102 t105 = some r) ∧ Aside0 (kq ≤ kj44) ∧ Aside0 (Kd.R k33 33 w' w.heap.size (fun _ => True) (.slice Ao46 t109.length co46) t109) ∧ Aside0 (Kd.S (Kd.slice 3 (Kd.int .i64)) 24 w' w.heap.size (fun k_ => some k_ ≠ ((.slice Ao10 t102.length co10) : Value).ownBlock ∧ some k_ ≠ ((.slice Ao12 t105.length co12) : Value).ownBlock) v121 t120) ∧ Aside0 (Kd.R (Kd.int .i64) 3 w' w.heap.size (fun k_ => some k_ ≠ ((.slice Ao12 t105.length co12) : Value).ownBlock) (.slice Ao10 t102.length co10) t102) ∧ Aside0 (Kd.Q (Kd.int .i64) 3 w' w.heap.size (fun k_ => some k_ ≠ ((.slice Ao10 t102.length co10) : Value).ownBlock) (.slice Ao12 t105.length co12) t105) ∧ Aside0 (w'.heap[gb108]? = some (.cells #[(.slice Ao10 t102.length co10), (.slice Ao12 t105.length co12)] 26 (0, 0))) ∧ Aside0 (Below w.heap.size w w'))
        case atStart => exact ⟨(0), (by first | rfl | (simp; done) | (simp [*]; done)), H', ⟨Nat.le_refl _⟩, ⟨pR HO_4.out⟩, ⟨by (with_reducible repeat (first | apply Kd.S_alloc | apply Kd.S_drewN | apply Kd.S_drew)); exact HO_8.out⟩, ⟨pR HO_109000.out⟩, ⟨pQ HO_109001.out⟩, ⟨by refine bk ?_; exact BK108.out⟩, ⟨pT HB.out⟩⟩
        case round =>
         clear H'
         try clear c1
         try clear c2
         try clear p2
         try clear c3
         try clear c4
         try clear c5
         try clear c6
         try clear c16
         try clear c16b0
         try clear c16b1
         try clear c16b2
         try clear c19
         try clear c21
         try clear c24
         try clear c26
         try clear c30
         try clear c34
         try clear c35
         try clear c36
         try clear c38
         try clear c38b0
         try clear c38b1
         try clear c38b2
         try clear c42
         try clear c43
         try clear c48
         try clear c49
         try clear c50
         try clear hcz11_0
         try clear hcz11_1
         try clear hcz14_0
         try clear hcz14_1
         try clear hcz34_0
         try clear hcz34_1
         try clear hcz36_0
         try clear hcz36_1
         try clear hfz11_0
         try clear hfz11_1
         try clear hfz14_0
         try clear hfz14_1
         try clear hfz34_0
         try clear hfz34_1
         try clear hfz36_0
         try clear hfz36_1
         try clear p2
         obtain ⟨x14_4, rfl, HA, HK4, HO_4, HO_8, HO_109000, HO_109001, BK108, HB⟩ := hrel
         cases gk with
         | zero => exact absurd HA.out (by simp [laws_FnCalibration.l0])
         | succ k4 =>
          have H := HA.out
          clear HA
          simp only [laws_FnCalibration.l0] at H
          by_cases c51 : x14_4 < (t120.length : Int)
          ·
           rw [if_pos c51] at H
           have c51b0 : decide (x14_4 < (t120.length : Int)) = true := decide_eq_true c51
           clear c51
           have H' := Aside0.mk H
           clear H
           obtain ⟨Ao52, co52, eo52⟩ := Kd.S_slice HO_8.out
           subst eo52
           go_wp2
           go_loopg [15, 16, 17] k4 (fun kq v15 v16 v17 w' => ∃ (x15_5 : Int) (x16_5 : Int) (x17_5 : Int), v15 = .int .i64 x15_5 ∧ v16 = .int .i64 x16_5 ∧ v17 = .int .i64 x17_5 ∧ Aside0 (laws_FnCalibration.l1 kq t109 t120 x14_4 x15_5 x16_5 x17_5 t102 t105 = some r) ∧ Aside0 (kq ≤ k4) ∧ Aside0 (Kd.R k33 33 w' w.heap.size (fun _ => True) (.slice Ao46 t109.length co46) t109) ∧ Aside0 (Kd.S (Kd.slice 3 (Kd.int .i64)) 24 w' w.heap.size (fun k_ => some k_ ≠ ((.slice Ao10 t102.length co10) : Value).ownBlock ∧ some k_ ≠ ((.slice Ao12 t105.length co12) : Value).ownBlock) (.slice Ao52 t120.length co52) t120) ∧ Aside0 (Kd.R (Kd.int .i64) 3 w' w.heap.size (fun k_ => some k_ ≠ ((.slice Ao12 t105.length co12) : Value).ownBlock) (.slice Ao10 t102.length co10) t102) ∧ Aside0 (Kd.Q (Kd.int .i64) 3 w' w.heap.size (fun k_ => some k_ ≠ ((.slice Ao10 t102.length co10) : Value).ownBlock) (.slice Ao12 t105.length co12) t105) ∧ Aside0 (w'.heap[gb108]? = some (.cells #[(.slice Ao10 t102.length co10), (.slice Ao12 t105.length co12)] 26 (0, 0))) ∧ Aside0 (Below w.heap.size w w'))
           case atStart => exact ⟨(0), (0), (0), (by first | rfl | (simp; done) | (simp [*]; done)), (by first | rfl | (simp; done) | (simp [*]; done)), (by first | rfl | (simp; done) | (simp [*]; done)), H', ⟨Nat.le_refl _⟩, ⟨pR HO_4.out⟩, ⟨by (with_reducible repeat (first | apply Kd.S_alloc | apply Kd.S_drewN | apply Kd.S_drew)); exact HO_8.out⟩, ⟨pR HO_109000.out⟩, ⟨pQ HO_109001.out⟩, ⟨by refine bk ?_; exact BK108.out⟩, ⟨pT HB.out⟩⟩
           case round =>
            clear H'
            try clear c1
            try clear c2
            try clear p2
            try clear c3
            try clear c4
            try clear c5
            try clear c6
            try clear c16
            try clear c16b0
            try clear c16b1
            try clear c16b2
            try clear c19
            try clear c21
            try clear c24
            try clear c26
            try clear c30
            try clear c34
            try clear c35
            try clear c36
            try clear c38
            try clear c38b0
            try clear c38b1
            try clear c38b2
            try clear c42
            try clear c43
            try clear c48
            try clear c49
            try clear c50
            try clear c51
            try clear c51b0
            try clear hcz11_0
            try clear hcz11_1
            try clear hcz14_0
            try clear hcz14_1
            try clear hcz34_0
            try clear hcz34_1
            try clear hcz36_0
            try clear hcz36_1
            try clear hfz11_0
            try clear hfz11_1
            try clear hfz14_0
            try clear hfz14_1
            try clear hfz34_0
            try clear hfz34_1
            try clear hfz36_0
            try clear hfz36_1
            try clear p2
            obtain ⟨x15_5, x16_5, x17_5, rfl, rfl, rfl, HA, HK5, HO_4, HO_8, HO_109000, HO_109001, BK108, HB⟩ := hrel
            cases gk with
            | zero => exact absurd HA.out (by simp [laws_FnCalibration.l1])
            | succ k5 =>
             have H := HA.out
             clear HA
             simp only [laws_FnCalibration.l1] at H
             by_cases c53 : 0 ≤ x14_4
             ·
              rw [if_pos c53] at H
              have c53b0 : decide (0 ≤ x14_4) = true := decide_eq_true c53
              clear c53
              by_cases c54 : x14_4 < (t120.length : Int)
              ·
               rw [if_pos c54] at H
               have c54b0 : decide (x14_4 < (t120.length : Int)) = true := decide_eq_true c54
               clear c54
               by_cases c55 : x17_5 < ((rd_L3 t120 x14_4).length : Int)
               ·
                rw [if_pos c55] at H
                have c55b0 : decide (x17_5 < ((rd_L3 t120 x14_4).length : Int)) = true := decide_eq_true c55
                clear c55
                by_cases c56 : 0 ≤ x17_5
                ·
                 rw [if_pos c56] at H
                 have c56b0 : decide (0 ≤ x17_5) = true := decide_eq_true c56
                 clear c56
                 by_cases c57 : 0 ≤ (rd (rd_L3 t120 x14_4) x17_5)
                 ·
                  rw [if_pos c57] at H
                  have c57b0 : decide (0 ≤ (rd (rd_L3 t120 x14_4) x17_5)) = true := decide_eq_true c57
                  clear c57
                  by_cases c58 : (rd (rd_L3 t120 x14_4) x17_5) < (t102.length : Int)
                  ·
                   rw [if_pos c58] at H
                   have c58b0 : decide ((rd (rd_L3 t120 x14_4) x17_5) < (t102.length : Int)) = true := decide_eq_true c58
                   clear c58
                   by_cases c59 : (rd (rd_L3 t120 x14_4) x17_5) < (t105.length : Int)
                   ·
                    rw [if_pos c59] at H
                    have c59b0 : decide ((rd (rd_L3 t120 x14_4) x17_5) < (t105.length : Int)) = true := decide_eq_true c59
                    clear c59
                    by_cases c60 : (rd (rd_L3 t120 x14_4) x17_5) < (t109.length : Int)
                    ·
                     rw [if_pos c60] at H
                     have c60b0 : decide ((rd (rd_L3 t120 x14_4) x17_5) < (t109.length : Int)) = true := decide_eq_true c60
                     clear c60
                     by_cases c61 : 0 < ((rd_L3 t120 x14_4).length : Int)
                     ·
                      rw [if_pos c61] at H
                      have c61b0 : decide (0 < ((rd_L3 t120 x14_4).length : Int)) = true := decide_eq_true c61
                      have c61b1 : decide (0 < (rd_L3 t120 x14_4).length) = true := decide_eq_true (by omega)
                      clear c61
                      by_cases c62 : 0 ≤ (rd (rd_L3 t120 x14_4) 0)
                      ·
                       rw [if_pos c62] at H
                       have c62b0 : decide (0 ≤ (rd (rd_L3 t120 x14_4) 0)) = true := decide_eq_true c62
                       clear c62
                       by_cases c63 : (rd (rd_L3 t120 x14_4) 0) < (t109.length : Int)
                       ·
                        rw [if_pos c63] at H
                        have c63b0 : decide ((rd (rd_L3 t120 x14_4) 0) < (t109.length : Int)) = true := decide_eq_true c63
                        clear c63
                        by_cases c64 : (!(((rd_T33 t109 (rd (rd_L3 t120 x14_4) x17_5)).f0) == ((rd_T33 t109 (rd (rd_L3 t120 x14_4) 0)).f0)) || (!(((rd_T33 t109 (rd (rd_L3 t120 x14_4) x17_5)).f1) == ((rd_T33 t109 (rd (rd_L3 t120 x14_4) 0)).f1)))) = true
                        ·
                         rw [if_pos c64] at H
                         have c64b0 : (!(((rd_T33 t109 (rd (rd_L3 t120 x14_4) x17_5)).f0) == ((rd_T33 t109 (rd (rd_L3 t120 x14_4) 0)).f0)) || (!(((rd_T33 t109 (rd (rd_L3 t120 x14_4) x17_5)).f1) == ((rd_T33 t109 (rd (rd_L3 t120 x14_4) 0)).f1)))) = true := c64
                         clear c64
                         obtain rfl := Option.some.inj H
                         have p131 : 0 ≤ (x14_4 : Int) := of_decide_eq_true (by first | (with_reducible assumption) | assumption)
                         have q131 : x14_4 < (t120.length : Int) := of_decide_eq_true (by first | (with_reducible assumption) | assumption)
                         obtain ⟨ad131, A131_0, c131_0, e131, hx131_0, hl131_0, hi131_0⟩ := at_L3 (Kd.S_reads' HO_8.out).2.2 x14_4 p131 q131
                         cases e131
                         obtain ⟨ce131, hce131, hMe131, hcc131⟩ := Kd.S_get HO_8.out [] x14_4 p131 (by first | exact q131 | exact of_decide_eq_true (by first | (with_reducible assumption) | assumption) | (have e_ := (Kd.S_reads' HO_8.out).1; omega))
                         obtain ⟨ve131_0, rfl, ge131_0⟩ := hMe131
                         have hv131_0 := hcc131 0 _ rfl
                         rw [Nat.add_zero, show ((Kd.slice 3 (Kd.int .i64))).sz = 1 from rfl, Nat.mul_one] at hv131_0
                         replace hv131_0 := Option.some.inj (hv131_0.symm.trans hx131_0)
                         rw [hv131_0] at ge131_0
                         have HL131_0 := aK (show Kd.R (Kd.int .i64) 3 _ _ _ _ (rd_L3 t120 x14_4) from ge131_0)
                         clear hv131_0 ge131_0 hcc131 hce131
                         have HR131_0 := Aside0.mk hi131_0
                         have HC131_0 := Aside0.mk hl131_0
                         clear hi131_0 hl131_0
                         replace p131 := eq_true p131
                         replace q131 := eq_true q131
                         have p132 : 0 ≤ (x14_4 : Int) := of_decide_eq_true (by first | (with_reducible assumption) | assumption)
                         have q132 : x14_4 < (t120.length : Int) := of_decide_eq_true (by first | (with_reducible assumption) | assumption)
                         obtain ⟨ad132, A132_0, c132_0, e132, hx132_0, hl132_0, hi132_0⟩ := at_L3 (Kd.S_reads' HO_8.out).2.2 x14_4 p132 q132
                         obtain rfl : ad131 = ad132 := (by injection e132)
                         obtain ⟨ce132, hce132, hMe132, hcc132⟩ := Kd.S_get HO_8.out [] x14_4 p132 (by first | exact q132 | exact of_decide_eq_true (by first | (with_reducible assumption) | assumption) | (have e_ := (Kd.S_reads' HO_8.out).1; omega))
                         obtain ⟨ve132_0, rfl, ge132_0⟩ := hMe132
                         have hv132_0 := hcc132 0 _ rfl
                         rw [Nat.add_zero, show ((Kd.slice 3 (Kd.int .i64))).sz = 1 from rfl, Nat.mul_one] at hv132_0
                         replace hv132_0 := Option.some.inj (hv132_0.symm.trans hx132_0)
                         rw [hv132_0] at ge132_0
                         have HL132_0 := aK (show Kd.R (Kd.int .i64) 3 _ _ _ _ (rd_L3 t120 x14_4) from ge132_0)
                         clear hv132_0 ge132_0 hcc132 hce132
                         have HR132_0 := Aside0.mk hi132_0
                         have HC132_0 := Aside0.mk hl132_0
                         clear hi132_0 hl132_0
                         replace p132 := eq_true p132
                         replace q132 := eq_true q132
                         have ea_ := Option.some.inj (hx131_0.symm.trans hx132_0)
                         injection ea_ with ea_ en_ ec_
                         subst ea_
                         subst ec_
                         clear en_
                         have p133 : 0 ≤ (x17_5 : Int) := of_decide_eq_true (by first | (with_reducible assumption) | assumption)
                         have q133 : x17_5 < ((rd_L3 t120 x14_4).length : Int) := of_decide_eq_true (by first | (with_reducible assumption) | assumption)
                         obtain ⟨ad133, e133, hx133_0⟩ := Kd.at_int (by repeat (first | (with_reducible exact HR132_0.out) | (with_reducible refine Kd.C_alloc ?_ _) | (with_reducible refine Kd.C_drewN ?_ _) | (with_reducible refine Kd.C_drew ?_) | exact HR132_0.out)) x17_5 p133 q133
                         cases e133
                         replace p133 := eq_true p133
                         replace q133 := eq_true q133
                         obtain ⟨hcz65_0, hcz65_1, hfz65_0, hfz65_1⟩ := bc2 BK108.out
                         have p134 : 0 ≤ ((rd (rd_L3 t120 x14_4) x17_5) : Int) := of_decide_eq_true (by first | (with_reducible assumption) | assumption)
                         have q134 : (rd (rd_L3 t120 x14_4) x17_5) < (t102.length : Int) := of_decide_eq_true (by first | (with_reducible assumption) | assumption)
                         obtain ⟨ad134, e134, hx134_0⟩ := Kd.at_int (Kd.R_reads' HO_109000.out).2.2 (rd (rd_L3 t120 x14_4) x17_5) p134 q134
                         cases e134
                         replace p134 := eq_true p134
                         replace q134 := eq_true q134
                         have p135 : 0 ≤ ((rd (rd_L3 t120 x14_4) x17_5) : Int) := of_decide_eq_true (by first | (with_reducible assumption) | assumption)
                         have q135 : (rd (rd_L3 t120 x14_4) x17_5) < (t105.length : Int) := of_decide_eq_true (by first | (with_reducible assumption) | assumption)
                         obtain ⟨ad135, e135, hx135_0⟩ := Kd.at_int (Kd.Q_reads' HO_109001.out).2.2 (rd (rd_L3 t120 x14_4) x17_5) p135 q135
                         cases e135
                         replace p135 := eq_true p135
                         replace q135 := eq_true q135
                         try go_wp2
                         have n0_ := aK (Kd.R_drew HO_4.out)
                         have n1_ := aK (Kd.S_drew HO_8.out)
                         have n2_ := aK (Kd.R_drew HO_109000.out)
                         have n3_ := aK (Kd.Q_drew HO_109001.out)
                         have n4_ := aK (Kd.R_drew HL131_0.out)
                         have n5_ := aK (Kd.R_drew HL132_0.out)
                         have n6_ := aK (blk_drew BK108.out)
                         have n7_ := aK (Kd.C_drew HR131_0.out)
                         have n8_ := aK (Kd.C_drew HR132_0.out)
                         have n9_ := aK (below_drew1 HB.out)
                         clear HO_4 HO_8 HO_109000 HO_109001 HL131_0 HL132_0 BK108 HR131_0 HR132_0 HB
                         have HO_4 := n0_
                         have HO_8 := n1_
                         have HO_109000 := n2_
                         have HO_109001 := n3_
                         have HL131_0 := n4_
                         have HL132_0 := n5_
                         have BK108 := n6_
                         have HR131_0 := n7_
                         have HR132_0 := n8_
                         have HB := n9_
                         clear n0_ n1_ n2_ n3_ n4_ n5_ n6_ n7_ n8_ n9_
                         have p136 : 0 ≤ ((rd (rd_L3 t120 x14_4) x17_5) : Int) := of_decide_eq_true (by first | (with_reducible assumption) | assumption)
                         have q136 : (rd (rd_L3 t120 x14_4) x17_5) < (t109.length : Int) := of_decide_eq_true (by first | (with_reducible assumption) | assumption)
                         obtain ⟨ad136, e136, hx136_0, hx136_1⟩ := at_T33 (Kd.R_reads' HO_4.out).2.2 (rd (rd_L3 t120 x14_4) x17_5) p136 q136
                         cases e136
                         replace p136 := eq_true p136
                         replace q136 := eq_true q136
                         have p137 : 0 ≤ (x14_4 : Int) := of_decide_eq_true (by first | (with_reducible assumption) | assumption)
                         have q137 : x14_4 < (t120.length : Int) := of_decide_eq_true (by first | (with_reducible assumption) | assumption)
                         obtain ⟨ad137, A137_0, c137_0, e137, hx137_0, hl137_0, hi137_0⟩ := at_L3 (Kd.S_reads' HO_8.out).2.2 x14_4 p137 q137
                         obtain rfl : ad131 = ad137 := (by injection e137)
                         obtain ⟨ce137, hce137, hMe137, hcc137⟩ := Kd.S_get HO_8.out [] x14_4 p137 (by first | exact q137 | exact of_decide_eq_true (by first | (with_reducible assumption) | assumption) | (have e_ := (Kd.S_reads' HO_8.out).1; omega))
                         obtain ⟨ve137_0, rfl, ge137_0⟩ := hMe137
                         have hv137_0 := hcc137 0 _ rfl
                         rw [Nat.add_zero, show ((Kd.slice 3 (Kd.int .i64))).sz = 1 from rfl, Nat.mul_one] at hv137_0
                         replace hv137_0 := Option.some.inj (hv137_0.symm.trans hx137_0)
                         rw [hv137_0] at ge137_0
                         have HL137_0 := aK (show Kd.R (Kd.int .i64) 3 _ _ _ _ (rd_L3 t120 x14_4) from ge137_0)
                         clear hv137_0 ge137_0 hcc137 hce137
                         have HR137_0 := Aside0.mk hi137_0
                         have HC137_0 := Aside0.mk hl137_0
                         clear hi137_0 hl137_0
                         replace p137 := eq_true p137
                         replace q137 := eq_true q137
                         have p138 : 0 ≤ (0 : Int) := (by omega)
                         have q138 : 0 < ((rd_L3 t120 x14_4).length : Int) := of_decide_eq_true (by first | (with_reducible assumption) | assumption)
                         obtain ⟨ad138, e138, hx138_0⟩ := Kd.at_int (by repeat (first | (with_reducible exact HR137_0.out) | (with_reducible refine Kd.C_alloc ?_ _) | (with_reducible refine Kd.C_drewN ?_ _) | (with_reducible refine Kd.C_drew ?_) | exact HR137_0.out)) 0 p138 q138
                         cases e138
                         have qi138 : (0 < (rd_L3 t120 x14_4).length) = True := eq_true (by omega)
                         (try rw [show ((0 : Int)).toNat = 0 from rfl] at hx138_0)
                         (try rw [Addr.add_zero'] at hx138_0)
                         replace p138 := eq_true p138
                         replace q138 := eq_true q138
                         have p139 : 0 ≤ ((rd (rd_L3 t120 x14_4) 0) : Int) := of_decide_eq_true (by first | (with_reducible assumption) | assumption)
                         have q139 : (rd (rd_L3 t120 x14_4) 0) < (t109.length : Int) := of_decide_eq_true (by first | (with_reducible assumption) | assumption)
                         obtain ⟨ad139, e139, hx139_0, hx139_1⟩ := at_T33 (Kd.R_reads' HO_4.out).2.2 (rd (rd_L3 t120 x14_4) 0) p139 q139
                         obtain rfl : ad136 = ad139 := (by injection e139)
                         replace p139 := eq_true p139
                         replace q139 := eq_true q139
                         refine start_ (n := 14) (S := fun w' => w'.cell? (ad136.add (((rd (rd_L3 t120 x14_4) x17_5)).toNat * 2)) = some (.int .i64 ((rd_T33 t109 (rd (rd_L3 t120 x14_4) x17_5)).f0)) ∧ w'.cell? ⟨(ad136.add (((rd (rd_L3 t120 x14_4) x17_5)).toNat * 2)).block, (ad136.add (((rd (rd_L3 t120 x14_4) x17_5)).toNat * 2)).off + 1, none⟩ = some (.int .i64 ((rd_T33 t109 (rd (rd_L3 t120 x14_4) x17_5)).f1)) ∧ w'.cell? (ad131.add (x14_4).toNat) = some (.slice (some ad138) (rd_L3 t120 x14_4).length c137_0) ∧ w'.cell? ad138 = some (.int .i64 (rd (rd_L3 t120 x14_4) 0)) ∧ w'.cell? (ad136.add (((rd (rd_L3 t120 x14_4) 0)).toNat * 2)) = some (.int .i64 ((rd_T33 t109 (rd (rd_L3 t120 x14_4) 0)).f0)) ∧ w'.cell? ⟨(ad136.add (((rd (rd_L3 t120 x14_4) 0)).toNat * 2)).block, (ad136.add (((rd (rd_L3 t120 x14_4) 0)).toNat * 2)).off + 1, none⟩ = some (.int .i64 ((rd_T33 t109 (rd (rd_L3 t120 x14_4) 0)).f1))) (ds := []) #[false, false, false, false, false, false, false, false, false, false, false, false, false, false] (by kernel_rfl) rfl rfl ⟨hx136_0, hx136_1, hx137_0, hx138_0, hx139_0, hx139_1⟩ (fun hHeld => ?_); refine with_tabW laws_FnCalibration.tab27 laws_FnCalibration.bits27 (fun HT_ HW_ => ?_)
                         generalize wr.drew = w66 at HO_4 HO_8 HO_109000 HO_109001 HL131_0 HL132_0 BK108 HR131_0 HR132_0 HB HL137_0 HR137_0 hx136_0 hx136_1 hx137_0 hx138_0 hx139_0 hx139_1 hHeld ⊢
                         refine pu (i := 0) (N := some 131) #[true, false, false, false, false, false, false, false, false, false, false, false, false, false] rfl rfl HT_.out ?_
                         refine pu (i := 1) (N := some 132) #[true, true, false, false, false, false, false, false, false, false, false, false, false, false] rfl rfl HT_.out ?_
                         refine pu (i := 2) (N := some 133) #[true, true, true, false, false, false, false, false, false, false, false, false, false, false] rfl rfl HT_.out ?_
                         refine pu (i := 4) (N := some 135) #[true, true, true, false, true, false, false, false, false, false, false, false, false, false] rfl rfl HT_.out ?_
                         refine pu (i := 5) (N := some 136) #[true, true, true, false, true, true, false, false, false, false, false, false, false, false] rfl rfl HT_.out ?_
                         refine pu (i := 6) (N := some 137) #[true, true, true, false, true, true, true, false, false, false, false, false, false, false] rfl rfl HT_.out ?_
                         refine pu (i := 7) (N := some 138) #[true, true, true, false, true, true, true, true, false, false, false, false, false, false] rfl rfl HT_.out ?_
                         refine tk (i := 3) (N := some 134) #[true, true, true, true, true, true, true, true, false, false, false, false, false, false] rfl rfl HT_.out HW_.out (Or.inl ⟨by rfl, by rintro w' ⟨s0, s1, s2, s3, s4, s5⟩; go_simp; with_reducible rfl⟩) hHeld ?_
                         refine tk (i := 8) (N := some 139) #[true, true, true, true, true, true, true, true, true, false, false, false, false, false] rfl rfl HT_.out HW_.out (Or.inl ⟨by rfl, by rintro w' ⟨s0, s1, s2, s3, s4, s5⟩; go_simp; with_reducible rfl⟩) hHeld ?_
                         refine pu (i := 9) (N := some 140) #[true, true, true, true, true, true, true, true, true, true, false, false, false, false] rfl rfl HT_.out ?_
                         refine tk (i := 10) (N := some 141) #[true, true, true, true, true, true, true, true, true, true, true, false, false, false] rfl rfl HT_.out HW_.out (Or.inl ⟨by rfl, by rintro w' ⟨s0, s1, s2, s3, s4, s5⟩; go_simp; with_reducible rfl⟩) hHeld ?_
                         refine pu (i := 11) (N := some 142) #[true, true, true, true, true, true, true, true, true, true, true, true, false, false] rfl rfl HT_.out ?_
                         refine tk (i := 12) (N := some 143) #[true, true, true, true, true, true, true, true, true, true, true, true, true, false] rfl rfl HT_.out HW_.out (Or.inl ⟨by rfl, by rintro w' ⟨s0, s1, s2, s3, s4, s5⟩; go_simp; with_reducible rfl⟩) hHeld ?_
                         refine pu (i := 13) (N := some 144) #[true, true, true, true, true, true, true, true, true, true, true, true, true, true] rfl rfl HT_.out ?_
                         refine done_ (done_of HT_.out (by kernel_rfl)) ?_
                         try go_wp2
                         go_ret
                         exact ⟨er, pT HB.out⟩
                        rw [if_neg c64] at H
                        have c64b0 : (!(((rd_T33 t109 (rd (rd_L3 t120 x14_4) x17_5)).f0) == ((rd_T33 t109 (rd (rd_L3 t120 x14_4) 0)).f0)) || (!(((rd_T33 t109 (rd (rd_L3 t120 x14_4) x17_5)).f1) == ((rd_T33 t109 (rd (rd_L3 t120 x14_4) 0)).f1)))) = false := by simpa using c64
                        clear c64
                        have H' := Aside0.mk H
                        clear H
                        have p131 : 0 ≤ (x14_4 : Int) := of_decide_eq_true (by first | (with_reducible assumption) | assumption)
                        have q131 : x14_4 < (t120.length : Int) := of_decide_eq_true (by first | (with_reducible assumption) | assumption)
                        obtain ⟨ad131, A131_0, c131_0, e131, hx131_0, hl131_0, hi131_0⟩ := at_L3 (Kd.S_reads' HO_8.out).2.2 x14_4 p131 q131
                        cases e131
                        obtain ⟨ce131, hce131, hMe131, hcc131⟩ := Kd.S_get HO_8.out [] x14_4 p131 (by first | exact q131 | exact of_decide_eq_true (by first | (with_reducible assumption) | assumption) | (have e_ := (Kd.S_reads' HO_8.out).1; omega))
                        obtain ⟨ve131_0, rfl, ge131_0⟩ := hMe131
                        have hv131_0 := hcc131 0 _ rfl
                        rw [Nat.add_zero, show ((Kd.slice 3 (Kd.int .i64))).sz = 1 from rfl, Nat.mul_one] at hv131_0
                        replace hv131_0 := Option.some.inj (hv131_0.symm.trans hx131_0)
                        rw [hv131_0] at ge131_0
                        have HL131_0 := aK (show Kd.R (Kd.int .i64) 3 _ _ _ _ (rd_L3 t120 x14_4) from ge131_0)
                        clear hv131_0 ge131_0 hcc131 hce131
                        have HR131_0 := Aside0.mk hi131_0
                        have HC131_0 := Aside0.mk hl131_0
                        clear hi131_0 hl131_0
                        replace p131 := eq_true p131
                        replace q131 := eq_true q131
                        have p132 : 0 ≤ (x14_4 : Int) := of_decide_eq_true (by first | (with_reducible assumption) | assumption)
                        have q132 : x14_4 < (t120.length : Int) := of_decide_eq_true (by first | (with_reducible assumption) | assumption)
                        obtain ⟨ad132, A132_0, c132_0, e132, hx132_0, hl132_0, hi132_0⟩ := at_L3 (Kd.S_reads' HO_8.out).2.2 x14_4 p132 q132
                        obtain rfl : ad131 = ad132 := (by injection e132)
                        obtain ⟨ce132, hce132, hMe132, hcc132⟩ := Kd.S_get HO_8.out [] x14_4 p132 (by first | exact q132 | exact of_decide_eq_true (by first | (with_reducible assumption) | assumption) | (have e_ := (Kd.S_reads' HO_8.out).1; omega))
                        obtain ⟨ve132_0, rfl, ge132_0⟩ := hMe132
                        have hv132_0 := hcc132 0 _ rfl
                        rw [Nat.add_zero, show ((Kd.slice 3 (Kd.int .i64))).sz = 1 from rfl, Nat.mul_one] at hv132_0
                        replace hv132_0 := Option.some.inj (hv132_0.symm.trans hx132_0)
                        rw [hv132_0] at ge132_0
                        have HL132_0 := aK (show Kd.R (Kd.int .i64) 3 _ _ _ _ (rd_L3 t120 x14_4) from ge132_0)
                        clear hv132_0 ge132_0 hcc132 hce132
                        have HR132_0 := Aside0.mk hi132_0
                        have HC132_0 := Aside0.mk hl132_0
                        clear hi132_0 hl132_0
                        replace p132 := eq_true p132
                        replace q132 := eq_true q132
                        have ea_ := Option.some.inj (hx131_0.symm.trans hx132_0)
                        injection ea_ with ea_ en_ ec_
                        subst ea_
                        subst ec_
                        clear en_
                        have p133 : 0 ≤ (x17_5 : Int) := of_decide_eq_true (by first | (with_reducible assumption) | assumption)
                        have q133 : x17_5 < ((rd_L3 t120 x14_4).length : Int) := of_decide_eq_true (by first | (with_reducible assumption) | assumption)
                        obtain ⟨ad133, e133, hx133_0⟩ := Kd.at_int (by repeat (first | (with_reducible exact HR132_0.out) | (with_reducible refine Kd.C_alloc ?_ _) | (with_reducible refine Kd.C_drewN ?_ _) | (with_reducible refine Kd.C_drew ?_) | exact HR132_0.out)) x17_5 p133 q133
                        cases e133
                        replace p133 := eq_true p133
                        replace q133 := eq_true q133
                        obtain ⟨hcz67_0, hcz67_1, hfz67_0, hfz67_1⟩ := bc2 BK108.out
                        have p134 : 0 ≤ ((rd (rd_L3 t120 x14_4) x17_5) : Int) := of_decide_eq_true (by first | (with_reducible assumption) | assumption)
                        have q134 : (rd (rd_L3 t120 x14_4) x17_5) < (t102.length : Int) := of_decide_eq_true (by first | (with_reducible assumption) | assumption)
                        obtain ⟨ad134, e134, hx134_0⟩ := Kd.at_int (Kd.R_reads' HO_109000.out).2.2 (rd (rd_L3 t120 x14_4) x17_5) p134 q134
                        cases e134
                        replace p134 := eq_true p134
                        replace q134 := eq_true q134
                        have p135 : 0 ≤ ((rd (rd_L3 t120 x14_4) x17_5) : Int) := of_decide_eq_true (by first | (with_reducible assumption) | assumption)
                        have q135 : (rd (rd_L3 t120 x14_4) x17_5) < (t105.length : Int) := of_decide_eq_true (by first | (with_reducible assumption) | assumption)
                        obtain ⟨ad135, e135, hx135_0⟩ := Kd.at_int (Kd.Q_reads' HO_109001.out).2.2 (rd (rd_L3 t120 x14_4) x17_5) p135 q135
                        cases e135
                        replace p135 := eq_true p135
                        replace q135 := eq_true q135
                        try go_wp2
                        have n0_ := aK (Kd.R_drew HO_4.out)
                        have n1_ := aK (Kd.S_drew HO_8.out)
                        have n2_ := aK (Kd.R_drew HO_109000.out)
                        have n3_ := aK (Kd.Q_drew HO_109001.out)
                        have n4_ := aK (Kd.R_drew HL131_0.out)
                        have n5_ := aK (Kd.R_drew HL132_0.out)
                        have n6_ := aK (blk_drew BK108.out)
                        have n7_ := aK (Kd.C_drew HR131_0.out)
                        have n8_ := aK (Kd.C_drew HR132_0.out)
                        have n9_ := aK (below_drew1 HB.out)
                        clear HO_4 HO_8 HO_109000 HO_109001 HL131_0 HL132_0 BK108 HR131_0 HR132_0 HB
                        have HO_4 := n0_
                        have HO_8 := n1_
                        have HO_109000 := n2_
                        have HO_109001 := n3_
                        have HL131_0 := n4_
                        have HL132_0 := n5_
                        have BK108 := n6_
                        have HR131_0 := n7_
                        have HR132_0 := n8_
                        have HB := n9_
                        clear n0_ n1_ n2_ n3_ n4_ n5_ n6_ n7_ n8_ n9_
                        have p136 : 0 ≤ ((rd (rd_L3 t120 x14_4) x17_5) : Int) := of_decide_eq_true (by first | (with_reducible assumption) | assumption)
                        have q136 : (rd (rd_L3 t120 x14_4) x17_5) < (t109.length : Int) := of_decide_eq_true (by first | (with_reducible assumption) | assumption)
                        obtain ⟨ad136, e136, hx136_0, hx136_1⟩ := at_T33 (Kd.R_reads' HO_4.out).2.2 (rd (rd_L3 t120 x14_4) x17_5) p136 q136
                        cases e136
                        replace p136 := eq_true p136
                        replace q136 := eq_true q136
                        have p137 : 0 ≤ (x14_4 : Int) := of_decide_eq_true (by first | (with_reducible assumption) | assumption)
                        have q137 : x14_4 < (t120.length : Int) := of_decide_eq_true (by first | (with_reducible assumption) | assumption)
                        obtain ⟨ad137, A137_0, c137_0, e137, hx137_0, hl137_0, hi137_0⟩ := at_L3 (Kd.S_reads' HO_8.out).2.2 x14_4 p137 q137
                        obtain rfl : ad131 = ad137 := (by injection e137)
                        obtain ⟨ce137, hce137, hMe137, hcc137⟩ := Kd.S_get HO_8.out [] x14_4 p137 (by first | exact q137 | exact of_decide_eq_true (by first | (with_reducible assumption) | assumption) | (have e_ := (Kd.S_reads' HO_8.out).1; omega))
                        obtain ⟨ve137_0, rfl, ge137_0⟩ := hMe137
                        have hv137_0 := hcc137 0 _ rfl
                        rw [Nat.add_zero, show ((Kd.slice 3 (Kd.int .i64))).sz = 1 from rfl, Nat.mul_one] at hv137_0
                        replace hv137_0 := Option.some.inj (hv137_0.symm.trans hx137_0)
                        rw [hv137_0] at ge137_0
                        have HL137_0 := aK (show Kd.R (Kd.int .i64) 3 _ _ _ _ (rd_L3 t120 x14_4) from ge137_0)
                        clear hv137_0 ge137_0 hcc137 hce137
                        have HR137_0 := Aside0.mk hi137_0
                        have HC137_0 := Aside0.mk hl137_0
                        clear hi137_0 hl137_0
                        replace p137 := eq_true p137
                        replace q137 := eq_true q137
                        have p138 : 0 ≤ (0 : Int) := (by omega)
                        have q138 : 0 < ((rd_L3 t120 x14_4).length : Int) := of_decide_eq_true (by first | (with_reducible assumption) | assumption)
                        obtain ⟨ad138, e138, hx138_0⟩ := Kd.at_int (by repeat (first | (with_reducible exact HR137_0.out) | (with_reducible refine Kd.C_alloc ?_ _) | (with_reducible refine Kd.C_drewN ?_ _) | (with_reducible refine Kd.C_drew ?_) | exact HR137_0.out)) 0 p138 q138
                        cases e138
                        have qi138 : (0 < (rd_L3 t120 x14_4).length) = True := eq_true (by omega)
                        (try rw [show ((0 : Int)).toNat = 0 from rfl] at hx138_0)
                        (try rw [Addr.add_zero'] at hx138_0)
                        replace p138 := eq_true p138
                        replace q138 := eq_true q138
                        have p139 : 0 ≤ ((rd (rd_L3 t120 x14_4) 0) : Int) := of_decide_eq_true (by first | (with_reducible assumption) | assumption)
                        have q139 : (rd (rd_L3 t120 x14_4) 0) < (t109.length : Int) := of_decide_eq_true (by first | (with_reducible assumption) | assumption)
                        obtain ⟨ad139, e139, hx139_0, hx139_1⟩ := at_T33 (Kd.R_reads' HO_4.out).2.2 (rd (rd_L3 t120 x14_4) 0) p139 q139
                        obtain rfl : ad136 = ad139 := (by injection e139)
                        replace p139 := eq_true p139
                        replace q139 := eq_true q139
                        refine start_ (n := 14) (S := fun w' => w'.cell? (ad136.add (((rd (rd_L3 t120 x14_4) x17_5)).toNat * 2)) = some (.int .i64 ((rd_T33 t109 (rd (rd_L3 t120 x14_4) x17_5)).f0)) ∧ w'.cell? ⟨(ad136.add (((rd (rd_L3 t120 x14_4) x17_5)).toNat * 2)).block, (ad136.add (((rd (rd_L3 t120 x14_4) x17_5)).toNat * 2)).off + 1, none⟩ = some (.int .i64 ((rd_T33 t109 (rd (rd_L3 t120 x14_4) x17_5)).f1)) ∧ w'.cell? (ad131.add (x14_4).toNat) = some (.slice (some ad138) (rd_L3 t120 x14_4).length c137_0) ∧ w'.cell? ad138 = some (.int .i64 (rd (rd_L3 t120 x14_4) 0)) ∧ w'.cell? (ad136.add (((rd (rd_L3 t120 x14_4) 0)).toNat * 2)) = some (.int .i64 ((rd_T33 t109 (rd (rd_L3 t120 x14_4) 0)).f0)) ∧ w'.cell? ⟨(ad136.add (((rd (rd_L3 t120 x14_4) 0)).toNat * 2)).block, (ad136.add (((rd (rd_L3 t120 x14_4) 0)).toNat * 2)).off + 1, none⟩ = some (.int .i64 ((rd_T33 t109 (rd (rd_L3 t120 x14_4) 0)).f1))) (ds := []) #[false, false, false, false, false, false, false, false, false, false, false, false, false, false] (by kernel_rfl) rfl rfl ⟨hx136_0, hx136_1, hx137_0, hx138_0, hx139_0, hx139_1⟩ (fun hHeld => ?_); refine with_tabW laws_FnCalibration.tab27 laws_FnCalibration.bits27 (fun HT_ HW_ => ?_)
                        generalize wr.drew = w68 at HO_4 HO_8 HO_109000 HO_109001 HL131_0 HL132_0 BK108 HR131_0 HR132_0 HB HL137_0 HR137_0 hx136_0 hx136_1 hx137_0 hx138_0 hx139_0 hx139_1 hHeld ⊢
                        refine pu (i := 0) (N := some 131) #[true, false, false, false, false, false, false, false, false, false, false, false, false, false] rfl rfl HT_.out ?_
                        refine pu (i := 1) (N := some 132) #[true, true, false, false, false, false, false, false, false, false, false, false, false, false] rfl rfl HT_.out ?_
                        refine pu (i := 2) (N := some 133) #[true, true, true, false, false, false, false, false, false, false, false, false, false, false] rfl rfl HT_.out ?_
                        refine pu (i := 4) (N := some 135) #[true, true, true, false, true, false, false, false, false, false, false, false, false, false] rfl rfl HT_.out ?_
                        refine pu (i := 5) (N := some 136) #[true, true, true, false, true, true, false, false, false, false, false, false, false, false] rfl rfl HT_.out ?_
                        refine pu (i := 6) (N := some 137) #[true, true, true, false, true, true, true, false, false, false, false, false, false, false] rfl rfl HT_.out ?_
                        refine pu (i := 7) (N := some 138) #[true, true, true, false, true, true, true, true, false, false, false, false, false, false] rfl rfl HT_.out ?_
                        refine tk (i := 3) (N := some 134) #[true, true, true, true, true, true, true, true, false, false, false, false, false, false] rfl rfl HT_.out HW_.out (Or.inl ⟨by rfl, by rintro w' ⟨s0, s1, s2, s3, s4, s5⟩; go_simp; with_reducible rfl⟩) hHeld ?_
                        refine tk (i := 8) (N := some 139) #[true, true, true, true, true, true, true, true, true, false, false, false, false, false] rfl rfl HT_.out HW_.out (Or.inl ⟨by rfl, by rintro w' ⟨s0, s1, s2, s3, s4, s5⟩; go_simp; with_reducible rfl⟩) hHeld ?_
                        refine pu (i := 9) (N := some 140) #[true, true, true, true, true, true, true, true, true, true, false, false, false, false] rfl rfl HT_.out ?_
                        refine tk (i := 10) (N := some 141) #[true, true, true, true, true, true, true, true, true, true, true, false, false, false] rfl rfl HT_.out HW_.out (Or.inl ⟨by rfl, by rintro w' ⟨s0, s1, s2, s3, s4, s5⟩; go_simp; with_reducible rfl⟩) hHeld ?_
                        refine pu (i := 11) (N := some 142) #[true, true, true, true, true, true, true, true, true, true, true, true, false, false] rfl rfl HT_.out ?_
                        refine tk (i := 12) (N := some 143) #[true, true, true, true, true, true, true, true, true, true, true, true, true, false] rfl rfl HT_.out HW_.out (Or.inl ⟨by rfl, by rintro w' ⟨s0, s1, s2, s3, s4, s5⟩; go_simp; with_reducible rfl⟩) hHeld ?_
                        refine pu (i := 13) (N := some 144) #[true, true, true, true, true, true, true, true, true, true, true, true, true, true] rfl rfl HT_.out ?_
                        refine done_ (done_of HT_.out (by kernel_rfl)) ?_
                        try go_wp2
                        go_roundg k5
                        case measure => have := HJ6.out; have := HJ32.out; have := HJ44.out; have := HK4.out; have := HK5.out; omega
                        case rel => exact ⟨(wrap64 (x15_5 + (rd t102 (rd (rd_L3 t120 x14_4) x17_5)))), (wrap64 (x16_5 + (rd t105 (rd (rd_L3 t120 x14_4) x17_5)))), (wrap64 (x17_5 + 1)), (by first | rfl | (simp; done) | (simp [*]; done)), (by first | rfl | (simp; done) | (simp [*]; done)), (by first | rfl | (simp; done) | (simp [*]; done)), H', ⟨by have := HJ6.out; have := HJ32.out; have := HJ44.out; have := HK4.out; have := HK5.out; omega⟩, ⟨pR HO_4.out⟩, ⟨by (with_reducible repeat (first | apply Kd.S_alloc | apply Kd.S_drewN | apply Kd.S_drew)); exact HO_8.out⟩, ⟨pR HO_109000.out⟩, ⟨pQ HO_109001.out⟩, ⟨by refine bk ?_; exact BK108.out⟩, ⟨pT HB.out⟩⟩
                       rw [if_neg c63] at H
                       exact absurd H (by simp)
                      rw [if_neg c62] at H
                      exact absurd H (by simp)
                     rw [if_neg c61] at H
                     exact absurd H (by simp)
                    rw [if_neg c60] at H
                    exact absurd H (by simp)
                   rw [if_neg c59] at H
                   exact absurd H (by simp)
                  rw [if_neg c58] at H
                  exact absurd H (by simp)
                 rw [if_neg c57] at H
                 exact absurd H (by simp)
                rw [if_neg c56] at H
                exact absurd H (by simp)
               rw [if_neg c55] at H
               have c55b0 : decide (x17_5 < ((rd_L3 t120 x14_4).length : Int)) = false := decide_eq_false c55
               clear c55
               by_cases c69 : 0 < ((rd_L3 t120 x14_4).length : Int)
               ·
                rw [if_pos c69] at H
                have c69b0 : decide (0 < ((rd_L3 t120 x14_4).length : Int)) = true := decide_eq_true c69
                have c69b1 : decide (0 < (rd_L3 t120 x14_4).length) = true := decide_eq_true (by omega)
                clear c69
                by_cases c70 : 0 ≤ (rd (rd_L3 t120 x14_4) 0)
                ·
                 rw [if_pos c70] at H
                 have c70b0 : decide (0 ≤ (rd (rd_L3 t120 x14_4) 0)) = true := decide_eq_true c70
                 clear c70
                 by_cases c71 : (rd (rd_L3 t120 x14_4) 0) < (t109.length : Int)
                 ·
                  rw [if_pos c71] at H
                  have c71b0 : decide ((rd (rd_L3 t120 x14_4) 0) < (t109.length : Int)) = true := decide_eq_true c71
                  clear c71
                  by_cases c72 : x15_5 < 1
                  ·
                   rw [if_pos c72] at H
                   have c72b0 : decide (x15_5 < 1) = true := decide_eq_true c72
                   clear c72
                   obtain rfl := Option.some.inj H
                   have p131 : 0 ≤ (x14_4 : Int) := of_decide_eq_true (by first | (with_reducible assumption) | assumption)
                   have q131 : x14_4 < (t120.length : Int) := of_decide_eq_true (by first | (with_reducible assumption) | assumption)
                   obtain ⟨ad131, A131_0, c131_0, e131, hx131_0, hl131_0, hi131_0⟩ := at_L3 (Kd.S_reads' HO_8.out).2.2 x14_4 p131 q131
                   cases e131
                   obtain ⟨ce131, hce131, hMe131, hcc131⟩ := Kd.S_get HO_8.out [] x14_4 p131 (by first | exact q131 | exact of_decide_eq_true (by first | (with_reducible assumption) | assumption) | (have e_ := (Kd.S_reads' HO_8.out).1; omega))
                   obtain ⟨ve131_0, rfl, ge131_0⟩ := hMe131
                   have hv131_0 := hcc131 0 _ rfl
                   rw [Nat.add_zero, show ((Kd.slice 3 (Kd.int .i64))).sz = 1 from rfl, Nat.mul_one] at hv131_0
                   replace hv131_0 := Option.some.inj (hv131_0.symm.trans hx131_0)
                   rw [hv131_0] at ge131_0
                   have HL131_0 := aK (show Kd.R (Kd.int .i64) 3 _ _ _ _ (rd_L3 t120 x14_4) from ge131_0)
                   clear hv131_0 ge131_0 hcc131 hce131
                   have HR131_0 := Aside0.mk hi131_0
                   have HC131_0 := Aside0.mk hl131_0
                   clear hi131_0 hl131_0
                   replace p131 := eq_true p131
                   replace q131 := eq_true q131
                   have p140 : 0 ≤ (x14_4 : Int) := of_decide_eq_true (by first | (with_reducible assumption) | assumption)
                   have q140 : x14_4 < (t120.length : Int) := of_decide_eq_true (by first | (with_reducible assumption) | assumption)
                   obtain ⟨ad140, A140_0, c140_0, e140, hx140_0, hl140_0, hi140_0⟩ := at_L3 (Kd.S_reads' HO_8.out).2.2 x14_4 p140 q140
                   obtain rfl : ad131 = ad140 := (by injection e140)
                   obtain ⟨ce140, hce140, hMe140, hcc140⟩ := Kd.S_get HO_8.out [] x14_4 p140 (by first | exact q140 | exact of_decide_eq_true (by first | (with_reducible assumption) | assumption) | (have e_ := (Kd.S_reads' HO_8.out).1; omega))
                   obtain ⟨ve140_0, rfl, ge140_0⟩ := hMe140
                   have hv140_0 := hcc140 0 _ rfl
                   rw [Nat.add_zero, show ((Kd.slice 3 (Kd.int .i64))).sz = 1 from rfl, Nat.mul_one] at hv140_0
                   replace hv140_0 := Option.some.inj (hv140_0.symm.trans hx140_0)
                   rw [hv140_0] at ge140_0
                   have HL140_0 := aK (show Kd.R (Kd.int .i64) 3 _ _ _ _ (rd_L3 t120 x14_4) from ge140_0)
                   clear hv140_0 ge140_0 hcc140 hce140
                   have HR140_0 := Aside0.mk hi140_0
                   have HC140_0 := Aside0.mk hl140_0
                   clear hi140_0 hl140_0
                   replace p140 := eq_true p140
                   replace q140 := eq_true q140
                   have ea_ := Option.some.inj (hx131_0.symm.trans hx140_0)
                   injection ea_ with ea_ en_ ec_
                   subst ea_
                   subst ec_
                   clear en_
                   have p141 : 0 ≤ (0 : Int) := (by omega)
                   have q141 : 0 < ((rd_L3 t120 x14_4).length : Int) := of_decide_eq_true (by first | (with_reducible assumption) | assumption)
                   obtain ⟨ad141, e141, hx141_0⟩ := Kd.at_int (by repeat (first | (with_reducible exact HR140_0.out) | (with_reducible refine Kd.C_alloc ?_ _) | (with_reducible refine Kd.C_drewN ?_ _) | (with_reducible refine Kd.C_drew ?_) | exact HR140_0.out)) 0 p141 q141
                   cases e141
                   have qi141 : (0 < (rd_L3 t120 x14_4).length) = True := eq_true (by omega)
                   (try rw [show ((0 : Int)).toNat = 0 from rfl] at hx141_0)
                   (try rw [Addr.add_zero'] at hx141_0)
                   replace p141 := eq_true p141
                   replace q141 := eq_true q141
                   have p142 : 0 ≤ ((rd (rd_L3 t120 x14_4) 0) : Int) := of_decide_eq_true (by first | (with_reducible assumption) | assumption)
                   have q142 : (rd (rd_L3 t120 x14_4) 0) < (t109.length : Int) := of_decide_eq_true (by first | (with_reducible assumption) | assumption)
                   obtain ⟨ad142, e142, hx142_0, hx142_1⟩ := at_T33 (Kd.R_reads' HO_4.out).2.2 (rd (rd_L3 t120 x14_4) 0) p142 q142
                   cases e142
                   replace p142 := eq_true p142
                   replace q142 := eq_true q142
                   go_wp2_with (first | ((with_reducible refine gate_dst (N := 19) rfl ?_); (try (refine gate_guard (by rfl) ?_; dsimp only)); refine bxe (cs := #[.int .i64 0, .int .i64 0]) (t := 33) ?_; intro gb143 hg w73 hbox hb; have n0_ := aK (Kd.R_below (Kd.R_elderB (pR HO_4.out) gb143 (Nat.le_of_eq hg.symm)) hb); have n1_ := aK (Kd.S_below (by (with_reducible repeat (first | apply Kd.S_alloc | apply Kd.S_drewN | apply Kd.S_drew)); exact HO_8.out) hb); have n2_ := aK (Kd.R_below (pR HO_109000.out) hb); have n3_ := aK (Kd.Q_below (pQ HO_109001.out) hb); have n4_ := aK (Kd.R_below (pR HL131_0.out) hb); have n5_ := aK (Kd.R_below (pR HL140_0.out) hb); have n6_ := aK (Kd.C_below (by repeat (first | (with_reducible exact HR131_0.out) | (with_reducible refine Kd.C_alloc ?_ _) | (with_reducible refine Kd.C_drewN ?_ _) | (with_reducible refine Kd.C_drew ?_) | exact HR131_0.out)) hb); have n7_ := aK (Kd.C_below (by repeat (first | (with_reducible exact HR140_0.out) | (with_reducible refine Kd.C_alloc ?_ _) | (with_reducible refine Kd.C_drewN ?_ _) | (with_reducible refine Kd.C_drew ?_) | exact HR140_0.out)) hb); have BK143 := aK (hbox); have GW143 := aK (gE hg (pS HB.out)); have GE143 := GW143; replace HB := bS HB hb; clear HO_4 HO_8 HO_109000 HO_109001 HL131_0 HL140_0 HR131_0 HR140_0; have HO_4 := n0_; have HO_8 := n1_; have HO_109000 := n2_; have HO_109001 := n3_; have HL131_0 := n4_; have HL140_0 := n5_; have HR131_0 := n6_; have HR140_0 := n7_; clear n0_ n1_ n2_ n3_ n4_ n5_ n6_ n7_ hb hbox hg; obtain ⟨hcz74_0, hcz74_1, hfz74_0, hfz74_1⟩ := bc2 BK143.out))
                   go_ret
                   exact ⟨er, pT HB.out⟩
                  rw [if_neg c72] at H
                  have c72b0 : decide (x15_5 < 1) = false := decide_eq_false c72
                  clear c72
                  by_cases c75 : (wrap64 (x16_5 * ((rd_T33 t109 (rd (rd_L3 t120 x14_4) 0)).f1))) = (wrap64 (x15_5 * ((rd_T33 t109 (rd (rd_L3 t120 x14_4) 0)).f0)))
                  ·
                   rw [if_pos c75] at H
                   have c75b0 : ((wrap64 (x16_5 * ((rd_T33 t109 (rd (rd_L3 t120 x14_4) 0)).f1))) == (wrap64 (x15_5 * ((rd_T33 t109 (rd (rd_L3 t120 x14_4) 0)).f0)))) = true := beq_iff_eq.mpr c75
                   have c75b1 : ((wrap64 (x16_5 * ((rd_T33 t109 (rd (rd_L3 t120 x14_4) 0)).f1))) != (wrap64 (x15_5 * ((rd_T33 t109 (rd (rd_L3 t120 x14_4) 0)).f0)))) = false := bne_eq_false_iff_eq.mpr c75
                   clear c75
                   have H' := Aside0.mk H
                   clear H
                   have p131 : 0 ≤ (x14_4 : Int) := of_decide_eq_true (by first | (with_reducible assumption) | assumption)
                   have q131 : x14_4 < (t120.length : Int) := of_decide_eq_true (by first | (with_reducible assumption) | assumption)
                   obtain ⟨ad131, A131_0, c131_0, e131, hx131_0, hl131_0, hi131_0⟩ := at_L3 (Kd.S_reads' HO_8.out).2.2 x14_4 p131 q131
                   cases e131
                   obtain ⟨ce131, hce131, hMe131, hcc131⟩ := Kd.S_get HO_8.out [] x14_4 p131 (by first | exact q131 | exact of_decide_eq_true (by first | (with_reducible assumption) | assumption) | (have e_ := (Kd.S_reads' HO_8.out).1; omega))
                   obtain ⟨ve131_0, rfl, ge131_0⟩ := hMe131
                   have hv131_0 := hcc131 0 _ rfl
                   rw [Nat.add_zero, show ((Kd.slice 3 (Kd.int .i64))).sz = 1 from rfl, Nat.mul_one] at hv131_0
                   replace hv131_0 := Option.some.inj (hv131_0.symm.trans hx131_0)
                   rw [hv131_0] at ge131_0
                   have HL131_0 := aK (show Kd.R (Kd.int .i64) 3 _ _ _ _ (rd_L3 t120 x14_4) from ge131_0)
                   clear hv131_0 ge131_0 hcc131 hce131
                   have HR131_0 := Aside0.mk hi131_0
                   have HC131_0 := Aside0.mk hl131_0
                   clear hi131_0 hl131_0
                   replace p131 := eq_true p131
                   replace q131 := eq_true q131
                   have p140 : 0 ≤ (x14_4 : Int) := of_decide_eq_true (by first | (with_reducible assumption) | assumption)
                   have q140 : x14_4 < (t120.length : Int) := of_decide_eq_true (by first | (with_reducible assumption) | assumption)
                   obtain ⟨ad140, A140_0, c140_0, e140, hx140_0, hl140_0, hi140_0⟩ := at_L3 (Kd.S_reads' HO_8.out).2.2 x14_4 p140 q140
                   obtain rfl : ad131 = ad140 := (by injection e140)
                   obtain ⟨ce140, hce140, hMe140, hcc140⟩ := Kd.S_get HO_8.out [] x14_4 p140 (by first | exact q140 | exact of_decide_eq_true (by first | (with_reducible assumption) | assumption) | (have e_ := (Kd.S_reads' HO_8.out).1; omega))
                   obtain ⟨ve140_0, rfl, ge140_0⟩ := hMe140
                   have hv140_0 := hcc140 0 _ rfl
                   rw [Nat.add_zero, show ((Kd.slice 3 (Kd.int .i64))).sz = 1 from rfl, Nat.mul_one] at hv140_0
                   replace hv140_0 := Option.some.inj (hv140_0.symm.trans hx140_0)
                   rw [hv140_0] at ge140_0
                   have HL140_0 := aK (show Kd.R (Kd.int .i64) 3 _ _ _ _ (rd_L3 t120 x14_4) from ge140_0)
                   clear hv140_0 ge140_0 hcc140 hce140
                   have HR140_0 := Aside0.mk hi140_0
                   have HC140_0 := Aside0.mk hl140_0
                   clear hi140_0 hl140_0
                   replace p140 := eq_true p140
                   replace q140 := eq_true q140
                   have ea_ := Option.some.inj (hx131_0.symm.trans hx140_0)
                   injection ea_ with ea_ en_ ec_
                   subst ea_
                   subst ec_
                   clear en_
                   have p141 : 0 ≤ (0 : Int) := (by omega)
                   have q141 : 0 < ((rd_L3 t120 x14_4).length : Int) := of_decide_eq_true (by first | (with_reducible assumption) | assumption)
                   obtain ⟨ad141, e141, hx141_0⟩ := Kd.at_int (by repeat (first | (with_reducible exact HR140_0.out) | (with_reducible refine Kd.C_alloc ?_ _) | (with_reducible refine Kd.C_drewN ?_ _) | (with_reducible refine Kd.C_drew ?_) | exact HR140_0.out)) 0 p141 q141
                   cases e141
                   have qi141 : (0 < (rd_L3 t120 x14_4).length) = True := eq_true (by omega)
                   (try rw [show ((0 : Int)).toNat = 0 from rfl] at hx141_0)
                   (try rw [Addr.add_zero'] at hx141_0)
                   replace p141 := eq_true p141
                   replace q141 := eq_true q141
                   have p142 : 0 ≤ ((rd (rd_L3 t120 x14_4) 0) : Int) := of_decide_eq_true (by first | (with_reducible assumption) | assumption)
                   have q142 : (rd (rd_L3 t120 x14_4) 0) < (t109.length : Int) := of_decide_eq_true (by first | (with_reducible assumption) | assumption)
                   obtain ⟨ad142, e142, hx142_0, hx142_1⟩ := at_T33 (Kd.R_reads' HO_4.out).2.2 (rd (rd_L3 t120 x14_4) 0) p142 q142
                   cases e142
                   replace p142 := eq_true p142
                   replace q142 := eq_true q142
                   go_wp2_with (first | ((with_reducible refine gate_dst (N := 19) rfl ?_); (try (refine gate_guard (by rfl) ?_; dsimp only)); refine bxe (cs := #[.int .i64 0, .int .i64 0]) (t := 33) ?_; intro gb143 hg w76 hbox hb; have n0_ := aK (Kd.R_below (Kd.R_elderB (pR HO_4.out) gb143 (Nat.le_of_eq hg.symm)) hb); have n1_ := aK (Kd.S_below (by (with_reducible repeat (first | apply Kd.S_alloc | apply Kd.S_drewN | apply Kd.S_drew)); exact HO_8.out) hb); have n2_ := aK (Kd.R_below (pR HO_109000.out) hb); have n3_ := aK (Kd.Q_below (pQ HO_109001.out) hb); have n4_ := aK (Kd.R_below (pR HL131_0.out) hb); have n5_ := aK (Kd.R_below (pR HL140_0.out) hb); have n7_ := aK (Kd.C_below (by repeat (first | (with_reducible exact HR131_0.out) | (with_reducible refine Kd.C_alloc ?_ _) | (with_reducible refine Kd.C_drewN ?_ _) | (with_reducible refine Kd.C_drew ?_) | exact HR131_0.out)) hb); have n8_ := aK (Kd.C_below (by repeat (first | (with_reducible exact HR140_0.out) | (with_reducible refine Kd.C_alloc ?_ _) | (with_reducible refine Kd.C_drewN ?_ _) | (with_reducible refine Kd.C_drew ?_) | exact HR140_0.out)) hb); have BK143 := aK (hbox); have GW143 := aK (gE hg (pS HB.out)); have GE143 := GW143; obtain ⟨NB108_143, NB143_108⟩ := nb hg (pB BK108.out); replace BK108 := bB BK108 hb; replace HB := bS HB hb; clear HO_4 HO_8 HO_109000 HO_109001 HL131_0 HL140_0 HR131_0 HR140_0; have HO_4 := n0_; have HO_8 := n1_; have HO_109000 := n2_; have HO_109001 := n3_; have HL131_0 := n4_; have HL140_0 := n5_; have HR131_0 := n7_; have HR140_0 := n8_; clear n0_ n1_ n2_ n3_ n4_ n5_ n7_ n8_ hb hbox hg; have hnb77 := NB143_108.out; have hnc77 := NB108_143.out; obtain ⟨hcz78_0, hcz78_1, hfz78_0, hfz78_1⟩ := bc2 BK143.out))
                   go_roundg k5
                   case measure => have := HJ6.out; have := HJ32.out; have := HJ44.out; have := HK4.out; have := HK5.out; omega
                   case rel => exact ⟨(wrap64 (x14_4 + 1)), (by first | rfl | (simp; done) | (simp [*]; done)), H', ⟨by have := HJ6.out; have := HJ32.out; have := HJ44.out; have := HK4.out; have := HK5.out; omega⟩, ⟨pR (Kd.R_mono (Kd.R_far (p := ⟨gb143, 1, none⟩) (Kd.R_far (p := ⟨gb143, 0, none⟩) (Kd.R_mono HO_4.out (fun k_ hk => (⟨hk, hk.2⟩ : _ ∧ k_ ≠ gb143))) (fun _ hk => hk.2) (.int .i64 ((rd_T33 t109 (rd (rd_L3 t120 x14_4) 0)).f0))) (fun _ hk => hk.2) (.int .i64 ((rd_T33 t109 (rd (rd_L3 t120 x14_4) 0)).f1))) (fun _ hk => trivial))⟩, ⟨by (with_reducible repeat (first | apply Kd.S_alloc | apply Kd.S_drewN | apply Kd.S_drew)); exact Kd.S_mono (Kd.S_far (p := ⟨gb143, 1, none⟩) (Kd.S_far (p := ⟨gb143, 0, none⟩) (Kd.S_types HO_8.out BK143.out (by decide)) (fun _ hk => hk.2) (.int .i64 ((rd_T33 t109 (rd (rd_L3 t120 x14_4) 0)).f0))) (fun _ hk => hk.2) (.int .i64 ((rd_T33 t109 (rd (rd_L3 t120 x14_4) 0)).f1))) (fun _ hk => ⟨hk.1.1, hk.1.2⟩)⟩, ⟨pR (rF2 HO_109000.out BK143.out (.int .i64 ((rd_T33 t109 (rd (rd_L3 t120 x14_4) 0)).f0)) (.int .i64 ((rd_T33 t109 (rd (rd_L3 t120 x14_4) 0)).f1)))⟩, ⟨by (with_reducible repeat (first | apply Kd.Q_alloc | apply Kd.Q_drewN | apply Kd.Q_drew)); exact qF2 HO_109001.out BK143.out (.int .i64 ((rd_T33 t109 (rd (rd_L3 t120 x14_4) 0)).f0)) (.int .i64 ((rd_T33 t109 (rd (rd_L3 t120 x14_4) 0)).f1))⟩, ⟨by refine bk ?_; refine blk_far ?_ NB108_143.out _; refine bk ?_; refine blk_far ?_ NB108_143.out _; refine bk ?_; exact BK108.out⟩, ⟨pT HB.out⟩⟩
                  rw [if_neg c75] at H
                  have c75b0 : ((wrap64 (x16_5 * ((rd_T33 t109 (rd (rd_L3 t120 x14_4) 0)).f1))) == (wrap64 (x15_5 * ((rd_T33 t109 (rd (rd_L3 t120 x14_4) 0)).f0)))) = false := beq_eq_false_iff_ne.mpr c75
                  have c75b1 : ((wrap64 (x16_5 * ((rd_T33 t109 (rd (rd_L3 t120 x14_4) 0)).f1))) != (wrap64 (x15_5 * ((rd_T33 t109 (rd (rd_L3 t120 x14_4) 0)).f0)))) = true := bne_iff_ne.mpr c75
                  obtain rfl := Option.some.inj H
                  have p131 : 0 ≤ (x14_4 : Int) := of_decide_eq_true (by first | (with_reducible assumption) | assumption)
                  have q131 : x14_4 < (t120.length : Int) := of_decide_eq_true (by first | (with_reducible assumption) | assumption)
                  obtain ⟨ad131, A131_0, c131_0, e131, hx131_0, hl131_0, hi131_0⟩ := at_L3 (Kd.S_reads' HO_8.out).2.2 x14_4 p131 q131
                  cases e131
                  obtain ⟨ce131, hce131, hMe131, hcc131⟩ := Kd.S_get HO_8.out [] x14_4 p131 (by first | exact q131 | exact of_decide_eq_true (by first | (with_reducible assumption) | assumption) | (have e_ := (Kd.S_reads' HO_8.out).1; omega))
                  obtain ⟨ve131_0, rfl, ge131_0⟩ := hMe131
                  have hv131_0 := hcc131 0 _ rfl
                  rw [Nat.add_zero, show ((Kd.slice 3 (Kd.int .i64))).sz = 1 from rfl, Nat.mul_one] at hv131_0
                  replace hv131_0 := Option.some.inj (hv131_0.symm.trans hx131_0)
                  rw [hv131_0] at ge131_0
                  have HL131_0 := aK (show Kd.R (Kd.int .i64) 3 _ _ _ _ (rd_L3 t120 x14_4) from ge131_0)
                  clear hv131_0 ge131_0 hcc131 hce131
                  have HR131_0 := Aside0.mk hi131_0
                  have HC131_0 := Aside0.mk hl131_0
                  clear hi131_0 hl131_0
                  replace p131 := eq_true p131
                  replace q131 := eq_true q131
                  have p140 : 0 ≤ (x14_4 : Int) := of_decide_eq_true (by first | (with_reducible assumption) | assumption)
                  have q140 : x14_4 < (t120.length : Int) := of_decide_eq_true (by first | (with_reducible assumption) | assumption)
                  obtain ⟨ad140, A140_0, c140_0, e140, hx140_0, hl140_0, hi140_0⟩ := at_L3 (Kd.S_reads' HO_8.out).2.2 x14_4 p140 q140
                  obtain rfl : ad131 = ad140 := (by injection e140)
                  obtain ⟨ce140, hce140, hMe140, hcc140⟩ := Kd.S_get HO_8.out [] x14_4 p140 (by first | exact q140 | exact of_decide_eq_true (by first | (with_reducible assumption) | assumption) | (have e_ := (Kd.S_reads' HO_8.out).1; omega))
                  obtain ⟨ve140_0, rfl, ge140_0⟩ := hMe140
                  have hv140_0 := hcc140 0 _ rfl
                  rw [Nat.add_zero, show ((Kd.slice 3 (Kd.int .i64))).sz = 1 from rfl, Nat.mul_one] at hv140_0
                  replace hv140_0 := Option.some.inj (hv140_0.symm.trans hx140_0)
                  rw [hv140_0] at ge140_0
                  have HL140_0 := aK (show Kd.R (Kd.int .i64) 3 _ _ _ _ (rd_L3 t120 x14_4) from ge140_0)
                  clear hv140_0 ge140_0 hcc140 hce140
                  have HR140_0 := Aside0.mk hi140_0
                  have HC140_0 := Aside0.mk hl140_0
                  clear hi140_0 hl140_0
                  replace p140 := eq_true p140
                  replace q140 := eq_true q140
                  have ea_ := Option.some.inj (hx131_0.symm.trans hx140_0)
                  injection ea_ with ea_ en_ ec_
                  subst ea_
                  subst ec_
                  clear en_
                  have p141 : 0 ≤ (0 : Int) := (by omega)
                  have q141 : 0 < ((rd_L3 t120 x14_4).length : Int) := of_decide_eq_true (by first | (with_reducible assumption) | assumption)
                  obtain ⟨ad141, e141, hx141_0⟩ := Kd.at_int (by repeat (first | (with_reducible exact HR140_0.out) | (with_reducible refine Kd.C_alloc ?_ _) | (with_reducible refine Kd.C_drewN ?_ _) | (with_reducible refine Kd.C_drew ?_) | exact HR140_0.out)) 0 p141 q141
                  cases e141
                  have qi141 : (0 < (rd_L3 t120 x14_4).length) = True := eq_true (by omega)
                  (try rw [show ((0 : Int)).toNat = 0 from rfl] at hx141_0)
                  (try rw [Addr.add_zero'] at hx141_0)
                  replace p141 := eq_true p141
                  replace q141 := eq_true q141
                  have p142 : 0 ≤ ((rd (rd_L3 t120 x14_4) 0) : Int) := of_decide_eq_true (by first | (with_reducible assumption) | assumption)
                  have q142 : (rd (rd_L3 t120 x14_4) 0) < (t109.length : Int) := of_decide_eq_true (by first | (with_reducible assumption) | assumption)
                  obtain ⟨ad142, e142, hx142_0, hx142_1⟩ := at_T33 (Kd.R_reads' HO_4.out).2.2 (rd (rd_L3 t120 x14_4) 0) p142 q142
                  cases e142
                  replace p142 := eq_true p142
                  replace q142 := eq_true q142
                  go_wp2_with (first | ((with_reducible refine gate_dst (N := 19) rfl ?_); (try (refine gate_guard (by rfl) ?_; dsimp only)); refine bxe (cs := #[.int .i64 0, .int .i64 0]) (t := 33) ?_; intro gb143 hg w79 hbox hb; have n0_ := aK (Kd.R_below (Kd.R_elderB (pR HO_4.out) gb143 (Nat.le_of_eq hg.symm)) hb); have n1_ := aK (Kd.S_below (by (with_reducible repeat (first | apply Kd.S_alloc | apply Kd.S_drewN | apply Kd.S_drew)); exact HO_8.out) hb); have n2_ := aK (Kd.R_below (pR HO_109000.out) hb); have n3_ := aK (Kd.Q_below (pQ HO_109001.out) hb); have n4_ := aK (Kd.R_below (pR HL131_0.out) hb); have n5_ := aK (Kd.R_below (pR HL140_0.out) hb); have n6_ := aK (Kd.C_below (by repeat (first | (with_reducible exact HR131_0.out) | (with_reducible refine Kd.C_alloc ?_ _) | (with_reducible refine Kd.C_drewN ?_ _) | (with_reducible refine Kd.C_drew ?_) | exact HR131_0.out)) hb); have n7_ := aK (Kd.C_below (by repeat (first | (with_reducible exact HR140_0.out) | (with_reducible refine Kd.C_alloc ?_ _) | (with_reducible refine Kd.C_drewN ?_ _) | (with_reducible refine Kd.C_drew ?_) | exact HR140_0.out)) hb); have BK143 := aK (hbox); have GW143 := aK (gE hg (pS HB.out)); have GE143 := GW143; replace HB := bS HB hb; clear HO_4 HO_8 HO_109000 HO_109001 HL131_0 HL140_0 HR131_0 HR140_0; have HO_4 := n0_; have HO_8 := n1_; have HO_109000 := n2_; have HO_109001 := n3_; have HL131_0 := n4_; have HL140_0 := n5_; have HR131_0 := n6_; have HR140_0 := n7_; clear n0_ n1_ n2_ n3_ n4_ n5_ n6_ n7_ hb hbox hg; obtain ⟨hcz80_0, hcz80_1, hfz80_0, hfz80_1⟩ := bc2 BK143.out))
                  go_ret
                  exact ⟨er, pT HB.out⟩
                 rw [if_neg c71] at H
                 exact absurd H (by simp)
                rw [if_neg c70] at H
                exact absurd H (by simp)
               rw [if_neg c69] at H
               exact absurd H (by simp)
              rw [if_neg c54] at H
              exact absurd H (by simp)
             rw [if_neg c53] at H
             exact absurd H (by simp)
          rw [if_neg c51] at H
          have c51b0 : decide (x14_4 < (t120.length : Int)) = false := decide_eq_false c51
          clear c51
          obtain rfl := Option.some.inj H
          obtain ⟨Ao81, co81, eo81⟩ := Kd.S_slice HO_8.out
          subst eo81
          go_wp2
          go_ret
          exact ⟨er, pT HB.out⟩
     replace c43 := Bool.eq_false_iff.mpr c43
     subst c43
     have H1 : (if (t109.length : Int) = 0 then (some ((t120.length : Int) == 0)) else (some false)) = some r := by rw [if_neg (show ¬ (false = true) by decide)] at H; exact H
     clear H
     have H := H1
     clear H1
     by_cases c82 : (t109.length : Int) = 0
     ·
      rw [if_pos c82] at H
      have c82b0 : ((t109.length : Int) == 0) = true := beq_iff_eq.mpr c82
      have c82b1 : ((t109.length : Int) != 0) = false := bne_eq_false_iff_eq.mpr c82
      clear c82
      obtain rfl := Option.some.inj H
      obtain ⟨Ao83, co83, eo83⟩ := Kd.R_slice HO_4.out
      subst eo83
      obtain ⟨Ao84, co84, eo84⟩ := Kd.S_slice HO_8.out
      subst eo84
      go_wp2
      go_ret
      exact ⟨er, pT HB.out⟩
     rw [if_neg c82] at H
     have c82b0 : ((t109.length : Int) == 0) = false := beq_eq_false_iff_ne.mpr c82
     have c82b1 : ((t109.length : Int) != 0) = true := bne_iff_ne.mpr c82
     have c82b2 : ¬ (t109 = []) := fun h_ => c82 (by rw [h_]; rfl)
     obtain rfl := Option.some.inj H
     obtain ⟨Ao85, co85, eo85⟩ := Kd.R_slice HO_4.out
     subst eo85
     go_wp2
     go_ret
     exact ⟨er, pT HB.out⟩
def laws_FnCalibration.Pure : Prop := ∀ (l0 : List Int), (l0.length ≤ 9223372036854775807 ∧ ∀ z0 ∈ l0, (Lit.int .u8 z0).wf = true) → l0.length * 1 ≤ 140737488351232 → ∃ k, laws_FnCalibration.f k l0 = some true
end Go.Proofs.Ytjicgmcogadleaa.P
namespace Go.Proofs.Ytjicgmcogadleaa.Open
open Go.ChangeShapes Go.WideShapes Go.RowKit Go.Deep Go.Joins Go.Proofs.YtjicgmcogadleaaW.PrintWords
def Opens {α : Type} (P : Program) (t : TypeId) (d : Kd α) (wf : α → Prop) : Prop :=
  ∀ {H : Type} {enc : TypeId × Value → H} {W : World} {fuel : Nat} {cs : List Value} {x : DataW H × List MemPlace},
    DataW.trod enc P W 0 (fun _ => true) true fuel t cs = some x → ∃ y, d.K W y cs ∧ wf y
theorem opens_int {P : Program} {t : TypeId} {k : IntKind} (h : P.underlying t = some (.int k)) : Opens P t (Kd.int k) (fun n => (Lit.int k n).wf = true) := by
  intro H enc W fuel cs x hx
  obtain ⟨n, rfl, _, hw⟩ := DataW.trod_int h hx
  exact ⟨n, rfl, hw⟩
theorem list_of {α : Type} {p : Nat → α → Prop} : ∀ (n : Nat), (∀ i, i < n → ∃ y, p i y) → ∃ ys : List α, ys.length = n ∧ ∀ (i : Nat) (y : α), ys[i]? = some y → p i y
  | 0, _ => ⟨[], rfl, fun i y h => by simp at h⟩
  | n + 1, h => by
    obtain ⟨ys, hl, hy⟩ := list_of n (fun i hi => h i (by omega))
    obtain ⟨y, hp⟩ := h n (by omega)
    refine ⟨ys ++ [y], by simp [hl], fun i z hz => ?_⟩
    by_cases hi : i < n
    · rw [List.getElem?_append_left (by omega)] at hz
      exact hy i z hz
    · have hi2 : i = n := by
        have := (List.getElem?_eq_some_iff.1 hz).1
        simp [hl] at this
        omega
      subst hi2
      rw [List.getElem?_append_right (by omega), hl] at hz
      simp at hz
      subst hz
      exact hp
theorem opens_slice {α : Type} {P : Program} {t e : TypeId} {d : Kd α} {wf : α → Prop} (h : P.underlying t = some (.slice e)) (hc : P.cellsOf e = d.sz) (he : Opens P e d wf) :
    Opens P t (Kd.slice e d) (fun l => l.length ≤ 9223372036854775807 ∧ ∀ x ∈ l, wf x) := by
  intro H enc W fuel cs x hx
  rcases open_slice h hx with ⟨rfl, _⟩ | ⟨a, len, cap, m, n, D, Pl, rfl, _, hl, hm, hmm, _, hx⟩
  · exact ⟨[], ⟨none, 0, rfl, by simp, Kd.C_nil d W⟩, by simp, by simp⟩
  · obtain ⟨ys, hlen, hy⟩ := list_of (p := fun i y => ∃ cs', W.cells? 0 (a.add (i * P.cellsOf e)) (P.cellsOf e) = some cs' ∧ d.K W y cs' ∧ wf y) len (fun i hi => by
      obtain ⟨cs', h1, h2⟩ := hx i (by rw [hmm]; split <;> omega)
      obtain ⟨y, hK, hw⟩ := he h2
      exact ⟨y, cs', h1, hK, hw⟩)
    have hm' : cap ≤ 9223372036854775807 := by simpa [maxLen] using hm
    refine ⟨ys, ⟨some a, cap, by rw [hlen], by omega, ⟨rfl, by omega, fun _ => ⟨a, rfl, fun j y hj => ?_⟩⟩⟩, by omega, fun y hmem => ?_⟩
    · obtain ⟨cs', h1, hK, _⟩ := hy j y hj
      obtain ⟨_, hl2, hcell⟩ := World.cells?_some h1
      refine ⟨cs', d.K_len hK, hK, fun i u hu => ?_⟩
      have hi : i < P.cellsOf e := by
        have := (List.getElem?_eq_some_iff.1 hu).1
        omega
      rw [← hc, ← Go.Deep.add_add, hcell i hi]
      exact hu
    · obtain ⟨j, hj⟩ := List.getElem?_of_mem hmem
      obtain ⟨_, _, _, hw⟩ := hy j y hj
      exact hw
theorem sized_any {H : Type} {enc : TypeId × Value → H} {P : Program} {W : World} {base : Nat} {spare : Nat → Bool} {held : Bool} {t e : TypeId} {a : Option Addr} {len cap : Nat} {d : DataW H} {ps : List MemPlace} {ts : List TypeId} {ds : List (DataW H)} {j : Nat}
    (hsz : (DataW.weightsEach P ts ds).all (· ≤ reachBytes) = true) (ht : ts[j]? = some t) (hd : ds[j]? = some d) (hu : P.underlying t = some (.slice e)) {B : Nat} (hB : P.bytesOf e = B)
    (h : DataW.Trod enc P W base spare held t (.slice a len cap) d ps) : len * B ≤ 140737488351232 := by
  obtain ⟨fuel, hf⟩ := h
  rcases open_slice hu hf with ⟨hcs, _⟩ | ⟨x, l, c, m, n, D, Pl, hcs, _, hl, _, _, hx, _⟩
  · simp [Value.cells] at hcs
    obtain ⟨rfl, rfl, rfl⟩ := hcs
    simp
  · simp [Value.cells] at hcs
    obtain ⟨rfl, rfl, rfl⟩ := hcs
    obtain ⟨hx, _⟩ := Prod.mk.inj hx
    subst hx
    have z := sized_slice hsz ht hd hu
    rw [hB] at z
    refine Nat.le_trans (Nat.mul_le_mul_right _ ?_) z
    simp
theorem slice_at {α : Type} {P : Program} {W : World} {t e : TypeId} {d : Kd α} {wf : List α → Prop} {H : Type} {enc : TypeId × Value → H} {a : Option Addr} {len cap : Nat} {dd : DataW H} {ps : List MemPlace} (ho : Opens P t (Kd.slice e d) wf)
    (h : DataW.Trod enc P W 0 (fun _ => true) true t (.slice a len cap) dd ps) : ∃ l : List α, len = l.length ∧ l.length ≤ cap ∧ d.C W a l.length l ∧ wf l := by
  obtain ⟨fuel, hf⟩ := h
  obtain ⟨l, ⟨A, c, hcs, hl, hC⟩, hw⟩ := ho hf
  simp [Value.cells] at hcs
  obtain ⟨rfl, rfl, rfl⟩ := hcs
  exact ⟨l, rfl, hl, hC, hw⟩
section
variable {P : Program} {t : TypeId} {W : World} {H : Type} {enc : TypeId × Value → H} {r : Reach} {b0 : Nat} {v : Value} {d : DataW H} {p : List MemPlace}
end
end Go.Proofs.Ytjicgmcogadleaa.Open
namespace Go.Proofs.Ytjicgmcogadleaa.P
open Go.RowKit Go.Proofs.YtjicgmcogadleaaW.PrintWords Go.Proofs.YtjicgmcogadleaaW.PrintLast Go.Proofs.YtjicgmcogadleaaW.PrintMore
attribute [local go_sem] max2_int min2_int max_two min_two max_three min_three max_four min_four
set_option linter.unusedVariables false
set_option linter.unusedSimpArgs false
open Go.Proofs.Ytjicgmcogadleaa.Open
end Go.Proofs.Ytjicgmcogadleaa.P
