/- Texts of the claim FnExactRegionBorder, merged: part 3 of 4: the program's and the reference's functions as Lean functions, the walks that show it, and plain lemmas; no conditions. -/
import Derived.Test.YtehjhcnimfhdnaaKFnExactRegionBorder2
import Derived.Test.YtehjhcnimfhdnaaKFnExactRegionBorder1
import Derived.ProofKit
import Derived.OpenShut
import Derived.Deep.Slices
import Derived.Deep.Strs
import Derived.Deep.Fields
import Derived.Lib.SmallJoins
namespace Go.Proofs.Ytehjhcnimfhdnaa.P
open Go.RowKit Go.Proofs.YtehjhcnimfhdnaaW.PrintWords Go.Proofs.YtehjhcnimfhdnaaW.PrintLast Go.Proofs.YtehjhcnimfhdnaaW.PrintMore
attribute [local go_sem] max2_int min2_int max_two min_two max_three min_three max_four min_four
set_option linter.unusedVariables false
set_option linter.unusedSimpArgs false
set_option maxHeartbeats 8000000
set_option maxRecDepth 100000
def slices_Index_int_int.l0 : Nat → List Int → Int → Int → Int → Option (Int)
 | 0, _, _, _, _ => none
 | k + 1, x0, x1, x7, x8 => if x8 < x7 then (if 0 ≤ x8 then (if x8 < (x0.length : Int) then (if x1 = (rd x0 x8) then (some x8) else (slices_Index_int_int.l0 k x0 x1 x7 (wrap64 (x8 + 1)))) else (none)) else (none)) else (some (-1))
def slices_Index_int_int.f (k : Nat) (l0 : List Int) (a1 : Int) : Option (Int) := slices_Index_int_int.l0 k l0 a1 (l0.length : Int) 0
theorem slices_Index_int_int.calls (k : Nat) (A0 : Option Addr) (c0 : Nat) (l0 : List Int) (a1 : Int) (r : Int) (w : World) (hr0 : Kd.C (Kd.int .i64) w A0 l0.length l0) (hc0 : l0.length ≤ c0) (h : slices_Index_int_int.f k l0 a1 = some r) :
  Calls Try.prog 23 #[.slice A0 l0.length c0, .int .i64 a1] w fun e w' => e = .returned (.int .i64 r) ∧ Drawn0 w w' := by
 have HR0 := Aside0.mk hr0
 have HC0 := Aside0.mk hc0
 clear hr0 hc0
 have H : (slices_Index_int_int.l0 k l0 a1 (l0.length : Int) 0) = some r := h
 clear h
 have H' := Aside0.mk H
 clear H
 go_enter Try.func23, Try.ntmps23
 go_wp2
 go_loopg [8] k (fun kq v8 w' => ∃ (x8_1 : Int), v8 = .int .i64 x8_1 ∧ Aside0 (slices_Index_int_int.l0 kq l0 a1 (l0.length : Int) x8_1 = some r) ∧ Aside0 (kq ≤ k) ∧ Drawn0 w w')
 case atStart => exact ⟨(0), (by first | rfl | (simp; done) | (simp [*]; done)), H', ⟨Nat.le_refl _⟩, by repeat (first | exact Drawn0.refl _ | apply Drawn0.step)⟩
 case round =>
  clear H'
  try clear c2
  try clear p2
  obtain ⟨x8_1, rfl, HA, HK1, ⟨m1, rfl⟩⟩ := hrel
  cases gk with
  | zero => exact absurd HA.out (by simp [slices_Index_int_int.l0])
  | succ k1 =>
   have H := HA.out
   clear HA
   simp only [slices_Index_int_int.l0] at H
   by_cases c3 : x8_1 < (l0.length : Int)
   ·
    rw [if_pos c3] at H
    have c3b0 : decide (x8_1 < (l0.length : Int)) = true := decide_eq_true c3
    clear c3
    by_cases c4 : 0 ≤ x8_1
    ·
     rw [if_pos c4] at H
     have c4b0 : decide (0 ≤ x8_1) = true := decide_eq_true c4
     clear c4
     by_cases c5 : x8_1 < (l0.length : Int)
     ·
      rw [if_pos c5] at H
      have c5b0 : decide (x8_1 < (l0.length : Int)) = true := decide_eq_true c5
      clear c5
      by_cases c6 : a1 = (rd l0 x8_1)
      ·
       rw [if_pos c6] at H
       have c6b0 : (a1 == (rd l0 x8_1)) = true := beq_iff_eq.mpr c6
       have c6b1 : (a1 != (rd l0 x8_1)) = false := bne_eq_false_iff_eq.mpr c6
       clear c6
       obtain rfl := Option.some.inj H
       have p101 : 0 ≤ (x8_1 : Int) := of_decide_eq_true (by first | (with_reducible assumption) | assumption)
       have q101 : x8_1 < (l0.length : Int) := of_decide_eq_true (by first | (with_reducible assumption) | assumption)
       obtain ⟨ad101, e101, hx101_0⟩ := Kd.at_int HR0.out x8_1 p101 q101
       cases e101
       replace p101 := eq_true p101
       replace q101 := eq_true q101
       go_wp2
       go_ret
       exact ⟨by first | rfl | (simp; done) | (simp [*]; done), by repeat (first | exact Drawn0.refl _ | apply Drawn0.step)⟩
      rw [if_neg c6] at H
      have c6b0 : (a1 == (rd l0 x8_1)) = false := beq_eq_false_iff_ne.mpr c6
      have c6b1 : (a1 != (rd l0 x8_1)) = true := bne_iff_ne.mpr c6
      have H' := Aside0.mk H
      clear H
      have p101 : 0 ≤ (x8_1 : Int) := of_decide_eq_true (by first | (with_reducible assumption) | assumption)
      have q101 : x8_1 < (l0.length : Int) := of_decide_eq_true (by first | (with_reducible assumption) | assumption)
      obtain ⟨ad101, e101, hx101_0⟩ := Kd.at_int HR0.out x8_1 p101 q101
      cases e101
      replace p101 := eq_true p101
      replace q101 := eq_true q101
      go_wp2
      go_roundg k1
      case measure => have := HK1.out; omega
      case rel => exact ⟨(wrap64 (x8_1 + 1)), (by first | rfl | (simp; done) | (simp [*]; done)), H', ⟨by have := HK1.out; omega⟩, by repeat (first | exact Drawn0.refl _ | apply Drawn0.step)⟩
     rw [if_neg c5] at H
     exact absurd H (by simp)
    rw [if_neg c4] at H
    exact absurd H (by simp)
   rw [if_neg c3] at H
   have c3b0 : decide (x8_1 < (l0.length : Int)) = false := decide_eq_false c3
   clear c3
   obtain rfl := Option.some.inj H
   go_wp2
   go_ret
   exact ⟨by first | rfl | (simp; done) | (simp [*]; done), by repeat (first | exact Drawn0.refl _ | apply Drawn0.step)⟩
def slices_Contains_int_int.f (k : Nat) (l0 : List Int) (a1 : Int) : Option (Bool) := (slices_Index_int_int.f k l0 a1).bind fun t101 => (some (decide (t101 ≥ 0)))
theorem slices_Contains_int_int.calls (k : Nat) (A0 : Option Addr) (c0 : Nat) (l0 : List Int) (a1 : Int) (r : Bool) (w : World) (hr0 : Kd.C (Kd.int .i64) w A0 l0.length l0) (hc0 : l0.length ≤ c0) (h : slices_Contains_int_int.f k l0 a1 = some r) :
  Calls Try.prog 19 #[.slice A0 l0.length c0, .int .i64 a1] w fun e w' => e = .returned (.bool r) ∧ Drawn0 w w' := by
 have HR0 := Aside0.mk hr0
 have HC0 := Aside0.mk hc0
 clear hr0 hc0
 have H : ((slices_Index_int_int.f k l0 a1).bind fun t101 => (some (decide (t101 ≥ 0)))) = some r := h
 clear h
 replace H := Option.bind_eq_some_iff.mp H
 obtain ⟨t101, A30, H⟩ := H
 replace H : (some (decide (t101 ≥ 0))) = some r := H
 have A3 := Aside0.mk A30
 clear A30
 obtain rfl := Option.some.inj H
 go_enter Try.func19, Try.ntmps19
 go_wp2_with (first | ((with_reducible refine gate_callee (f := 23) rfl ?_); refine gl (some 7) Try.func23 #[.slice A0 l0.length c0, .int .i64 a1] ?_; (with_reducible refine (slices_Index_int_int.calls k _ _ l0 a1 t101 _ ?side1 ?side2 A3.out).mono ?_); (case side1 => exact pC HR0.out); (case side2 => exact HC0.out); rintro e w' ⟨rfl, ⟨nd, rfl⟩⟩; refine ⟨_, rfl, ?_⟩))
 go_ret
 exact ⟨by first | rfl | (simp; done) | (simp [*]; done), by repeat (first | exact Drawn0.refl _ | apply Drawn0.step)⟩
def impl_sidesOf_1.f (k : Nat) (a0 : Int) (a1 : Int) (a2_0 : Int) (l3_0 : List Int) : Option (Bool) := if a0 ≥ 0 then (if a0 < a2_0 then (if a1 ≥ 0 then ((slices_Contains_int_int.f k l3_0 (wrap64 ((wrap64 (a1 * a2_0)) + a0))).bind fun t103 => (some t103)) else (some false)) else (some false)) else (some false)
theorem impl_sidesOf_1.calls (k : Nat) (a0 : Int) (a1 : Int) (cb2 : Nat) (a2_0 : Int) (cb3 : Nat) (A3_0 : Option Addr) (c3_0 : Nat) (l3_0 : List Int) (r : Bool) (w : World) (hk2 : w.heap[cb2]? = some (.cells #[.int .i64 a2_0] 3 (0, 0))) (hk3 : w.heap[cb3]? = some (.cells #[.slice A3_0 l3_0.length c3_0] 22 (0, 0))) (hn2_3 : cb2 ≠ cb3) (hr3_0 : Kd.C (Kd.int .i64) w A3_0 l3_0.length l3_0) (hc3_0 : l3_0.length ≤ c3_0) (h : impl_sidesOf_1.f k a0 a1 a2_0 l3_0 = some r) :
  Calls Try.prog 18 #[.int .i64 a0, .int .i64 a1, .pointer (some ⟨cb2, 0, none⟩), .pointer (some ⟨cb3, 0, none⟩)] w fun e w' => e = .returned (.bool r) ∧ Drawn0 w w' := by
 have HR3_0 := Aside0.mk hr3_0
 have HC3_0 := Aside0.mk hc3_0
 clear hr3_0 hc3_0
 have BK101 := Aside0.mk hk2
 clear hk2
 have BK102 := Aside0.mk hk3
 clear hk3
 have NB101_102 := Aside0.mk hn2_3
 have NB102_101 := aK (Ne.symm hn2_3)
 clear hn2_3
 have H : (if a0 ≥ 0 then (if a0 < a2_0 then (if a1 ≥ 0 then ((slices_Contains_int_int.f k l3_0 (wrap64 ((wrap64 (a1 * a2_0)) + a0))).bind fun t103 => (some t103)) else (some false)) else (some false)) else (some false)) = some r := h
 clear h
 by_cases c5 : a0 ≥ 0
 ·
  rw [if_pos c5] at H
  have c5b0 : decide (0 ≤ a0) = true := decide_eq_true c5
  clear c5
  by_cases c6 : a0 < a2_0
  ·
   rw [if_pos c6] at H
   have c6b0 : decide (a0 < a2_0) = true := decide_eq_true c6
   clear c6
   by_cases c7 : a1 ≥ 0
   ·
    rw [if_pos c7] at H
    have c7b0 : decide (0 ≤ a1) = true := decide_eq_true c7
    clear c7
    replace H := Option.bind_eq_some_iff.mp H
    obtain ⟨t103, A80, H⟩ := H
    replace H : (some t103) = some r := H
    have A8 := Aside0.mk A80
    clear A80
    obtain rfl := Option.some.inj H
    have hnb9 := NB101_102.out
    have hnc9 := NB102_101.out
    obtain ⟨hcz10_0, hfz10_0⟩ := bc1 BK101.out
    obtain ⟨hcz11_0, hfz11_0⟩ := bc1 BK102.out
    go_enter Try.func18, Try.ntmps18
    go_wp2_with (first | (go_at_call 19; (with_reducible refine (slices_Contains_int_int.calls k _ _ l3_0 (wrap64 ((wrap64 (a1 * a2_0)) + a0)) t103 _ ?side1 ?side2 A8.out).mono ?_); (case side1 => exact pC HR3_0.out); (case side2 => exact HC3_0.out); rintro e w' ⟨rfl, ⟨nd, rfl⟩⟩))
    go_ret
    exact ⟨by first | rfl | (simp; done) | (simp [*]; done), by repeat (first | exact Drawn0.refl _ | apply Drawn0.step)⟩
   rw [if_neg c7] at H
   have c7b0 : decide (0 ≤ a1) = false := decide_eq_false c7
   clear c7
   obtain rfl := Option.some.inj H
   have hnb12 := NB101_102.out
   have hnc12 := NB102_101.out
   obtain ⟨hcz13_0, hfz13_0⟩ := bc1 BK101.out
   go_enter Try.func18, Try.ntmps18
   go_wp2
   go_ret
   exact ⟨by first | rfl | (simp; done) | (simp [*]; done), by repeat (first | exact Drawn0.refl _ | apply Drawn0.step)⟩
  rw [if_neg c6] at H
  have c6b0 : decide (a0 < a2_0) = false := decide_eq_false c6
  clear c6
  obtain rfl := Option.some.inj H
  have hnb14 := NB101_102.out
  have hnc14 := NB102_101.out
  obtain ⟨hcz15_0, hfz15_0⟩ := bc1 BK101.out
  go_enter Try.func18, Try.ntmps18
  go_wp2
  go_ret
  exact ⟨by first | rfl | (simp; done) | (simp [*]; done), by repeat (first | exact Drawn0.refl _ | apply Drawn0.step)⟩
 rw [if_neg c5] at H
 have c5b0 : decide (0 ≤ a0) = false := decide_eq_false c5
 clear c5
 obtain rfl := Option.some.inj H
 go_enter Try.func18, Try.ntmps18
 go_wp2
 go_ret
 exact ⟨by first | rfl | (simp; done) | (simp [*]; done), by repeat (first | exact Drawn0.refl _ | apply Drawn0.step)⟩
end Go.Proofs.Ytehjhcnimfhdnaa.P
namespace Go.Proofs.Ytehjhcnimfhdnaa.P
open Go.RowKit Go.Proofs.YtehjhcnimfhdnaaW.PrintWords Go.Proofs.YtehjhcnimfhdnaaW.PrintLast Go.Proofs.YtehjhcnimfhdnaaW.PrintMore
attribute [local go_sem] max2_int min2_int max_two min_two max_three min_three max_four min_four run_index_agg part w64_1 w64_2 w64_3 w64_4
set_option linter.unusedVariables false
set_option linter.unusedSimpArgs false
set_option maxHeartbeats 8000000
set_option maxRecDepth 100000
mutual
def impl_sidesOf.l0 : Nat → List (S44) → List Int → Int → Int → Int → List Int → Option ((List (S44)))
 | 0, _, _, _, _, _, _ => none
 | k + 1, x6, x16, x17, x18, x102000, x103000 => if x18 < x17 then (if 0 ≤ x18 then (if x18 < (x16.length : Int) then (if x102000 = 0 then (none) else ((impl_sidesOf_1.f k (Int.tmod (rd x16 x18) x102000) (wrap64 ((wrap64 (Int.tdiv (rd x16 x18) x102000)) - 1)) x102000 x103000).bind fun t105 => ((impl_sidesOf_1.f k (wrap64 ((Int.tmod (rd x16 x18) x102000) + 1)) (wrap64 (Int.tdiv (rd x16 x18) x102000)) x102000 x103000).bind fun t106 => ((impl_sidesOf_1.f k (Int.tmod (rd x16 x18) x102000) (wrap64 ((wrap64 (Int.tdiv (rd x16 x18) x102000)) + 1)) x102000 x103000).bind fun t107 => ((impl_sidesOf_1.f k (wrap64 ((Int.tmod (rd x16 x18) x102000) - 1)) (wrap64 (Int.tdiv (rd x16 x18) x102000)) x102000 x103000).bind fun t108 => (impl_sidesOf.l1 k x6 (rd x16 x18) x16 x17 x18 0 x102000 x103000 (Int.tmod (rd x16 x18) x102000) (wrap64 (Int.tdiv (rd x16 x18) x102000)) (wrap64 ((Int.tmod (rd x16 x18) x102000) + 1)) (wrap64 (Int.tdiv (rd x16 x18) x102000)) (wrap64 ((Int.tmod (rd x16 x18) x102000) + 1)) (wrap64 ((wrap64 (Int.tdiv (rd x16 x18) x102000)) + 1)) (Int.tmod (rd x16 x18) x102000) (wrap64 ((wrap64 (Int.tdiv (rd x16 x18) x102000)) + 1)) t105 t106 t107 t108)))))) else (none)) else (none)) else (some x6)
def impl_sidesOf.l1 : Nat → List (S44) → Int → List Int → Int → Int → Int → Int → List Int → Int → Int → Int → Int → Int → Int → Int → Int → Bool → Bool → Bool → Bool → Option ((List (S44)))
 | 0, _, _, _, _, _, _, _, _, _, _, _, _, _, _, _, _, _, _, _, _ => none
 | k + 1, x6, x8, x16, x17, x18, x67, x102000, x103000, x105000, x105001, x105002, x105003, x105004, x105005, x105006, x105007, x110000, x110001, x110002, x110003 => if x67 < 4 then (if x67 = 0 then (if x110000 = true then (impl_sidesOf.l1 k x6 x8 x16 x17 x18 1 x102000 x103000 x105000 x105001 x105002 x105003 x105004 x105005 x105006 x105007 x110000 x110001 x110002 x110003) else (if x6.length < 3518437208883 then (impl_sidesOf.l1 k (x6 ++ [(⟨x8, (⟨x105000, x105001⟩ : S40), (⟨x105002, x105003⟩ : S40)⟩ : S44)]) x8 x16 x17 x18 1 x102000 x103000 x105000 x105001 x105002 x105003 x105004 x105005 x105006 x105007 x110000 x110001 x110002 x110003) else (none))) else (if x67 = 1 then (if x110001 = true then (impl_sidesOf.l1 k x6 x8 x16 x17 x18 2 x102000 x103000 x105000 x105001 x105002 x105003 x105004 x105005 x105006 x105007 x110000 x110001 x110002 x110003) else (if x6.length < 3518437208883 then (impl_sidesOf.l1 k (x6 ++ [(⟨x8, (⟨x105002, x105003⟩ : S40), (⟨x105004, x105005⟩ : S40)⟩ : S44)]) x8 x16 x17 x18 2 x102000 x103000 x105000 x105001 x105002 x105003 x105004 x105005 x105006 x105007 x110000 x110001 x110002 x110003) else (none))) else (if x67 = 2 then (if x110002 = true then (impl_sidesOf.l1 k x6 x8 x16 x17 x18 3 x102000 x103000 x105000 x105001 x105002 x105003 x105004 x105005 x105006 x105007 x110000 x110001 x110002 x110003) else (if x6.length < 3518437208883 then (impl_sidesOf.l1 k (x6 ++ [(⟨x8, (⟨x105004, x105005⟩ : S40), (⟨x105006, x105007⟩ : S40)⟩ : S44)]) x8 x16 x17 x18 3 x102000 x103000 x105000 x105001 x105002 x105003 x105004 x105005 x105006 x105007 x110000 x110001 x110002 x110003) else (none))) else (if x67 = 3 then (if x110003 = true then (impl_sidesOf.l1 k x6 x8 x16 x17 x18 4 x102000 x103000 x105000 x105001 x105002 x105003 x105004 x105005 x105006 x105007 x110000 x110001 x110002 x110003) else (if x6.length < 3518437208883 then (impl_sidesOf.l1 k (x6 ++ [(⟨x8, (⟨x105006, x105007⟩ : S40), (⟨x105000, x105001⟩ : S40)⟩ : S44)]) x8 x16 x17 x18 4 x102000 x103000 x105000 x105001 x105002 x105003 x105004 x105005 x105006 x105007 x110000 x110001 x110002 x110003) else (none))) else (none))))) else (impl_sidesOf.l0 k x6 x16 x17 (wrap64 (x18 + 1)) x102000 x103000)
end
def impl_sidesOf.f (k : Nat) (a0 : Int) (l1 : List Int) : Option ((List (S44))) := impl_sidesOf.l0 k ([] : List (S44)) l1 (l1.length : Int) 0 a0 l1
def impl_sidesOf.T6 : Bool × List (List Nat × List Nat) := (true, [([], []), ([], []), ([0, 1], [0, 1]), ([], []), ([], []), ([3, 4], [3, 4]), ([2, 0, 1, 2], [2]), ([5, 6, 0, 1, 2, 3, 4, 5, 6], [5])])
def impl_sidesOf.B6 : List Nat := [0, 0, 3, 0, 0, 24, 7, 127]
theorem impl_sidesOf.tab6 : rtab .any (opsOf Try.f11 6) = impl_sidesOf.T6 := by kernel_rfl
theorem impl_sidesOf.bits6 : waitsOk impl_sidesOf.T6.2 impl_sidesOf.B6 = true := by kernel_rfl
def impl_sidesOf.T13 : Bool × List (List Nat × List Nat) := (true, [([], []), ([], []), ([], []), ([2], [2]), ([3], [3]), ([], []), ([5], [5]), ([6], [6]), ([7], [7]), ([8], [8]), ([1, 4, 9], [1, 4, 9]), ([10], [10]), ([0, 11], [0, 11]), ([12, 12, 0, 1, 2, 3, 4, 5, 6, 7, 8, 9, 10, 11, 12], [0, 12])])
def impl_sidesOf.B13 : List Nat := [0, 0, 0, 4, 12, 0, 32, 96, 224, 480, 1022, 2046, 4095, 8191]
theorem impl_sidesOf.tab13 : rtab .any (opsOf Try.f11 13) = impl_sidesOf.T13 := by kernel_rfl
theorem impl_sidesOf.bits13 : waitsOk impl_sidesOf.T13.2 impl_sidesOf.B13 = true := by kernel_rfl
theorem impl_sidesOf.calls (k : Nat) (a0 : Int) (A1 : Option Addr) (c1 : Nat) (l1 : List Int) (r : List (S44)) (w : World) (hr1 : Kd.C (Kd.int .i64) w A1 l1.length l1) (hc1 : l1.length ≤ c1) (h : impl_sidesOf.f k a0 l1 = some r) :
  Calls Try.prog 11 #[.int .i64 a0, .slice A1 l1.length c1] w fun e w' => ∃ v0_ : Value, e = .returned (v0_) ∧ Kd.R k44 44 w' w.heap.size (fun _ => True) v0_ r ∧ Below w.heap.size w w' := by
 have hu40 := Try.underlying40
 have hu41 := Try.underlying41
 have hu42 := Try.underlying42
 have hu44 := Try.underlying44
 have HR1 := Aside0.mk hr1
 have HC1 := Aside0.mk hc1
 clear hr1 hc1
 have HB := aK (Below.refl w.heap.size w)
 have H : (impl_sidesOf.l0 k ([] : List (S44)) l1 (l1.length : Int) 0 a0 l1) = some r := h
 clear h
 have H' := Aside0.mk H
 clear H
 go_enter Try.func11, Try.ntmps11
 go_wp2_with (first | ((with_reducible refine gate_dst (N := 2) rfl ?_); refine bxe (cs := #[.int .i64 a0]) (t := 3) ?_; intro gb101 hg w3 hbox hb; have BK101 := aK (hbox); have GW101 := aK (gE hg (pS HB.out)); have GE101 := GW101; replace HB := bS HB hb; clear hb hbox hg) | ((with_reducible refine gate_dst (N := 3) rfl ?_); refine bxe (cs := #[.slice A1 l1.length c1]) (t := 22) ?_; intro gb102 hg w4 hbox hb; have BK102 := aK (hbox); have GW102 := aK (gE hg (pS HB.out)); have GE102 := GW102; obtain ⟨NB101_102, NB102_101⟩ := nb hg (pB BK101.out); replace BK101 := bB BK101 hb; replace HB := bS HB hb; clear hb hbox hg; have hnb5 := NB102_101.out; have hnc5 := NB101_102.out; obtain ⟨hcz6_0, hfz6_0⟩ := bc1 BK102.out))
 go_loopg [6, 18] k (fun kq v6 v18 w' => ∃ (x6_1 : List (S44)) (x18_1 : Int), v18 = .int .i64 x18_1 ∧ Aside0 (impl_sidesOf.l0 kq x6_1 l1 (l1.length : Int) x18_1 a0 l1 = some r) ∧ Aside0 (kq ≤ k) ∧ Aside0 (Kd.R k44 44 w' w.heap.size (fun _ => True) v6 x6_1) ∧ Aside0 (w'.heap[gb101]? = some (.cells #[.int .i64 a0] 3 (0, 0))) ∧ Aside0 (w'.heap[gb102]? = some (.cells #[(.slice A1 l1.length c1)] 22 (0, 0))) ∧ Aside0 (Below w.heap.size w w'))
 case atStart => exact ⟨(([] : List (S44))), (0), (by first | rfl | (simp; done) | (simp [*]; done)), H', ⟨Nat.le_refl _⟩, ⟨by first | exact Kd.R_nil _ _ _ _ _ | exact Kd.N_nil _ _ _ _ _ | exact Kd.V_nil _ _ _ _ _ | exact Kd.Q_nil _ _ _ _ _ | exact Kd.S_nil _ _ _ _ _⟩, ⟨by refine bk ?_; exact BK101.out⟩, ⟨by refine bk ?_; exact BK102.out⟩, ⟨pT HB.out⟩⟩
 case round =>
  clear H'
  try clear c1
  try clear p2
  try clear c5
  try clear hcz6_0
  try clear hfz6_0
  obtain ⟨x6_1, x18_1, rfl, HA, HK1, HO_6, BK101, BK102, HB⟩ := hrel
  cases gk with
  | zero => exact absurd HA.out (by simp [impl_sidesOf.l0])
  | succ k1 =>
   have H := HA.out
   clear HA
   simp only [impl_sidesOf.l0] at H
   by_cases c7 : x18_1 < (l1.length : Int)
   ·
    rw [if_pos c7] at H
    have c7b0 : decide (x18_1 < (l1.length : Int)) = true := decide_eq_true c7
    clear c7
    by_cases c8 : 0 ≤ x18_1
    ·
     rw [if_pos c8] at H
     have c8b0 : decide (0 ≤ x18_1) = true := decide_eq_true c8
     clear c8
     by_cases c9 : x18_1 < (l1.length : Int)
     ·
      rw [if_pos c9] at H
      have c9b0 : decide (x18_1 < (l1.length : Int)) = true := decide_eq_true c9
      clear c9
      by_cases c10 : a0 = 0
      ·
       rw [if_pos c10] at H
       exact absurd H (by simp)
      rw [if_neg c10] at H
      have c10b0 : (a0 == 0) = false := beq_eq_false_iff_ne.mpr c10
      have c10b1 : (a0 != 0) = true := bne_iff_ne.mpr c10
      replace H := Option.bind_eq_some_iff.mp H
      obtain ⟨t105, A110, H⟩ := H
      replace H : ((impl_sidesOf_1.f k1 (wrap64 ((Int.tmod (rd l1 x18_1) a0) + 1)) (wrap64 (Int.tdiv (rd l1 x18_1) a0)) a0 l1).bind fun t106 => ((impl_sidesOf_1.f k1 (Int.tmod (rd l1 x18_1) a0) (wrap64 ((wrap64 (Int.tdiv (rd l1 x18_1) a0)) + 1)) a0 l1).bind fun t107 => ((impl_sidesOf_1.f k1 (wrap64 ((Int.tmod (rd l1 x18_1) a0) - 1)) (wrap64 (Int.tdiv (rd l1 x18_1) a0)) a0 l1).bind fun t108 => (impl_sidesOf.l1 k1 x6_1 (rd l1 x18_1) l1 (l1.length : Int) x18_1 0 a0 l1 (Int.tmod (rd l1 x18_1) a0) (wrap64 (Int.tdiv (rd l1 x18_1) a0)) (wrap64 ((Int.tmod (rd l1 x18_1) a0) + 1)) (wrap64 (Int.tdiv (rd l1 x18_1) a0)) (wrap64 ((Int.tmod (rd l1 x18_1) a0) + 1)) (wrap64 ((wrap64 (Int.tdiv (rd l1 x18_1) a0)) + 1)) (Int.tmod (rd l1 x18_1) a0) (wrap64 ((wrap64 (Int.tdiv (rd l1 x18_1) a0)) + 1)) t105 t106 t107 t108)))) = some r := H
      have A11 := Aside0.mk A110
      clear A110
      replace H := Option.bind_eq_some_iff.mp H
      obtain ⟨t106, A120, H⟩ := H
      replace H : ((impl_sidesOf_1.f k1 (Int.tmod (rd l1 x18_1) a0) (wrap64 ((wrap64 (Int.tdiv (rd l1 x18_1) a0)) + 1)) a0 l1).bind fun t107 => ((impl_sidesOf_1.f k1 (wrap64 ((Int.tmod (rd l1 x18_1) a0) - 1)) (wrap64 (Int.tdiv (rd l1 x18_1) a0)) a0 l1).bind fun t108 => (impl_sidesOf.l1 k1 x6_1 (rd l1 x18_1) l1 (l1.length : Int) x18_1 0 a0 l1 (Int.tmod (rd l1 x18_1) a0) (wrap64 (Int.tdiv (rd l1 x18_1) a0)) (wrap64 ((Int.tmod (rd l1 x18_1) a0) + 1)) (wrap64 (Int.tdiv (rd l1 x18_1) a0)) (wrap64 ((Int.tmod (rd l1 x18_1) a0) + 1)) (wrap64 ((wrap64 (Int.tdiv (rd l1 x18_1) a0)) + 1)) (Int.tmod (rd l1 x18_1) a0) (wrap64 ((wrap64 (Int.tdiv (rd l1 x18_1) a0)) + 1)) t105 t106 t107 t108))) = some r := H
      have A12 := Aside0.mk A120
      clear A120
      replace H := Option.bind_eq_some_iff.mp H
      obtain ⟨t107, A130, H⟩ := H
      replace H : ((impl_sidesOf_1.f k1 (wrap64 ((Int.tmod (rd l1 x18_1) a0) - 1)) (wrap64 (Int.tdiv (rd l1 x18_1) a0)) a0 l1).bind fun t108 => (impl_sidesOf.l1 k1 x6_1 (rd l1 x18_1) l1 (l1.length : Int) x18_1 0 a0 l1 (Int.tmod (rd l1 x18_1) a0) (wrap64 (Int.tdiv (rd l1 x18_1) a0)) (wrap64 ((Int.tmod (rd l1 x18_1) a0) + 1)) (wrap64 (Int.tdiv (rd l1 x18_1) a0)) (wrap64 ((Int.tmod (rd l1 x18_1) a0) + 1)) (wrap64 ((wrap64 (Int.tdiv (rd l1 x18_1) a0)) + 1)) (Int.tmod (rd l1 x18_1) a0) (wrap64 ((wrap64 (Int.tdiv (rd l1 x18_1) a0)) + 1)) t105 t106 t107 t108)) = some r := H
      have A13 := Aside0.mk A130
      clear A130
      replace H := Option.bind_eq_some_iff.mp H
      obtain ⟨t108, A140, H⟩ := H
      replace H : (impl_sidesOf.l1 k1 x6_1 (rd l1 x18_1) l1 (l1.length : Int) x18_1 0 a0 l1 (Int.tmod (rd l1 x18_1) a0) (wrap64 (Int.tdiv (rd l1 x18_1) a0)) (wrap64 ((Int.tmod (rd l1 x18_1) a0) + 1)) (wrap64 (Int.tdiv (rd l1 x18_1) a0)) (wrap64 ((Int.tmod (rd l1 x18_1) a0) + 1)) (wrap64 ((wrap64 (Int.tdiv (rd l1 x18_1) a0)) + 1)) (Int.tmod (rd l1 x18_1) a0) (wrap64 ((wrap64 (Int.tdiv (rd l1 x18_1) a0)) + 1)) t105 t106 t107 t108) = some r := H
      have A14 := Aside0.mk A140
      clear A140
      have H' := Aside0.mk H
      clear H
      have p103 : 0 ≤ (x18_1 : Int) := of_decide_eq_true (by first | (with_reducible assumption) | assumption)
      have q103 : x18_1 < (l1.length : Int) := of_decide_eq_true (by first | (with_reducible assumption) | assumption)
      obtain ⟨ad103, e103, hx103_0⟩ := Kd.at_int HR1.out x18_1 p103 q103
      cases e103
      replace hx103_0 := (HB.out.cell (World.block_lt_of_cell? w _ hx103_0)).trans hx103_0
      replace p103 := eq_true p103
      replace q103 := eq_true q103
      try go_wp2
      have n0_ := aK (Kd.R_drew HO_6.out)
      have n1_ := aK (blk_drew BK101.out)
      have n2_ := aK (blk_drew BK102.out)
      have n3_ := aK (below_drew1 HB.out)
      clear HO_6 BK101 BK102 HB
      have HO_6 := n0_
      have BK101 := n1_
      have BK102 := n2_
      have HB := n3_
      clear n0_ n1_ n2_ n3_
      refine start_ (n := 8) (S := fun w' => w'.cell? ⟨gb101, 0, none⟩ = some (.int .i64 a0)) (ds := []) (bz [0, 8]) (by kernel_rfl) rfl rfl ((blk_cell BK101.out 0).trans rfl) (fun hHeld => ?_); refine with_tabW impl_sidesOf.tab6 impl_sidesOf.bits6 (fun HT_ HW_ => ?_)
      generalize wr.drew = w15 at HO_6 BK101 BK102 HB hHeld ⊢
      refine pz 0 22 [1, 7] HT_.out ?_
      refine pz 3 25 [1, 2, 1, 4] HT_.out ?_
      refine take_ (i := 1) (N := some 23) (v := ?_) (a' := ?_) (bz [2, 1, 1, 4]) rfl rfl (take_ofW HT_.out HW_.out (by kernel_rfl)) (fun _ _ _ h => h) (Or.inl ⟨by rfl, ?_⟩) hHeld ?_ ?_
      rotate_left
      ·
       intro w' s0
       go_simp
       with_reducible rfl
      rotate_left
      ·
       simp only [sP]
       rfl
      refine pz 2 24 [4, 4] HT_.out ?_
      refine pz 6 9 [4, 2, 1, 1] HT_.out ?_
      refine take_ (i := 4) (N := some 26) (v := ?_) (a' := ?_) (bz [5, 1, 1, 1]) rfl rfl (take_ofW HT_.out HW_.out (by kernel_rfl)) (fun _ _ _ h => h) (Or.inl ⟨by rfl, ?_⟩) hHeld ?_ ?_
      rotate_left
      ·
       intro w' s0
       go_simp
       with_reducible rfl
      rotate_left
      ·
       simp only [sP]
       rfl
      refine pz 5 27 [7, 1] HT_.out ?_
      refine pz 7 10 [8, 0] HT_.out ?_
      refine done_ (done_of HT_.out (by kernel_rfl)) ?_
      try go_wp2_with (first | ((with_reducible refine gate_dst (N := 11) rfl ?_); refine bxe (cs := #[.int .i64 0, .int .i64 0, .int .i64 0, .int .i64 0, .int .i64 0, .int .i64 0, .int .i64 0, .int .i64 0]) (t := 41) ?_; intro gb104 hg w16 hbox hb; have n0_ := aK (Kd.R_below (pR HO_6.out) hb); have BK104 := aK (hbox); have GW104 := aK (gE hg (pS HB.out)); have GE104 := GW104; obtain ⟨NB101_104, NB104_101⟩ := nb hg (pB BK101.out); obtain ⟨NB102_104, NB104_102⟩ := nb hg (pB BK102.out); replace BK101 := bB BK101 hb; replace BK102 := bB BK102 hb; replace HB := bS HB hb; clear HO_6; have HO_6 := n0_; clear n0_ hb hbox hg; have hnb17 := NB104_101.out; have hnc17 := NB101_104.out; have hnb18 := NB104_102.out; have hnc18 := NB102_104.out; have hcz19_0 : w16.cell? ⟨gb104, 0, none⟩ = some (.int .i64 0) := (blk_cell BK104.out 0).trans rfl; have hcz19_1 : w16.cell? ⟨gb104, 1, none⟩ = some (.int .i64 0) := (blk_cell BK104.out 1).trans rfl; have hcz19_2 : w16.cell? ⟨gb104, 2, none⟩ = some (.int .i64 0) := (blk_cell BK104.out 2).trans rfl; have hcz19_3 : w16.cell? ⟨gb104, 3, none⟩ = some (.int .i64 0) := (blk_cell BK104.out 3).trans rfl; have hcz19_4 : w16.cell? ⟨gb104, 4, none⟩ = some (.int .i64 0) := (blk_cell BK104.out 4).trans rfl; have hcz19_5 : w16.cell? ⟨gb104, 5, none⟩ = some (.int .i64 0) := (blk_cell BK104.out 5).trans rfl; have hcz19_6 : w16.cell? ⟨gb104, 6, none⟩ = some (.int .i64 0) := (blk_cell BK104.out 6).trans rfl; have hcz19_7 : w16.cell? ⟨gb104, 7, none⟩ = some (.int .i64 0) := (blk_cell BK104.out 7).trans rfl; have hfz19_0 := blk_frozen BK104.out 0; have hfz19_1 := blk_frozen BK104.out 1; have hfz19_2 := blk_frozen BK104.out 2; have hfz19_3 := blk_frozen BK104.out 3; have hfz19_4 := blk_frozen BK104.out 4; have hfz19_5 := blk_frozen BK104.out 5; have hfz19_6 := blk_frozen BK104.out 6; have hfz19_7 := blk_frozen BK104.out 7) | ((with_reducible refine gate_dst (N := 49) rfl ?_); refine goesLA (some 49) rfl rfl (lb := #[.pointer (some ⟨gb101, 0, none⟩), .pointer (some ⟨gb102, 0, none⟩)]) (fun args_ w_ => enters_ Try.func18 (by kernel_rfl) rfl args_ w_) #[.int .i64 (Int.tmod (rd l1 x18_1) a0), .int .i64 (wrap64 ((wrap64 (Int.tdiv (rd l1 x18_1) a0)) - 1))] #[.int .i64 (Int.tmod (rd l1 x18_1) a0), .int .i64 (wrap64 ((wrap64 (Int.tdiv (rd l1 x18_1) a0)) - 1)), .pointer (some ⟨gb101, 0, none⟩), .pointer (some ⟨gb102, 0, none⟩)] rfl rfl (by (try simp only [List.map_toArray, List.map_cons, List.map_nil]); first | done | rfl) rfl ?_; (with_reducible refine (impl_sidesOf_1.calls k1 (Int.tmod (rd l1 x18_1) a0) (wrap64 ((wrap64 (Int.tdiv (rd l1 x18_1) a0)) - 1)) gb101 a0 gb102 (some ad103) c1 l1 t105 _ ?side1 ?side2 NB101_102.out ?side3 ?side4 A11.out).mono ?_); (case side1 => exact (by refine bk ?_; refine blk_far ?_ NB101_104.out _; refine bk ?_; refine blk_far ?_ NB101_104.out _; refine bk ?_; refine blk_far ?_ NB101_104.out _; refine bk ?_; refine blk_far ?_ NB101_104.out _; refine bk ?_; refine blk_far ?_ NB101_104.out _; refine bk ?_; refine blk_far ?_ NB101_104.out _; refine bk ?_; refine blk_far ?_ NB101_104.out _; refine bk ?_; refine blk_far ?_ NB101_104.out _; refine bk ?_; exact BK101.out)); (case side2 => exact (by refine bk ?_; refine blk_far ?_ NB102_104.out _; refine bk ?_; refine blk_far ?_ NB102_104.out _; refine bk ?_; refine blk_far ?_ NB102_104.out _; refine bk ?_; refine blk_far ?_ NB102_104.out _; refine bk ?_; refine blk_far ?_ NB102_104.out _; refine bk ?_; refine blk_far ?_ NB102_104.out _; refine bk ?_; refine blk_far ?_ NB102_104.out _; refine bk ?_; refine blk_far ?_ NB102_104.out _; refine bk ?_; exact BK102.out)); (case side3 => exact Kd.C_below HR1.out (pS HB.out)); (case side4 => exact HC1.out); rintro e w' ⟨rfl, ⟨nd, rfl⟩⟩; refine ⟨_, rfl, ?_⟩) | ((with_reducible refine gate_dst (N := 54) rfl ?_); refine goesLA (some 54) rfl rfl (lb := #[.pointer (some ⟨gb101, 0, none⟩), .pointer (some ⟨gb102, 0, none⟩)]) (fun args_ w_ => enters_ Try.func18 (by kernel_rfl) rfl args_ w_) #[.int .i64 (wrap64 ((Int.tmod (rd l1 x18_1) a0) + 1)), .int .i64 (wrap64 (Int.tdiv (rd l1 x18_1) a0))] #[.int .i64 (wrap64 ((Int.tmod (rd l1 x18_1) a0) + 1)), .int .i64 (wrap64 (Int.tdiv (rd l1 x18_1) a0)), .pointer (some ⟨gb101, 0, none⟩), .pointer (some ⟨gb102, 0, none⟩)] rfl rfl (by (try simp only [List.map_toArray, List.map_cons, List.map_nil]); first | done | rfl) rfl ?_; (with_reducible refine (impl_sidesOf_1.calls k1 (wrap64 ((Int.tmod (rd l1 x18_1) a0) + 1)) (wrap64 (Int.tdiv (rd l1 x18_1) a0)) gb101 a0 gb102 (some ad103) c1 l1 t106 _ ?side1 ?side2 NB101_102.out ?side3 ?side4 A12.out).mono ?_); (case side1 => exact (by refine bk ?_; refine blk_far ?_ NB101_104.out _; refine bk ?_; refine blk_far ?_ NB101_104.out _; refine bk ?_; refine blk_far ?_ NB101_104.out _; refine bk ?_; refine blk_far ?_ NB101_104.out _; refine bk ?_; refine blk_far ?_ NB101_104.out _; refine bk ?_; refine blk_far ?_ NB101_104.out _; refine bk ?_; refine blk_far ?_ NB101_104.out _; refine bk ?_; refine blk_far ?_ NB101_104.out _; refine bk ?_; exact BK101.out)); (case side2 => exact (by refine bk ?_; refine blk_far ?_ NB102_104.out _; refine bk ?_; refine blk_far ?_ NB102_104.out _; refine bk ?_; refine blk_far ?_ NB102_104.out _; refine bk ?_; refine blk_far ?_ NB102_104.out _; refine bk ?_; refine blk_far ?_ NB102_104.out _; refine bk ?_; refine blk_far ?_ NB102_104.out _; refine bk ?_; refine blk_far ?_ NB102_104.out _; refine bk ?_; refine blk_far ?_ NB102_104.out _; refine bk ?_; exact BK102.out)); (case side3 => exact Kd.C_below HR1.out (pS HB.out)); (case side4 => exact HC1.out); rintro e w' ⟨rfl, ⟨nd, rfl⟩⟩; refine ⟨_, rfl, ?_⟩) | ((with_reducible refine gate_dst (N := 59) rfl ?_); refine goesLA (some 59) rfl rfl (lb := #[.pointer (some ⟨gb101, 0, none⟩), .pointer (some ⟨gb102, 0, none⟩)]) (fun args_ w_ => enters_ Try.func18 (by kernel_rfl) rfl args_ w_) #[.int .i64 (Int.tmod (rd l1 x18_1) a0), .int .i64 (wrap64 ((wrap64 (Int.tdiv (rd l1 x18_1) a0)) + 1))] #[.int .i64 (Int.tmod (rd l1 x18_1) a0), .int .i64 (wrap64 ((wrap64 (Int.tdiv (rd l1 x18_1) a0)) + 1)), .pointer (some ⟨gb101, 0, none⟩), .pointer (some ⟨gb102, 0, none⟩)] rfl rfl (by (try simp only [List.map_toArray, List.map_cons, List.map_nil]); first | done | rfl) rfl ?_; (with_reducible refine (impl_sidesOf_1.calls k1 (Int.tmod (rd l1 x18_1) a0) (wrap64 ((wrap64 (Int.tdiv (rd l1 x18_1) a0)) + 1)) gb101 a0 gb102 (some ad103) c1 l1 t107 _ ?side1 ?side2 NB101_102.out ?side3 ?side4 A13.out).mono ?_); (case side1 => exact (by refine bk ?_; refine blk_far ?_ NB101_104.out _; refine bk ?_; refine blk_far ?_ NB101_104.out _; refine bk ?_; refine blk_far ?_ NB101_104.out _; refine bk ?_; refine blk_far ?_ NB101_104.out _; refine bk ?_; refine blk_far ?_ NB101_104.out _; refine bk ?_; refine blk_far ?_ NB101_104.out _; refine bk ?_; refine blk_far ?_ NB101_104.out _; refine bk ?_; refine blk_far ?_ NB101_104.out _; refine bk ?_; exact BK101.out)); (case side2 => exact (by refine bk ?_; refine blk_far ?_ NB102_104.out _; refine bk ?_; refine blk_far ?_ NB102_104.out _; refine bk ?_; refine blk_far ?_ NB102_104.out _; refine bk ?_; refine blk_far ?_ NB102_104.out _; refine bk ?_; refine blk_far ?_ NB102_104.out _; refine bk ?_; refine blk_far ?_ NB102_104.out _; refine bk ?_; refine blk_far ?_ NB102_104.out _; refine bk ?_; refine blk_far ?_ NB102_104.out _; refine bk ?_; exact BK102.out)); (case side3 => exact Kd.C_below HR1.out (pS HB.out)); (case side4 => exact HC1.out); rintro e w' ⟨rfl, ⟨nd, rfl⟩⟩; refine ⟨_, rfl, ?_⟩) | ((with_reducible refine gate_dst (N := 64) rfl ?_); refine goesLA (some 64) rfl rfl (lb := #[.pointer (some ⟨gb101, 0, none⟩), .pointer (some ⟨gb102, 0, none⟩)]) (fun args_ w_ => enters_ Try.func18 (by kernel_rfl) rfl args_ w_) #[.int .i64 (wrap64 ((Int.tmod (rd l1 x18_1) a0) - 1)), .int .i64 (wrap64 (Int.tdiv (rd l1 x18_1) a0))] #[.int .i64 (wrap64 ((Int.tmod (rd l1 x18_1) a0) - 1)), .int .i64 (wrap64 (Int.tdiv (rd l1 x18_1) a0)), .pointer (some ⟨gb101, 0, none⟩), .pointer (some ⟨gb102, 0, none⟩)] rfl rfl (by (try simp only [List.map_toArray, List.map_cons, List.map_nil]); first | done | rfl) rfl ?_; (with_reducible refine (impl_sidesOf_1.calls k1 (wrap64 ((Int.tmod (rd l1 x18_1) a0) - 1)) (wrap64 (Int.tdiv (rd l1 x18_1) a0)) gb101 a0 gb102 (some ad103) c1 l1 t108 _ ?side1 ?side2 NB101_102.out ?side3 ?side4 A14.out).mono ?_); (case side1 => exact (by refine bk ?_; refine blk_far ?_ NB101_104.out _; refine bk ?_; refine blk_far ?_ NB101_104.out _; refine bk ?_; refine blk_far ?_ NB101_104.out _; refine bk ?_; refine blk_far ?_ NB101_104.out _; refine bk ?_; refine blk_far ?_ NB101_104.out _; refine bk ?_; refine blk_far ?_ NB101_104.out _; refine bk ?_; refine blk_far ?_ NB101_104.out _; refine bk ?_; refine blk_far ?_ NB101_104.out _; refine bk ?_; exact BK101.out)); (case side2 => exact (by refine bk ?_; refine blk_far ?_ NB102_104.out _; refine bk ?_; refine blk_far ?_ NB102_104.out _; refine bk ?_; refine blk_far ?_ NB102_104.out _; refine bk ?_; refine blk_far ?_ NB102_104.out _; refine bk ?_; refine blk_far ?_ NB102_104.out _; refine bk ?_; refine blk_far ?_ NB102_104.out _; refine bk ?_; refine blk_far ?_ NB102_104.out _; refine bk ?_; refine blk_far ?_ NB102_104.out _; refine bk ?_; exact BK102.out)); (case side3 => exact Kd.C_below HR1.out (pS HB.out)); (case side4 => exact HC1.out); rintro e w' ⟨rfl, ⟨nd, rfl⟩⟩; refine ⟨_, rfl, ?_⟩) | ((with_reducible refine gate_dst (N := 12) rfl ?_); refine bxe (cs := #[.bool false, .bool false, .bool false, .bool false]) (t := 42) ?_; intro gb109 hg w20 hbox hb; have n0_ := aK (Kd.R_below (pR ((Kd.R_mono (Kd.R_far (p := ⟨gb104, 7, none⟩) (Kd.R_far (p := ⟨gb104, 6, none⟩) (Kd.R_far (p := ⟨gb104, 5, none⟩) (Kd.R_far (p := ⟨gb104, 4, none⟩) (Kd.R_far (p := ⟨gb104, 3, none⟩) (Kd.R_far (p := ⟨gb104, 2, none⟩) (Kd.R_far (p := ⟨gb104, 1, none⟩) (Kd.R_far (p := ⟨gb104, 0, none⟩) (Kd.R_types HO_6.out BK104.out (by decide)) (fun _ hk => hk.2) (.int .i64 (Int.tmod (rd l1 x18_1) a0))) (fun _ hk => hk.2) (.int .i64 (wrap64 (Int.tdiv (rd l1 x18_1) a0)))) (fun _ hk => hk.2) (.int .i64 (wrap64 ((Int.tmod (rd l1 x18_1) a0) + 1)))) (fun _ hk => hk.2) (.int .i64 (wrap64 (Int.tdiv (rd l1 x18_1) a0)))) (fun _ hk => hk.2) (.int .i64 (wrap64 ((Int.tmod (rd l1 x18_1) a0) + 1)))) (fun _ hk => hk.2) (.int .i64 (wrap64 ((wrap64 (Int.tdiv (rd l1 x18_1) a0)) + 1)))) (fun _ hk => hk.2) (.int .i64 (Int.tmod (rd l1 x18_1) a0))) (fun _ hk => hk.2) (.int .i64 (wrap64 ((wrap64 (Int.tdiv (rd l1 x18_1) a0)) + 1)))) (fun _ h_ => h_.1)))) hb); have n1_ := aK (blk_below (g := gb101) (o := .cells #[.int .i64 a0] 3 (0, 0)) (by refine bk ?_; refine blk_far ?_ NB101_104.out _; refine bk ?_; refine blk_far ?_ NB101_104.out _; refine bk ?_; refine blk_far ?_ NB101_104.out _; refine bk ?_; refine blk_far ?_ NB101_104.out _; refine bk ?_; refine blk_far ?_ NB101_104.out _; refine bk ?_; refine blk_far ?_ NB101_104.out _; refine bk ?_; refine blk_far ?_ NB101_104.out _; refine bk ?_; refine blk_far ?_ NB101_104.out _; refine bk ?_; exact BK101.out) hb); have n2_ := aK (blk_below (g := gb102) (o := .cells #[.slice (some ad103) l1.length c1] 22 (0, 0)) (by refine bk ?_; refine blk_far ?_ NB102_104.out _; refine bk ?_; refine blk_far ?_ NB102_104.out _; refine bk ?_; refine blk_far ?_ NB102_104.out _; refine bk ?_; refine blk_far ?_ NB102_104.out _; refine bk ?_; refine blk_far ?_ NB102_104.out _; refine bk ?_; refine blk_far ?_ NB102_104.out _; refine bk ?_; refine blk_far ?_ NB102_104.out _; refine bk ?_; refine blk_far ?_ NB102_104.out _; refine bk ?_; exact BK102.out) hb); have n3_ := aK (blk_below (g := gb104) (o := .cells #[.int .i64 (Int.tmod (rd l1 x18_1) a0), .int .i64 (wrap64 (Int.tdiv (rd l1 x18_1) a0)), .int .i64 (wrap64 ((Int.tmod (rd l1 x18_1) a0) + 1)), .int .i64 (wrap64 (Int.tdiv (rd l1 x18_1) a0)), .int .i64 (wrap64 ((Int.tmod (rd l1 x18_1) a0) + 1)), .int .i64 (wrap64 ((wrap64 (Int.tdiv (rd l1 x18_1) a0)) + 1)), .int .i64 (Int.tmod (rd l1 x18_1) a0), .int .i64 (wrap64 ((wrap64 (Int.tdiv (rd l1 x18_1) a0)) + 1))] 41 (0, 0)) (by refine bk ?_; refine blk_put (cs := #[.int .i64 (Int.tmod (rd l1 x18_1) a0), .int .i64 (wrap64 (Int.tdiv (rd l1 x18_1) a0)), .int .i64 (wrap64 ((Int.tmod (rd l1 x18_1) a0) + 1)), .int .i64 (wrap64 (Int.tdiv (rd l1 x18_1) a0)), .int .i64 (wrap64 ((Int.tmod (rd l1 x18_1) a0) + 1)), .int .i64 (wrap64 ((wrap64 (Int.tdiv (rd l1 x18_1) a0)) + 1)), .int .i64 (Int.tmod (rd l1 x18_1) a0), .int .i64 0]) ?_ 7 _ rfl; refine bk ?_; refine blk_put (cs := #[.int .i64 (Int.tmod (rd l1 x18_1) a0), .int .i64 (wrap64 (Int.tdiv (rd l1 x18_1) a0)), .int .i64 (wrap64 ((Int.tmod (rd l1 x18_1) a0) + 1)), .int .i64 (wrap64 (Int.tdiv (rd l1 x18_1) a0)), .int .i64 (wrap64 ((Int.tmod (rd l1 x18_1) a0) + 1)), .int .i64 (wrap64 ((wrap64 (Int.tdiv (rd l1 x18_1) a0)) + 1)), .int .i64 0, .int .i64 0]) ?_ 6 _ rfl; refine bk ?_; refine blk_put (cs := #[.int .i64 (Int.tmod (rd l1 x18_1) a0), .int .i64 (wrap64 (Int.tdiv (rd l1 x18_1) a0)), .int .i64 (wrap64 ((Int.tmod (rd l1 x18_1) a0) + 1)), .int .i64 (wrap64 (Int.tdiv (rd l1 x18_1) a0)), .int .i64 (wrap64 ((Int.tmod (rd l1 x18_1) a0) + 1)), .int .i64 0, .int .i64 0, .int .i64 0]) ?_ 5 _ rfl; refine bk ?_; refine blk_put (cs := #[.int .i64 (Int.tmod (rd l1 x18_1) a0), .int .i64 (wrap64 (Int.tdiv (rd l1 x18_1) a0)), .int .i64 (wrap64 ((Int.tmod (rd l1 x18_1) a0) + 1)), .int .i64 (wrap64 (Int.tdiv (rd l1 x18_1) a0)), .int .i64 0, .int .i64 0, .int .i64 0, .int .i64 0]) ?_ 4 _ rfl; refine bk ?_; refine blk_put (cs := #[.int .i64 (Int.tmod (rd l1 x18_1) a0), .int .i64 (wrap64 (Int.tdiv (rd l1 x18_1) a0)), .int .i64 (wrap64 ((Int.tmod (rd l1 x18_1) a0) + 1)), .int .i64 0, .int .i64 0, .int .i64 0, .int .i64 0, .int .i64 0]) ?_ 3 _ rfl; refine bk ?_; refine blk_put (cs := #[.int .i64 (Int.tmod (rd l1 x18_1) a0), .int .i64 (wrap64 (Int.tdiv (rd l1 x18_1) a0)), .int .i64 0, .int .i64 0, .int .i64 0, .int .i64 0, .int .i64 0, .int .i64 0]) ?_ 2 _ rfl; refine bk ?_; refine blk_put (cs := #[.int .i64 (Int.tmod (rd l1 x18_1) a0), .int .i64 0, .int .i64 0, .int .i64 0, .int .i64 0, .int .i64 0, .int .i64 0, .int .i64 0]) ?_ 1 _ rfl; refine bk ?_; refine blk_put (cs := #[.int .i64 0, .int .i64 0, .int .i64 0, .int .i64 0, .int .i64 0, .int .i64 0, .int .i64 0, .int .i64 0]) ?_ 0 _ rfl; refine bk ?_; exact BK104.out) hb); have BK109 := aK (hbox); have GW109 := aK (gE hg (pS HB.out)); have GE109 := GW109; have NB101_109 := aK (nL hg (a := gb101) (o := .cells #[.int .i64 a0] 3 (0, 0)) (by refine bk ?_; refine blk_far ?_ NB101_104.out _; refine bk ?_; refine blk_far ?_ NB101_104.out _; refine bk ?_; refine blk_far ?_ NB101_104.out _; refine bk ?_; refine blk_far ?_ NB101_104.out _; refine bk ?_; refine blk_far ?_ NB101_104.out _; refine bk ?_; refine blk_far ?_ NB101_104.out _; refine bk ?_; refine blk_far ?_ NB101_104.out _; refine bk ?_; refine blk_far ?_ NB101_104.out _; refine bk ?_; exact BK101.out)); have NB109_101 := aK (nG hg (a := gb101) (o := .cells #[.int .i64 a0] 3 (0, 0)) (by refine bk ?_; refine blk_far ?_ NB101_104.out _; refine bk ?_; refine blk_far ?_ NB101_104.out _; refine bk ?_; refine blk_far ?_ NB101_104.out _; refine bk ?_; refine blk_far ?_ NB101_104.out _; refine bk ?_; refine blk_far ?_ NB101_104.out _; refine bk ?_; refine blk_far ?_ NB101_104.out _; refine bk ?_; refine blk_far ?_ NB101_104.out _; refine bk ?_; refine blk_far ?_ NB101_104.out _; refine bk ?_; exact BK101.out)); have NB102_109 := aK (nL hg (a := gb102) (o := .cells #[.slice (some ad103) l1.length c1] 22 (0, 0)) (by refine bk ?_; refine blk_far ?_ NB102_104.out _; refine bk ?_; refine blk_far ?_ NB102_104.out _; refine bk ?_; refine blk_far ?_ NB102_104.out _; refine bk ?_; refine blk_far ?_ NB102_104.out _; refine bk ?_; refine blk_far ?_ NB102_104.out _; refine bk ?_; refine blk_far ?_ NB102_104.out _; refine bk ?_; refine blk_far ?_ NB102_104.out _; refine bk ?_; refine blk_far ?_ NB102_104.out _; refine bk ?_; exact BK102.out)); have NB109_102 := aK (nG hg (a := gb102) (o := .cells #[.slice (some ad103) l1.length c1] 22 (0, 0)) (by refine bk ?_; refine blk_far ?_ NB102_104.out _; refine bk ?_; refine blk_far ?_ NB102_104.out _; refine bk ?_; refine blk_far ?_ NB102_104.out _; refine bk ?_; refine blk_far ?_ NB102_104.out _; refine bk ?_; refine blk_far ?_ NB102_104.out _; refine bk ?_; refine blk_far ?_ NB102_104.out _; refine bk ?_; refine blk_far ?_ NB102_104.out _; refine bk ?_; refine blk_far ?_ NB102_104.out _; refine bk ?_; exact BK102.out)); have NB104_109 := aK (nL hg (a := gb104) (o := .cells #[.int .i64 (Int.tmod (rd l1 x18_1) a0), .int .i64 (wrap64 (Int.tdiv (rd l1 x18_1) a0)), .int .i64 (wrap64 ((Int.tmod (rd l1 x18_1) a0) + 1)), .int .i64 (wrap64 (Int.tdiv (rd l1 x18_1) a0)), .int .i64 (wrap64 ((Int.tmod (rd l1 x18_1) a0) + 1)), .int .i64 (wrap64 ((wrap64 (Int.tdiv (rd l1 x18_1) a0)) + 1)), .int .i64 (Int.tmod (rd l1 x18_1) a0), .int .i64 (wrap64 ((wrap64 (Int.tdiv (rd l1 x18_1) a0)) + 1))] 41 (0, 0)) (by refine bk ?_; refine blk_put (cs := #[.int .i64 (Int.tmod (rd l1 x18_1) a0), .int .i64 (wrap64 (Int.tdiv (rd l1 x18_1) a0)), .int .i64 (wrap64 ((Int.tmod (rd l1 x18_1) a0) + 1)), .int .i64 (wrap64 (Int.tdiv (rd l1 x18_1) a0)), .int .i64 (wrap64 ((Int.tmod (rd l1 x18_1) a0) + 1)), .int .i64 (wrap64 ((wrap64 (Int.tdiv (rd l1 x18_1) a0)) + 1)), .int .i64 (Int.tmod (rd l1 x18_1) a0), .int .i64 0]) ?_ 7 _ rfl; refine bk ?_; refine blk_put (cs := #[.int .i64 (Int.tmod (rd l1 x18_1) a0), .int .i64 (wrap64 (Int.tdiv (rd l1 x18_1) a0)), .int .i64 (wrap64 ((Int.tmod (rd l1 x18_1) a0) + 1)), .int .i64 (wrap64 (Int.tdiv (rd l1 x18_1) a0)), .int .i64 (wrap64 ((Int.tmod (rd l1 x18_1) a0) + 1)), .int .i64 (wrap64 ((wrap64 (Int.tdiv (rd l1 x18_1) a0)) + 1)), .int .i64 0, .int .i64 0]) ?_ 6 _ rfl; refine bk ?_; refine blk_put (cs := #[.int .i64 (Int.tmod (rd l1 x18_1) a0), .int .i64 (wrap64 (Int.tdiv (rd l1 x18_1) a0)), .int .i64 (wrap64 ((Int.tmod (rd l1 x18_1) a0) + 1)), .int .i64 (wrap64 (Int.tdiv (rd l1 x18_1) a0)), .int .i64 (wrap64 ((Int.tmod (rd l1 x18_1) a0) + 1)), .int .i64 0, .int .i64 0, .int .i64 0]) ?_ 5 _ rfl; refine bk ?_; refine blk_put (cs := #[.int .i64 (Int.tmod (rd l1 x18_1) a0), .int .i64 (wrap64 (Int.tdiv (rd l1 x18_1) a0)), .int .i64 (wrap64 ((Int.tmod (rd l1 x18_1) a0) + 1)), .int .i64 (wrap64 (Int.tdiv (rd l1 x18_1) a0)), .int .i64 0, .int .i64 0, .int .i64 0, .int .i64 0]) ?_ 4 _ rfl; refine bk ?_; refine blk_put (cs := #[.int .i64 (Int.tmod (rd l1 x18_1) a0), .int .i64 (wrap64 (Int.tdiv (rd l1 x18_1) a0)), .int .i64 (wrap64 ((Int.tmod (rd l1 x18_1) a0) + 1)), .int .i64 0, .int .i64 0, .int .i64 0, .int .i64 0, .int .i64 0]) ?_ 3 _ rfl; refine bk ?_; refine blk_put (cs := #[.int .i64 (Int.tmod (rd l1 x18_1) a0), .int .i64 (wrap64 (Int.tdiv (rd l1 x18_1) a0)), .int .i64 0, .int .i64 0, .int .i64 0, .int .i64 0, .int .i64 0, .int .i64 0]) ?_ 2 _ rfl; refine bk ?_; refine blk_put (cs := #[.int .i64 (Int.tmod (rd l1 x18_1) a0), .int .i64 0, .int .i64 0, .int .i64 0, .int .i64 0, .int .i64 0, .int .i64 0, .int .i64 0]) ?_ 1 _ rfl; refine bk ?_; refine blk_put (cs := #[.int .i64 0, .int .i64 0, .int .i64 0, .int .i64 0, .int .i64 0, .int .i64 0, .int .i64 0, .int .i64 0]) ?_ 0 _ rfl; refine bk ?_; exact BK104.out)); have NB109_104 := aK (nG hg (a := gb104) (o := .cells #[.int .i64 (Int.tmod (rd l1 x18_1) a0), .int .i64 (wrap64 (Int.tdiv (rd l1 x18_1) a0)), .int .i64 (wrap64 ((Int.tmod (rd l1 x18_1) a0) + 1)), .int .i64 (wrap64 (Int.tdiv (rd l1 x18_1) a0)), .int .i64 (wrap64 ((Int.tmod (rd l1 x18_1) a0) + 1)), .int .i64 (wrap64 ((wrap64 (Int.tdiv (rd l1 x18_1) a0)) + 1)), .int .i64 (Int.tmod (rd l1 x18_1) a0), .int .i64 (wrap64 ((wrap64 (Int.tdiv (rd l1 x18_1) a0)) + 1))] 41 (0, 0)) (by refine bk ?_; refine blk_put (cs := #[.int .i64 (Int.tmod (rd l1 x18_1) a0), .int .i64 (wrap64 (Int.tdiv (rd l1 x18_1) a0)), .int .i64 (wrap64 ((Int.tmod (rd l1 x18_1) a0) + 1)), .int .i64 (wrap64 (Int.tdiv (rd l1 x18_1) a0)), .int .i64 (wrap64 ((Int.tmod (rd l1 x18_1) a0) + 1)), .int .i64 (wrap64 ((wrap64 (Int.tdiv (rd l1 x18_1) a0)) + 1)), .int .i64 (Int.tmod (rd l1 x18_1) a0), .int .i64 0]) ?_ 7 _ rfl; refine bk ?_; refine blk_put (cs := #[.int .i64 (Int.tmod (rd l1 x18_1) a0), .int .i64 (wrap64 (Int.tdiv (rd l1 x18_1) a0)), .int .i64 (wrap64 ((Int.tmod (rd l1 x18_1) a0) + 1)), .int .i64 (wrap64 (Int.tdiv (rd l1 x18_1) a0)), .int .i64 (wrap64 ((Int.tmod (rd l1 x18_1) a0) + 1)), .int .i64 (wrap64 ((wrap64 (Int.tdiv (rd l1 x18_1) a0)) + 1)), .int .i64 0, .int .i64 0]) ?_ 6 _ rfl; refine bk ?_; refine blk_put (cs := #[.int .i64 (Int.tmod (rd l1 x18_1) a0), .int .i64 (wrap64 (Int.tdiv (rd l1 x18_1) a0)), .int .i64 (wrap64 ((Int.tmod (rd l1 x18_1) a0) + 1)), .int .i64 (wrap64 (Int.tdiv (rd l1 x18_1) a0)), .int .i64 (wrap64 ((Int.tmod (rd l1 x18_1) a0) + 1)), .int .i64 0, .int .i64 0, .int .i64 0]) ?_ 5 _ rfl; refine bk ?_; refine blk_put (cs := #[.int .i64 (Int.tmod (rd l1 x18_1) a0), .int .i64 (wrap64 (Int.tdiv (rd l1 x18_1) a0)), .int .i64 (wrap64 ((Int.tmod (rd l1 x18_1) a0) + 1)), .int .i64 (wrap64 (Int.tdiv (rd l1 x18_1) a0)), .int .i64 0, .int .i64 0, .int .i64 0, .int .i64 0]) ?_ 4 _ rfl; refine bk ?_; refine blk_put (cs := #[.int .i64 (Int.tmod (rd l1 x18_1) a0), .int .i64 (wrap64 (Int.tdiv (rd l1 x18_1) a0)), .int .i64 (wrap64 ((Int.tmod (rd l1 x18_1) a0) + 1)), .int .i64 0, .int .i64 0, .int .i64 0, .int .i64 0, .int .i64 0]) ?_ 3 _ rfl; refine bk ?_; refine blk_put (cs := #[.int .i64 (Int.tmod (rd l1 x18_1) a0), .int .i64 (wrap64 (Int.tdiv (rd l1 x18_1) a0)), .int .i64 0, .int .i64 0, .int .i64 0, .int .i64 0, .int .i64 0, .int .i64 0]) ?_ 2 _ rfl; refine bk ?_; refine blk_put (cs := #[.int .i64 (Int.tmod (rd l1 x18_1) a0), .int .i64 0, .int .i64 0, .int .i64 0, .int .i64 0, .int .i64 0, .int .i64 0, .int .i64 0]) ?_ 1 _ rfl; refine bk ?_; refine blk_put (cs := #[.int .i64 0, .int .i64 0, .int .i64 0, .int .i64 0, .int .i64 0, .int .i64 0, .int .i64 0, .int .i64 0]) ?_ 0 _ rfl; refine bk ?_; exact BK104.out)); replace HB := bS HB hb; clear HO_6 BK101 BK102 BK104; have HO_6 := n0_; have BK101 := n1_; have BK102 := n2_; have BK104 := n3_; clear n0_ n1_ n2_ n3_ hb hbox hg; have hnb21 := NB109_101.out; have hnc21 := NB101_109.out; have hnb22 := NB109_102.out; have hnc22 := NB102_109.out; have hnb23 := NB109_104.out; have hnc23 := NB104_109.out; obtain ⟨hcz24_0, hcz24_1, hcz24_2, hcz24_3, hfz24_0, hfz24_1, hfz24_2, hfz24_3⟩ := bc4 BK109.out))
      go_loopg [6, 67] k1 (fun kq v6 v67 w' => ∃ (x6_2 : List (S44)) (x67_2 : Int), v67 = .int .i64 x67_2 ∧ Aside0 (impl_sidesOf.l1 kq x6_2 (rd l1 x18_1) l1 (l1.length : Int) x18_1 x67_2 a0 l1 (Int.tmod (rd l1 x18_1) a0) (wrap64 (Int.tdiv (rd l1 x18_1) a0)) (wrap64 ((Int.tmod (rd l1 x18_1) a0) + 1)) (wrap64 (Int.tdiv (rd l1 x18_1) a0)) (wrap64 ((Int.tmod (rd l1 x18_1) a0) + 1)) (wrap64 ((wrap64 (Int.tdiv (rd l1 x18_1) a0)) + 1)) (Int.tmod (rd l1 x18_1) a0) (wrap64 ((wrap64 (Int.tdiv (rd l1 x18_1) a0)) + 1)) t105 t106 t107 t108 = some r) ∧ Aside0 (kq ≤ k1) ∧ Aside0 (Kd.R k44 44 w' w.heap.size (fun _ => True) v6 x6_2) ∧ Aside0 (w'.heap[gb101]? = some (.cells #[.int .i64 a0] 3 (0, 0))) ∧ Aside0 (w'.heap[gb102]? = some (.cells #[(.slice (some ad103) l1.length c1)] 22 (0, 0))) ∧ Aside0 (w'.heap[gb104]? = some (.cells #[.int .i64 (Int.tmod (rd l1 x18_1) a0), .int .i64 (wrap64 (Int.tdiv (rd l1 x18_1) a0)), .int .i64 (wrap64 ((Int.tmod (rd l1 x18_1) a0) + 1)), .int .i64 (wrap64 (Int.tdiv (rd l1 x18_1) a0)), .int .i64 (wrap64 ((Int.tmod (rd l1 x18_1) a0) + 1)), .int .i64 (wrap64 ((wrap64 (Int.tdiv (rd l1 x18_1) a0)) + 1)), .int .i64 (Int.tmod (rd l1 x18_1) a0), .int .i64 (wrap64 ((wrap64 (Int.tdiv (rd l1 x18_1) a0)) + 1))] 41 (0, 0))) ∧ Aside0 (w'.heap[gb109]? = some (.cells #[.bool t105, .bool t106, .bool t107, .bool t108] 42 (0, 0))) ∧ Aside0 (Below w.heap.size w w'))
      case atStart => exact ⟨(x6_1), (0), (by first | rfl | (simp; done) | (simp [*]; done)), H', ⟨Nat.le_refl _⟩, ⟨by (with_reducible repeat (first | apply Kd.R_alloc | apply Kd.R_drewN | apply Kd.R_drew)); exact Kd.R_mono (Kd.R_far (p := ⟨gb109, 3, none⟩) (Kd.R_far (p := ⟨gb109, 2, none⟩) (Kd.R_far (p := ⟨gb109, 1, none⟩) (Kd.R_far (p := ⟨gb109, 0, none⟩) (Kd.R_types HO_6.out BK109.out (by decide)) (fun _ hk => hk.2) (.bool t105)) (fun _ hk => hk.2) (.bool t106)) (fun _ hk => hk.2) (.bool t107)) (fun _ hk => hk.2) (.bool t108)) (fun _ hk => trivial)⟩, ⟨by refine bk ?_; refine blk_far ?_ NB101_109.out _; refine bk ?_; refine blk_far ?_ NB101_109.out _; refine bk ?_; refine blk_far ?_ NB101_109.out _; refine bk ?_; refine blk_far ?_ NB101_109.out _; refine bk ?_; exact BK101.out⟩, ⟨by refine bk ?_; refine blk_far ?_ NB102_109.out _; refine bk ?_; refine blk_far ?_ NB102_109.out _; refine bk ?_; refine blk_far ?_ NB102_109.out _; refine bk ?_; refine blk_far ?_ NB102_109.out _; refine bk ?_; exact BK102.out⟩, ⟨by refine bk ?_; refine blk_far ?_ NB104_109.out _; refine bk ?_; refine blk_far ?_ NB104_109.out _; refine bk ?_; refine blk_far ?_ NB104_109.out _; refine bk ?_; refine blk_far ?_ NB104_109.out _; refine bk ?_; exact BK104.out⟩, ⟨by refine bk ?_; refine blk_put (cs := #[.bool t105, .bool t106, .bool t107, .bool false]) ?_ 3 _ rfl; refine bk ?_; refine blk_put (cs := #[.bool t105, .bool t106, .bool false, .bool false]) ?_ 2 _ rfl; refine bk ?_; refine blk_put (cs := #[.bool t105, .bool false, .bool false, .bool false]) ?_ 1 _ rfl; refine bk ?_; refine blk_put (cs := #[.bool false, .bool false, .bool false, .bool false]) ?_ 0 _ rfl; refine bk ?_; exact BK109.out⟩, ⟨pT HB.out⟩⟩
      case round =>
       clear H'
       try clear c1
       try clear p1
       try clear q1
       try clear hx1
       try clear c2
       try clear p2
       try clear c5
       try clear p6
       try clear c7
       try clear c7b0
       try clear c8
       try clear c8b0
       try clear c9
       try clear c9b0
       try clear c10
       try clear c10b0
       try clear c10b1
       try clear p10
       try clear q10
       try clear hx10
       try clear c11
       try clear c17
       try clear c18
       try clear c21
       try clear c22
       try clear c23
       try clear hcz19_0
       try clear hcz19_1
       try clear hcz19_2
       try clear hcz19_3
       try clear hcz19_4
       try clear hcz19_5
       try clear hcz19_6
       try clear hcz19_7
       try clear hcz24_0
       try clear hcz24_1
       try clear hcz24_2
       try clear hcz24_3
       try clear hcz6_0
       try clear hfz19_0
       try clear hfz19_1
       try clear hfz19_2
       try clear hfz19_3
       try clear hfz19_4
       try clear hfz19_5
       try clear hfz19_6
       try clear hfz19_7
       try clear hfz24_0
       try clear hfz24_1
       try clear hfz24_2
       try clear hfz24_3
       try clear hfz6_0
       try clear hx103_0
       try clear p103
       try clear p2
       try clear q103
       obtain ⟨x6_2, x67_2, rfl, HA, HK2, HO_6, BK101, BK102, BK104, BK109, HB⟩ := hrel
       cases gk with
       | zero => exact absurd HA.out (by simp [impl_sidesOf.l1])
       | succ k2 =>
        have H := HA.out
        clear HA
        simp only [impl_sidesOf.l1] at H
        by_cases c25 : x67_2 < 4
        ·
         rw [if_pos c25] at H
         have c25b0 : decide (x67_2 < 4) = true := decide_eq_true c25
         clear c25
         by_cases c26 : x67_2 = 0
         ·
          subst c26
          have H1 : (if t105 = true then (impl_sidesOf.l1 k2 x6_2 (rd l1 x18_1) l1 (l1.length : Int) x18_1 1 a0 l1 (Int.tmod (rd l1 x18_1) a0) (wrap64 (Int.tdiv (rd l1 x18_1) a0)) (wrap64 ((Int.tmod (rd l1 x18_1) a0) + 1)) (wrap64 (Int.tdiv (rd l1 x18_1) a0)) (wrap64 ((Int.tmod (rd l1 x18_1) a0) + 1)) (wrap64 ((wrap64 (Int.tdiv (rd l1 x18_1) a0)) + 1)) (Int.tmod (rd l1 x18_1) a0) (wrap64 ((wrap64 (Int.tdiv (rd l1 x18_1) a0)) + 1)) t105 t106 t107 t108) else (if x6_2.length < 3518437208883 then (impl_sidesOf.l1 k2 (x6_2 ++ [(⟨(rd l1 x18_1), (⟨(Int.tmod (rd l1 x18_1) a0), (wrap64 (Int.tdiv (rd l1 x18_1) a0))⟩ : S40), (⟨(wrap64 ((Int.tmod (rd l1 x18_1) a0) + 1)), (wrap64 (Int.tdiv (rd l1 x18_1) a0))⟩ : S40)⟩ : S44)]) (rd l1 x18_1) l1 (l1.length : Int) x18_1 1 a0 l1 (Int.tmod (rd l1 x18_1) a0) (wrap64 (Int.tdiv (rd l1 x18_1) a0)) (wrap64 ((Int.tmod (rd l1 x18_1) a0) + 1)) (wrap64 (Int.tdiv (rd l1 x18_1) a0)) (wrap64 ((Int.tmod (rd l1 x18_1) a0) + 1)) (wrap64 ((wrap64 (Int.tdiv (rd l1 x18_1) a0)) + 1)) (Int.tmod (rd l1 x18_1) a0) (wrap64 ((wrap64 (Int.tdiv (rd l1 x18_1) a0)) + 1)) t105 t106 t107 t108) else (none))) = some r := by rw [if_pos rfl] at H; exact H
          clear H
          have H := H1
          clear H1
          by_cases c27 : t105 = true
          ·
           subst c27
           have H1 : (impl_sidesOf.l1 k2 x6_2 (rd l1 x18_1) l1 (l1.length : Int) x18_1 1 a0 l1 (Int.tmod (rd l1 x18_1) a0) (wrap64 (Int.tdiv (rd l1 x18_1) a0)) (wrap64 ((Int.tmod (rd l1 x18_1) a0) + 1)) (wrap64 (Int.tdiv (rd l1 x18_1) a0)) (wrap64 ((Int.tmod (rd l1 x18_1) a0) + 1)) (wrap64 ((wrap64 (Int.tdiv (rd l1 x18_1) a0)) + 1)) (Int.tmod (rd l1 x18_1) a0) (wrap64 ((wrap64 (Int.tdiv (rd l1 x18_1) a0)) + 1)) true t106 t107 t108) = some r := by rw [if_pos rfl] at H; exact H
           clear H
           have H := H1
           clear H1
           have H' := Aside0.mk H
           clear H
           go_wp2
           go_roundg k2
           case measure => have := HK1.out; have := HK2.out; omega
           case rel => exact ⟨(x6_2), (1), (by first | rfl | (simp; done) | (simp [*]; done)), H', ⟨by have := HK1.out; have := HK2.out; omega⟩, ⟨pR HO_6.out⟩, ⟨by refine bk ?_; exact BK101.out⟩, ⟨by refine bk ?_; exact BK102.out⟩, ⟨by refine bk ?_; exact BK104.out⟩, ⟨by refine bk ?_; exact BK109.out⟩, ⟨pT HB.out⟩⟩
          replace c27 := Bool.eq_false_iff.mpr c27
          subst c27
          have H1 : (if x6_2.length < 3518437208883 then (impl_sidesOf.l1 k2 (x6_2 ++ [(⟨(rd l1 x18_1), (⟨(Int.tmod (rd l1 x18_1) a0), (wrap64 (Int.tdiv (rd l1 x18_1) a0))⟩ : S40), (⟨(wrap64 ((Int.tmod (rd l1 x18_1) a0) + 1)), (wrap64 (Int.tdiv (rd l1 x18_1) a0))⟩ : S40)⟩ : S44)]) (rd l1 x18_1) l1 (l1.length : Int) x18_1 1 a0 l1 (Int.tmod (rd l1 x18_1) a0) (wrap64 (Int.tdiv (rd l1 x18_1) a0)) (wrap64 ((Int.tmod (rd l1 x18_1) a0) + 1)) (wrap64 (Int.tdiv (rd l1 x18_1) a0)) (wrap64 ((Int.tmod (rd l1 x18_1) a0) + 1)) (wrap64 ((wrap64 (Int.tdiv (rd l1 x18_1) a0)) + 1)) (Int.tmod (rd l1 x18_1) a0) (wrap64 ((wrap64 (Int.tdiv (rd l1 x18_1) a0)) + 1)) false t106 t107 t108) else (none)) = some r := by rw [if_neg (show ¬ (false = true) by decide)] at H; exact H
          clear H
          have H := H1
          clear H1
          by_cases c28 : x6_2.length < 3518437208883
          ·
           rw [if_pos c28] at H
           have LMc28 := Aside0.mk c28
           clear c28
           obtain ⟨y110, hy110⟩ : ∃ y_ : List (S44), y_ = (x6_2 ++ [(⟨(rd l1 x18_1), (⟨(Int.tmod (rd l1 x18_1) a0), (wrap64 (Int.tdiv (rd l1 x18_1) a0))⟩ : S40), (⟨(wrap64 ((Int.tmod (rd l1 x18_1) a0) + 1)), (wrap64 (Int.tdiv (rd l1 x18_1) a0))⟩ : S40)⟩ : S44)]) := ⟨_, rfl⟩
           replace H : (impl_sidesOf.l1 k2 y110 (rd l1 x18_1) l1 (l1.length : Int) x18_1 1 a0 l1 (Int.tmod (rd l1 x18_1) a0) (wrap64 (Int.tdiv (rd l1 x18_1) a0)) (wrap64 ((Int.tmod (rd l1 x18_1) a0) + 1)) (wrap64 (Int.tdiv (rd l1 x18_1) a0)) (wrap64 ((Int.tmod (rd l1 x18_1) a0) + 1)) (wrap64 ((wrap64 (Int.tdiv (rd l1 x18_1) a0)) + 1)) (Int.tmod (rd l1 x18_1) a0) (wrap64 ((wrap64 (Int.tdiv (rd l1 x18_1) a0)) + 1)) false t106 t107 t108) = some r := by first | (rw [hy110]; with_reducible exact H) | (have H2_ := (Option.bind_some _ _).symm.trans H; rw [hy110]; with_reducible exact H2_) | (have H2_ := (Option.bind_some _ _).symm.trans H; with_reducible exact H2_) | with_reducible exact H | (rw [hy110]; exact H) | exact H
           have Ny110 := Aside0.mk hy110
           clear hy110
           have H' := Aside0.mk H
           clear H
           try go_wp2
           have n0_ := aK (Kd.R_drew HO_6.out)
           have n1_ := aK (blk_drew BK101.out)
           have n2_ := aK (blk_drew BK102.out)
           have n3_ := aK (blk_drew BK104.out)
           have n4_ := aK (blk_drew BK109.out)
           have n5_ := aK (below_drew1 HB.out)
           clear HO_6 BK101 BK102 BK104 BK109 HB
           have HO_6 := n0_
           have BK101 := n1_
           have BK102 := n2_
           have BK104 := n3_
           have BK109 := n4_
           have HB := n5_
           clear n0_ n1_ n2_ n3_ n4_ n5_
           refine start_ (n := 14) (S := fun w' => w'.cell? ⟨gb104, 0, none⟩ = some (.int .i64 (Int.tmod (rd l1 x18_1) a0)) ∧ w'.cell? ⟨gb104, 1, none⟩ = some (.int .i64 (wrap64 (Int.tdiv (rd l1 x18_1) a0))) ∧ w'.cell? ⟨gb104, 2, none⟩ = some (.int .i64 (wrap64 ((Int.tmod (rd l1 x18_1) a0) + 1))) ∧ w'.cell? ⟨gb104, 3, none⟩ = some (.int .i64 (wrap64 (Int.tdiv (rd l1 x18_1) a0))) ∧ w'.cell? ⟨gb104, 4, none⟩ = some (.int .i64 (wrap64 ((Int.tmod (rd l1 x18_1) a0) + 1))) ∧ w'.cell? ⟨gb104, 5, none⟩ = some (.int .i64 (wrap64 ((wrap64 (Int.tdiv (rd l1 x18_1) a0)) + 1))) ∧ w'.cell? ⟨gb104, 6, none⟩ = some (.int .i64 (Int.tmod (rd l1 x18_1) a0)) ∧ w'.cell? ⟨gb104, 7, none⟩ = some (.int .i64 (wrap64 ((wrap64 (Int.tdiv (rd l1 x18_1) a0)) + 1)))) (ds := []) (bz [0, 14]) (by kernel_rfl) rfl rfl ⟨(blk_cell BK104.out 0).trans rfl, (blk_cell BK104.out 1).trans rfl, (blk_cell BK104.out 2).trans rfl, (blk_cell BK104.out 3).trans rfl, (blk_cell BK104.out 4).trans rfl, (blk_cell BK104.out 5).trans rfl, (blk_cell BK104.out 6).trans rfl, (blk_cell BK104.out 7).trans rfl⟩ (fun hHeld => ?_); refine with_tabW impl_sidesOf.tab13 impl_sidesOf.bits13 (fun HT_ HW_ => ?_)
           generalize wr.drew = w29 at HO_6 BK101 BK102 BK104 BK109 HB hHeld ⊢
           refine pz 0 73 [1, 13] HT_.out ?_
           refine pz 1 74 [2, 12] HT_.out ?_
           refine pz 2 75 [3, 11] HT_.out ?_
           refine pz 3 76 [4, 10] HT_.out ?_
           refine pz 5 78 [4, 1, 1, 8] HT_.out ?_
           refine pz 6 79 [4, 1, 2, 7] HT_.out ?_
           refine pz 7 80 [4, 1, 3, 6] HT_.out ?_
           refine pz 8 81 [4, 1, 4, 5] HT_.out ?_
           refine tk (i := 4) (N := some 77) (bz [9, 5]) rfl rfl HT_.out HW_.out (Or.inl ⟨by rfl, by rintro w' ⟨s0, s1, s2, s3, s4, s5, s6, s7⟩; go_simp; with_reducible rfl⟩) hHeld ?_
           refine tk (i := 9) (N := some 82) (bz [10, 4]) rfl rfl HT_.out HW_.out (Or.inl ⟨by rfl, by rintro w' ⟨s0, s1, s2, s3, s4, s5, s6, s7⟩; go_simp; with_reducible rfl⟩) hHeld ?_
           refine pz 10 83 [11, 3] HT_.out ?_
           refine one_ (i := 11) (N := some 84) (bz [12, 2]) rfl rfl (one_of HT_.out (by kernel_rfl)) (by decide) (fun K hK => ?_)
           refine value_ (w1 := ?_) (v := ?_) (by rfl) rfl ?_ ?_
           rotate_left 2
           ·
            go_simp
            constructor
            ·
             rfl
            rfl
           refine hK.out _ _ ⟨(blk_cell (blk_alloc BK104.out _) 0).trans rfl, (blk_cell (blk_alloc BK104.out _) 1).trans rfl, (blk_cell (blk_alloc BK104.out _) 2).trans rfl, (blk_cell (blk_alloc BK104.out _) 3).trans rfl, (blk_cell (blk_alloc BK104.out _) 4).trans rfl, (blk_cell (blk_alloc BK104.out _) 5).trans rfl, (blk_cell (blk_alloc BK104.out _) 6).trans rfl, (blk_cell (blk_alloc BK104.out _) 7).trans rfl⟩ (fun hHeld => ?_)
           clear hK K
           refine norm_ (a' := ?_) ?_ ?_
           rotate_left
           ·
            show Act.put _ (some 84) _ = _
            simp only [sP]
            rfl
           refine one_ (i := 12) (N := some 85) (bz [13, 1]) rfl rfl (one_of HT_.out (by kernel_rfl)) (by decide) (fun K hK => ?_)
           refine Kd.R_append_step k44 (w0 := w) w.heap.size (by rfl) (.tmp 73) (.tmp 84) 30 44 (.agg #[(.int .i64 0), (.int .i64 0), (.int .i64 0), (.int .i64 0), (.int .i64 0)]) 40 rfl Try.underlying30 info44 rfl (by decide) (by omega) u6 x6_2 (⟨(rd l1 x18_1), (⟨(Int.tmod (rd l1 x18_1) a0), (wrap64 (Int.tdiv (rd l1 x18_1) a0))⟩ : S40), (⟨(wrap64 ((Int.tmod (rd l1 x18_1) a0) + 1)), (wrap64 (Int.tdiv (rd l1 x18_1) a0))⟩ : S40)⟩ : S44) [.int .i64 (rd l1 x18_1), .int .i64 (Int.tmod (rd l1 x18_1) a0), .int .i64 (wrap64 (Int.tdiv (rd l1 x18_1) a0)), .int .i64 (wrap64 ((Int.tmod (rd l1 x18_1) a0) + 1)), .int .i64 (wrap64 (Int.tdiv (rd l1 x18_1) a0))] (fun _ => True) (fun _ => False) rfl rfl ?aP (fun _ hk => hk.elim) ?aF ?aO ?aB ?aS ?aL ?_
           (case aP => exact k44_mkM _ _ _ (⟨(rd l1 x18_1), (⟨(Int.tmod (rd l1 x18_1) a0), (wrap64 (Int.tdiv (rd l1 x18_1) a0))⟩ : S40), (⟨(wrap64 ((Int.tmod (rd l1 x18_1) a0) + 1)), (wrap64 (Int.tdiv (rd l1 x18_1) a0))⟩ : S40)⟩ : S44))
           (case aB => exact (pS HB.out))
           (case aF => exact (fun _ _ => trivial))
           (case aO => exact (pR HO_6.out))
           (case aS => exact (below_size (pS HB.out)))
           (case aL => have := LMc28.out; omega)
           intro v111 w30 ho hb hg hat
           rw [← Ny110.out] at ho
           have n0_ := aK (blk_grown (pB BK101.out) hg (Kd.R_ne HO_6.out BK101.out (by decide)))
           have n1_ := aK (blk_grown (pB BK102.out) hg (Kd.R_ne HO_6.out BK102.out (by decide)))
           have n2_ := aK (blk_grown (pB BK104.out) hg (Kd.R_ne HO_6.out BK104.out (by decide)))
           have n3_ := aK (blk_grown (pB BK109.out) hg (Kd.R_ne HO_6.out BK109.out (by decide)))
           have n4_ := aK (hb)
           have HO112 := aK (ho)
           clear BK101 BK102 BK104 BK109 HB HO_6
           have BK101 := n0_
           have BK102 := n1_
           have BK104 := n2_
           have BK109 := n3_
           have HB := n4_
           clear n0_ n1_ n2_ n3_ n4_ ho hb hg hat
           refine hK.out _ _ ⟨(blk_cell BK104.out 0).trans rfl, (blk_cell BK104.out 1).trans rfl, (blk_cell BK104.out 2).trans rfl, (blk_cell BK104.out 3).trans rfl, (blk_cell BK104.out 4).trans rfl, (blk_cell BK104.out 5).trans rfl, (blk_cell BK104.out 6).trans rfl, (blk_cell BK104.out 7).trans rfl⟩ (fun hHeld => ?_)
           clear hK K
           refine norm_ (a' := ?_) ?_ ?_
           rotate_left
           ·
            show Act.put _ (some 85) _ = _
            simp only [sP]
            rfl
           refine pz 13 6 [14, 0] HT_.out ?_
           refine done_ (done_of HT_.out (by kernel_rfl)) ?_
           try go_wp2
           go_roundg k2
           case measure => have := HK1.out; have := HK2.out; omega
           case rel => exact ⟨(y110), (1), (by first | rfl | (simp; done) | (simp [*]; done)), H', ⟨by have := HK1.out; have := HK2.out; omega⟩, ⟨pR HO112.out⟩, ⟨by refine bk ?_; exact BK101.out⟩, ⟨by refine bk ?_; exact BK102.out⟩, ⟨by refine bk ?_; exact BK104.out⟩, ⟨by refine bk ?_; exact BK109.out⟩, ⟨pT HB.out⟩⟩
          rw [if_neg c28] at H
          exact absurd H (by simp)
         rw [if_neg c26] at H
         clear c26
         by_cases c31 : x67_2 = 1
         ·
          subst c31
          have H1 : (if t106 = true then (impl_sidesOf.l1 k2 x6_2 (rd l1 x18_1) l1 (l1.length : Int) x18_1 2 a0 l1 (Int.tmod (rd l1 x18_1) a0) (wrap64 (Int.tdiv (rd l1 x18_1) a0)) (wrap64 ((Int.tmod (rd l1 x18_1) a0) + 1)) (wrap64 (Int.tdiv (rd l1 x18_1) a0)) (wrap64 ((Int.tmod (rd l1 x18_1) a0) + 1)) (wrap64 ((wrap64 (Int.tdiv (rd l1 x18_1) a0)) + 1)) (Int.tmod (rd l1 x18_1) a0) (wrap64 ((wrap64 (Int.tdiv (rd l1 x18_1) a0)) + 1)) t105 t106 t107 t108) else (if x6_2.length < 3518437208883 then (impl_sidesOf.l1 k2 (x6_2 ++ [(⟨(rd l1 x18_1), (⟨(wrap64 ((Int.tmod (rd l1 x18_1) a0) + 1)), (wrap64 (Int.tdiv (rd l1 x18_1) a0))⟩ : S40), (⟨(wrap64 ((Int.tmod (rd l1 x18_1) a0) + 1)), (wrap64 ((wrap64 (Int.tdiv (rd l1 x18_1) a0)) + 1))⟩ : S40)⟩ : S44)]) (rd l1 x18_1) l1 (l1.length : Int) x18_1 2 a0 l1 (Int.tmod (rd l1 x18_1) a0) (wrap64 (Int.tdiv (rd l1 x18_1) a0)) (wrap64 ((Int.tmod (rd l1 x18_1) a0) + 1)) (wrap64 (Int.tdiv (rd l1 x18_1) a0)) (wrap64 ((Int.tmod (rd l1 x18_1) a0) + 1)) (wrap64 ((wrap64 (Int.tdiv (rd l1 x18_1) a0)) + 1)) (Int.tmod (rd l1 x18_1) a0) (wrap64 ((wrap64 (Int.tdiv (rd l1 x18_1) a0)) + 1)) t105 t106 t107 t108) else (none))) = some r := by rw [if_pos rfl] at H; exact H
          clear H
          have H := H1
          clear H1
          by_cases c32 : t106 = true
          ·
           subst c32
           have H1 : (impl_sidesOf.l1 k2 x6_2 (rd l1 x18_1) l1 (l1.length : Int) x18_1 2 a0 l1 (Int.tmod (rd l1 x18_1) a0) (wrap64 (Int.tdiv (rd l1 x18_1) a0)) (wrap64 ((Int.tmod (rd l1 x18_1) a0) + 1)) (wrap64 (Int.tdiv (rd l1 x18_1) a0)) (wrap64 ((Int.tmod (rd l1 x18_1) a0) + 1)) (wrap64 ((wrap64 (Int.tdiv (rd l1 x18_1) a0)) + 1)) (Int.tmod (rd l1 x18_1) a0) (wrap64 ((wrap64 (Int.tdiv (rd l1 x18_1) a0)) + 1)) t105 true t107 t108) = some r := by rw [if_pos rfl] at H; exact H
           clear H
           have H := H1
           clear H1
           have H' := Aside0.mk H
           clear H
           go_wp2
           go_roundg k2
           case measure => have := HK1.out; have := HK2.out; omega
           case rel => exact ⟨(x6_2), (2), (by first | rfl | (simp; done) | (simp [*]; done)), H', ⟨by have := HK1.out; have := HK2.out; omega⟩, ⟨pR HO_6.out⟩, ⟨by refine bk ?_; exact BK101.out⟩, ⟨by refine bk ?_; exact BK102.out⟩, ⟨by refine bk ?_; exact BK104.out⟩, ⟨by refine bk ?_; exact BK109.out⟩, ⟨pT HB.out⟩⟩
          replace c32 := Bool.eq_false_iff.mpr c32
          subst c32
          have H1 : (if x6_2.length < 3518437208883 then (impl_sidesOf.l1 k2 (x6_2 ++ [(⟨(rd l1 x18_1), (⟨(wrap64 ((Int.tmod (rd l1 x18_1) a0) + 1)), (wrap64 (Int.tdiv (rd l1 x18_1) a0))⟩ : S40), (⟨(wrap64 ((Int.tmod (rd l1 x18_1) a0) + 1)), (wrap64 ((wrap64 (Int.tdiv (rd l1 x18_1) a0)) + 1))⟩ : S40)⟩ : S44)]) (rd l1 x18_1) l1 (l1.length : Int) x18_1 2 a0 l1 (Int.tmod (rd l1 x18_1) a0) (wrap64 (Int.tdiv (rd l1 x18_1) a0)) (wrap64 ((Int.tmod (rd l1 x18_1) a0) + 1)) (wrap64 (Int.tdiv (rd l1 x18_1) a0)) (wrap64 ((Int.tmod (rd l1 x18_1) a0) + 1)) (wrap64 ((wrap64 (Int.tdiv (rd l1 x18_1) a0)) + 1)) (Int.tmod (rd l1 x18_1) a0) (wrap64 ((wrap64 (Int.tdiv (rd l1 x18_1) a0)) + 1)) t105 false t107 t108) else (none)) = some r := by rw [if_neg (show ¬ (false = true) by decide)] at H; exact H
          clear H
          have H := H1
          clear H1
          by_cases c33 : x6_2.length < 3518437208883
          ·
           rw [if_pos c33] at H
           have LMc33 := Aside0.mk c33
           clear c33
           obtain ⟨y113, hy113⟩ : ∃ y_ : List (S44), y_ = (x6_2 ++ [(⟨(rd l1 x18_1), (⟨(wrap64 ((Int.tmod (rd l1 x18_1) a0) + 1)), (wrap64 (Int.tdiv (rd l1 x18_1) a0))⟩ : S40), (⟨(wrap64 ((Int.tmod (rd l1 x18_1) a0) + 1)), (wrap64 ((wrap64 (Int.tdiv (rd l1 x18_1) a0)) + 1))⟩ : S40)⟩ : S44)]) := ⟨_, rfl⟩
           replace H : (impl_sidesOf.l1 k2 y113 (rd l1 x18_1) l1 (l1.length : Int) x18_1 2 a0 l1 (Int.tmod (rd l1 x18_1) a0) (wrap64 (Int.tdiv (rd l1 x18_1) a0)) (wrap64 ((Int.tmod (rd l1 x18_1) a0) + 1)) (wrap64 (Int.tdiv (rd l1 x18_1) a0)) (wrap64 ((Int.tmod (rd l1 x18_1) a0) + 1)) (wrap64 ((wrap64 (Int.tdiv (rd l1 x18_1) a0)) + 1)) (Int.tmod (rd l1 x18_1) a0) (wrap64 ((wrap64 (Int.tdiv (rd l1 x18_1) a0)) + 1)) t105 false t107 t108) = some r := by first | (rw [hy113]; with_reducible exact H) | (have H2_ := (Option.bind_some _ _).symm.trans H; rw [hy113]; with_reducible exact H2_) | (have H2_ := (Option.bind_some _ _).symm.trans H; with_reducible exact H2_) | with_reducible exact H | (rw [hy113]; exact H) | exact H
           have Ny113 := Aside0.mk hy113
           clear hy113
           have H' := Aside0.mk H
           clear H
           try go_wp2
           have n0_ := aK (Kd.R_drew HO_6.out)
           have n1_ := aK (blk_drew BK101.out)
           have n2_ := aK (blk_drew BK102.out)
           have n3_ := aK (blk_drew BK104.out)
           have n4_ := aK (blk_drew BK109.out)
           have n5_ := aK (below_drew1 HB.out)
           clear HO_6 BK101 BK102 BK104 BK109 HB
           have HO_6 := n0_
           have BK101 := n1_
           have BK102 := n2_
           have BK104 := n3_
           have BK109 := n4_
           have HB := n5_
           clear n0_ n1_ n2_ n3_ n4_ n5_
           refine start_ (n := 14) (S := fun w' => w'.cell? ⟨gb104, 0, none⟩ = some (.int .i64 (Int.tmod (rd l1 x18_1) a0)) ∧ w'.cell? ⟨gb104, 1, none⟩ = some (.int .i64 (wrap64 (Int.tdiv (rd l1 x18_1) a0))) ∧ w'.cell? ⟨gb104, 2, none⟩ = some (.int .i64 (wrap64 ((Int.tmod (rd l1 x18_1) a0) + 1))) ∧ w'.cell? ⟨gb104, 3, none⟩ = some (.int .i64 (wrap64 (Int.tdiv (rd l1 x18_1) a0))) ∧ w'.cell? ⟨gb104, 4, none⟩ = some (.int .i64 (wrap64 ((Int.tmod (rd l1 x18_1) a0) + 1))) ∧ w'.cell? ⟨gb104, 5, none⟩ = some (.int .i64 (wrap64 ((wrap64 (Int.tdiv (rd l1 x18_1) a0)) + 1))) ∧ w'.cell? ⟨gb104, 6, none⟩ = some (.int .i64 (Int.tmod (rd l1 x18_1) a0)) ∧ w'.cell? ⟨gb104, 7, none⟩ = some (.int .i64 (wrap64 ((wrap64 (Int.tdiv (rd l1 x18_1) a0)) + 1)))) (ds := []) (bz [0, 14]) (by kernel_rfl) rfl rfl ⟨(blk_cell BK104.out 0).trans rfl, (blk_cell BK104.out 1).trans rfl, (blk_cell BK104.out 2).trans rfl, (blk_cell BK104.out 3).trans rfl, (blk_cell BK104.out 4).trans rfl, (blk_cell BK104.out 5).trans rfl, (blk_cell BK104.out 6).trans rfl, (blk_cell BK104.out 7).trans rfl⟩ (fun hHeld => ?_); refine with_tabW impl_sidesOf.tab13 impl_sidesOf.bits13 (fun HT_ HW_ => ?_)
           generalize wr.drew = w34 at HO_6 BK101 BK102 BK104 BK109 HB hHeld ⊢
           refine pz 0 73 [1, 13] HT_.out ?_
           refine pz 1 74 [2, 12] HT_.out ?_
           refine pz 2 75 [3, 11] HT_.out ?_
           refine pz 3 76 [4, 10] HT_.out ?_
           refine pz 5 78 [4, 1, 1, 8] HT_.out ?_
           refine pz 6 79 [4, 1, 2, 7] HT_.out ?_
           refine pz 7 80 [4, 1, 3, 6] HT_.out ?_
           refine pz 8 81 [4, 1, 4, 5] HT_.out ?_
           refine tk (i := 4) (N := some 77) (bz [9, 5]) rfl rfl HT_.out HW_.out (Or.inl ⟨by rfl, by rintro w' ⟨s0, s1, s2, s3, s4, s5, s6, s7⟩; go_simp; with_reducible rfl⟩) hHeld ?_
           refine tk (i := 9) (N := some 82) (bz [10, 4]) rfl rfl HT_.out HW_.out (Or.inl ⟨by rfl, by rintro w' ⟨s0, s1, s2, s3, s4, s5, s6, s7⟩; go_simp; with_reducible rfl⟩) hHeld ?_
           refine pz 10 83 [11, 3] HT_.out ?_
           refine one_ (i := 11) (N := some 84) (bz [12, 2]) rfl rfl (one_of HT_.out (by kernel_rfl)) (by decide) (fun K hK => ?_)
           refine value_ (w1 := ?_) (v := ?_) (by rfl) rfl ?_ ?_
           rotate_left 2
           ·
            go_simp
            constructor
            ·
             rfl
            rfl
           refine hK.out _ _ ⟨(blk_cell (blk_alloc BK104.out _) 0).trans rfl, (blk_cell (blk_alloc BK104.out _) 1).trans rfl, (blk_cell (blk_alloc BK104.out _) 2).trans rfl, (blk_cell (blk_alloc BK104.out _) 3).trans rfl, (blk_cell (blk_alloc BK104.out _) 4).trans rfl, (blk_cell (blk_alloc BK104.out _) 5).trans rfl, (blk_cell (blk_alloc BK104.out _) 6).trans rfl, (blk_cell (blk_alloc BK104.out _) 7).trans rfl⟩ (fun hHeld => ?_)
           clear hK K
           refine norm_ (a' := ?_) ?_ ?_
           rotate_left
           ·
            show Act.put _ (some 84) _ = _
            simp only [sP]
            rfl
           refine one_ (i := 12) (N := some 85) (bz [13, 1]) rfl rfl (one_of HT_.out (by kernel_rfl)) (by decide) (fun K hK => ?_)
           refine Kd.R_append_step k44 (w0 := w) w.heap.size (by rfl) (.tmp 73) (.tmp 84) 30 44 (.agg #[(.int .i64 0), (.int .i64 0), (.int .i64 0), (.int .i64 0), (.int .i64 0)]) 40 rfl Try.underlying30 info44 rfl (by decide) (by omega) u6 x6_2 (⟨(rd l1 x18_1), (⟨(wrap64 ((Int.tmod (rd l1 x18_1) a0) + 1)), (wrap64 (Int.tdiv (rd l1 x18_1) a0))⟩ : S40), (⟨(wrap64 ((Int.tmod (rd l1 x18_1) a0) + 1)), (wrap64 ((wrap64 (Int.tdiv (rd l1 x18_1) a0)) + 1))⟩ : S40)⟩ : S44) [.int .i64 (rd l1 x18_1), .int .i64 (wrap64 ((Int.tmod (rd l1 x18_1) a0) + 1)), .int .i64 (wrap64 (Int.tdiv (rd l1 x18_1) a0)), .int .i64 (wrap64 ((Int.tmod (rd l1 x18_1) a0) + 1)), .int .i64 (wrap64 ((wrap64 (Int.tdiv (rd l1 x18_1) a0)) + 1))] (fun _ => True) (fun _ => False) rfl rfl ?aP (fun _ hk => hk.elim) ?aF ?aO ?aB ?aS ?aL ?_
           (case aP => exact k44_mkM _ _ _ (⟨(rd l1 x18_1), (⟨(wrap64 ((Int.tmod (rd l1 x18_1) a0) + 1)), (wrap64 (Int.tdiv (rd l1 x18_1) a0))⟩ : S40), (⟨(wrap64 ((Int.tmod (rd l1 x18_1) a0) + 1)), (wrap64 ((wrap64 (Int.tdiv (rd l1 x18_1) a0)) + 1))⟩ : S40)⟩ : S44))
           (case aB => exact (pS HB.out))
           (case aF => exact (fun _ _ => trivial))
           (case aO => exact (pR HO_6.out))
           (case aS => exact (below_size (pS HB.out)))
           (case aL => have := LMc33.out; omega)
           intro v114 w35 ho hb hg hat
           rw [← Ny113.out] at ho
           have n0_ := aK (blk_grown (pB BK101.out) hg (Kd.R_ne HO_6.out BK101.out (by decide)))
           have n1_ := aK (blk_grown (pB BK102.out) hg (Kd.R_ne HO_6.out BK102.out (by decide)))
           have n2_ := aK (blk_grown (pB BK104.out) hg (Kd.R_ne HO_6.out BK104.out (by decide)))
           have n3_ := aK (blk_grown (pB BK109.out) hg (Kd.R_ne HO_6.out BK109.out (by decide)))
           have n4_ := aK (hb)
           have HO115 := aK (ho)
           clear BK101 BK102 BK104 BK109 HB HO_6
           have BK101 := n0_
           have BK102 := n1_
           have BK104 := n2_
           have BK109 := n3_
           have HB := n4_
           clear n0_ n1_ n2_ n3_ n4_ ho hb hg hat
           refine hK.out _ _ ⟨(blk_cell BK104.out 0).trans rfl, (blk_cell BK104.out 1).trans rfl, (blk_cell BK104.out 2).trans rfl, (blk_cell BK104.out 3).trans rfl, (blk_cell BK104.out 4).trans rfl, (blk_cell BK104.out 5).trans rfl, (blk_cell BK104.out 6).trans rfl, (blk_cell BK104.out 7).trans rfl⟩ (fun hHeld => ?_)
           clear hK K
           refine norm_ (a' := ?_) ?_ ?_
           rotate_left
           ·
            show Act.put _ (some 85) _ = _
            simp only [sP]
            rfl
           refine pz 13 6 [14, 0] HT_.out ?_
           refine done_ (done_of HT_.out (by kernel_rfl)) ?_
           try go_wp2
           go_roundg k2
           case measure => have := HK1.out; have := HK2.out; omega
           case rel => exact ⟨(y113), (2), (by first | rfl | (simp; done) | (simp [*]; done)), H', ⟨by have := HK1.out; have := HK2.out; omega⟩, ⟨pR HO115.out⟩, ⟨by refine bk ?_; exact BK101.out⟩, ⟨by refine bk ?_; exact BK102.out⟩, ⟨by refine bk ?_; exact BK104.out⟩, ⟨by refine bk ?_; exact BK109.out⟩, ⟨pT HB.out⟩⟩
          rw [if_neg c33] at H
          exact absurd H (by simp)
         rw [if_neg c31] at H
         clear c31
         by_cases c36 : x67_2 = 2
         ·
          subst c36
          have H1 : (if t107 = true then (impl_sidesOf.l1 k2 x6_2 (rd l1 x18_1) l1 (l1.length : Int) x18_1 3 a0 l1 (Int.tmod (rd l1 x18_1) a0) (wrap64 (Int.tdiv (rd l1 x18_1) a0)) (wrap64 ((Int.tmod (rd l1 x18_1) a0) + 1)) (wrap64 (Int.tdiv (rd l1 x18_1) a0)) (wrap64 ((Int.tmod (rd l1 x18_1) a0) + 1)) (wrap64 ((wrap64 (Int.tdiv (rd l1 x18_1) a0)) + 1)) (Int.tmod (rd l1 x18_1) a0) (wrap64 ((wrap64 (Int.tdiv (rd l1 x18_1) a0)) + 1)) t105 t106 t107 t108) else (if x6_2.length < 3518437208883 then (impl_sidesOf.l1 k2 (x6_2 ++ [(⟨(rd l1 x18_1), (⟨(wrap64 ((Int.tmod (rd l1 x18_1) a0) + 1)), (wrap64 ((wrap64 (Int.tdiv (rd l1 x18_1) a0)) + 1))⟩ : S40), (⟨(Int.tmod (rd l1 x18_1) a0), (wrap64 ((wrap64 (Int.tdiv (rd l1 x18_1) a0)) + 1))⟩ : S40)⟩ : S44)]) (rd l1 x18_1) l1 (l1.length : Int) x18_1 3 a0 l1 (Int.tmod (rd l1 x18_1) a0) (wrap64 (Int.tdiv (rd l1 x18_1) a0)) (wrap64 ((Int.tmod (rd l1 x18_1) a0) + 1)) (wrap64 (Int.tdiv (rd l1 x18_1) a0)) (wrap64 ((Int.tmod (rd l1 x18_1) a0) + 1)) (wrap64 ((wrap64 (Int.tdiv (rd l1 x18_1) a0)) + 1)) (Int.tmod (rd l1 x18_1) a0) (wrap64 ((wrap64 (Int.tdiv (rd l1 x18_1) a0)) + 1)) t105 t106 t107 t108) else (none))) = some r := by rw [if_pos rfl] at H; exact H
          clear H
          have H := H1
          clear H1
          by_cases c37 : t107 = true
          ·
           subst c37
           have H1 : (impl_sidesOf.l1 k2 x6_2 (rd l1 x18_1) l1 (l1.length : Int) x18_1 3 a0 l1 (Int.tmod (rd l1 x18_1) a0) (wrap64 (Int.tdiv (rd l1 x18_1) a0)) (wrap64 ((Int.tmod (rd l1 x18_1) a0) + 1)) (wrap64 (Int.tdiv (rd l1 x18_1) a0)) (wrap64 ((Int.tmod (rd l1 x18_1) a0) + 1)) (wrap64 ((wrap64 (Int.tdiv (rd l1 x18_1) a0)) + 1)) (Int.tmod (rd l1 x18_1) a0) (wrap64 ((wrap64 (Int.tdiv (rd l1 x18_1) a0)) + 1)) t105 t106 true t108) = some r := by rw [if_pos rfl] at H; exact H
           clear H
           have H := H1
           clear H1
           have H' := Aside0.mk H
           clear H
           go_wp2
           go_roundg k2
           case measure => have := HK1.out; have := HK2.out; omega
           case rel => exact ⟨(x6_2), (3), (by first | rfl | (simp; done) | (simp [*]; done)), H', ⟨by have := HK1.out; have := HK2.out; omega⟩, ⟨pR HO_6.out⟩, ⟨by refine bk ?_; exact BK101.out⟩, ⟨by refine bk ?_; exact BK102.out⟩, ⟨by refine bk ?_; exact BK104.out⟩, ⟨by refine bk ?_; exact BK109.out⟩, ⟨pT HB.out⟩⟩
          replace c37 := Bool.eq_false_iff.mpr c37
          subst c37
          have H1 : (if x6_2.length < 3518437208883 then (impl_sidesOf.l1 k2 (x6_2 ++ [(⟨(rd l1 x18_1), (⟨(wrap64 ((Int.tmod (rd l1 x18_1) a0) + 1)), (wrap64 ((wrap64 (Int.tdiv (rd l1 x18_1) a0)) + 1))⟩ : S40), (⟨(Int.tmod (rd l1 x18_1) a0), (wrap64 ((wrap64 (Int.tdiv (rd l1 x18_1) a0)) + 1))⟩ : S40)⟩ : S44)]) (rd l1 x18_1) l1 (l1.length : Int) x18_1 3 a0 l1 (Int.tmod (rd l1 x18_1) a0) (wrap64 (Int.tdiv (rd l1 x18_1) a0)) (wrap64 ((Int.tmod (rd l1 x18_1) a0) + 1)) (wrap64 (Int.tdiv (rd l1 x18_1) a0)) (wrap64 ((Int.tmod (rd l1 x18_1) a0) + 1)) (wrap64 ((wrap64 (Int.tdiv (rd l1 x18_1) a0)) + 1)) (Int.tmod (rd l1 x18_1) a0) (wrap64 ((wrap64 (Int.tdiv (rd l1 x18_1) a0)) + 1)) t105 t106 false t108) else (none)) = some r := by rw [if_neg (show ¬ (false = true) by decide)] at H; exact H
          clear H
          have H := H1
          clear H1
          by_cases c38 : x6_2.length < 3518437208883
          ·
           rw [if_pos c38] at H
           have LMc38 := Aside0.mk c38
           clear c38
           obtain ⟨y116, hy116⟩ : ∃ y_ : List (S44), y_ = (x6_2 ++ [(⟨(rd l1 x18_1), (⟨(wrap64 ((Int.tmod (rd l1 x18_1) a0) + 1)), (wrap64 ((wrap64 (Int.tdiv (rd l1 x18_1) a0)) + 1))⟩ : S40), (⟨(Int.tmod (rd l1 x18_1) a0), (wrap64 ((wrap64 (Int.tdiv (rd l1 x18_1) a0)) + 1))⟩ : S40)⟩ : S44)]) := ⟨_, rfl⟩
           replace H : (impl_sidesOf.l1 k2 y116 (rd l1 x18_1) l1 (l1.length : Int) x18_1 3 a0 l1 (Int.tmod (rd l1 x18_1) a0) (wrap64 (Int.tdiv (rd l1 x18_1) a0)) (wrap64 ((Int.tmod (rd l1 x18_1) a0) + 1)) (wrap64 (Int.tdiv (rd l1 x18_1) a0)) (wrap64 ((Int.tmod (rd l1 x18_1) a0) + 1)) (wrap64 ((wrap64 (Int.tdiv (rd l1 x18_1) a0)) + 1)) (Int.tmod (rd l1 x18_1) a0) (wrap64 ((wrap64 (Int.tdiv (rd l1 x18_1) a0)) + 1)) t105 t106 false t108) = some r := by first | (rw [hy116]; with_reducible exact H) | (have H2_ := (Option.bind_some _ _).symm.trans H; rw [hy116]; with_reducible exact H2_) | (have H2_ := (Option.bind_some _ _).symm.trans H; with_reducible exact H2_) | with_reducible exact H | (rw [hy116]; exact H) | exact H
           have Ny116 := Aside0.mk hy116
           clear hy116
           have H' := Aside0.mk H
           clear H
           try go_wp2
           have n0_ := aK (Kd.R_drew HO_6.out)
           have n1_ := aK (blk_drew BK101.out)
           have n2_ := aK (blk_drew BK102.out)
           have n3_ := aK (blk_drew BK104.out)
           have n4_ := aK (blk_drew BK109.out)
           have n5_ := aK (below_drew1 HB.out)
           clear HO_6 BK101 BK102 BK104 BK109 HB
           have HO_6 := n0_
           have BK101 := n1_
           have BK102 := n2_
           have BK104 := n3_
           have BK109 := n4_
           have HB := n5_
           clear n0_ n1_ n2_ n3_ n4_ n5_
           refine start_ (n := 14) (S := fun w' => w'.cell? ⟨gb104, 0, none⟩ = some (.int .i64 (Int.tmod (rd l1 x18_1) a0)) ∧ w'.cell? ⟨gb104, 1, none⟩ = some (.int .i64 (wrap64 (Int.tdiv (rd l1 x18_1) a0))) ∧ w'.cell? ⟨gb104, 2, none⟩ = some (.int .i64 (wrap64 ((Int.tmod (rd l1 x18_1) a0) + 1))) ∧ w'.cell? ⟨gb104, 3, none⟩ = some (.int .i64 (wrap64 (Int.tdiv (rd l1 x18_1) a0))) ∧ w'.cell? ⟨gb104, 4, none⟩ = some (.int .i64 (wrap64 ((Int.tmod (rd l1 x18_1) a0) + 1))) ∧ w'.cell? ⟨gb104, 5, none⟩ = some (.int .i64 (wrap64 ((wrap64 (Int.tdiv (rd l1 x18_1) a0)) + 1))) ∧ w'.cell? ⟨gb104, 6, none⟩ = some (.int .i64 (Int.tmod (rd l1 x18_1) a0)) ∧ w'.cell? ⟨gb104, 7, none⟩ = some (.int .i64 (wrap64 ((wrap64 (Int.tdiv (rd l1 x18_1) a0)) + 1)))) (ds := []) (bz [0, 14]) (by kernel_rfl) rfl rfl ⟨(blk_cell BK104.out 0).trans rfl, (blk_cell BK104.out 1).trans rfl, (blk_cell BK104.out 2).trans rfl, (blk_cell BK104.out 3).trans rfl, (blk_cell BK104.out 4).trans rfl, (blk_cell BK104.out 5).trans rfl, (blk_cell BK104.out 6).trans rfl, (blk_cell BK104.out 7).trans rfl⟩ (fun hHeld => ?_); refine with_tabW impl_sidesOf.tab13 impl_sidesOf.bits13 (fun HT_ HW_ => ?_)
           generalize wr.drew = w39 at HO_6 BK101 BK102 BK104 BK109 HB hHeld ⊢
           refine pz 0 73 [1, 13] HT_.out ?_
           refine pz 1 74 [2, 12] HT_.out ?_
           refine pz 2 75 [3, 11] HT_.out ?_
           refine pz 3 76 [4, 10] HT_.out ?_
           refine pz 5 78 [4, 1, 1, 8] HT_.out ?_
           refine pz 6 79 [4, 1, 2, 7] HT_.out ?_
           refine pz 7 80 [4, 1, 3, 6] HT_.out ?_
           refine pz 8 81 [4, 1, 4, 5] HT_.out ?_
           refine tk (i := 4) (N := some 77) (bz [9, 5]) rfl rfl HT_.out HW_.out (Or.inl ⟨by rfl, by rintro w' ⟨s0, s1, s2, s3, s4, s5, s6, s7⟩; go_simp; with_reducible rfl⟩) hHeld ?_
           refine tk (i := 9) (N := some 82) (bz [10, 4]) rfl rfl HT_.out HW_.out (Or.inl ⟨by rfl, by rintro w' ⟨s0, s1, s2, s3, s4, s5, s6, s7⟩; go_simp; with_reducible rfl⟩) hHeld ?_
           refine pz 10 83 [11, 3] HT_.out ?_
           refine one_ (i := 11) (N := some 84) (bz [12, 2]) rfl rfl (one_of HT_.out (by kernel_rfl)) (by decide) (fun K hK => ?_)
           refine value_ (w1 := ?_) (v := ?_) (by rfl) rfl ?_ ?_
           rotate_left 2
           ·
            go_simp
            constructor
            ·
             rfl
            rfl
           refine hK.out _ _ ⟨(blk_cell (blk_alloc BK104.out _) 0).trans rfl, (blk_cell (blk_alloc BK104.out _) 1).trans rfl, (blk_cell (blk_alloc BK104.out _) 2).trans rfl, (blk_cell (blk_alloc BK104.out _) 3).trans rfl, (blk_cell (blk_alloc BK104.out _) 4).trans rfl, (blk_cell (blk_alloc BK104.out _) 5).trans rfl, (blk_cell (blk_alloc BK104.out _) 6).trans rfl, (blk_cell (blk_alloc BK104.out _) 7).trans rfl⟩ (fun hHeld => ?_)
           clear hK K
           refine norm_ (a' := ?_) ?_ ?_
           rotate_left
           ·
            show Act.put _ (some 84) _ = _
            simp only [sP]
            rfl
           refine one_ (i := 12) (N := some 85) (bz [13, 1]) rfl rfl (one_of HT_.out (by kernel_rfl)) (by decide) (fun K hK => ?_)
           refine Kd.R_append_step k44 (w0 := w) w.heap.size (by rfl) (.tmp 73) (.tmp 84) 30 44 (.agg #[(.int .i64 0), (.int .i64 0), (.int .i64 0), (.int .i64 0), (.int .i64 0)]) 40 rfl Try.underlying30 info44 rfl (by decide) (by omega) u6 x6_2 (⟨(rd l1 x18_1), (⟨(wrap64 ((Int.tmod (rd l1 x18_1) a0) + 1)), (wrap64 ((wrap64 (Int.tdiv (rd l1 x18_1) a0)) + 1))⟩ : S40), (⟨(Int.tmod (rd l1 x18_1) a0), (wrap64 ((wrap64 (Int.tdiv (rd l1 x18_1) a0)) + 1))⟩ : S40)⟩ : S44) [.int .i64 (rd l1 x18_1), .int .i64 (wrap64 ((Int.tmod (rd l1 x18_1) a0) + 1)), .int .i64 (wrap64 ((wrap64 (Int.tdiv (rd l1 x18_1) a0)) + 1)), .int .i64 (Int.tmod (rd l1 x18_1) a0), .int .i64 (wrap64 ((wrap64 (Int.tdiv (rd l1 x18_1) a0)) + 1))] (fun _ => True) (fun _ => False) rfl rfl ?aP (fun _ hk => hk.elim) ?aF ?aO ?aB ?aS ?aL ?_
           (case aP => exact k44_mkM _ _ _ (⟨(rd l1 x18_1), (⟨(wrap64 ((Int.tmod (rd l1 x18_1) a0) + 1)), (wrap64 ((wrap64 (Int.tdiv (rd l1 x18_1) a0)) + 1))⟩ : S40), (⟨(Int.tmod (rd l1 x18_1) a0), (wrap64 ((wrap64 (Int.tdiv (rd l1 x18_1) a0)) + 1))⟩ : S40)⟩ : S44))
           (case aB => exact (pS HB.out))
           (case aF => exact (fun _ _ => trivial))
           (case aO => exact (pR HO_6.out))
           (case aS => exact (below_size (pS HB.out)))
           (case aL => have := LMc38.out; omega)
           intro v117 w40 ho hb hg hat
           rw [← Ny116.out] at ho
           have n0_ := aK (blk_grown (pB BK101.out) hg (Kd.R_ne HO_6.out BK101.out (by decide)))
           have n1_ := aK (blk_grown (pB BK102.out) hg (Kd.R_ne HO_6.out BK102.out (by decide)))
           have n2_ := aK (blk_grown (pB BK104.out) hg (Kd.R_ne HO_6.out BK104.out (by decide)))
           have n3_ := aK (blk_grown (pB BK109.out) hg (Kd.R_ne HO_6.out BK109.out (by decide)))
           have n4_ := aK (hb)
           have HO118 := aK (ho)
           clear BK101 BK102 BK104 BK109 HB HO_6
           have BK101 := n0_
           have BK102 := n1_
           have BK104 := n2_
           have BK109 := n3_
           have HB := n4_
           clear n0_ n1_ n2_ n3_ n4_ ho hb hg hat
           refine hK.out _ _ ⟨(blk_cell BK104.out 0).trans rfl, (blk_cell BK104.out 1).trans rfl, (blk_cell BK104.out 2).trans rfl, (blk_cell BK104.out 3).trans rfl, (blk_cell BK104.out 4).trans rfl, (blk_cell BK104.out 5).trans rfl, (blk_cell BK104.out 6).trans rfl, (blk_cell BK104.out 7).trans rfl⟩ (fun hHeld => ?_)
           clear hK K
           refine norm_ (a' := ?_) ?_ ?_
           rotate_left
           ·
            show Act.put _ (some 85) _ = _
            simp only [sP]
            rfl
           refine pz 13 6 [14, 0] HT_.out ?_
           refine done_ (done_of HT_.out (by kernel_rfl)) ?_
           try go_wp2
           go_roundg k2
           case measure => have := HK1.out; have := HK2.out; omega
           case rel => exact ⟨(y116), (3), (by first | rfl | (simp; done) | (simp [*]; done)), H', ⟨by have := HK1.out; have := HK2.out; omega⟩, ⟨pR HO118.out⟩, ⟨by refine bk ?_; exact BK101.out⟩, ⟨by refine bk ?_; exact BK102.out⟩, ⟨by refine bk ?_; exact BK104.out⟩, ⟨by refine bk ?_; exact BK109.out⟩, ⟨pT HB.out⟩⟩
          rw [if_neg c38] at H
          exact absurd H (by simp)
         rw [if_neg c36] at H
         clear c36
         by_cases c41 : x67_2 = 3
         ·
          subst c41
          have H1 : (if t108 = true then (impl_sidesOf.l1 k2 x6_2 (rd l1 x18_1) l1 (l1.length : Int) x18_1 4 a0 l1 (Int.tmod (rd l1 x18_1) a0) (wrap64 (Int.tdiv (rd l1 x18_1) a0)) (wrap64 ((Int.tmod (rd l1 x18_1) a0) + 1)) (wrap64 (Int.tdiv (rd l1 x18_1) a0)) (wrap64 ((Int.tmod (rd l1 x18_1) a0) + 1)) (wrap64 ((wrap64 (Int.tdiv (rd l1 x18_1) a0)) + 1)) (Int.tmod (rd l1 x18_1) a0) (wrap64 ((wrap64 (Int.tdiv (rd l1 x18_1) a0)) + 1)) t105 t106 t107 t108) else (if x6_2.length < 3518437208883 then (impl_sidesOf.l1 k2 (x6_2 ++ [(⟨(rd l1 x18_1), (⟨(Int.tmod (rd l1 x18_1) a0), (wrap64 ((wrap64 (Int.tdiv (rd l1 x18_1) a0)) + 1))⟩ : S40), (⟨(Int.tmod (rd l1 x18_1) a0), (wrap64 (Int.tdiv (rd l1 x18_1) a0))⟩ : S40)⟩ : S44)]) (rd l1 x18_1) l1 (l1.length : Int) x18_1 4 a0 l1 (Int.tmod (rd l1 x18_1) a0) (wrap64 (Int.tdiv (rd l1 x18_1) a0)) (wrap64 ((Int.tmod (rd l1 x18_1) a0) + 1)) (wrap64 (Int.tdiv (rd l1 x18_1) a0)) (wrap64 ((Int.tmod (rd l1 x18_1) a0) + 1)) (wrap64 ((wrap64 (Int.tdiv (rd l1 x18_1) a0)) + 1)) (Int.tmod (rd l1 x18_1) a0) (wrap64 ((wrap64 (Int.tdiv (rd l1 x18_1) a0)) + 1)) t105 t106 t107 t108) else (none))) = some r := by rw [if_pos rfl] at H; exact H
          clear H
          have H := H1
          clear H1
          by_cases c42 : t108 = true
          ·
           subst c42
           have H1 : (impl_sidesOf.l1 k2 x6_2 (rd l1 x18_1) l1 (l1.length : Int) x18_1 4 a0 l1 (Int.tmod (rd l1 x18_1) a0) (wrap64 (Int.tdiv (rd l1 x18_1) a0)) (wrap64 ((Int.tmod (rd l1 x18_1) a0) + 1)) (wrap64 (Int.tdiv (rd l1 x18_1) a0)) (wrap64 ((Int.tmod (rd l1 x18_1) a0) + 1)) (wrap64 ((wrap64 (Int.tdiv (rd l1 x18_1) a0)) + 1)) (Int.tmod (rd l1 x18_1) a0) (wrap64 ((wrap64 (Int.tdiv (rd l1 x18_1) a0)) + 1)) t105 t106 t107 true) = some r := by rw [if_pos rfl] at H; exact H
           clear H
           have H := H1
           clear H1
           have H' := Aside0.mk H
           clear H
           go_wp2
           go_roundg k2
           case measure => have := HK1.out; have := HK2.out; omega
           case rel => exact ⟨(x6_2), (4), (by first | rfl | (simp; done) | (simp [*]; done)), H', ⟨by have := HK1.out; have := HK2.out; omega⟩, ⟨pR HO_6.out⟩, ⟨by refine bk ?_; exact BK101.out⟩, ⟨by refine bk ?_; exact BK102.out⟩, ⟨by refine bk ?_; exact BK104.out⟩, ⟨by refine bk ?_; exact BK109.out⟩, ⟨pT HB.out⟩⟩
          replace c42 := Bool.eq_false_iff.mpr c42
          subst c42
          have H1 : (if x6_2.length < 3518437208883 then (impl_sidesOf.l1 k2 (x6_2 ++ [(⟨(rd l1 x18_1), (⟨(Int.tmod (rd l1 x18_1) a0), (wrap64 ((wrap64 (Int.tdiv (rd l1 x18_1) a0)) + 1))⟩ : S40), (⟨(Int.tmod (rd l1 x18_1) a0), (wrap64 (Int.tdiv (rd l1 x18_1) a0))⟩ : S40)⟩ : S44)]) (rd l1 x18_1) l1 (l1.length : Int) x18_1 4 a0 l1 (Int.tmod (rd l1 x18_1) a0) (wrap64 (Int.tdiv (rd l1 x18_1) a0)) (wrap64 ((Int.tmod (rd l1 x18_1) a0) + 1)) (wrap64 (Int.tdiv (rd l1 x18_1) a0)) (wrap64 ((Int.tmod (rd l1 x18_1) a0) + 1)) (wrap64 ((wrap64 (Int.tdiv (rd l1 x18_1) a0)) + 1)) (Int.tmod (rd l1 x18_1) a0) (wrap64 ((wrap64 (Int.tdiv (rd l1 x18_1) a0)) + 1)) t105 t106 t107 false) else (none)) = some r := by rw [if_neg (show ¬ (false = true) by decide)] at H; exact H
          clear H
          have H := H1
          clear H1
          by_cases c43 : x6_2.length < 3518437208883
          ·
           rw [if_pos c43] at H
           have LMc43 := Aside0.mk c43
           clear c43
           obtain ⟨y119, hy119⟩ : ∃ y_ : List (S44), y_ = (x6_2 ++ [(⟨(rd l1 x18_1), (⟨(Int.tmod (rd l1 x18_1) a0), (wrap64 ((wrap64 (Int.tdiv (rd l1 x18_1) a0)) + 1))⟩ : S40), (⟨(Int.tmod (rd l1 x18_1) a0), (wrap64 (Int.tdiv (rd l1 x18_1) a0))⟩ : S40)⟩ : S44)]) := ⟨_, rfl⟩
           replace H : (impl_sidesOf.l1 k2 y119 (rd l1 x18_1) l1 (l1.length : Int) x18_1 4 a0 l1 (Int.tmod (rd l1 x18_1) a0) (wrap64 (Int.tdiv (rd l1 x18_1) a0)) (wrap64 ((Int.tmod (rd l1 x18_1) a0) + 1)) (wrap64 (Int.tdiv (rd l1 x18_1) a0)) (wrap64 ((Int.tmod (rd l1 x18_1) a0) + 1)) (wrap64 ((wrap64 (Int.tdiv (rd l1 x18_1) a0)) + 1)) (Int.tmod (rd l1 x18_1) a0) (wrap64 ((wrap64 (Int.tdiv (rd l1 x18_1) a0)) + 1)) t105 t106 t107 false) = some r := by first | (rw [hy119]; with_reducible exact H) | (have H2_ := (Option.bind_some _ _).symm.trans H; rw [hy119]; with_reducible exact H2_) | (have H2_ := (Option.bind_some _ _).symm.trans H; with_reducible exact H2_) | with_reducible exact H | (rw [hy119]; exact H) | exact H
           have Ny119 := Aside0.mk hy119
           clear hy119
           have H' := Aside0.mk H
           clear H
           try go_wp2
           have n0_ := aK (Kd.R_drew HO_6.out)
           have n1_ := aK (blk_drew BK101.out)
           have n2_ := aK (blk_drew BK102.out)
           have n3_ := aK (blk_drew BK104.out)
           have n4_ := aK (blk_drew BK109.out)
           have n5_ := aK (below_drew1 HB.out)
           clear HO_6 BK101 BK102 BK104 BK109 HB
           have HO_6 := n0_
           have BK101 := n1_
           have BK102 := n2_
           have BK104 := n3_
           have BK109 := n4_
           have HB := n5_
           clear n0_ n1_ n2_ n3_ n4_ n5_
           refine start_ (n := 14) (S := fun w' => w'.cell? ⟨gb104, 0, none⟩ = some (.int .i64 (Int.tmod (rd l1 x18_1) a0)) ∧ w'.cell? ⟨gb104, 1, none⟩ = some (.int .i64 (wrap64 (Int.tdiv (rd l1 x18_1) a0))) ∧ w'.cell? ⟨gb104, 2, none⟩ = some (.int .i64 (wrap64 ((Int.tmod (rd l1 x18_1) a0) + 1))) ∧ w'.cell? ⟨gb104, 3, none⟩ = some (.int .i64 (wrap64 (Int.tdiv (rd l1 x18_1) a0))) ∧ w'.cell? ⟨gb104, 4, none⟩ = some (.int .i64 (wrap64 ((Int.tmod (rd l1 x18_1) a0) + 1))) ∧ w'.cell? ⟨gb104, 5, none⟩ = some (.int .i64 (wrap64 ((wrap64 (Int.tdiv (rd l1 x18_1) a0)) + 1))) ∧ w'.cell? ⟨gb104, 6, none⟩ = some (.int .i64 (Int.tmod (rd l1 x18_1) a0)) ∧ w'.cell? ⟨gb104, 7, none⟩ = some (.int .i64 (wrap64 ((wrap64 (Int.tdiv (rd l1 x18_1) a0)) + 1)))) (ds := []) (bz [0, 14]) (by kernel_rfl) rfl rfl ⟨(blk_cell BK104.out 0).trans rfl, (blk_cell BK104.out 1).trans rfl, (blk_cell BK104.out 2).trans rfl, (blk_cell BK104.out 3).trans rfl, (blk_cell BK104.out 4).trans rfl, (blk_cell BK104.out 5).trans rfl, (blk_cell BK104.out 6).trans rfl, (blk_cell BK104.out 7).trans rfl⟩ (fun hHeld => ?_); refine with_tabW impl_sidesOf.tab13 impl_sidesOf.bits13 (fun HT_ HW_ => ?_)
           generalize wr.drew = w44 at HO_6 BK101 BK102 BK104 BK109 HB hHeld ⊢
           refine pz 0 73 [1, 13] HT_.out ?_
           refine pz 1 74 [2, 12] HT_.out ?_
           refine pz 2 75 [3, 11] HT_.out ?_
           refine pz 3 76 [4, 10] HT_.out ?_
           refine pz 5 78 [4, 1, 1, 8] HT_.out ?_
           refine pz 6 79 [4, 1, 2, 7] HT_.out ?_
           refine pz 7 80 [4, 1, 3, 6] HT_.out ?_
           refine pz 8 81 [4, 1, 4, 5] HT_.out ?_
           refine tk (i := 4) (N := some 77) (bz [9, 5]) rfl rfl HT_.out HW_.out (Or.inl ⟨by rfl, by rintro w' ⟨s0, s1, s2, s3, s4, s5, s6, s7⟩; go_simp; with_reducible rfl⟩) hHeld ?_
           refine tk (i := 9) (N := some 82) (bz [10, 4]) rfl rfl HT_.out HW_.out (Or.inl ⟨by rfl, by rintro w' ⟨s0, s1, s2, s3, s4, s5, s6, s7⟩; go_simp; with_reducible rfl⟩) hHeld ?_
           refine pz 10 83 [11, 3] HT_.out ?_
           refine one_ (i := 11) (N := some 84) (bz [12, 2]) rfl rfl (one_of HT_.out (by kernel_rfl)) (by decide) (fun K hK => ?_)
           refine value_ (w1 := ?_) (v := ?_) (by rfl) rfl ?_ ?_
           rotate_left 2
           ·
            go_simp
            constructor
            ·
             rfl
            rfl
           refine hK.out _ _ ⟨(blk_cell (blk_alloc BK104.out _) 0).trans rfl, (blk_cell (blk_alloc BK104.out _) 1).trans rfl, (blk_cell (blk_alloc BK104.out _) 2).trans rfl, (blk_cell (blk_alloc BK104.out _) 3).trans rfl, (blk_cell (blk_alloc BK104.out _) 4).trans rfl, (blk_cell (blk_alloc BK104.out _) 5).trans rfl, (blk_cell (blk_alloc BK104.out _) 6).trans rfl, (blk_cell (blk_alloc BK104.out _) 7).trans rfl⟩ (fun hHeld => ?_)
           clear hK K
           refine norm_ (a' := ?_) ?_ ?_
           rotate_left
           ·
            show Act.put _ (some 84) _ = _
            simp only [sP]
            rfl
           refine one_ (i := 12) (N := some 85) (bz [13, 1]) rfl rfl (one_of HT_.out (by kernel_rfl)) (by decide) (fun K hK => ?_)
           refine Kd.R_append_step k44 (w0 := w) w.heap.size (by rfl) (.tmp 73) (.tmp 84) 30 44 (.agg #[(.int .i64 0), (.int .i64 0), (.int .i64 0), (.int .i64 0), (.int .i64 0)]) 40 rfl Try.underlying30 info44 rfl (by decide) (by omega) u6 x6_2 (⟨(rd l1 x18_1), (⟨(Int.tmod (rd l1 x18_1) a0), (wrap64 ((wrap64 (Int.tdiv (rd l1 x18_1) a0)) + 1))⟩ : S40), (⟨(Int.tmod (rd l1 x18_1) a0), (wrap64 (Int.tdiv (rd l1 x18_1) a0))⟩ : S40)⟩ : S44) [.int .i64 (rd l1 x18_1), .int .i64 (Int.tmod (rd l1 x18_1) a0), .int .i64 (wrap64 ((wrap64 (Int.tdiv (rd l1 x18_1) a0)) + 1)), .int .i64 (Int.tmod (rd l1 x18_1) a0), .int .i64 (wrap64 (Int.tdiv (rd l1 x18_1) a0))] (fun _ => True) (fun _ => False) rfl rfl ?aP (fun _ hk => hk.elim) ?aF ?aO ?aB ?aS ?aL ?_
           (case aP => exact k44_mkM _ _ _ (⟨(rd l1 x18_1), (⟨(Int.tmod (rd l1 x18_1) a0), (wrap64 ((wrap64 (Int.tdiv (rd l1 x18_1) a0)) + 1))⟩ : S40), (⟨(Int.tmod (rd l1 x18_1) a0), (wrap64 (Int.tdiv (rd l1 x18_1) a0))⟩ : S40)⟩ : S44))
           (case aB => exact (pS HB.out))
           (case aF => exact (fun _ _ => trivial))
           (case aO => exact (pR HO_6.out))
           (case aS => exact (below_size (pS HB.out)))
           (case aL => have := LMc43.out; omega)
           intro v120 w45 ho hb hg hat
           rw [← Ny119.out] at ho
           have n0_ := aK (blk_grown (pB BK101.out) hg (Kd.R_ne HO_6.out BK101.out (by decide)))
           have n1_ := aK (blk_grown (pB BK102.out) hg (Kd.R_ne HO_6.out BK102.out (by decide)))
           have n2_ := aK (blk_grown (pB BK104.out) hg (Kd.R_ne HO_6.out BK104.out (by decide)))
           have n3_ := aK (blk_grown (pB BK109.out) hg (Kd.R_ne HO_6.out BK109.out (by decide)))
           have n4_ := aK (hb)
           have HO121 := aK (ho)
           clear BK101 BK102 BK104 BK109 HB HO_6
           have BK101 := n0_
           have BK102 := n1_
           have BK104 := n2_
           have BK109 := n3_
           have HB := n4_
           clear n0_ n1_ n2_ n3_ n4_ ho hb hg hat
           refine hK.out _ _ ⟨(blk_cell BK104.out 0).trans rfl, (blk_cell BK104.out 1).trans rfl, (blk_cell BK104.out 2).trans rfl, (blk_cell BK104.out 3).trans rfl, (blk_cell BK104.out 4).trans rfl, (blk_cell BK104.out 5).trans rfl, (blk_cell BK104.out 6).trans rfl, (blk_cell BK104.out 7).trans rfl⟩ (fun hHeld => ?_)
           clear hK K
           refine norm_ (a' := ?_) ?_ ?_
           rotate_left
           ·
            show Act.put _ (some 85) _ = _
            simp only [sP]
            rfl
           refine pz 13 6 [14, 0] HT_.out ?_
           refine done_ (done_of HT_.out (by kernel_rfl)) ?_
           try go_wp2
           go_roundg k2
           case measure => have := HK1.out; have := HK2.out; omega
           case rel => exact ⟨(y119), (4), (by first | rfl | (simp; done) | (simp [*]; done)), H', ⟨by have := HK1.out; have := HK2.out; omega⟩, ⟨pR HO121.out⟩, ⟨by refine bk ?_; exact BK101.out⟩, ⟨by refine bk ?_; exact BK102.out⟩, ⟨by refine bk ?_; exact BK104.out⟩, ⟨by refine bk ?_; exact BK109.out⟩, ⟨pT HB.out⟩⟩
          rw [if_neg c43] at H
          exact absurd H (by simp)
         rw [if_neg c41] at H
         clear c41
         exact absurd H (by simp)
        rw [if_neg c25] at H
        have c25b0 : decide (x67_2 < 4) = false := decide_eq_false c25
        clear c25
        have H' := Aside0.mk H
        clear H
        go_wp2
        go_roundg k2
        case measure => have := HK1.out; have := HK2.out; omega
        case rel => exact ⟨(x6_2), (wrap64 (x18_1 + 1)), (by first | rfl | (simp; done) | (simp [*]; done)), H', ⟨by have := HK1.out; have := HK2.out; omega⟩, ⟨pR HO_6.out⟩, ⟨by refine bk ?_; exact BK101.out⟩, ⟨by refine bk ?_; exact BK102.out⟩, ⟨pT HB.out⟩⟩
     rw [if_neg c9] at H
     exact absurd H (by simp)
    rw [if_neg c8] at H
    exact absurd H (by simp)
   rw [if_neg c7] at H
   have c7b0 : decide (x18_1 < (l1.length : Int)) = false := decide_eq_false c7
   clear c7
   obtain rfl := Option.some.inj H
   go_wp2
   go_ret
   exact ⟨_, er, by (with_reducible repeat (first | apply Kd.R_alloc | apply Kd.R_drewN | apply Kd.R_drew)); exact HO_6.out, pT HB.out⟩
end Go.Proofs.Ytehjhcnimfhdnaa.P
namespace Go.Proofs.Ytehjhcnimfhdnaa.P
open Go.RowKit Go.Proofs.YtehjhcnimfhdnaaW.PrintWords Go.Proofs.YtehjhcnimfhdnaaW.PrintLast Go.Proofs.YtehjhcnimfhdnaaW.PrintMore
attribute [local go_sem] max2_int min2_int max_two min_two max_three min_three max_four min_four
set_option linter.unusedVariables false
set_option linter.unusedSimpArgs false
set_option maxHeartbeats 8000000
set_option maxRecDepth 100000
def impl_RegionBorder.f (k : Nat) (a0 : Int) (a1 : Int) (l2 : List Int) : Option (Int × Bool) := (impl_isRegion.f k a0 a1 l2).bind fun t101 => (if t101 = true then ((impl_sidesOf.f k a0 l2).bind fun t102 => (some ((t102.length : Int), true))) else (some (0, false)))
theorem impl_RegionBorder.calls (k : Nat) (a0 : Int) (a1 : Int) (A2 : Option Addr) (c2 : Nat) (l2 : List Int) (r1 : Int) (r2 : Bool) (w : World) (hr2 : Kd.C (Kd.int .i64) w A2 l2.length l2) (hc2 : l2.length ≤ c2) (h : impl_RegionBorder.f k a0 a1 l2 = some (r1, r2)) :
  Calls Try.prog 6 #[.int .i64 a0, .int .i64 a1, .slice A2 l2.length c2] w fun e w' => e = .returned (.tuple #[.int .i64 r1, .bool r2]) ∧ Below w.heap.size w w' := by
 have HR2 := Aside0.mk hr2
 have HC2 := Aside0.mk hc2
 clear hr2 hc2
 have HB := aK (Below.refl w.heap.size w)
 have H : ((impl_isRegion.f k a0 a1 l2).bind fun t101 => (if t101 = true then ((impl_sidesOf.f k a0 l2).bind fun t102 => (some ((t102.length : Int), true))) else (some (0, false)))) = some (r1, r2) := h
 clear h
 replace H := Option.bind_eq_some_iff.mp H
 obtain ⟨t101, A40, H⟩ := H
 replace H : (if t101 = true then ((impl_sidesOf.f k a0 l2).bind fun t102 => (some ((t102.length : Int), true))) else (some (0, false))) = some (r1, r2) := H
 have A4 := Aside0.mk A40
 clear A40
 by_cases c5 : t101 = true
 ·
  subst c5
  have H1 : ((impl_sidesOf.f k a0 l2).bind fun t102 => (some ((t102.length : Int), true))) = some (r1, r2) := by rw [if_pos rfl] at H; exact H
  clear H
  have H := H1
  clear H1
  replace H := Option.bind_eq_some_iff.mp H
  obtain ⟨t102, A60, H⟩ := H
  replace H : (some ((t102.length : Int), true)) = some (r1, r2) := H
  have A6 := Aside0.mk A60
  clear A60
  simp only [Option.some.injEq, Prod.mk.injEq] at H
  obtain ⟨rfl, rfl⟩ := H
  go_enter Try.func6, Try.ntmps6
  go_wp2_with (first | ((with_reducible refine gate_callee (f := 10) rfl ?_); refine gl (some 11) Try.func10 #[.int .i64 a0, .int .i64 a1, .slice A2 l2.length c2] ?_; (with_reducible refine (impl_isRegion.calls k a0 a1 _ _ l2 true _ ?side1 ?side2 A4.out).mono ?_); (case side1 => exact pC HR2.out); (case side2 => exact HC2.out); rintro e w' ⟨rfl, ⟨nd, rfl⟩⟩; refine ⟨_, rfl, ?_⟩) | ((with_reducible refine gate_callee (f := 11) rfl ?_); refine gl (some 15) Try.func11 #[.int .i64 a0, .slice A2 l2.length c2] ?_; (with_reducible refine (impl_sidesOf.calls k a0 _ _ l2 t102 _ ?side1 ?side2 A6.out).mono ?_); (case side1 => exact pC HR2.out); (case side2 => exact HC2.out); rintro e w7 ⟨v103, rfl, ho0, hb⟩; refine ⟨_, rfl, ?_⟩; have HO104 := aK (Kd.R_lower ho0 (below_size (pS HB.out))); replace HB := bS HB hb; (try clear hb); (try clear hb2); (try clear hk); (try clear hi); (try clear ho0); obtain ⟨Ao8, co8, eo8⟩ := Kd.R_slice HO104.out; subst eo8))
  go_ret2
  exact ⟨er, pT HB.out⟩
 replace c5 := Bool.eq_false_iff.mpr c5
 subst c5
 have H1 : (some (0, false)) = some (r1, r2) := by rw [if_neg (show ¬ (false = true) by decide)] at H; exact H
 clear H
 have H := H1
 clear H1
 simp only [Option.some.injEq, Prod.mk.injEq] at H
 obtain ⟨rfl, rfl⟩ := H
 go_enter Try.func6, Try.ntmps6
 go_wp2_with (first | ((with_reducible refine gate_callee (f := 10) rfl ?_); refine gl (some 11) Try.func10 #[.int .i64 a0, .int .i64 a1, .slice A2 l2.length c2] ?_; (with_reducible refine (impl_isRegion.calls k a0 a1 _ _ l2 false _ ?side1 ?side2 A4.out).mono ?_); (case side1 => exact pC HR2.out); (case side2 => exact HC2.out); rintro e w' ⟨rfl, ⟨nd, rfl⟩⟩; refine ⟨_, rfl, ?_⟩))
 go_ret2
 exact ⟨er, pT HB.out⟩
def laws_eqIntS.l0 : Nat → List Int → List Int → Int → Option (Bool)
 | 0, _, _, _ => none
 | k + 1, x0, x1, x5 => if x5 < (x0.length : Int) then (if 0 ≤ x5 then (if x5 < (x1.length : Int) then (if (rd x0 x5) = (rd x1 x5) then (laws_eqIntS.l0 k x0 x1 (wrap64 (x5 + 1))) else (some false)) else (none)) else (none)) else (some true)
def laws_eqIntS.f (k : Nat) (l0 : List Int) (l1 : List Int) : Option (Bool) := if (l0.length : Int) = (l1.length : Int) then (laws_eqIntS.l0 k l0 l1 0) else (some false)
theorem laws_eqIntS.calls (k : Nat) (A0 : Option Addr) (c0 : Nat) (l0 : List Int) (A1 : Option Addr) (c1 : Nat) (l1 : List Int) (r : Bool) (w : World) (hr0 : Kd.C (Kd.int .i64) w A0 l0.length l0) (hc0 : l0.length ≤ c0) (hr1 : Kd.C (Kd.int .i64) w A1 l1.length l1) (hc1 : l1.length ≤ c1) (h : laws_eqIntS.f k l0 l1 = some r) :
  Calls Try.prog 7 #[.slice A0 l0.length c0, .slice A1 l1.length c1] w fun e w' => e = .returned (.bool r) ∧ Drawn0 w w' := by
 have HR0 := Aside0.mk hr0
 have HC0 := Aside0.mk hc0
 clear hr0 hc0
 have HR1 := Aside0.mk hr1
 have HC1 := Aside0.mk hc1
 clear hr1 hc1
 have H : (if (l0.length : Int) = (l1.length : Int) then (laws_eqIntS.l0 k l0 l1 0) else (some false)) = some r := h
 clear h
 by_cases c3 : (l0.length : Int) = (l1.length : Int)
 ·
  rw [if_pos c3] at H
  have c3b0 : ((l0.length : Int) == (l1.length : Int)) = true := beq_iff_eq.mpr c3
  have c3b1 : ((l0.length : Int) != (l1.length : Int)) = false := bne_eq_false_iff_eq.mpr c3
  have c3b2 : (l0.length == l1.length) = true := by first | simpa using c3 | (simp at c3 ⊢; omega)
  clear c3
  have H' := Aside0.mk H
  clear H
  go_enter Try.func7, Try.ntmps7
  go_wp2
  repeat (go_quiet (fail); try go_wp2)
  go_loopg [5] k (fun kq v5 w' => ∃ (x5_1 : Int), v5 = .int .i64 x5_1 ∧ Aside0 (laws_eqIntS.l0 kq l0 l1 x5_1 = some r) ∧ Aside0 (kq ≤ k) ∧ Drawn0 w w')
  case atStart => exact ⟨(0), (by first | rfl | (simp; done) | (simp [*]; done)), H', ⟨Nat.le_refl _⟩, by repeat (first | exact Drawn0.refl _ | apply Drawn0.step)⟩
  case round =>
   clear H'
   try clear c1
   try clear p2
   try clear c3
   try clear c3b0
   try clear c3b1
   try clear c3b2
   obtain ⟨x5_1, rfl, HA, HK1, ⟨m1, rfl⟩⟩ := hrel
   cases gk with
   | zero => exact absurd HA.out (by simp [laws_eqIntS.l0])
   | succ k1 =>
    have H := HA.out
    clear HA
    simp only [laws_eqIntS.l0] at H
    by_cases c4 : x5_1 < (l0.length : Int)
    ·
     rw [if_pos c4] at H
     have c4b0 : decide (x5_1 < (l0.length : Int)) = true := decide_eq_true c4
     clear c4
     by_cases c5 : 0 ≤ x5_1
     ·
      rw [if_pos c5] at H
      have c5b0 : decide (0 ≤ x5_1) = true := decide_eq_true c5
      clear c5
      by_cases c6 : x5_1 < (l1.length : Int)
      ·
       rw [if_pos c6] at H
       have c6b0 : decide (x5_1 < (l1.length : Int)) = true := decide_eq_true c6
       clear c6
       by_cases c7 : (rd l0 x5_1) = (rd l1 x5_1)
       ·
        rw [if_pos c7] at H
        have c7b0 : ((rd l0 x5_1) == (rd l1 x5_1)) = true := beq_iff_eq.mpr c7
        have c7b1 : ((rd l0 x5_1) != (rd l1 x5_1)) = false := bne_eq_false_iff_eq.mpr c7
        clear c7
        have H' := Aside0.mk H
        clear H
        have p101 : 0 ≤ (x5_1 : Int) := of_decide_eq_true (by first | (with_reducible assumption) | assumption)
        have q101 : x5_1 < (l0.length : Int) := of_decide_eq_true (by first | (with_reducible assumption) | assumption)
        obtain ⟨ad101, e101, hx101_0⟩ := Kd.at_int HR0.out x5_1 p101 q101
        cases e101
        replace p101 := eq_true p101
        replace q101 := eq_true q101
        have p102 : 0 ≤ (x5_1 : Int) := of_decide_eq_true (by first | (with_reducible assumption) | assumption)
        have q102 : x5_1 < (l1.length : Int) := of_decide_eq_true (by first | (with_reducible assumption) | assumption)
        obtain ⟨ad102, e102, hx102_0⟩ := Kd.at_int HR1.out x5_1 p102 q102
        cases e102
        replace p102 := eq_true p102
        replace q102 := eq_true q102
        go_wp2
        repeat (go_quiet (fail); try go_wp2)
        go_roundg k1
        case measure => have := HK1.out; omega
        case rel => exact ⟨(wrap64 (x5_1 + 1)), (by first | rfl | (simp; done) | (simp [*]; done)), H', ⟨by have := HK1.out; omega⟩, by repeat (first | exact Drawn0.refl _ | apply Drawn0.step)⟩
       rw [if_neg c7] at H
       have c7b0 : ((rd l0 x5_1) == (rd l1 x5_1)) = false := beq_eq_false_iff_ne.mpr c7
       have c7b1 : ((rd l0 x5_1) != (rd l1 x5_1)) = true := bne_iff_ne.mpr c7
       obtain rfl := Option.some.inj H
       have p101 : 0 ≤ (x5_1 : Int) := of_decide_eq_true (by first | (with_reducible assumption) | assumption)
       have q101 : x5_1 < (l0.length : Int) := of_decide_eq_true (by first | (with_reducible assumption) | assumption)
       obtain ⟨ad101, e101, hx101_0⟩ := Kd.at_int HR0.out x5_1 p101 q101
       cases e101
       replace p101 := eq_true p101
       replace q101 := eq_true q101
       have p102 : 0 ≤ (x5_1 : Int) := of_decide_eq_true (by first | (with_reducible assumption) | assumption)
       have q102 : x5_1 < (l1.length : Int) := of_decide_eq_true (by first | (with_reducible assumption) | assumption)
       obtain ⟨ad102, e102, hx102_0⟩ := Kd.at_int HR1.out x5_1 p102 q102
       cases e102
       replace p102 := eq_true p102
       replace q102 := eq_true q102
       go_wp2
       repeat (go_quiet (fail); try go_wp2)
       go_ret
       exact ⟨by first | rfl | (simp; done) | (simp [*]; done), by repeat (first | exact Drawn0.refl _ | apply Drawn0.step)⟩
      rw [if_neg c6] at H
      exact absurd H (by simp)
     rw [if_neg c5] at H
     exact absurd H (by simp)
    rw [if_neg c4] at H
    have c4b0 : decide (x5_1 < (l0.length : Int)) = false := decide_eq_false c4
    clear c4
    obtain rfl := Option.some.inj H
    go_wp2
    repeat (go_quiet (fail); try go_wp2)
    go_ret
    exact ⟨by first | rfl | (simp; done) | (simp [*]; done), by repeat (first | exact Drawn0.refl _ | apply Drawn0.step)⟩
 rw [if_neg c3] at H
 have c3b0 : ((l0.length : Int) == (l1.length : Int)) = false := beq_eq_false_iff_ne.mpr c3
 have c3b1 : ((l0.length : Int) != (l1.length : Int)) = true := bne_iff_ne.mpr c3
 have c3b2 : (l0.length == l1.length) = false := by first | simpa using c3 | (simp at c3 ⊢; omega)
 obtain rfl := Option.some.inj H
 go_enter Try.func7, Try.ntmps7
 go_wp2
 repeat (go_quiet (fail); try go_wp2)
 go_ret
 exact ⟨by first | rfl | (simp; done) | (simp [*]; done), by repeat (first | exact Drawn0.refl _ | apply Drawn0.step)⟩
def laws_FnExactRegionBorder.j0 : Nat → List Int → List Int → Bool → Option (Bool)
 | 0, _, _, _ => none
 | k + 1, x2, x9, x39 => if x39 = true then (some false) else ((laws_toIntS.f k x2).bind fun t111 => ((laws_eqIntS.f k x9 t111).bind fun t114 => (if t114 = true then (some true) else (some false))))
def laws_FnExactRegionBorder.f (k : Nat) (a0 : Int) (a1 : Int) (l2 : List Int) : Option (Bool) := if (l2.length : Int) > 1048576 then (some true) else ((laws_toIntS.f k l2).bind fun t101 => ((spec_RegionBorder.f k a0 a1 t101).bind fun bt104 => ((laws_toIntS.f k l2).bind fun t106 => ((impl_RegionBorder.f k a0 a1 t106).bind fun bt109 => (if bt109.1 = bt104.1 then (laws_FnExactRegionBorder.j0 k l2 t106 (bt109.2 != bt104.2)) else (laws_FnExactRegionBorder.j0 k l2 t106 true))))))
theorem laws_FnExactRegionBorder.calls (k : Nat) (a0 : Int) (a1 : Int) (A2 : Option Addr) (c2 : Nat) (l2 : List Int) (r : Bool) (w : World) (hr2 : Kd.C (Kd.int .i64) w A2 l2.length l2) (hc2 : l2.length ≤ c2) (h : laws_FnExactRegionBorder.f k a0 a1 l2 = some r) :
  Calls Try.prog 3 #[.int .i64 a0, .int .i64 a1, .slice A2 l2.length c2] w fun e w' => e = .returned (.bool r) ∧ Below w.heap.size w w' := by
 have HR2 := Aside0.mk hr2
 have HC2 := Aside0.mk hc2
 clear hr2 hc2
 have HB := aK (Below.refl w.heap.size w)
 have H : (if (l2.length : Int) > 1048576 then (some true) else ((laws_toIntS.f k l2).bind fun t101 => ((spec_RegionBorder.f k a0 a1 t101).bind fun bt104 => ((laws_toIntS.f k l2).bind fun t106 => ((impl_RegionBorder.f k a0 a1 t106).bind fun bt109 => (if bt109.1 = bt104.1 then (laws_FnExactRegionBorder.j0 k l2 t106 (bt109.2 != bt104.2)) else (laws_FnExactRegionBorder.j0 k l2 t106 true))))))) = some r := h
 clear h
 by_cases c4 : (l2.length : Int) > 1048576
 ·
  rw [if_pos c4] at H
  have c4b0 : decide (1048576 < (l2.length : Int)) = true := decide_eq_true c4
  have c4b1 : decide (1048576 < l2.length) = true := decide_eq_true (by omega)
  clear c4
  obtain rfl := Option.some.inj H
  go_enter Try.func3, Try.ntmps3
  go_wp2
  go_ret
  exact ⟨er, pT HB.out⟩
 rw [if_neg c4] at H
 have c4b0 : decide (1048576 < (l2.length : Int)) = false := decide_eq_false c4
 have c4b1 : decide (1048576 < l2.length) = false := decide_eq_false (by omega)
 clear c4
 replace H := Option.bind_eq_some_iff.mp H
 obtain ⟨t101, A50, H⟩ := H
 replace H : ((spec_RegionBorder.f k a0 a1 t101).bind fun bt104 => ((laws_toIntS.f k l2).bind fun t106 => ((impl_RegionBorder.f k a0 a1 t106).bind fun bt109 => (if bt109.1 = bt104.1 then (laws_FnExactRegionBorder.j0 k l2 t106 (bt109.2 != bt104.2)) else (laws_FnExactRegionBorder.j0 k l2 t106 true))))) = some r := H
 have A5 := Aside0.mk A50
 clear A50
 replace H := Option.bind_eq_some_iff.mp H
 obtain ⟨⟨t104, t105⟩, A60, H⟩ := H
 replace H : ((laws_toIntS.f k l2).bind fun t106 => ((impl_RegionBorder.f k a0 a1 t106).bind fun bt109 => (if bt109.1 = t104 then (laws_FnExactRegionBorder.j0 k l2 t106 (bt109.2 != t105)) else (laws_FnExactRegionBorder.j0 k l2 t106 true)))) = some r := H
 have A6 := Aside0.mk A60
 clear A60
 replace H := Option.bind_eq_some_iff.mp H
 obtain ⟨t106, A70, H⟩ := H
 replace H : ((impl_RegionBorder.f k a0 a1 t106).bind fun bt109 => (if bt109.1 = t104 then (laws_FnExactRegionBorder.j0 k l2 t106 (bt109.2 != t105)) else (laws_FnExactRegionBorder.j0 k l2 t106 true))) = some r := H
 have A7 := Aside0.mk A70
 clear A70
 replace H := Option.bind_eq_some_iff.mp H
 obtain ⟨⟨t109, t110⟩, A80, H⟩ := H
 replace H : (if t109 = t104 then (laws_FnExactRegionBorder.j0 k l2 t106 (t110 != t105)) else (laws_FnExactRegionBorder.j0 k l2 t106 true)) = some r := H
 have A8 := Aside0.mk A80
 clear A80
 have HC9 := Aside0.mk H
 clear H
 go_enter Try.func3, Try.ntmps3
 go_upto_region 6 with (first | ((with_reducible refine gate_callee (f := 5) rfl ?_); refine gl (some 19) Try.func5 #[.slice A2 l2.length c2] ?_; (with_reducible refine (laws_toIntS.calls k _ _ l2 t101 _ ?side1 ?side2 A5.out).mono ?_); (case side1 => exact pC HR2.out); (case side2 => exact HC2.out); rintro e w10 ⟨v102, rfl, ho0, hb⟩; refine ⟨_, rfl, ?_⟩; have HO103 := aK (Kd.R_lower ho0 (below_size (pS HB.out))); replace HB := bS HB hb; (try clear hb); (try clear hb2); (try clear hk); (try clear hi); (try clear ho0); obtain ⟨Ao11, co11, eo11⟩ := Kd.R_slice HO103.out; subst eo11) | ((with_reducible refine gate_callee (f := 4) rfl ?_); refine gl (some 20) Try.func4 #[.int .i64 a0, .int .i64 a1, .slice Ao11 t101.length co11] ?_; (with_reducible refine (spec_RegionBorder.calls k a0 a1 _ _ t101 t104 t105 _ ?side1 ?side2 A6.out).mono ?_); (case side1 => exact pC (Kd.R_reads' HO103.out).2.2); (case side2 => exact (Kd.R_reads' HO103.out).2.1); rintro e w12 ⟨rfl, hb⟩; refine ⟨_, rfl, ?_⟩; have n0_ := aK (Kd.R_below (pR HO103.out) hb); replace HB := bS HB hb; clear HO103; have HO103 := n0_; clear n0_; (try clear hb); (try clear hb2); (try clear hk); (try clear hi)) | ((with_reducible refine gate_callee (f := 5) rfl ?_); refine gl (some 24) Try.func5 #[.slice A2 l2.length c2] ?_; (with_reducible refine (laws_toIntS.calls k _ _ l2 t106 _ ?side1 ?side2 A7.out).mono ?_); (case side1 => exact pC (Kd.C_below HR2.out HB.out)); (case side2 => exact HC2.out); rintro e w13 ⟨v107, rfl, ho0, hb⟩; refine ⟨_, rfl, ?_⟩; have n0_ := aK (Kd.R_elder' (pR HO103.out) (Kd.R_base ho0) hb); have HO108 := aK (Kd.R_lower (nw1 ho0 (pR HO103.out)) (below_size (pS HB.out))); replace HB := bS HB hb; clear HO103; have HO103 := n0_; clear n0_; (try clear hb); (try clear hb2); (try clear hk); (try clear hi); (try clear ho0); obtain ⟨Ao14, co14, eo14⟩ := Kd.R_slice HO108.out; subst eo14) | ((with_reducible refine gate_callee (f := 6) rfl ?_); refine gl (some 29) Try.func6 #[.int .i64 a0, .int .i64 a1, .slice Ao14 t106.length co14] ?_; (with_reducible refine (impl_RegionBorder.calls k a0 a1 _ _ t106 t109 t110 _ ?side1 ?side2 A8.out).mono ?_); (case side1 => exact pC (Kd.R_reads' HO108.out).2.2); (case side2 => exact (Kd.R_reads' HO108.out).2.1); rintro e w15 ⟨rfl, hb⟩; refine ⟨_, rfl, ?_⟩; have n0_ := aK (Kd.R_below (pR HO103.out) hb); have n1_ := aK (Kd.R_below (pR HO108.out) hb); replace HB := bS HB hb; clear HO103 HO108; have HO103 := n0_; have HO108 := n1_; clear n0_ n1_; (try clear hb); (try clear hb2); (try clear hk); (try clear hi)))
 (try simp only [Act.put, List.setIfInBounds_toArray, List.set_cons_zero, List.set_cons_succ])
 go_cut [39] (fun v39 wc => ∃ (kq : Nat) (x39_8 : Bool), v39 = .bool x39_8 ∧ Aside0 (laws_FnExactRegionBorder.j0 kq l2 t106 x39_8 = some r) ∧ Aside0 (kq ≤ k) ∧ Aside0 (Kd.R (Kd.int .i64) 3 wc w.heap.size (fun _ => True) (.slice Ao14 t106.length co14) t106) ∧ Aside0 (Below w.heap.size w wc))
 case first =>
  have H := HC9.out
  clear HC9
  by_cases c16 : t109 = t104
  ·
   rw [if_pos c16] at H
   have c16b0 : (t109 == t104) = true := beq_iff_eq.mpr c16
   have c16b1 : (t109 != t104) = false := bne_eq_false_iff_eq.mpr c16
   clear c16
   (first | rw [c16b0] | (simp only [i64_w, i32_w]; rw [c16b0]) | skip)
   have H' := Aside0.mk H
   clear H
   go_wp2
   go_meet
   case rel => exact ⟨_, ((t110 != t105)), (by first | rfl | (simp; done) | (simp [*]; done)), H', ⟨by first | omega | exact Nat.le_refl _⟩, ⟨pR (Kd.R_mono HO108.out (fun _ hk => trivial))⟩, ⟨pT HB.out⟩⟩
  rw [if_neg c16] at H
  have c16b0 : (t109 == t104) = false := beq_eq_false_iff_ne.mpr c16
  have c16b1 : (t109 != t104) = true := bne_iff_ne.mpr c16
  (first | rw [c16b0] | (simp only [i64_w, i32_w]; rw [c16b0]) | skip)
  have H' := Aside0.mk H
  clear H
  go_wp2
  go_meet
  case rel => exact ⟨_, (true), (by first | rfl | (simp; done) | (simp [*]; done)), H', ⟨by first | omega | exact Nat.le_refl _⟩, ⟨pR (Kd.R_mono HO108.out (fun _ hk => trivial))⟩, ⟨pT HB.out⟩⟩
 case rest =>
  clear HC9
  try clear c1
  try clear c2
  try clear p2
  try clear c3
  try clear c4
  try clear c4b0
  try clear c4b1
  try clear c5
  try clear c6
  try clear c16
  try clear c16b0
  try clear c16b1
  obtain ⟨kq, x39_8, rfl, HA, HJ8, HO_9, HB⟩ := hcut
  cases kq with
  | zero => exact absurd HA.out (by simp [laws_FnExactRegionBorder.j0])
  | succ kj8 =>
   have H := HA.out
   clear HA
   simp only [laws_FnExactRegionBorder.j0] at H
   by_cases c17 : x39_8 = true
   ·
    subst c17
    have H1 : (some false) = some r := by rw [if_pos rfl] at H; exact H
    clear H
    have H := H1
    clear H1
    obtain rfl := Option.some.inj H
    go_wp2
    go_ret
    exact ⟨er, pT HB.out⟩
   replace c17 := Bool.eq_false_iff.mpr c17
   subst c17
   have H1 : ((laws_toIntS.f kj8 l2).bind fun t111 => ((laws_eqIntS.f kj8 t106 t111).bind fun t114 => (if t114 = true then (some true) else (some false)))) = some r := by rw [if_neg (show ¬ (false = true) by decide)] at H; exact H
   clear H
   have H := H1
   clear H1
   replace H := Option.bind_eq_some_iff.mp H
   obtain ⟨t111, A180, H⟩ := H
   replace H : ((laws_eqIntS.f kj8 t106 t111).bind fun t114 => (if t114 = true then (some true) else (some false))) = some r := H
   have A18 := Aside0.mk A180
   clear A180
   replace H := Option.bind_eq_some_iff.mp H
   obtain ⟨t114, A190, H⟩ := H
   replace H : (if t114 = true then (some true) else (some false)) = some r := H
   have A19 := Aside0.mk A190
   clear A190
   by_cases c20 : t114 = true
   ·
    subst c20
    have H1 : (some true) = some r := by rw [if_pos rfl] at H; exact H
    clear H
    have H := H1
    clear H1
    obtain rfl := Option.some.inj H
    go_wp2_with (first | ((with_reducible refine gate_callee (f := 5) rfl ?_); refine gl (some 42) Try.func5 #[.slice A2 l2.length c2] ?_; (with_reducible refine (laws_toIntS.calls kj8 _ _ l2 t111 _ ?side1 ?side2 A18.out).mono ?_); (case side1 => exact pC (Kd.C_below HR2.out HB.out)); (case side2 => exact HC2.out); rintro e w21 ⟨v112, rfl, ho0, hb⟩; refine ⟨_, rfl, ?_⟩; have n0_ := aK (Kd.R_elder' (pR HO_9.out) (Kd.R_base ho0) hb); have HO113 := aK (Kd.R_lower (nw1 ho0 (pR HO_9.out)) (below_size (pS HB.out))); replace HB := bS HB hb; clear HO_9; have HO_9 := n0_; clear n0_; (try clear hb); (try clear hb2); (try clear hk); (try clear hi); (try clear ho0); obtain ⟨Ao22, co22, eo22⟩ := Kd.R_slice HO113.out; subst eo22) | ((with_reducible refine gate_callee (f := 7) rfl ?_); refine gl (some 43) Try.func7 #[.slice Ao14 t106.length co14, .slice Ao22 t111.length co22] ?_; (with_reducible refine (laws_eqIntS.calls kj8 _ _ t106 _ _ t111 true _ ?side1 ?side2 ?side3 ?side4 A19.out).mono ?_); (case side1 => exact pC (Kd.R_reads' HO_9.out).2.2); (case side2 => exact (Kd.R_reads' HO_9.out).2.1); (case side3 => exact pC (Kd.R_reads' HO113.out).2.2); (case side4 => exact (Kd.R_reads' HO113.out).2.1); rintro e w' ⟨rfl, ⟨nd, rfl⟩⟩; refine ⟨_, rfl, ?_⟩))
    go_ret
    exact ⟨er, pT HB.out⟩
   replace c20 := Bool.eq_false_iff.mpr c20
   subst c20
   have H1 : (some false) = some r := by rw [if_neg (show ¬ (false = true) by decide)] at H; exact H
   clear H
   have H := H1
   clear H1
   obtain rfl := Option.some.inj H
   go_wp2_with (first | ((with_reducible refine gate_callee (f := 5) rfl ?_); refine gl (some 42) Try.func5 #[.slice A2 l2.length c2] ?_; (with_reducible refine (laws_toIntS.calls kj8 _ _ l2 t111 _ ?side1 ?side2 A18.out).mono ?_); (case side1 => exact pC (Kd.C_below HR2.out HB.out)); (case side2 => exact HC2.out); rintro e w23 ⟨v112, rfl, ho0, hb⟩; refine ⟨_, rfl, ?_⟩; have n0_ := aK (Kd.R_elder' (pR HO_9.out) (Kd.R_base ho0) hb); have HO113 := aK (Kd.R_lower (nw1 ho0 (pR HO_9.out)) (below_size (pS HB.out))); replace HB := bS HB hb; clear HO_9; have HO_9 := n0_; clear n0_; (try clear hb); (try clear hb2); (try clear hk); (try clear hi); (try clear ho0); obtain ⟨Ao24, co24, eo24⟩ := Kd.R_slice HO113.out; subst eo24) | ((with_reducible refine gate_callee (f := 7) rfl ?_); refine gl (some 43) Try.func7 #[.slice Ao14 t106.length co14, .slice Ao24 t111.length co24] ?_; (with_reducible refine (laws_eqIntS.calls kj8 _ _ t106 _ _ t111 false _ ?side1 ?side2 ?side3 ?side4 A19.out).mono ?_); (case side1 => exact pC (Kd.R_reads' HO_9.out).2.2); (case side2 => exact (Kd.R_reads' HO_9.out).2.1); (case side3 => exact pC (Kd.R_reads' HO113.out).2.2); (case side4 => exact (Kd.R_reads' HO113.out).2.1); rintro e w' ⟨rfl, ⟨nd, rfl⟩⟩; refine ⟨_, rfl, ?_⟩))
   go_ret
   exact ⟨er, pT HB.out⟩
def laws_FnExactRegionBorder.Pure : Prop := ∀ (a0 : Int) (a1 : Int) (l2 : List Int), (Lit.int .i64 a0).wf = true → (Lit.int .i64 a1).wf = true → (l2.length ≤ 9223372036854775807 ∧ ∀ z0 ∈ l2, (Lit.int .i64 z0).wf = true) → l2.length * 8 ≤ 140737488351232 → ∃ k, laws_FnExactRegionBorder.f k a0 a1 l2 = some true
end Go.Proofs.Ytehjhcnimfhdnaa.P
namespace Go.Proofs.Ytehjhcnimfhdnaa.Open
open Go.ChangeShapes Go.WideShapes Go.RowKit Go.Deep Go.Joins Go.Proofs.YtehjhcnimfhdnaaW.PrintWords
def Opens {α : Type} (P : Program) (t : TypeId) (d : Kd α) (wf : α → Prop) : Prop :=
  ∀ {H : Type} {enc : TypeId × Value → H} {W : World} {fuel : Nat} {cs : List Value} {x : DataW H × List MemPlace},
    DataW.trod enc P W 0 (fun _ => true) true fuel t cs = some x → ∃ y, d.K W y cs ∧ wf y
theorem opens_int {P : Program} {t : TypeId} {k : IntKind} (h : P.underlying t = some (.int k)) : Opens P t (Kd.int k) (fun n => (Lit.int k n).wf = true) := by
  intro H enc W fuel cs x hx
  obtain ⟨n, rfl, _, hw⟩ := DataW.trod_int h hx
  exact ⟨n, rfl, hw⟩
theorem list_of {α : Type} {p : Nat → α → Prop} : ∀ (n : Nat), (∀ i, i < n → ∃ y, p i y) → ∃ ys : List α, ys.length = n ∧ ∀ (i : Nat) (y : α), ys[i]? = some y → p i y
  | 0, _ => ⟨[], rfl, fun i y h => by simp at h⟩
  | n + 1, h => by
    obtain ⟨ys, hl, hy⟩ := list_of n (fun i hi => h i (by omega))
    obtain ⟨y, hp⟩ := h n (by omega)
    refine ⟨ys ++ [y], by simp [hl], fun i z hz => ?_⟩
    by_cases hi : i < n
    · rw [List.getElem?_append_left (by omega)] at hz
      exact hy i z hz
    · have hi2 : i = n := by
        have := (List.getElem?_eq_some_iff.1 hz).1
        simp [hl] at this
        omega
      subst hi2
      rw [List.getElem?_append_right (by omega), hl] at hz
      simp at hz
      subst hz
      exact hp
theorem opens_slice {α : Type} {P : Program} {t e : TypeId} {d : Kd α} {wf : α → Prop} (h : P.underlying t = some (.slice e)) (hc : P.cellsOf e = d.sz) (he : Opens P e d wf) :
    Opens P t (Kd.slice e d) (fun l => l.length ≤ 9223372036854775807 ∧ ∀ x ∈ l, wf x) := by
  intro H enc W fuel cs x hx
  rcases open_slice h hx with ⟨rfl, _⟩ | ⟨a, len, cap, m, n, D, Pl, rfl, _, hl, hm, hmm, _, hx⟩
  · exact ⟨[], ⟨none, 0, rfl, by simp, Kd.C_nil d W⟩, by simp, by simp⟩
  · obtain ⟨ys, hlen, hy⟩ := list_of (p := fun i y => ∃ cs', W.cells? 0 (a.add (i * P.cellsOf e)) (P.cellsOf e) = some cs' ∧ d.K W y cs' ∧ wf y) len (fun i hi => by
      obtain ⟨cs', h1, h2⟩ := hx i (by rw [hmm]; split <;> omega)
      obtain ⟨y, hK, hw⟩ := he h2
      exact ⟨y, cs', h1, hK, hw⟩)
    have hm' : cap ≤ 9223372036854775807 := by simpa [maxLen] using hm
    refine ⟨ys, ⟨some a, cap, by rw [hlen], by omega, ⟨rfl, by omega, fun _ => ⟨a, rfl, fun j y hj => ?_⟩⟩⟩, by omega, fun y hmem => ?_⟩
    · obtain ⟨cs', h1, hK, _⟩ := hy j y hj
      obtain ⟨_, hl2, hcell⟩ := World.cells?_some h1
      refine ⟨cs', d.K_len hK, hK, fun i u hu => ?_⟩
      have hi : i < P.cellsOf e := by
        have := (List.getElem?_eq_some_iff.1 hu).1
        omega
      rw [← hc, ← Go.Deep.add_add, hcell i hi]
      exact hu
    · obtain ⟨j, hj⟩ := List.getElem?_of_mem hmem
      obtain ⟨_, _, _, hw⟩ := hy j y hj
      exact hw
theorem sized_any {H : Type} {enc : TypeId × Value → H} {P : Program} {W : World} {base : Nat} {spare : Nat → Bool} {held : Bool} {t e : TypeId} {a : Option Addr} {len cap : Nat} {d : DataW H} {ps : List MemPlace} {ts : List TypeId} {ds : List (DataW H)} {j : Nat}
    (hsz : (DataW.weightsEach P ts ds).all (· ≤ reachBytes) = true) (ht : ts[j]? = some t) (hd : ds[j]? = some d) (hu : P.underlying t = some (.slice e)) {B : Nat} (hB : P.bytesOf e = B)
    (h : DataW.Trod enc P W base spare held t (.slice a len cap) d ps) : len * B ≤ 140737488351232 := by
  obtain ⟨fuel, hf⟩ := h
  rcases open_slice hu hf with ⟨hcs, _⟩ | ⟨x, l, c, m, n, D, Pl, hcs, _, hl, _, _, hx, _⟩
  · simp [Value.cells] at hcs
    obtain ⟨rfl, rfl, rfl⟩ := hcs
    simp
  · simp [Value.cells] at hcs
    obtain ⟨rfl, rfl, rfl⟩ := hcs
    obtain ⟨hx, _⟩ := Prod.mk.inj hx
    subst hx
    have z := sized_slice hsz ht hd hu
    rw [hB] at z
    refine Nat.le_trans (Nat.mul_le_mul_right _ ?_) z
    simp
theorem slice_at {α : Type} {P : Program} {W : World} {t e : TypeId} {d : Kd α} {wf : List α → Prop} {H : Type} {enc : TypeId × Value → H} {a : Option Addr} {len cap : Nat} {dd : DataW H} {ps : List MemPlace} (ho : Opens P t (Kd.slice e d) wf)
    (h : DataW.Trod enc P W 0 (fun _ => true) true t (.slice a len cap) dd ps) : ∃ l : List α, len = l.length ∧ l.length ≤ cap ∧ d.C W a l.length l ∧ wf l := by
  obtain ⟨fuel, hf⟩ := h
  obtain ⟨l, ⟨A, c, hcs, hl, hC⟩, hw⟩ := ho hf
  simp [Value.cells] at hcs
  obtain ⟨rfl, rfl, rfl⟩ := hcs
  exact ⟨l, rfl, hl, hC, hw⟩
section
variable {P : Program} {t : TypeId} {W : World} {H : Type} {enc : TypeId × Value → H} {r : Reach} {b0 : Nat} {v : Value} {d : DataW H} {p : List MemPlace}
end
end Go.Proofs.Ytehjhcnimfhdnaa.Open
namespace Go.Proofs.Ytehjhcnimfhdnaa.P
open Go.RowKit Go.Proofs.YtehjhcnimfhdnaaW.PrintWords Go.Proofs.YtehjhcnimfhdnaaW.PrintLast Go.Proofs.YtehjhcnimfhdnaaW.PrintMore
attribute [local go_sem] max2_int min2_int max_two min_two max_three min_three max_four min_four
set_option linter.unusedVariables false
set_option linter.unusedSimpArgs false
open Go.Proofs.Ytehjhcnimfhdnaa.Open
end Go.Proofs.Ytehjhcnimfhdnaa.P
namespace Go.Proofs.Ytehjhcnimfhdnaa.Pure
set_option linter.unusedVariables false
set_option linter.unusedSimpArgs false
open Go.RowKit Go.Proofs.YtehjhcnimfhdnaaW.PrintWords Go.Proofs.YtehjhcnimfhdnaaW.PrintLast Go.Proofs.YtehjhcnimfhdnaaW.PrintMore
theorem w64 {x : Int} (h0 : -9223372036854775808 ≤ x) (h1 : x ≤ 9223372036854775807) : wrap64 x = x := by
  unfold wrap64
  omega
theorem rd_nat (xs : List Int) (i : Nat) : rd xs (i : Int) = xs.getD i 0 := by simp [rd]
section
variable {α β : Type} {f g : Nat → Option α} {r : α}
theorem ev_some (r : α) : Ev (fun _ => some r) r := ⟨0, fun _ _ => rfl⟩
theorem ev_ifp {c : Prop} [Decidable c] (h : c) (k : Ev f r) : Ev (fun n => if c then f n else g n) r := Ev.congr (fun _ => if_pos h) k
theorem ev_ifn {c : Prop} [Decidable c] (h : ¬ c) (k : Ev g r) : Ev (fun n => if c then f n else g n) r := Ev.congr (fun _ => if_neg h) k
theorem ev_bind {F : Nat → α → Option β} {q : β} (h : Ev g r) (k : Ev (fun n => F n r) q) : Ev (fun n => (g n).bind (fun x => F n x)) q := by
  obtain ⟨K1, h1⟩ := h
  obtain ⟨K2, h2⟩ := k
  exact ⟨K1 + K2, fun n hn => by show (g n).bind (fun x => F n x) = some q; rw [h1 n (by omega)]; exact h2 n (by omega)⟩
theorem ev_const {a : Option α} (h : a = some r) : Ev (fun _ => a) r := ⟨0, fun _ _ => h⟩
theorem ev_step (h : ∀ k, g (k + 1) = f k) (k : Ev f r) : Ev g r := by
  obtain ⟨K, h1⟩ := k
  refine ⟨K + 1, fun n hn => ?_⟩
  obtain ⟨m, rfl⟩ : ∃ m, n = m + 1 := ⟨n - 1, by omega⟩
  rw [h m]
  exact h1 m (by omega)
end
def iter {σ : Type} (g : Nat → σ → σ) : Nat → Nat → σ → σ
  | _, 0, s => s
  | i, d + 1, s => iter g (i + 1) d (g i s)
theorem loop_ev {σ ρ : Type} (F : Nat → σ → Nat → Option ρ) (n : Nat) (g : Nat → σ → σ) (fin : σ → ρ) (I : Nat → σ → Prop)
    (hs : ∀ i s r, I i s → i < n → Ev (fun k => F k (g i s) (i + 1)) r → Ev (fun k => F k s i) r) (hI : ∀ i s, I i s → i < n → I (i + 1) (g i s))
    (he : ∀ s, I n s → Ev (fun k => F k s n) (fin s)) : ∀ i s, i ≤ n → I i s → Ev (fun k => F k s i) (fin (iter g i (n - i) s)) := by
  have key : ∀ d i s, n - i = d → i ≤ n → I i s → Ev (fun k => F k s i) (fin (iter g i d s)) := by
    intro d
    induction d with
    | zero =>
      intro i s h0 h1 h2
      obtain rfl : i = n := by omega
      exact he s h2
    | succ d ih =>
      intro i s h0 h1 h2
      exact hs i s _ h2 (by omega) (ih (i + 1) (g i s) (by omega) (by omega) (hI i s h2 (by omega)))
  exact fun i s h1 h2 => key (n - i) i s rfl h1 h2
theorem iter_inv {σ : Type} (g : Nat → σ → σ) (I : Nat → σ → Prop) (n : Nat) (hI : ∀ i s, I i s → i < n → I (i + 1) (g i s)) : ∀ d i s, i + d = n → I i s → I n (iter g i d s) := by
  intro d
  induction d with
  | zero => intro i s h0 h1; obtain rfl : i = n := by omega
            exact h1
  | succ d ih => intro i s h0 h1; exact ih (i + 1) _ (by omega) (hI i s h1 (by omega))
def rall (p : Nat → Bool) : Nat → Nat → Bool
  | _, 0 => true
  | i, d + 1 => p i && rall p (i + 1) d
theorem rall_iff (p : Nat → Bool) : ∀ d i, rall p i d = true ↔ ∀ j, i ≤ j → j < i + d → p j = true
  | 0, i => ⟨fun _ j h1 h2 => by omega, fun _ => rfl⟩
  | d + 1, i => by
    show (p i && rall p (i + 1) d) = true ↔ _
    rw [Bool.and_eq_true, rall_iff p d (i + 1)]
    constructor
    · rintro ⟨h0, h1⟩ j h2 h3
      by_cases e : j = i
      · rw [e]; exact h0
      · exact h1 j (by omega) (by omega)
    · intro h
      exact ⟨h i (Nat.le_refl _) (by omega), fun j h2 h3 => h j (by omega) (by omega)⟩
theorem rall_congr {p q : Nat → Bool} : ∀ d i, (∀ j, i ≤ j → j < i + d → p j = q j) → rall p i d = rall q i d
  | 0, _, _ => rfl
  | d + 1, i, h => by
    show (p i && rall p (i + 1) d) = (q i && rall q (i + 1) d)
    rw [h i (Nat.le_refl _) (by omega), rall_congr d (i + 1) (fun j h1 h2 => h j (by omega) (by omega))]
theorem all_ev {ρ : Type} (F : Nat → Nat → Option ρ) (n : Nat) (p : Nat → Bool) (no yes : ρ) (hs : ∀ i r, i < n → p i = true → Ev (fun k => F k (i + 1)) r → Ev (fun k => F k i) r)
    (hn : ∀ i, i < n → p i = false → Ev (fun k => F k i) no) (he : Ev (fun k => F k n) yes) :
    ∀ i, i ≤ n → Ev (fun k => F k i) (if rall p i (n - i) = true then yes else no) := by
  have key : ∀ d i, n - i = d → i ≤ n → Ev (fun k => F k i) (if rall p i d = true then yes else no) := by
    intro d
    induction d with
    | zero =>
      intro i h0 h1
      obtain rfl : i = n := by omega
      rw [show rall p i 0 = true from rfl, if_pos rfl]
      exact he
    | succ d ih =>
      intro i h0 h1
      have h := ih (i + 1) (by omega) (by omega)
      have e : rall p i (d + 1) = (p i && rall p (i + 1) d) := rfl
      cases hp : p i with
      | true =>
        rw [e, hp, Bool.true_and]
        exact hs i _ (by omega) hp h
      | false =>
        rw [e, hp, Bool.false_and, if_neg (by simp)]
        exact hn i (by omega) hp
  exact fun i h1 => key (n - i) i rfl h1
theorem allb_ev (F : Nat → Nat → Option Bool) (n : Nat) (p : Nat → Bool) (hs : ∀ i r, i < n → p i = true → Ev (fun k => F k (i + 1)) r → Ev (fun k => F k i) r)
    (hn : ∀ i, i < n → p i = false → Ev (fun k => F k i) false) (he : Ev (fun k => F k n) true) : Ev (fun k => F k 0) (rall p 0 n) := by
  have h := all_ev F n p false true hs hn he 0 (Nat.zero_le _)
  rw [Nat.sub_zero] at h
  cases e : rall p 0 n <;> simpa [e] using h
theorem getD_eq_get {α : Type} {xs : List α} {i : Nat} (z : α) (h : i < xs.length) : xs.getD i z = xs[i] := by simp [List.getD, List.getElem?_eq_getElem h]
theorem rall_list {α : Type} (xs : List α) (z : α) (p : α → Bool) : rall (fun j => p (xs.getD j z)) 0 xs.length = xs.all p := by
  rw [Bool.eq_iff_iff, rall_iff, List.all_eq_true]
  constructor
  · intro h x hx
    obtain ⟨i, hi, rfl⟩ := List.getElem_of_mem hx
    rw [← getD_eq_get z hi]
    exact h i (Nat.zero_le _) (by omega)
  · intro h j _ hj
    rw [getD_eq_get z (by omega)]
    exact h _ (List.getElem_mem (by omega))
theorem eq_index {α : Type} {xs ys : List α} (z : α) (h : xs.length = ys.length) (hh : ∀ j, j < xs.length → xs.getD j z = ys.getD j z) : xs = ys := by
  refine List.ext_getElem h (fun i h1 h2 => ?_)
  rw [← getD_eq_get z h1, ← getD_eq_get z h2]
  exact hh i h1
theorem rall_eq {α : Type} [DecidableEq α] {xs ys : List α} (z : α) (h : xs.length = ys.length) : rall (fun j => decide (xs.getD j z = ys.getD j z)) 0 xs.length = decide (xs = ys) := by
  rw [Bool.eq_iff_iff, rall_iff, decide_eq_true_eq]
  constructor
  · exact fun hh => eq_index z h (fun j hj => by simpa using hh j (Nat.zero_le _) (by omega))
  · rintro rfl j _ _
    simp
def fidx (p : Nat → Bool) : Nat → Nat → Int
  | _, 0 => -1
  | i, d + 1 => if p i = true then (i : Int) else fidx p (i + 1) d
theorem fidx_nonneg (p : Nat → Bool) : ∀ d i, decide (fidx p i d ≥ 0) = !rall (fun j => !p j) i d
  | 0, i => rfl
  | d + 1, i => by
    have h := fidx_nonneg p d (i + 1)
    show decide ((if p i = true then (i : Int) else fidx p (i + 1) d) ≥ 0) = !((!p i) && rall (fun j => !p j) (i + 1) d)
    cases e : p i with
    | true => simp
    | false => simpa using h
theorem find_ev (F : Nat → Nat → Option Int) (n : Nat) (p : Nat → Bool) (hs : ∀ i r, i < n → p i = false → Ev (fun k => F k (i + 1)) r → Ev (fun k => F k i) r) (hx : ∀ i, i < n → p i = true → Ev (fun k => F k i) (i : Int))
    (he : Ev (fun k => F k n) (-1)) : Ev (fun k => F k 0) (fidx p 0 n) := by
  have key : ∀ d i, n - i = d → i ≤ n → Ev (fun k => F k i) (fidx p i d) := by
    intro d
    induction d with
    | zero =>
      intro i h0 h1
      obtain rfl : i = n := by omega
      exact he
    | succ d ih =>
      intro i h0 h1
      show Ev (fun k => F k i) (if p i = true then (i : Int) else fidx p (i + 1) d)
      cases e : p i with
      | true => rw [if_pos rfl]; exact hx i (by omega) e
      | false => rw [if_neg (by simp)]; exact hs i _ (by omega) e (ih (i + 1) (by omega) (by omega))
  exact key n 0 (by omega) (Nat.zero_le _)
end Go.Proofs.Ytehjhcnimfhdnaa.Pure
namespace Go.Proofs.Ytehjhcnimfhdnaa.Pure
set_option linter.unusedVariables false
set_option linter.unusedSimpArgs false
open Go.RowKit Go.Proofs.Ytehjhcnimfhdnaa.P Go.Proofs.YtehjhcnimfhdnaaW.PrintWords Go.Proofs.YtehjhcnimfhdnaaW.PrintLast
def inb (x a b : Int) : Bool := decide (a ≤ x) && decide (x ≤ b)
theorem inb_iff {x a b : Int} : inb x a b = true ↔ a ≤ x ∧ x ≤ b := by simp [inb]
theorem l1In_is (x a b : Int) : spec_l1In.f x a b = some (inb x a b) := by
  unfold spec_l1In.f inb
  split
  · rename_i h; simp [show a ≤ x from h]
  · rename_i h; simp [show ¬ a ≤ x from h]
theorem within_is (x a b : Int) : impl_within.f x a b = some (inb x a b) := l1In_is x a b
theorem allWithin_ev (l : List Int) (a b : Int) (hl : l.length ≤ 9223372036854775806) : Ev (fun k => impl_allWithin.f k l a b) (rall (fun i => inb (l.getD i 0) a b) 0 l.length) :=
  allb_ev (fun k i => impl_allWithin.l0 k a b l (l.length : Int) (i : Int)) l.length (fun i => inb (l.getD i 0) a b)
    (fun i r hi hp h => ev_step (fun k => by
      simp only [impl_allWithin.l0, within_is, Option.bind_some, rd_nat]
      rw [if_pos (by omega), if_pos (by omega), if_pos (by omega), if_pos hp, w64 (by omega) (by omega)]
      rfl) h)
    (fun i hi hp => ev_step (f := fun _ => some false) (fun k => by
      simp only [impl_allWithin.l0, within_is, Option.bind_some, rd_nat]
      rw [if_pos (by omega), if_pos (by omega), if_pos (by omega), if_neg (by rw [hp]; decide)]) (ev_some _))
    (ev_step (f := fun _ => some true) (fun k => by
      simp only [impl_allWithin.l0]
      rw [if_neg (by omega)]) (ev_some _))
theorem mul_bd {a b : Int} (a1 : 1 ≤ a) (a8 : a ≤ 8) (b1 : 1 ≤ b) (b8 : b ≤ 8) : 1 ≤ a * b ∧ a * b ≤ 64 := by
  obtain h | h | h | h | h | h | h | h : a = 1 ∨ a = 2 ∨ a = 3 ∨ a = 4 ∨ a = 5 ∨ a = 6 ∨ a = 7 ∨ a = 8 := by omega
  all_goals subst h; omega
theorem l2Shape_is (a b : Int) : spec_l2Shape.f a b = some (inb a 1 8 && inb b 1 8) := by
  unfold spec_l2Shape.f
  rw [l1In_is, l1In_is]
  cases inb a 1 8 <;> simp
theorem shape_iff {a b : Int} : (inb a 1 8 && inb b 1 8) = true ↔ (1 ≤ a ∧ a ≤ 8) ∧ 1 ≤ b ∧ b ≤ 8 := by rw [Bool.and_eq_true, inb_iff, inb_iff]
def rising (l : List Int) : Bool := rall (fun i => decide (l.getD i 0 < l.getD (i + 1) 0)) 0 (l.length - 1)
def regionOk (a b : Int) (l : List Int) : Bool := (inb a 1 8 && inb b 1 8) && (rising l && rall (fun i => inb (l.getD i 0) 0 (a * b - 1)) 0 l.length)
theorem increasing_ev (l : List Int) (hl : l.length ≤ 9223372036854775806) : Ev (fun k => impl_increasing.f k l) (rising l) := by
  have h := allb_ev (fun k i => impl_increasing.l0 k l ((i : Int) + 1)) (l.length - 1) (fun i => decide (l.getD i 0 < l.getD (i + 1) 0))
    (fun i r hi hp h => ev_step (fun k => by
      simp only [impl_increasing.l0]
      rw [if_pos (by omega), show wrap64 ((i : Int) + 1 - 1) = (i : Int) by rw [w64 (by omega) (by omega)]; omega, if_pos (by omega), if_pos (by omega), if_pos (by omega), show ((i : Int) + 1) = ((i + 1 : Nat) : Int) by omega, rd_nat, rd_nat,
        if_neg (by have := of_decide_eq_true hp; omega), w64 (by omega) (by omega)]) h)
    (fun i hi hp => ev_step (f := fun _ => some false) (fun k => by
      simp only [impl_increasing.l0]
      rw [if_pos (by omega), show wrap64 ((i : Int) + 1 - 1) = (i : Int) by rw [w64 (by omega) (by omega)]; omega, if_pos (by omega), if_pos (by omega), if_pos (by omega), show ((i : Int) + 1) = ((i + 1 : Nat) : Int) by omega, rd_nat, rd_nat,
        if_pos (by have := of_decide_eq_false hp; omega)]) (ev_some _))
    (ev_step (f := fun _ => some true) (fun k => by
      simp only [impl_increasing.l0]
      rw [if_neg (by omega)]) (ev_some _))
  exact h
theorem isShape_is (a b : Int) : impl_isShape.f a b = some (inb a 1 8 && inb b 1 8) := by
  unfold impl_isShape.f
  rw [within_is, Option.bind_some, within_is]
  cases inb a 1 8 <;> simp
theorem isRegion_ev (a b : Int) (l : List Int) (hl : l.length ≤ 9223372036854775806) : Ev (fun k => impl_isRegion.f k a b l) (regionOk a b l) := by
  unfold impl_isRegion.f regionOk
  refine ev_bind (ev_const (isShape_is a b)) ?_
  cases e : (inb a 1 8 && inb b 1 8) with
  | false => exact ev_ifn (by simp) (ev_some _)
  | true =>
    obtain ⟨⟨a1, a8⟩, b1, b8⟩ := shape_iff.1 e
    have hm := mul_bd a1 a8 b1 b8
    rw [Bool.true_and]
    refine ev_ifp rfl (ev_bind (increasing_ev l hl) ?_)
    cases rising l with
    | false => exact ev_ifn (by simp) (ev_some _)
    | true =>
      rw [Bool.true_and, show wrap64 (wrap64 (a * b) - 1) = a * b - 1 by rw [w64 (x := a * b) (by omega) (by omega), w64 (by omega) (by omega)]]
      exact ev_ifp rfl (ev_bind (allWithin_ev l 0 (a * b - 1) hl) (ev_some _))
theorem l1Rising_ev (l : List Int) (x y : Int) (hl : l.length ≤ 9223372036854775806) : Ev (fun k => spec_l1Rising.f k l x y) (rising l && rall (fun i => inb (l.getD i 0) x y) 0 l.length) := by
  have h := allb_ev (fun k i => spec_l1Rising.l0 k l x y (i : Int)) l.length (fun i => inb (l.getD i 0) x y && (decide (i = 0) || decide (l.getD (i - 1) 0 < l.getD i 0)))
    (fun i r hi hp h => ev_step (fun k => by
      rw [Bool.and_eq_true, Bool.or_eq_true] at hp
      simp only [spec_l1Rising.l0, l1In_is, Option.bind_some, rd_nat]
      rw [if_pos (by omega), if_pos (by omega), if_pos hp.1, w64 (x := (i : Int) + 1) (by omega) (by omega)]
      by_cases e : i = 0
      · rw [if_neg (by omega)]; rfl
      · have h2 := of_decide_eq_true (hp.2.resolve_left (by simpa using e))
        rw [if_pos (by omega), show wrap64 ((i : Int) - 1) = ((i - 1 : Nat) : Int) by rw [w64 (by omega) (by omega)]; omega, if_pos (by omega), if_pos (by omega), rd_nat, if_neg (by omega)]
        rfl) h)
    (fun i hi hp => ev_step (f := fun _ => some false) (fun k => by
      simp only [spec_l1Rising.l0, l1In_is, Option.bind_some, rd_nat]
      rw [if_pos (by omega), if_pos (by omega)]
      cases e : inb (l.getD i 0) x y with
      | false => simp
      | true =>
        rw [e, Bool.true_and, Bool.or_eq_false_iff] at hp
        have h1 := of_decide_eq_false hp.1
        have h2 := of_decide_eq_false hp.2
        rw [if_pos rfl, if_pos (by omega), show wrap64 ((i : Int) - 1) = ((i - 1 : Nat) : Int) by rw [w64 (by omega) (by omega)]; omega, if_pos (by omega), if_pos (by omega), rd_nat, if_pos (by omega)]) (ev_some _))
    (ev_step (f := fun _ => some true) (fun k => by
      simp only [spec_l1Rising.l0]
      rw [if_neg (by omega)]) (ev_some _))
  have e : rall (fun i => inb (l.getD i 0) x y && (decide (i = 0) || decide (l.getD (i - 1) 0 < l.getD i 0))) 0 l.length = (rising l && rall (fun i => inb (l.getD i 0) x y) 0 l.length) := by
    rw [Bool.eq_iff_iff, Bool.and_eq_true]
    unfold rising
    rw [rall_iff, rall_iff, rall_iff]
    constructor
    · intro hh
      refine ⟨fun j _ hj => ?_, fun j _ hj => ?_⟩
      · have := hh (j + 1) (Nat.zero_le _) (by omega)
        rw [Bool.and_eq_true, Bool.or_eq_true] at this
        have h2 := this.2.resolve_left (by simp)
        simpa using h2
      · have := hh j (Nat.zero_le _) (by omega)
        rw [Bool.and_eq_true] at this
        exact this.1
    · rintro ⟨h1, h2⟩ j _ hj
      rw [Bool.and_eq_true, Bool.or_eq_true]
      refine ⟨h2 j (Nat.zero_le _) hj, ?_⟩
      by_cases e : j = 0
      · exact .inl (by simpa using e)
      · have := h1 (j - 1) (Nat.zero_le _) (by omega)
        rw [show j - 1 + 1 = j by omega] at this
        exact .inr this
  rw [e] at h
  exact h
theorem l8Region_ev (a b : Int) (l : List Int) (hl : l.length ≤ 9223372036854775806) : Ev (fun k => spec_l8Region.f k a b l) (regionOk a b l) := by
  unfold spec_l8Region.f regionOk
  refine ev_bind (ev_const (l2Shape_is a b)) ?_
  cases e : (inb a 1 8 && inb b 1 8) with
  | false => exact ev_ifn (by simp) (ev_some _)
  | true =>
    obtain ⟨⟨a1, a8⟩, b1, b8⟩ := shape_iff.1 e
    have hm := mul_bd a1 a8 b1 b8
    rw [Bool.true_and, show wrap64 (wrap64 (a * b) - 1) = a * b - 1 by rw [w64 (x := a * b) (by omega) (by omega), w64 (by omega) (by omega)]]
    exact ev_ifp rfl (ev_bind (l1Rising_ev l 0 (a * b - 1) hl) (ev_some _))
theorem mem_rall (l : List Int) (x : Int) : decide (x ∈ l) = !rall (fun i => decide (l.getD i 0 ≠ x)) 0 l.length := by
  rw [rall_list l 0 (fun y => decide (y ≠ x))]
  rw [Bool.eq_iff_iff, decide_eq_true_eq, Bool.not_eq_true', ← Bool.not_eq_true, List.all_eq_true]
  constructor
  · intro h hh
    have := hh x h
    simp at this
  · intro h
    rw [Classical.not_forall] at h
    obtain ⟨y, hy⟩ := h
    rw [Classical.not_imp] at hy
    obtain ⟨h1, h2⟩ := hy
    simp at h2
    rw [← h2]
    exact h1
end Go.Proofs.Ytehjhcnimfhdnaa.Pure
