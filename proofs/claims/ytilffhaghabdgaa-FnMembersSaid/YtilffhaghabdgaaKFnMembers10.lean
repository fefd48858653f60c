/- Texts of the claim FnMembers, merged: part 10 of 13: the program's and the reference's functions as Lean functions, the walks that show it, and plain lemmas; no conditions. -/
import Derived.Test.YtilffhaghabdgaaKFnMembers3
import Derived.Test.YtilffhaghabdgaaKFnMembers7
import Derived.Test.YtilffhaghabdgaaKFnMembers8
import Derived.Test.YtilffhaghabdgaaKFnMembers6
import Derived.Test.YtilffhaghabdgaaKFnMembers9
namespace Go.Proofs.Ytilffhaghabdgaa.P
open Go.RowKit Go.Proofs.YtilffhaghabdgaaW.PrintWords Go.Proofs.YtilffhaghabdgaaW.PrintLast Go.Proofs.YtilffhaghabdgaaW.PrintMore
attribute [local go_sem] max2_int min2_int max_two min_two max_three min_three max_four min_four
set_option linter.unusedVariables false
set_option linter.unusedSimpArgs false
set_option maxHeartbeats 8000000
set_option maxRecDepth 100000
def spec_l9Cell.f (k : Nat) (l0 : List (S29)) (a1 : Int) (a2 : Int) : Option (Int) := (spec_l9Good.f k l0).bind fun t101 => (if t101 = true then (if 0 < (l0.length : Int) then ((spec_l1In.f a1 0 (wrap64 (((rd_T29 l0 0).f0) - 1))).bind fun t103 => (if t103 = true then ((spec_l1In.f a2 0 (wrap64 (((rd_T29 l0 0).f1) - 1))).bind fun t105 => (if t105 = true then (some (wrap64 ((wrap64 (((rd_T29 l0 0).f0) * a2)) + a1))) else (some (-1)))) else (some (-1)))) else (none)) else (some (-1)))
theorem spec_l9Cell.calls (k : Nat) (A0 : Option Addr) (c0 : Nat) (l0 : List (S29)) (a1 : Int) (a2 : Int) (r : Int) (w : World) (hr0 : Kd.C k29 w A0 l0.length l0) (hc0 : l0.length ≤ c0) (h : spec_l9Cell.f k l0 a1 a2 = some r) :
  Calls Try.prog 123 #[.slice A0 l0.length c0, .int .i64 a1, .int .i64 a2] w fun e w' => e = .returned (.int .i64 r) ∧ Below w.heap.size w w' := by
 have HR0 := Aside0.mk hr0
 have HC0 := Aside0.mk hc0
 clear hr0 hc0
 have HB := aK (Below.refl w.heap.size w)
 have H : ((spec_l9Good.f k l0).bind fun t101 => (if t101 = true then (if 0 < (l0.length : Int) then ((spec_l1In.f a1 0 (wrap64 (((rd_T29 l0 0).f0) - 1))).bind fun t103 => (if t103 = true then ((spec_l1In.f a2 0 (wrap64 (((rd_T29 l0 0).f1) - 1))).bind fun t105 => (if t105 = true then (some (wrap64 ((wrap64 (((rd_T29 l0 0).f0) * a2)) + a1))) else (some (-1)))) else (some (-1)))) else (none)) else (some (-1)))) = some r := h
 clear h
 replace H := Option.bind_eq_some_iff.mp H
 obtain ⟨t101, A40, H⟩ := H
 replace H : (if t101 = true then (if 0 < (l0.length : Int) then ((spec_l1In.f a1 0 (wrap64 (((rd_T29 l0 0).f0) - 1))).bind fun t103 => (if t103 = true then ((spec_l1In.f a2 0 (wrap64 (((rd_T29 l0 0).f1) - 1))).bind fun t105 => (if t105 = true then (some (wrap64 ((wrap64 (((rd_T29 l0 0).f0) * a2)) + a1))) else (some (-1)))) else (some (-1)))) else (none)) else (some (-1))) = some r := H
 have A4 := Aside0.mk A40
 clear A40
 by_cases c5 : t101 = true
 ·
  subst c5
  have H1 : (if 0 < (l0.length : Int) then ((spec_l1In.f a1 0 (wrap64 (((rd_T29 l0 0).f0) - 1))).bind fun t103 => (if t103 = true then ((spec_l1In.f a2 0 (wrap64 (((rd_T29 l0 0).f1) - 1))).bind fun t105 => (if t105 = true then (some (wrap64 ((wrap64 (((rd_T29 l0 0).f0) * a2)) + a1))) else (some (-1)))) else (some (-1)))) else (none)) = some r := by rw [if_pos rfl] at H; exact H
  clear H
  have H := H1
  clear H1
  by_cases c6 : 0 < (l0.length : Int)
  ·
   rw [if_pos c6] at H
   have c6b0 : decide (0 < (l0.length : Int)) = true := decide_eq_true c6
   have c6b1 : decide (0 < l0.length) = true := decide_eq_true (by omega)
   clear c6
   replace H := Option.bind_eq_some_iff.mp H
   obtain ⟨t103, A70, H⟩ := H
   replace H : (if t103 = true then ((spec_l1In.f a2 0 (wrap64 (((rd_T29 l0 0).f1) - 1))).bind fun t105 => (if t105 = true then (some (wrap64 ((wrap64 (((rd_T29 l0 0).f0) * a2)) + a1))) else (some (-1)))) else (some (-1))) = some r := H
   have A7 := Aside0.mk A70
   clear A70
   by_cases c8 : t103 = true
   ·
    subst c8
    have H1 : ((spec_l1In.f a2 0 (wrap64 (((rd_T29 l0 0).f1) - 1))).bind fun t105 => (if t105 = true then (some (wrap64 ((wrap64 (((rd_T29 l0 0).f0) * a2)) + a1))) else (some (-1)))) = some r := by rw [if_pos rfl] at H; exact H
    clear H
    have H := H1
    clear H1
    replace H := Option.bind_eq_some_iff.mp H
    obtain ⟨t105, A90, H⟩ := H
    replace H : (if t105 = true then (some (wrap64 ((wrap64 (((rd_T29 l0 0).f0) * a2)) + a1))) else (some (-1))) = some r := H
    have A9 := Aside0.mk A90
    clear A90
    by_cases c10 : t105 = true
    ·
     subst c10
     have H1 : (some (wrap64 ((wrap64 (((rd_T29 l0 0).f0) * a2)) + a1))) = some r := by rw [if_pos rfl] at H; exact H
     clear H
     have H := H1
     clear H1
     obtain rfl := Option.some.inj H
     go_enter Try.func123, Try.ntmps123
     go_wp2_with (first | ((with_reducible refine gate_callee (f := 118) rfl ?_); refine gl (some 8) Try.func118 #[.slice A0 l0.length c0] ?_; (with_reducible refine (spec_l9Good.calls k _ _ l0 true _ ?side1 ?side2 A4.out).mono ?_); (case side1 => exact pC HR0.out); (case side2 => exact HC0.out); rintro e w11 ⟨rfl, hb⟩; refine ⟨_, rfl, ?_⟩; replace HB := bS HB hb; (try clear hb); (try clear hb2); (try clear hk); (try clear hi); have p102 : 0 ≤ (0 : Int) := (by omega); have q102 : 0 < (l0.length : Int) := of_decide_eq_true (by first | (with_reducible assumption) | assumption); obtain ⟨ad102, A102_2, c102_2, e102, hx102_0, hx102_1, hx102_2, hl102_2, hi102_2⟩ := at_T29 HR0.out 0 p102 q102; cases e102; have qi102 : (0 < l0.length) = True := eq_true (by omega); (try rw [show ((0 : Int)).toNat = 0 from rfl] at hx102_0); (try rw [show 0 * 3 = 0 from rfl] at hx102_0); (try rw [Addr.add_zero'] at hx102_0); (try rw [show ((0 : Int)).toNat = 0 from rfl] at hx102_1); (try rw [show 0 * 3 = 0 from rfl] at hx102_1); (try rw [Addr.add_zero'] at hx102_1); (try rw [show ((0 : Int)).toNat = 0 from rfl] at hx102_2); (try rw [show 0 * 3 = 0 from rfl] at hx102_2); (try rw [Addr.add_zero'] at hx102_2); replace hx102_0 := (HB.out.cell (World.block_lt_of_cell? w _ hx102_0)).trans hx102_0; replace hx102_1 := (HB.out.cell (World.block_lt_of_cell? w _ hx102_1)).trans hx102_1; replace hx102_2 := (HB.out.cell (World.block_lt_of_cell? w _ hx102_2)).trans hx102_2; have HR102_2 := Aside0.mk hi102_2; have HC102_2 := Aside0.mk hl102_2; clear hi102_2 hl102_2; replace p102 := eq_true p102; replace q102 := eq_true q102) | (go_at_call 103; (with_reducible refine (spec_l1In.calls a1 0 (wrap64 (((rd_T29 l0 0).f0) - 1)) true _ A7.out).mono ?_); rintro e w' ⟨rfl, ⟨nd, rfl⟩⟩; have p104 : 0 ≤ (0 : Int) := (by omega); have q104 : 0 < (l0.length : Int) := of_decide_eq_true (by first | (with_reducible assumption) | assumption); obtain ⟨ad104, A104_2, c104_2, e104, hx104_0, hx104_1, hx104_2, hl104_2, hi104_2⟩ := at_T29 HR0.out 0 p104 q104; obtain rfl : ad102 = ad104 := (by injection e104); have qi104 : (0 < l0.length) = True := eq_true (by omega); (try rw [show ((0 : Int)).toNat = 0 from rfl] at hx104_0); (try rw [show 0 * 3 = 0 from rfl] at hx104_0); (try rw [Addr.add_zero'] at hx104_0); (try rw [show ((0 : Int)).toNat = 0 from rfl] at hx104_1); (try rw [show 0 * 3 = 0 from rfl] at hx104_1); (try rw [Addr.add_zero'] at hx104_1); (try rw [show ((0 : Int)).toNat = 0 from rfl] at hx104_2); (try rw [show 0 * 3 = 0 from rfl] at hx104_2); (try rw [Addr.add_zero'] at hx104_2); replace hx104_0 := (HB.out.cell (World.block_lt_of_cell? w _ hx104_0)).trans hx104_0; replace hx104_1 := (HB.out.cell (World.block_lt_of_cell? w _ hx104_1)).trans hx104_1; replace hx104_2 := (HB.out.cell (World.block_lt_of_cell? w _ hx104_2)).trans hx104_2; have HR104_2 := Aside0.mk hi104_2; have HC104_2 := Aside0.mk hl104_2; clear hi104_2 hl104_2; replace p104 := eq_true p104; replace q104 := eq_true q104; have ea_ := Option.some.inj (hx102_2.symm.trans hx104_2); injection ea_ with ea_ en_ ec_; subst ea_; subst ec_; clear en_) | (go_at_call 103; (with_reducible refine (spec_l1In.calls a2 0 (wrap64 (((rd_T29 l0 0).f1) - 1)) true _ A9.out).mono ?_); rintro e w' ⟨rfl, ⟨nd, rfl⟩⟩; have p106 : 0 ≤ (0 : Int) := (by omega); have q106 : 0 < (l0.length : Int) := of_decide_eq_true (by first | (with_reducible assumption) | assumption); obtain ⟨ad106, A106_2, c106_2, e106, hx106_0, hx106_1, hx106_2, hl106_2, hi106_2⟩ := at_T29 HR0.out 0 p106 q106; obtain rfl : ad102 = ad106 := (by injection e106); have qi106 : (0 < l0.length) = True := eq_true (by omega); (try rw [show ((0 : Int)).toNat = 0 from rfl] at hx106_0); (try rw [show 0 * 3 = 0 from rfl] at hx106_0); (try rw [Addr.add_zero'] at hx106_0); (try rw [show ((0 : Int)).toNat = 0 from rfl] at hx106_1); (try rw [show 0 * 3 = 0 from rfl] at hx106_1); (try rw [Addr.add_zero'] at hx106_1); (try rw [show ((0 : Int)).toNat = 0 from rfl] at hx106_2); (try rw [show 0 * 3 = 0 from rfl] at hx106_2); (try rw [Addr.add_zero'] at hx106_2); replace hx106_0 := (HB.out.cell (World.block_lt_of_cell? w _ hx106_0)).trans hx106_0; replace hx106_1 := (HB.out.cell (World.block_lt_of_cell? w _ hx106_1)).trans hx106_1; replace hx106_2 := (HB.out.cell (World.block_lt_of_cell? w _ hx106_2)).trans hx106_2; have HR106_2 := Aside0.mk hi106_2; have HC106_2 := Aside0.mk hl106_2; clear hi106_2 hl106_2; replace p106 := eq_true p106; replace q106 := eq_true q106; have ea_ := Option.some.inj (hx102_2.symm.trans hx106_2); injection ea_ with ea_ en_ ec_; subst ea_; subst ec_; clear en_))
     go_ret
     exact ⟨er, pT HB.out⟩
    replace c10 := Bool.eq_false_iff.mpr c10
    subst c10
    have H1 : (some (-1)) = some r := by rw [if_neg (show ¬ (false = true) by decide)] at H; exact H
    clear H
    have H := H1
    clear H1
    obtain rfl := Option.some.inj H
    go_enter Try.func123, Try.ntmps123
    go_wp2_with (first | ((with_reducible refine gate_callee (f := 118) rfl ?_); refine gl (some 8) Try.func118 #[.slice A0 l0.length c0] ?_; (with_reducible refine (spec_l9Good.calls k _ _ l0 true _ ?side1 ?side2 A4.out).mono ?_); (case side1 => exact pC HR0.out); (case side2 => exact HC0.out); rintro e w12 ⟨rfl, hb⟩; refine ⟨_, rfl, ?_⟩; replace HB := bS HB hb; (try clear hb); (try clear hb2); (try clear hk); (try clear hi); have p102 : 0 ≤ (0 : Int) := (by omega); have q102 : 0 < (l0.length : Int) := of_decide_eq_true (by first | (with_reducible assumption) | assumption); obtain ⟨ad102, A102_2, c102_2, e102, hx102_0, hx102_1, hx102_2, hl102_2, hi102_2⟩ := at_T29 HR0.out 0 p102 q102; cases e102; have qi102 : (0 < l0.length) = True := eq_true (by omega); (try rw [show ((0 : Int)).toNat = 0 from rfl] at hx102_0); (try rw [show 0 * 3 = 0 from rfl] at hx102_0); (try rw [Addr.add_zero'] at hx102_0); (try rw [show ((0 : Int)).toNat = 0 from rfl] at hx102_1); (try rw [show 0 * 3 = 0 from rfl] at hx102_1); (try rw [Addr.add_zero'] at hx102_1); (try rw [show ((0 : Int)).toNat = 0 from rfl] at hx102_2); (try rw [show 0 * 3 = 0 from rfl] at hx102_2); (try rw [Addr.add_zero'] at hx102_2); replace hx102_0 := (HB.out.cell (World.block_lt_of_cell? w _ hx102_0)).trans hx102_0; replace hx102_1 := (HB.out.cell (World.block_lt_of_cell? w _ hx102_1)).trans hx102_1; replace hx102_2 := (HB.out.cell (World.block_lt_of_cell? w _ hx102_2)).trans hx102_2; have HR102_2 := Aside0.mk hi102_2; have HC102_2 := Aside0.mk hl102_2; clear hi102_2 hl102_2; replace p102 := eq_true p102; replace q102 := eq_true q102) | (go_at_call 103; (with_reducible refine (spec_l1In.calls a1 0 (wrap64 (((rd_T29 l0 0).f0) - 1)) true _ A7.out).mono ?_); rintro e w' ⟨rfl, ⟨nd, rfl⟩⟩; have p104 : 0 ≤ (0 : Int) := (by omega); have q104 : 0 < (l0.length : Int) := of_decide_eq_true (by first | (with_reducible assumption) | assumption); obtain ⟨ad104, A104_2, c104_2, e104, hx104_0, hx104_1, hx104_2, hl104_2, hi104_2⟩ := at_T29 HR0.out 0 p104 q104; obtain rfl : ad102 = ad104 := (by injection e104); have qi104 : (0 < l0.length) = True := eq_true (by omega); (try rw [show ((0 : Int)).toNat = 0 from rfl] at hx104_0); (try rw [show 0 * 3 = 0 from rfl] at hx104_0); (try rw [Addr.add_zero'] at hx104_0); (try rw [show ((0 : Int)).toNat = 0 from rfl] at hx104_1); (try rw [show 0 * 3 = 0 from rfl] at hx104_1); (try rw [Addr.add_zero'] at hx104_1); (try rw [show ((0 : Int)).toNat = 0 from rfl] at hx104_2); (try rw [show 0 * 3 = 0 from rfl] at hx104_2); (try rw [Addr.add_zero'] at hx104_2); replace hx104_0 := (HB.out.cell (World.block_lt_of_cell? w _ hx104_0)).trans hx104_0; replace hx104_1 := (HB.out.cell (World.block_lt_of_cell? w _ hx104_1)).trans hx104_1; replace hx104_2 := (HB.out.cell (World.block_lt_of_cell? w _ hx104_2)).trans hx104_2; have HR104_2 := Aside0.mk hi104_2; have HC104_2 := Aside0.mk hl104_2; clear hi104_2 hl104_2; replace p104 := eq_true p104; replace q104 := eq_true q104; have ea_ := Option.some.inj (hx102_2.symm.trans hx104_2); injection ea_ with ea_ en_ ec_; subst ea_; subst ec_; clear en_) | (go_at_call 103; (with_reducible refine (spec_l1In.calls a2 0 (wrap64 (((rd_T29 l0 0).f1) - 1)) false _ A9.out).mono ?_); rintro e w' ⟨rfl, ⟨nd, rfl⟩⟩))
    go_ret
    exact ⟨er, pT HB.out⟩
   replace c8 := Bool.eq_false_iff.mpr c8
   subst c8
   have H1 : (some (-1)) = some r := by rw [if_neg (show ¬ (false = true) by decide)] at H; exact H
   clear H
   have H := H1
   clear H1
   obtain rfl := Option.some.inj H
   go_enter Try.func123, Try.ntmps123
   go_wp2_with (first | ((with_reducible refine gate_callee (f := 118) rfl ?_); refine gl (some 8) Try.func118 #[.slice A0 l0.length c0] ?_; (with_reducible refine (spec_l9Good.calls k _ _ l0 true _ ?side1 ?side2 A4.out).mono ?_); (case side1 => exact pC HR0.out); (case side2 => exact HC0.out); rintro e w13 ⟨rfl, hb⟩; refine ⟨_, rfl, ?_⟩; replace HB := bS HB hb; (try clear hb); (try clear hb2); (try clear hk); (try clear hi); have p102 : 0 ≤ (0 : Int) := (by omega); have q102 : 0 < (l0.length : Int) := of_decide_eq_true (by first | (with_reducible assumption) | assumption); obtain ⟨ad102, A102_2, c102_2, e102, hx102_0, hx102_1, hx102_2, hl102_2, hi102_2⟩ := at_T29 HR0.out 0 p102 q102; cases e102; have qi102 : (0 < l0.length) = True := eq_true (by omega); (try rw [show ((0 : Int)).toNat = 0 from rfl] at hx102_0); (try rw [show 0 * 3 = 0 from rfl] at hx102_0); (try rw [Addr.add_zero'] at hx102_0); (try rw [show ((0 : Int)).toNat = 0 from rfl] at hx102_1); (try rw [show 0 * 3 = 0 from rfl] at hx102_1); (try rw [Addr.add_zero'] at hx102_1); (try rw [show ((0 : Int)).toNat = 0 from rfl] at hx102_2); (try rw [show 0 * 3 = 0 from rfl] at hx102_2); (try rw [Addr.add_zero'] at hx102_2); replace hx102_0 := (HB.out.cell (World.block_lt_of_cell? w _ hx102_0)).trans hx102_0; replace hx102_1 := (HB.out.cell (World.block_lt_of_cell? w _ hx102_1)).trans hx102_1; replace hx102_2 := (HB.out.cell (World.block_lt_of_cell? w _ hx102_2)).trans hx102_2; have HR102_2 := Aside0.mk hi102_2; have HC102_2 := Aside0.mk hl102_2; clear hi102_2 hl102_2; replace p102 := eq_true p102; replace q102 := eq_true q102) | (go_at_call 103; (with_reducible refine (spec_l1In.calls a1 0 (wrap64 (((rd_T29 l0 0).f0) - 1)) false _ A7.out).mono ?_); rintro e w' ⟨rfl, ⟨nd, rfl⟩⟩))
   go_ret
   exact ⟨er, pT HB.out⟩
  rw [if_neg c6] at H
  exact absurd H (by simp)
 replace c5 := Bool.eq_false_iff.mpr c5
 subst c5
 have H1 : (some (-1)) = some r := by rw [if_neg (show ¬ (false = true) by decide)] at H; exact H
 clear H
 have H := H1
 clear H1
 obtain rfl := Option.some.inj H
 go_enter Try.func123, Try.ntmps123
 go_wp2_with (first | ((with_reducible refine gate_callee (f := 118) rfl ?_); refine gl (some 8) Try.func118 #[.slice A0 l0.length c0] ?_; (with_reducible refine (spec_l9Good.calls k _ _ l0 false _ ?side1 ?side2 A4.out).mono ?_); (case side1 => exact pC HR0.out); (case side2 => exact HC0.out); rintro e w14 ⟨rfl, hb⟩; refine ⟨_, rfl, ?_⟩; replace HB := bS HB hb; (try clear hb); (try clear hb2); (try clear hk); (try clear hi)))
 go_ret
 exact ⟨er, pT HB.out⟩
def spec_l13Threshold.f (a0 : Int) : Option (Bool) := (spec_l1In.f a0 (-9000) 9000).bind fun t101 => (some t101)
theorem spec_l13Threshold.calls (a0 : Int) (r : Bool) (w : World) (h : spec_l13Threshold.f a0 = some r) :
  Calls Try.prog 124 #[.int .i64 a0] w fun e w' => e = .returned (.bool r) ∧ Drawn0 w w' := by
 have H : ((spec_l1In.f a0 (-9000) 9000).bind fun t101 => (some t101)) = some r := h
 clear h
 replace H := Option.bind_eq_some_iff.mp H
 obtain ⟨t101, A20, H⟩ := H
 replace H : (some t101) = some r := H
 have A2 := Aside0.mk A20
 clear A20
 obtain rfl := Option.some.inj H
 go_enter Try.func124, Try.ntmps124
 go_wp2_with (first | ((with_reducible refine gate_callee (f := 103) rfl ?_); refine gl (some 4) Try.func103 #[.int .i64 a0, .int .i64 (-9000), .int .i64 9000] ?_; (with_reducible refine (spec_l1In.calls a0 (-9000) 9000 t101 _ A2.out).mono ?_); rintro e w' ⟨rfl, ⟨nd, rfl⟩⟩; refine ⟨_, rfl, ?_⟩))
 go_ret
 exact ⟨by first | rfl | (simp; done) | (simp [*]; done), by repeat (first | exact Drawn0.refl _ | apply Drawn0.step)⟩
mutual
def spec_l9Values.l0 : Nat → List (S29) → Int → List Int → Int → Option (List Int)
 | 0, _, _, _, _ => none
 | k + 1, x0, x1, x5, x6 => if x6 < (x0.length : Int) then (if 0 ≤ x6 then (if 0 ≤ x1 then (if x1 < (((rd_T29 x0 x6).f2).length : Int) then (if (rd ((rd_T29 x0 x6).f2) x1) = (-9999) then (spec_l9Values.l0 k x0 x1 x5 (wrap64 (x6 + 1))) else (spec_l9Values.l1 k x0 x1 x5 x6 (rd ((rd_T29 x0 x6).f2) x1) (x5.length : Int))) else (none)) else (none)) else (none)) else (some x5)
def spec_l9Values.l1 : Nat → List (S29) → Int → List Int → Int → Int → Int → Option (List Int)
 | 0, _, _, _, _, _, _ => none
 | k + 1, x0, x1, x5, x6, x7, x8 => if x8 > 0 then (if 0 ≤ (wrap64 (x8 - 1)) then (if (wrap64 (x8 - 1)) < (x5.length : Int) then (if (rd x5 (wrap64 (x8 - 1))) > x7 then (spec_l9Values.l1 k x0 x1 x5 x6 x7 (wrap64 (x8 - 1))) else ((some (([] : List Int) : List Int)).bind fun y107 => (if 0 ≤ x8 then (if x8 ≤ (x5.length : Int) then ((some (x5.take (x8 : Int).toNat : List Int)).bind fun y110 => (if y107.length + y110.length < 17592186044416 then ((some (y107 ++ y110 : List Int)).bind fun y114 => ((some (([x7] : List Int) : List Int)).bind fun y117 => (if y114.length + y117.length < 17592186044416 then ((some (y114 ++ y117 : List Int)).bind fun y120 => ((some (x5.drop (x8 : Int).toNat : List Int)).bind fun y123 => (if y120.length + y123.length < 17592186044416 then (spec_l9Values.l0 k x0 x1 (y120 ++ y123) (wrap64 (x6 + 1))) else (none)))) else (none)))) else (none))) else (none)) else (none)))) else (none)) else (none)) else ((some (([] : List Int) : List Int)).bind fun y130 => (if 0 ≤ x8 then (if x8 ≤ (x5.length : Int) then ((some (x5.take (x8 : Int).toNat : List Int)).bind fun y133 => (if y130.length + y133.length < 17592186044416 then ((some (y130 ++ y133 : List Int)).bind fun y137 => ((some (([x7] : List Int) : List Int)).bind fun y140 => (if y137.length + y140.length < 17592186044416 then ((some (y137 ++ y140 : List Int)).bind fun y143 => ((some (x5.drop (x8 : Int).toNat : List Int)).bind fun y146 => (if y143.length + y146.length < 17592186044416 then (spec_l9Values.l0 k x0 x1 (y143 ++ y146) (wrap64 (x6 + 1))) else (none)))) else (none)))) else (none))) else (none)) else (none)))
end
def spec_l9Values.f (k : Nat) (l0 : List (S29)) (a1 : Int) : Option (List Int) := spec_l9Values.l0 k l0 a1 (([] : List Int)) 0
def spec_l9Values.T10 : Bool × List (List Nat × List Nat) := (true, [([], []), ([], []), ([], []), ([1, 2], [1, 2]), ([0, 3], [0, 3]), ([], []), ([5], [5]), ([4, 6, 4], [4, 6]), ([], []), ([], []), ([8, 9], [8, 9]), ([7, 10, 7], [7, 10]), ([11, 11, 0, 1, 2, 3, 4, 5, 6, 7, 8, 9, 10, 11], [1, 8, 11])])
def spec_l9Values.B10 : List Nat := [0, 0, 0, 6, 15, 0, 32, 127, 0, 0, 768, 2047, 4095]
theorem spec_l9Values.tab10 : rtab .any (opsOf Try.f125 10) = spec_l9Values.T10 := by kernel_rfl
theorem spec_l9Values.bits10 : waitsOk spec_l9Values.T10.2 spec_l9Values.B10 = true := by kernel_rfl
theorem spec_l9Values.calls (k : Nat) (A0 : Option Addr) (c0 : Nat) (l0 : List (S29)) (a1 : Int) (r : List Int) (w : World) (hr0 : Kd.C k29 w A0 l0.length l0) (hc0 : l0.length ≤ c0) (h : spec_l9Values.f k l0 a1 = some r) :
  Calls Try.prog 125 #[.slice A0 l0.length c0, .int .i64 a1] w fun e w' => ∃ v0_ : Value, e = .returned (v0_) ∧ Kd.R (Kd.int .i64) 3 w' w.heap.size (fun _ => True) v0_ r ∧ Below w.heap.size w w' := by
 have HR0 := Aside0.mk hr0
 have HC0 := Aside0.mk hc0
 clear hr0 hc0
 have HB := aK (Below.refl w.heap.size w)
 have H : (spec_l9Values.l0 k l0 a1 (([] : List Int)) 0) = some r := h
 clear h
 obtain ⟨y101, hy101⟩ : ∃ y_ : List Int, y_ = (([] : List Int)) := ⟨_, rfl⟩
 replace H : (spec_l9Values.l0 k l0 a1 y101 0) = some r := by first | (rw [hy101]; with_reducible exact H) | (have H2_ := (Option.bind_some _ _).symm.trans H; rw [hy101]; with_reducible exact H2_) | (have H2_ := (Option.bind_some _ _).symm.trans H; with_reducible exact H2_) | with_reducible exact H | (rw [hy101]; exact H) | exact H
 have Ny101 := Aside0.mk hy101
 clear hy101
 have H' := Aside0.mk H
 clear H
 go_enter Try.func125, Try.ntmps125
 go_wp2_with (first | ((with_reducible refine gate_dst (N := 9) rfl ?_); refine Kd.R_lit (Kd.int .i64) _ 3 ?hg (N := 9) ?hd (xs := ([] : List Int)) (inner := []) (ok := fun _ => True) (okp := fun _ => True) ?hr ?hp (fun _ hk => hk) trivial (Below.refl _ _) (Nat.le_refl _) (by simp) ?_; (case hd => rfl); (case hg => rfl); (case hr => first | (go_simp; done) | (go_simp; rfl)); (case hp => exact (Reps.none _ _)); intro v102 w3 ho4 hb hg_ hnew_; clear hg_ hnew_; (first | rw [← Ny101.out] at ho4 | (simp only [Int.reduceToNat] at ho4; rw [← Ny101.out] at ho4)); have HO103 := aK (Kd.R_lower ho4 (below_size (pS HB.out))); replace HB := bS HB hb; clear hb ho4))
 go_loopg [5, 6] k (fun kq v5 v6 w' => ∃ (x5_1 : List Int) (x6_1 : Int), v6 = .int .i64 x6_1 ∧ Aside0 (spec_l9Values.l0 kq l0 a1 x5_1 x6_1 = some r) ∧ Aside0 (kq ≤ k) ∧ Aside0 (Kd.R (Kd.int .i64) 3 w' w.heap.size (fun _ => True) v5 x5_1) ∧ Aside0 (Below w.heap.size w w'))
 case atStart => exact ⟨(y101), (0), (by first | rfl | (simp; done) | (simp [*]; done)), H', ⟨Nat.le_refl _⟩, ⟨pR HO103.out⟩, ⟨pT HB.out⟩⟩
 case round =>
  clear H'
  try clear c1
  try clear p2
  obtain ⟨x5_1, x6_1, rfl, HA, HK1, HO_5, HB⟩ := hrel
  cases gk with
  | zero => exact absurd HA.out (by simp [spec_l9Values.l0])
  | succ k1 =>
   have H := HA.out
   clear HA
   simp only [spec_l9Values.l0] at H
   by_cases c5 : x6_1 < (l0.length : Int)
   ·
    rw [if_pos c5] at H
    have c5b0 : decide (x6_1 < (l0.length : Int)) = true := decide_eq_true c5
    clear c5
    by_cases c6 : 0 ≤ x6_1
    ·
     rw [if_pos c6] at H
     have c6b0 : decide (0 ≤ x6_1) = true := decide_eq_true c6
     clear c6
     by_cases c7 : 0 ≤ a1
     ·
      rw [if_pos c7] at H
      have c7b0 : decide (0 ≤ a1) = true := decide_eq_true c7
      clear c7
      by_cases c8 : a1 < (((rd_T29 l0 x6_1).f2).length : Int)
      ·
       rw [if_pos c8] at H
       have c8b0 : decide (a1 < (((rd_T29 l0 x6_1).f2).length : Int)) = true := decide_eq_true c8
       clear c8
       by_cases c9 : (rd ((rd_T29 l0 x6_1).f2) a1) = (-9999)
       ·
        rw [if_pos c9] at H
        have c9b0 : ((rd ((rd_T29 l0 x6_1).f2) a1) == (-9999)) = true := beq_iff_eq.mpr c9
        have c9b1 : ((rd ((rd_T29 l0 x6_1).f2) a1) != (-9999)) = false := bne_eq_false_iff_eq.mpr c9
        clear c9
        have H' := Aside0.mk H
        clear H
        have p104 : 0 ≤ (x6_1 : Int) := of_decide_eq_true (by first | (with_reducible assumption) | assumption)
        have q104 : x6_1 < (l0.length : Int) := of_decide_eq_true (by first | (with_reducible assumption) | assumption)
        obtain ⟨ad104, A104_2, c104_2, e104, hx104_0, hx104_1, hx104_2, hl104_2, hi104_2⟩ := at_T29 HR0.out x6_1 p104 q104
        cases e104
        replace hx104_0 := (HB.out.cell (World.block_lt_of_cell? w _ hx104_0)).trans hx104_0
        replace hx104_1 := (HB.out.cell (World.block_lt_of_cell? w _ hx104_1)).trans hx104_1
        replace hx104_2 := (HB.out.cell (World.block_lt_of_cell? w _ hx104_2)).trans hx104_2
        have HR104_2 := Aside0.mk hi104_2
        have HC104_2 := Aside0.mk hl104_2
        clear hi104_2 hl104_2
        replace p104 := eq_true p104
        replace q104 := eq_true q104
        have p105 : 0 ≤ (a1 : Int) := of_decide_eq_true (by first | (with_reducible assumption) | assumption)
        have q105 : a1 < (((rd_T29 l0 x6_1).f2).length : Int) := of_decide_eq_true (by first | (with_reducible assumption) | assumption)
        obtain ⟨ad105, e105, hx105_0⟩ := Kd.at_int HR104_2.out a1 p105 q105
        cases e105
        replace hx105_0 := (HB.out.cell (World.block_lt_of_cell? w _ hx105_0)).trans hx105_0
        replace p105 := eq_true p105
        replace q105 := eq_true q105
        go_wp2
        go_roundg k1
        case measure => have := HK1.out; omega
        case rel => exact ⟨(x5_1), (wrap64 (x6_1 + 1)), (by first | rfl | (simp; done) | (simp [*]; done)), H', ⟨by have := HK1.out; omega⟩, ⟨pR HO_5.out⟩, ⟨pT HB.out⟩⟩
       rw [if_neg c9] at H
       have c9b0 : ((rd ((rd_T29 l0 x6_1).f2) a1) == (-9999)) = false := beq_eq_false_iff_ne.mpr c9
       have c9b1 : ((rd ((rd_T29 l0 x6_1).f2) a1) != (-9999)) = true := bne_iff_ne.mpr c9
       have H' := Aside0.mk H
       clear H
       have p104 : 0 ≤ (x6_1 : Int) := of_decide_eq_true (by first | (with_reducible assumption) | assumption)
       have q104 : x6_1 < (l0.length : Int) := of_decide_eq_true (by first | (with_reducible assumption) | assumption)
       obtain ⟨ad104, A104_2, c104_2, e104, hx104_0, hx104_1, hx104_2, hl104_2, hi104_2⟩ := at_T29 HR0.out x6_1 p104 q104
       cases e104
       replace hx104_0 := (HB.out.cell (World.block_lt_of_cell? w _ hx104_0)).trans hx104_0
       replace hx104_1 := (HB.out.cell (World.block_lt_of_cell? w _ hx104_1)).trans hx104_1
       replace hx104_2 := (HB.out.cell (World.block_lt_of_cell? w _ hx104_2)).trans hx104_2
       have HR104_2 := Aside0.mk hi104_2
       have HC104_2 := Aside0.mk hl104_2
       clear hi104_2 hl104_2
       replace p104 := eq_true p104
       replace q104 := eq_true q104
       have p105 : 0 ≤ (a1 : Int) := of_decide_eq_true (by first | (with_reducible assumption) | assumption)
       have q105 : a1 < (((rd_T29 l0 x6_1).f2).length : Int) := of_decide_eq_true (by first | (with_reducible assumption) | assumption)
       obtain ⟨ad105, e105, hx105_0⟩ := Kd.at_int HR104_2.out a1 p105 q105
       cases e105
       replace hx105_0 := (HB.out.cell (World.block_lt_of_cell? w _ hx105_0)).trans hx105_0
       replace p105 := eq_true p105
       replace q105 := eq_true q105
       obtain ⟨Ao10, co10, eo10⟩ := Kd.R_slice HO_5.out
       subst eo10
       go_wp2
       go_loopg [8] k1 (fun kq v8 w' => ∃ (x8_2 : Int), v8 = .int .i64 x8_2 ∧ Aside0 (spec_l9Values.l1 kq l0 a1 x5_1 x6_1 (rd ((rd_T29 l0 x6_1).f2) a1) x8_2 = some r) ∧ Aside0 (kq ≤ k1) ∧ Aside0 (Kd.R (Kd.int .i64) 3 w' w.heap.size (fun _ => True) (.slice Ao10 x5_1.length co10) x5_1) ∧ Aside0 (Below w.heap.size w w'))
       case atStart => exact ⟨((x5_1.length : Int)), (by first | rfl | (simp; done) | (simp [*]; done)), H', ⟨Nat.le_refl _⟩, ⟨pR HO_5.out⟩, ⟨pT HB.out⟩⟩
       case round =>
        clear H'
        try clear c1
        try clear p1
        try clear q1
        try clear hx1
        try clear p2
        try clear c5
        try clear c5b0
        try clear c6
        try clear c6b0
        try clear p6
        try clear c7
        try clear c7b0
        try clear c8
        try clear c8b0
        try clear c9
        try clear c9b0
        try clear c9b1
        try clear c10
        try clear p10
        try clear q10
        try clear hx10
        try clear hx104_0
        try clear hx104_1
        try clear hx104_2
        try clear hx105_0
        try clear p104
        try clear p105
        try clear p2
        try clear q104
        try clear q105
        obtain ⟨x8_2, rfl, HA, HK2, HO_5, HB⟩ := hrel
        cases gk with
        | zero => exact absurd HA.out (by simp [spec_l9Values.l1])
        | succ k2 =>
         have H := HA.out
         clear HA
         simp only [spec_l9Values.l1] at H
         by_cases c11 : x8_2 > 0
         ·
          rw [if_pos c11] at H
          have c11b0 : decide (0 < x8_2) = true := decide_eq_true c11
          clear c11
          obtain ⟨ji12, hji12⟩ : ∃ j_ : Int, (wrap64 (x8_2 - 1)) = j_ := ⟨_, rfl⟩
          replace H : (if 0 ≤ (ji12) then (if (ji12) < (x5_1.length : Int) then (if (rd x5_1 (ji12)) > (rd ((rd_T29 l0 x6_1).f2) a1) then (spec_l9Values.l1 k2 l0 a1 x5_1 x6_1 (rd ((rd_T29 l0 x6_1).f2) a1) ji12) else ((some (([] : List Int) : List Int)).bind fun y107 => (if 0 ≤ x8_2 then (if x8_2 ≤ (x5_1.length : Int) then ((some (x5_1.take (x8_2 : Int).toNat : List Int)).bind fun y110 => (if y107.length + y110.length < 17592186044416 then ((some (y107 ++ y110 : List Int)).bind fun y114 => ((some (([(rd ((rd_T29 l0 x6_1).f2) a1)] : List Int) : List Int)).bind fun y117 => (if y114.length + y117.length < 17592186044416 then ((some (y114 ++ y117 : List Int)).bind fun y120 => ((some (x5_1.drop (x8_2 : Int).toNat : List Int)).bind fun y123 => (if y120.length + y123.length < 17592186044416 then (spec_l9Values.l0 k2 l0 a1 (y120 ++ y123) (wrap64 (x6_1 + 1))) else (none)))) else (none)))) else (none))) else (none)) else (none)))) else (none)) else (none)) = some r := by first | (rw [hji12] at H; exact H) | (simp only [hji12] at H ⊢; exact H)
          have hji12w : (IntKind.i64.wrap (x8_2 - 1)) = ji12 := (i64_w _).trans hji12
          by_cases c13 : 0 ≤ (ji12)
          ·
           rw [if_pos c13] at H
           have c13b0 : decide (0 ≤ (ji12)) = true := decide_eq_true c13
           clear c13
           by_cases c14 : (ji12) < (x5_1.length : Int)
           ·
            rw [if_pos c14] at H
            have c14b0 : decide ((ji12) < (x5_1.length : Int)) = true := decide_eq_true c14
            clear c14
            by_cases c15 : (rd x5_1 (ji12)) > (rd ((rd_T29 l0 x6_1).f2) a1)
            ·
             rw [if_pos c15] at H
             have c15b0 : decide ((rd ((rd_T29 l0 x6_1).f2) a1) < (rd x5_1 (ji12))) = true := decide_eq_true c15
             clear c15
             have H' := Aside0.mk H
             clear H
             have p106 : 0 ≤ ((ji12) : Int) := of_decide_eq_true (by first | (with_reducible assumption) | assumption)
             have q106 : (ji12) < (x5_1.length : Int) := of_decide_eq_true (by first | (with_reducible assumption) | assumption)
             obtain ⟨ad106, e106, hx106_0⟩ := Kd.at_int (Kd.R_reads' HO_5.out).2.2 (ji12) p106 q106
             cases e106
             replace p106 := eq_true p106
             replace q106 := eq_true q106
             go_wp2
             go_roundg k2
             case measure => have := HK1.out; have := HK2.out; omega
             case rel => exact ⟨(ji12), (by first | rfl | (simp; done) | (simp only [← hji12] <;> (first | rfl | simp)) | (simp [*]; done)), H', ⟨by have := HK1.out; have := HK2.out; omega⟩, ⟨pR HO_5.out⟩, ⟨pT HB.out⟩⟩
            rw [if_neg c15] at H
            have c15b0 : decide ((rd ((rd_T29 l0 x6_1).f2) a1) < (rd x5_1 (ji12))) = false := decide_eq_false c15
            clear c15
            obtain ⟨y107, hy107⟩ : ∃ y_ : List Int, y_ = (([] : List Int)) := ⟨_, rfl⟩
            replace H : (if 0 ≤ x8_2 then (if x8_2 ≤ (x5_1.length : Int) then ((some (x5_1.take (x8_2 : Int).toNat : List Int)).bind fun y110 => (if y107.length + y110.length < 17592186044416 then ((some (y107 ++ y110 : List Int)).bind fun y114 => ((some (([(rd ((rd_T29 l0 x6_1).f2) a1)] : List Int) : List Int)).bind fun y117 => (if y114.length + y117.length < 17592186044416 then ((some (y114 ++ y117 : List Int)).bind fun y120 => ((some (x5_1.drop (x8_2 : Int).toNat : List Int)).bind fun y123 => (if y120.length + y123.length < 17592186044416 then (spec_l9Values.l0 k2 l0 a1 (y120 ++ y123) (wrap64 (x6_1 + 1))) else (none)))) else (none)))) else (none))) else (none)) else (none)) = some r := by first | (rw [hy107]; with_reducible exact H) | (have H2_ := (Option.bind_some _ _).symm.trans H; rw [hy107]; with_reducible exact H2_) | (have H2_ := (Option.bind_some _ _).symm.trans H; with_reducible exact H2_) | with_reducible exact H | (rw [hy107]; exact H) | exact H
            have Ny107 := Aside0.mk hy107
            clear hy107
            by_cases c16 : 0 ≤ x8_2
            ·
             rw [if_pos c16] at H
             have c16b0 := eq_true c16
             have c16b1 : decide (0 ≤ x8_2) = true := decide_eq_true c16
             clear c16
             by_cases c17 : x8_2 ≤ (x5_1.length : Int)
             ·
              rw [if_pos c17] at H
              have c17b0 := eq_true c17
              have c17b1 : decide (x8_2 ≤ (x5_1.length : Int)) = true := decide_eq_true c17
              clear c17
              obtain ⟨y110, hy110⟩ : ∃ y_ : List Int, y_ = (x5_1.take (x8_2 : Int).toNat) := ⟨_, rfl⟩
              replace H : (if y107.length + y110.length < 17592186044416 then ((some (y107 ++ y110 : List Int)).bind fun y114 => ((some (([(rd ((rd_T29 l0 x6_1).f2) a1)] : List Int) : List Int)).bind fun y117 => (if y114.length + y117.length < 17592186044416 then ((some (y114 ++ y117 : List Int)).bind fun y120 => ((some (x5_1.drop (x8_2 : Int).toNat : List Int)).bind fun y123 => (if y120.length + y123.length < 17592186044416 then (spec_l9Values.l0 k2 l0 a1 (y120 ++ y123) (wrap64 (x6_1 + 1))) else (none)))) else (none)))) else (none)) = some r := by first | (rw [hy110]; with_reducible exact H) | (have H2_ := (Option.bind_some _ _).symm.trans H; rw [hy110]; with_reducible exact H2_) | (have H2_ := (Option.bind_some _ _).symm.trans H; with_reducible exact H2_) | with_reducible exact H | (rw [hy110]; exact H) | exact H
              have Ny110 := Aside0.mk hy110
              clear hy110
              by_cases c18 : y107.length + y110.length < 17592186044416
              ·
               rw [if_pos c18] at H
               have LMc18 := Aside0.mk c18
               clear c18
               obtain ⟨y114, hy114⟩ : ∃ y_ : List Int, y_ = (y107 ++ y110) := ⟨_, rfl⟩
               replace H : ((some (([(rd ((rd_T29 l0 x6_1).f2) a1)] : List Int) : List Int)).bind fun y117 => (if y114.length + y117.length < 17592186044416 then ((some (y114 ++ y117 : List Int)).bind fun y120 => ((some (x5_1.drop (x8_2 : Int).toNat : List Int)).bind fun y123 => (if y120.length + y123.length < 17592186044416 then (spec_l9Values.l0 k2 l0 a1 (y120 ++ y123) (wrap64 (x6_1 + 1))) else (none)))) else (none))) = some r := by first | (rw [hy114]; with_reducible exact H) | (have H2_ := (Option.bind_some _ _).symm.trans H; rw [hy114]; with_reducible exact H2_) | (have H2_ := (Option.bind_some _ _).symm.trans H; with_reducible exact H2_) | with_reducible exact H | (rw [hy114]; exact H) | exact H
               have Ny114 := Aside0.mk hy114
               clear hy114
               obtain ⟨y117, hy117⟩ : ∃ y_ : List Int, y_ = (([(rd ((rd_T29 l0 x6_1).f2) a1)] : List Int)) := ⟨_, rfl⟩
               replace H : (if y114.length + y117.length < 17592186044416 then ((some (y114 ++ y117 : List Int)).bind fun y120 => ((some (x5_1.drop (x8_2 : Int).toNat : List Int)).bind fun y123 => (if y120.length + y123.length < 17592186044416 then (spec_l9Values.l0 k2 l0 a1 (y120 ++ y123) (wrap64 (x6_1 + 1))) else (none)))) else (none)) = some r := by first | (rw [hy117]; with_reducible exact H) | (have H2_ := (Option.bind_some _ _).symm.trans H; rw [hy117]; with_reducible exact H2_) | (have H2_ := (Option.bind_some _ _).symm.trans H; with_reducible exact H2_) | with_reducible exact H | (rw [hy117]; exact H) | exact H
               have Ny117 := Aside0.mk hy117
               clear hy117
               by_cases c19 : y114.length + y117.length < 17592186044416
               ·
                rw [if_pos c19] at H
                have LMc19 := Aside0.mk c19
                clear c19
                obtain ⟨y120, hy120⟩ : ∃ y_ : List Int, y_ = (y114 ++ y117) := ⟨_, rfl⟩
                replace H : ((some (x5_1.drop (x8_2 : Int).toNat : List Int)).bind fun y123 => (if y120.length + y123.length < 17592186044416 then (spec_l9Values.l0 k2 l0 a1 (y120 ++ y123) (wrap64 (x6_1 + 1))) else (none))) = some r := by first | (rw [hy120]; with_reducible exact H) | (have H2_ := (Option.bind_some _ _).symm.trans H; rw [hy120]; with_reducible exact H2_) | (have H2_ := (Option.bind_some _ _).symm.trans H; with_reducible exact H2_) | with_reducible exact H | (rw [hy120]; exact H) | exact H
                have Ny120 := Aside0.mk hy120
                clear hy120
                have c20b0 := eq_true (of_decide_eq_true (by first | (with_reducible assumption) | assumption) : 0 ≤ x8_2)
                have c21b0 := eq_true (of_decide_eq_true (by first | (with_reducible assumption) | assumption) : x8_2 ≤ (x5_1.length : Int))
                obtain ⟨y123, hy123⟩ : ∃ y_ : List Int, y_ = (x5_1.drop (x8_2 : Int).toNat) := ⟨_, rfl⟩
                replace H : (if y120.length + y123.length < 17592186044416 then (spec_l9Values.l0 k2 l0 a1 (y120 ++ y123) (wrap64 (x6_1 + 1))) else (none)) = some r := by first | (rw [hy123]; with_reducible exact H) | (have H2_ := (Option.bind_some _ _).symm.trans H; rw [hy123]; with_reducible exact H2_) | (have H2_ := (Option.bind_some _ _).symm.trans H; with_reducible exact H2_) | with_reducible exact H | (rw [hy123]; exact H) | exact H
                have Ny123 := Aside0.mk hy123
                clear hy123
                by_cases c22 : y120.length + y123.length < 17592186044416
                ·
                 rw [if_pos c22] at H
                 have LMc22 := Aside0.mk c22
                 clear c22
                 obtain ⟨y127, hy127⟩ : ∃ y_ : List Int, y_ = (y120 ++ y123) := ⟨_, rfl⟩
                 replace H : (spec_l9Values.l0 k2 l0 a1 y127 (wrap64 (x6_1 + 1))) = some r := by first | (rw [hy127]; with_reducible exact H) | (have H2_ := (Option.bind_some _ _).symm.trans H; rw [hy127]; with_reducible exact H2_) | (have H2_ := (Option.bind_some _ _).symm.trans H; with_reducible exact H2_) | with_reducible exact H | (rw [hy127]; exact H) | exact H
                 have Ny127 := Aside0.mk hy127
                 clear hy127
                 have H' := Aside0.mk H
                 clear H
                 have p106 : 0 ≤ ((ji12) : Int) := of_decide_eq_true (by first | (with_reducible assumption) | assumption)
                 have q106 : (ji12) < (x5_1.length : Int) := of_decide_eq_true (by first | (with_reducible assumption) | assumption)
                 obtain ⟨ad106, e106, hx106_0⟩ := Kd.at_int (Kd.R_reads' HO_5.out).2.2 (ji12) p106 q106
                 cases e106
                 replace p106 := eq_true p106
                 replace q106 := eq_true q106
                 try go_wp2
                 have n0_ := aK (Kd.R_drew HO_5.out)
                 have n1_ := aK (below_drew1 HB.out)
                 clear HO_5 HB
                 have HO_5 := n0_
                 have HB := n1_
                 clear n0_ n1_
                 have q24 : (x8_2 : Int) ≤ ((x5_1.length : Int) : Int) := of_decide_eq_true (by first | (with_reducible assumption) | assumption)
                 obtain ⟨i024, hi024, _, hsz24, _⟩ := info_parts info3
                 have hroom24 : x5_1.length ≤ co10 := (Kd.R_reads' HO_5.out).2.1
                 have hC24 : Kd.C (Kd.int .i64) _ (some ad106) x5_1.length x5_1 := (Kd.R_reads' HO_5.out).2.2
                 have hcut24 := cut_to (P := Try.prog) 22 3 .i64 Try.underlying22 hi024 (some ad106) x5_1.length co10 x8_2 (of_decide_eq_true (by first | (with_reducible assumption) | assumption)) q24 hroom24
                 have hr24 := Kd.C_take (m := (x8_2 : Int).toNat) hC24 (by omega)
                 have hy24 : y110.length = (x8_2 : Int).toNat := (by rw [Ny110.out, List.length_take]; omega)
                 rw [← Ny110.out] at hr24
                 rw [← hy24] at hcut24
                 have HR113 := Aside0.mk hr24
                 have HC113 := aK (show y110.length ≤ co10 from by omega)
                 clear hr24 hC24 hroom24 hi024 hsz24
                 have KY24 := Aside0.mk hy24
                 clear hy24
                 have KL24 := aK (show (x8_2 : Int).toNat ≤ x5_1.length from by omega)
                 replace q24 := eq_true q24
                 have q25 : (x8_2 : Int) ≤ ((x5_1.length : Int) : Int) := of_decide_eq_true (by first | (with_reducible assumption) | assumption)
                 obtain ⟨i025, hi025, _, hsz25, _⟩ := info_parts info3
                 have hroom25 : x5_1.length ≤ co10 := (Kd.R_reads' HO_5.out).2.1
                 have hC25 : Kd.C (Kd.int .i64) _ (some ad106) x5_1.length x5_1 := (Kd.R_reads' HO_5.out).2.2
                 have q025 : (0 : Int) ≤ (x8_2 : Int) := of_decide_eq_true (by first | (with_reducible assumption) | assumption)
                 have hcut25 := cut_from (P := Try.prog) 22 3 .i64 Try.underlying22 hi025 1 hsz25 (some ad106) x5_1.length co10 x8_2 q025 q25
                 have hr25 := Kd.C_drop (m := (x8_2 : Int).toNat) (c := co10) hC25 (by omega) hroom25
                 obtain ⟨A25, hA25⟩ : ∃ A1, A1 = (if co10 = (x8_2 : Int).toNat then (some ad106) else ((some ad106) : Option Addr).map (·.add ((x8_2 : Int).toNat * 1))) := ⟨_, rfl⟩
                 obtain ⟨c25, hc25⟩ : ∃ c1, c1 = co10 - (x8_2 : Int).toNat := ⟨_, rfl⟩
                 have hy25 : y123.length = x5_1.length - (x8_2 : Int).toNat := (by rw [Ny123.out, List.length_drop] <;> omega)
                 rw [show (x5_1).drop (x8_2 : Int).toNat = y123 from Ny123.out.symm] at hr25
                 replace hr25 : Kd.C (Kd.int .i64) _ A25 y123.length y123 := (by rw [hA25]; exact hr25)
                 rw [← hy25, ← hA25, ← hc25] at hcut25
                 have HR126 := Aside0.mk hr25
                 have HC126 := aK (show y123.length ≤ c25 from by rw [hy25, hc25]; exact Nat.sub_le_sub_right hroom25 _)
                 clear hr25 hC25 hroom25 hi025 hsz25 hc25
                 have KY25 := Aside0.mk hy25
                 have KA25 := Aside0.mk hA25
                 clear hy25 hA25
                 have KL25 := aK (show (x8_2 : Int).toNat ≤ x5_1.length from by omega)
                 replace q25 := eq_true q25
                 refine start_ (n := 13) (S := fun w' => True) (ds := []) #[false, false, false, false, false, false, false, false, false, false, false, false, false] (by kernel_rfl) rfl rfl trivial (fun hHeld => ?_); refine with_tabW spec_l9Values.tab10 spec_l9Values.bits10 (fun HT_ HW_ => ?_)
                 generalize wr.drew = w23 at HO_5 HB HR113 HR126 hHeld ⊢
                 refine pu (i := 1) (N := some 42) #[false, true, false, false, false, false, false, false, false, false, false, false, false] rfl rfl HT_.out ?_
                 refine pu (i := 2) (N := some 43) #[false, true, true, false, false, false, false, false, false, false, false, false, false] rfl rfl HT_.out ?_
                 refine pu (i := 3) (N := some 44) #[false, true, true, true, false, false, false, false, false, false, false, false, false] rfl rfl HT_.out ?_
                 refine pu (i := 5) (N := some 46) #[false, true, true, true, false, true, false, false, false, false, false, false, false] rfl rfl HT_.out ?_
                 refine pu (i := 8) (N := some 49) #[false, true, true, true, false, true, false, false, true, false, false, false, false] rfl rfl HT_.out ?_
                 refine pu (i := 9) (N := some 50) #[false, true, true, true, false, true, false, false, true, true, false, false, false] rfl rfl HT_.out ?_
                 refine pu (i := 10) (N := some 51) #[false, true, true, true, false, true, false, false, true, true, true, false, false] rfl rfl HT_.out ?_
                 refine join_ (σ := Value × Value × Value) 3 #[true, true, true, true, true, true, true, false, true, true, true, false, false] (fun s_ => [(41, s_.1), (45, s_.2.1), (47, s_.2.2)]) (fun s_ w' => (Kd.R (Kd.int .i64) 3 w' w.heap.size (fun k_ => some k_ ≠ (s_.2.2 : Value).ownBlock ∧ some k_ ≠ (.slice (some ad106) x5_1.length co10 : Value).ownBlock) s_.2.1 y114) ∧ (Kd.R (Kd.int .i64) 3 w' w.heap.size (fun k_ => some k_ ≠ (s_.2.1 : Value).ownBlock ∧ some k_ ≠ (.slice (some ad106) x5_1.length co10 : Value).ownBlock) s_.2.2 y117) ∧ (Kd.R (Kd.int .i64) 3 w' w.heap.size (fun k_ => some k_ ≠ (s_.2.1 : Value).ownBlock ∧ some k_ ≠ (s_.2.2 : Value).ownBlock) (.slice (some ad106) x5_1.length co10) x5_1) ∧ (Below w.heap.size w w')) ?_ ?_
                 rotate_left
                 ·
                  intro hCont
                  refine two_ (i := 0) (j := 6) (Ni := some 41) (Nj := some 47) #[true, true, true, true, false, true, false, false, true, true, true, false, false] #[false, true, true, true, false, true, true, false, true, true, true, false, false] rfl rfl rfl rfl (two_of HT_.out (by kernel_rfl)) (by decide) (by decide) (fun K hK => ?_) (fun K hK => ?_)
                  ·
                   skip
                   refine Kd.R_lit_step (Kd.int .i64) _ 3 ?hg (N := 41) ?hd (xs := ([] : List Int)) (inner := []) (ok := fun _ => True) (okp := fun _ => True) ?hr ?hp (fun _ hk => hk) trivial (Below.refl _ _) (Nat.le_refl _) (by simp) ?_; (case hd => rfl); (case hg => rfl); (case hr => first | (go_simp; done) | (go_simp; rfl)); (case hp => exact (Reps.none _ _))
                   intro v108 w26 ho27 hb hg_ hnew_
                   clear hg_ hnew_
                   (first | rw [← Ny107.out] at ho27 | (simp only [Int.reduceToNat] at ho27; rw [← Ny107.out] at ho27))
                   have n0_ := aK (Kd.R_elder' (pR HO_5.out) (Kd.R_base ho27) hb)
                   have HO109 := aK (Kd.R_lower (nw1 ho27 (pR HO_5.out)) (below_size (pS HB.out)))
                   have n2_ := aK (Kd.C_below (by repeat (first | (with_reducible exact HR113.out) | (with_reducible refine Kd.C_alloc ?_ _) | (with_reducible refine Kd.C_drewN ?_ _) | (with_reducible refine Kd.C_drew ?_) | exact HR113.out)) hb)
                   have n3_ := aK (Kd.C_below (by repeat (first | (with_reducible exact HR126.out) | (with_reducible refine Kd.C_alloc ?_ _) | (with_reducible refine Kd.C_drewN ?_ _) | (with_reducible refine Kd.C_drew ?_) | exact HR126.out)) hb)
                   replace HB := bS HB hb
                   clear HO_5 HR113 HR126
                   have HO_5 := n0_
                   have HR113 := n2_
                   have HR126 := n3_
                   clear n0_ n2_ n3_ hb ho27
                   refine hK.out _ _ trivial (fun hHeld => ?_)
                   clear hK K
                   refine norm_ (a' := ?_) ?_ ?_
                   rotate_left
                   ·
                    show Act.put _ (some 41) _ = _
                    simp only [sP]
                    rfl
                   refine two_ (i := 4) (j := 6) (Ni := some 45) (Nj := some 47) #[true, true, true, true, true, true, false, false, true, true, true, false, false] #[true, true, true, true, false, true, true, false, true, true, true, false, false] rfl rfl rfl rfl (two_of HT_.out (by kernel_rfl)) (by decide) (by decide) (fun K hK => ?_) (fun K hK => ?_)
                   ·
                    skip
                    refine Kd.R_append_rows_step (Kd.int .i64) (w0 := w) w.heap.size (by rfl) (.tmp 41) (.tmp 44) 22 3 (.int .i64 0) 8 rfl Try.underlying22 info3 rfl (by decide) (by omega) v108 y107 y110 _ _ _ (fun k_ => some k_ ≠ (.slice (some ad106) x5_1.length co10 : Value).ownBlock) (fun _ => False) rfl rfl ?aO ?aR (fun _ _ h => h) (fun _ h => h.elim) ?aF ?aB ?aS ?aL ?_
                    (case aR => repeat (first | exact (by repeat (first | (with_reducible exact HR113.out) | (with_reducible refine Kd.C_alloc ?_ _) | (with_reducible refine Kd.C_drewN ?_ _) | (with_reducible refine Kd.C_drew ?_) | exact HR113.out)) | (with_reducible refine Kd.C_alloc ?_ _) | (with_reducible refine Kd.C_drewN ?_ _) | (with_reducible refine Kd.C_drew ?_)))
                    (case aB => exact (pS HB.out))
                    (case aF => exact (fun k_ hk => Kd.fresh' (Kd.R_lt (pR HO_5.out)) k_ hk))
                    (case aO => exact (pR (Kd.R_mono HO109.out (fun _ hk => hk.2))))
                    (case aS => exact (below_size (pS HB.out)))
                    (case aL => have := LMc18.out; omega)
                    intro v115 w28 ho hb hg hat
                    rw [← Ny114.out] at ho
                    have n0_ := aK (Kd.R_after (ok := (fun _ => True)) (pR HO_5.out) hg hat)
                    have n1_ := aK (hb)
                    have n2_ := aK ((show Kd.C (Kd.int .i64) w28 (some ad106) y110.length y110 from by rw [Ny110.out]; exact Kd.C_take (m := (x8_2 : Int).toNat) ((Kd.R_reads' (Kd.R_after (ok := (fun _ => True)) (pR HO_5.out) hg hat)).2.2) KL24.out))
                    have n3_ := aK ((show Kd.C (Kd.int .i64) w28 A25 y123.length y123 from by rw [Ny123.out, KA25.out]; exact Kd.C_drop (m := (x8_2 : Int).toNat) (c := co10) ((Kd.R_reads' (Kd.R_after (ok := (fun _ => True)) (pR HO_5.out) hg hat)).2.2) KL25.out ((Kd.R_reads' (Kd.R_after (ok := (fun _ => True)) (pR HO_5.out) hg hat)).2.1)))
                    have HO116 := aK (ho)
                    clear HO_5 HB HR113 HR126 HO109
                    have HO_5 := n0_
                    have HB := n1_
                    have HR113 := n2_
                    have HR126 := n3_
                    clear n0_ n1_ n2_ n3_ ho hb hg hat
                    refine hK.out _ _ trivial (fun hHeld => ?_)
                    clear hK K
                    refine norm_ (a' := ?_) ?_ ?_
                    rotate_left
                    ·
                     show Act.put _ (some 45) _ = _
                     simp only [sP]
                     rfl
                    refine one_ (i := 6) (N := some 47) #[true, true, true, true, true, true, true, false, true, true, true, false, false] rfl rfl (one_of HT_.out (by kernel_rfl)) (by decide) (fun K hK => ?_)
                    refine Kd.R_lit_step (Kd.int .i64) _ 3 ?hg (N := 47) ?hd (xs := ([(rd ((rd_T29 l0 x6_1).f2) a1)] : List Int)) (inner := [.int .i64 (rd ((rd_T29 l0 x6_1).f2) a1)]) (ok := fun _ => True) (okp := fun _ => True) ?hr ?hp (fun _ hk => hk) trivial (Below.refl _ _) (Nat.le_refl _) (by simp) ?_; (case hd => rfl); (case hg => rfl); (case hr => first | (go_simp; done) | (go_simp; rfl)); (case hp => exact (Reps.one (show Kd.M (Kd.int .i64) _ _ _ (rd ((rd_T29 l0 x6_1).f2) a1) [.int .i64 (rd ((rd_T29 l0 x6_1).f2) a1)] from rfl) (Reps.none _ _)))
                    intro v118 w29 ho30 hb hg_ hnew_
                    clear hg_ hnew_
                    (first | rw [← Ny117.out] at ho30 | (simp only [Int.reduceToNat] at ho30; rw [← Ny117.out] at ho30))
                    have n0_ := aK (Kd.R_elder' (pR HO_5.out) (Kd.R_base ho30) hb)
                    have n1_ := aK (Kd.R_elder' (pR HO116.out) (Kd.R_base ho30) hb)
                    have HO119 := aK (Kd.R_lower (nw2 ho30 (pR HO_5.out) (pR HO116.out)) (below_size (pS HB.out)))
                    have n3_ := aK (Kd.C_below (by repeat (first | (with_reducible exact HR113.out) | (with_reducible refine Kd.C_alloc ?_ _) | (with_reducible refine Kd.C_drewN ?_ _) | (with_reducible refine Kd.C_drew ?_) | exact HR113.out)) hb)
                    have n4_ := aK (Kd.C_below (by repeat (first | (with_reducible exact HR126.out) | (with_reducible refine Kd.C_alloc ?_ _) | (with_reducible refine Kd.C_drewN ?_ _) | (with_reducible refine Kd.C_drew ?_) | exact HR126.out)) hb)
                    replace HB := bS HB hb
                    clear HO_5 HO116 HR113 HR126
                    have HO_5 := n0_
                    have HO116 := n1_
                    have HR113 := n3_
                    have HR126 := n4_
                    clear n0_ n1_ n3_ n4_ hb ho30
                    refine hK.out _ _ trivial (fun hHeld => ?_)
                    clear hK K
                    refine norm_ (a' := ?_) ?_ ?_
                    rotate_left
                    ·
                     show Act.put _ (some 47) _ = _
                     simp only [sP]
                     rfl
                    exact norm_ (by simp only [putAll, Act.put, List.setIfInBounds_toArray, List.set_cons_zero, List.set_cons_succ]) (hCont (v108, v115, v118) _ ⟨(pR (rP HO116.out)), (pR (rP HO119.out)), (pR (rP HO_5.out)), (pS HB.out)⟩)
                   skip
                   refine Kd.R_lit_step (Kd.int .i64) _ 3 ?hg (N := 47) ?hd (xs := ([(rd ((rd_T29 l0 x6_1).f2) a1)] : List Int)) (inner := [.int .i64 (rd ((rd_T29 l0 x6_1).f2) a1)]) (ok := fun _ => True) (okp := fun _ => True) ?hr ?hp (fun _ hk => hk) trivial (Below.refl _ _) (Nat.le_refl _) (by simp) ?_; (case hd => rfl); (case hg => rfl); (case hr => first | (go_simp; done) | (go_simp; rfl)); (case hp => exact (Reps.one (show Kd.M (Kd.int .i64) _ _ _ (rd ((rd_T29 l0 x6_1).f2) a1) [.int .i64 (rd ((rd_T29 l0 x6_1).f2) a1)] from rfl) (Reps.none _ _)))
                   intro v118 w28 ho29 hb hg_ hnew_
                   clear hg_ hnew_
                   (first | rw [← Ny117.out] at ho29 | (simp only [Int.reduceToNat] at ho29; rw [← Ny117.out] at ho29))
                   have n0_ := aK (Kd.R_elder' (pR HO_5.out) (Kd.R_base ho29) hb)
                   have n1_ := aK (Kd.R_elder' (pR HO109.out) (Kd.R_base ho29) hb)
                   have HO119 := aK (Kd.R_lower (nw2 ho29 (pR HO_5.out) (pR HO109.out)) (below_size (pS HB.out)))
                   have n3_ := aK (Kd.C_below (by repeat (first | (with_reducible exact HR113.out) | (with_reducible refine Kd.C_alloc ?_ _) | (with_reducible refine Kd.C_drewN ?_ _) | (with_reducible refine Kd.C_drew ?_) | exact HR113.out)) hb)
                   have n4_ := aK (Kd.C_below (by repeat (first | (with_reducible exact HR126.out) | (with_reducible refine Kd.C_alloc ?_ _) | (with_reducible refine Kd.C_drewN ?_ _) | (with_reducible refine Kd.C_drew ?_) | exact HR126.out)) hb)
                   replace HB := bS HB hb
                   clear HO_5 HO109 HR113 HR126
                   have HO_5 := n0_
                   have HO109 := n1_
                   have HR113 := n3_
                   have HR126 := n4_
                   clear n0_ n1_ n3_ n4_ hb ho29
                   refine hK.out _ _ trivial (fun hHeld => ?_)
                   clear hK K
                   refine norm_ (a' := ?_) ?_ ?_
                   rotate_left
                   ·
                    show Act.put _ (some 47) _ = _
                    simp only [sP]
                    rfl
                   refine one_ (i := 4) (N := some 45) #[true, true, true, true, true, true, true, false, true, true, true, false, false] rfl rfl (one_of HT_.out (by kernel_rfl)) (by decide) (fun K hK => ?_)
                   refine Kd.R_append_rows_step (Kd.int .i64) (w0 := w) w.heap.size (by rfl) (.tmp 41) (.tmp 44) 22 3 (.int .i64 0) 8 rfl Try.underlying22 info3 rfl (by decide) (by omega) v108 y107 y110 _ _ _ (fun k_ => some k_ ≠ (.slice (some ad106) x5_1.length co10 : Value).ownBlock ∧ some k_ ≠ (v118 : Value).ownBlock) (fun _ => False) rfl rfl ?aO ?aR (fun _ _ h => h) (fun _ h => h.elim) ?aF ?aB ?aS ?aL ?_
                   (case aR => repeat (first | exact (by repeat (first | (with_reducible exact HR113.out) | (with_reducible refine Kd.C_alloc ?_ _) | (with_reducible refine Kd.C_drewN ?_ _) | (with_reducible refine Kd.C_drew ?_) | exact HR113.out)) | (with_reducible refine Kd.C_alloc ?_ _) | (with_reducible refine Kd.C_drewN ?_ _) | (with_reducible refine Kd.C_drew ?_)))
                   (case aB => exact (pS HB.out))
                   (case aF => exact (fun k_ hk => ⟨Kd.fresh' (Kd.R_lt (pR HO_5.out)) k_ hk, Kd.fresh' (Kd.R_lt (pR HO119.out)) k_ hk⟩))
                   (case aO => exact (pR (rP HO109.out)))
                   (case aS => exact (below_size (pS HB.out)))
                   (case aL => have := LMc18.out; omega)
                   intro v115 w30 ho hb hg hat
                   rw [← Ny114.out] at ho
                   have n0_ := aK (Kd.R_after (ok := (fun k_ => some k_ ≠ (v118 : Value).ownBlock)) (pR (rP HO_5.out)) hg hat)
                   have n1_ := aK (Kd.R_after (ok := (fun k_ => some k_ ≠ (.slice (some ad106) x5_1.length co10 : Value).ownBlock)) (pR (rP HO119.out)) hg hat)
                   have n2_ := aK (hb)
                   have n3_ := aK ((show Kd.C (Kd.int .i64) w30 (some ad106) y110.length y110 from by rw [Ny110.out]; exact Kd.C_take (m := (x8_2 : Int).toNat) ((Kd.R_reads' (Kd.R_after (ok := (fun k_ => some k_ ≠ (v118 : Value).ownBlock)) (pR (rP HO_5.out)) hg hat)).2.2) KL24.out))
                   have n4_ := aK ((show Kd.C (Kd.int .i64) w30 A25 y123.length y123 from by rw [Ny123.out, KA25.out]; exact Kd.C_drop (m := (x8_2 : Int).toNat) (c := co10) ((Kd.R_reads' (Kd.R_after (ok := (fun k_ => some k_ ≠ (v118 : Value).ownBlock)) (pR (rP HO_5.out)) hg hat)).2.2) KL25.out ((Kd.R_reads' (Kd.R_after (ok := (fun k_ => some k_ ≠ (v118 : Value).ownBlock)) (pR (rP HO_5.out)) hg hat)).2.1)))
                   have HO116 := aK (ho)
                   clear HO_5 HO119 HB HR113 HR126 HO109
                   have HO_5 := n0_
                   have HO119 := n1_
                   have HB := n2_
                   have HR113 := n3_
                   have HR126 := n4_
                   clear n0_ n1_ n2_ n3_ n4_ ho hb hg hat
                   refine hK.out _ _ trivial (fun hHeld => ?_)
                   clear hK K
                   refine norm_ (a' := ?_) ?_ ?_
                   rotate_left
                   ·
                    show Act.put _ (some 45) _ = _
                    simp only [sP]
                    rfl
                   exact norm_ (by simp only [putAll, Act.put, List.setIfInBounds_toArray, List.set_cons_zero, List.set_cons_succ]) (hCont (v108, v115, v118) _ ⟨(pR (rP HO116.out)), (pR (rP HO119.out)), (pR (rP HO_5.out)), (pS HB.out)⟩)
                  skip
                  refine Kd.R_lit_step (Kd.int .i64) _ 3 ?hg (N := 47) ?hd (xs := ([(rd ((rd_T29 l0 x6_1).f2) a1)] : List Int)) (inner := [.int .i64 (rd ((rd_T29 l0 x6_1).f2) a1)]) (ok := fun _ => True) (okp := fun _ => True) ?hr ?hp (fun _ hk => hk) trivial (Below.refl _ _) (Nat.le_refl _) (by simp) ?_; (case hd => rfl); (case hg => rfl); (case hr => first | (go_simp; done) | (go_simp; rfl)); (case hp => exact (Reps.one (show Kd.M (Kd.int .i64) _ _ _ (rd ((rd_T29 l0 x6_1).f2) a1) [.int .i64 (rd ((rd_T29 l0 x6_1).f2) a1)] from rfl) (Reps.none _ _)))
                  intro v118 w26 ho27 hb hg_ hnew_
                  clear hg_ hnew_
                  (first | rw [← Ny117.out] at ho27 | (simp only [Int.reduceToNat] at ho27; rw [← Ny117.out] at ho27))
                  have n0_ := aK (Kd.R_elder' (pR HO_5.out) (Kd.R_base ho27) hb)
                  have HO119 := aK (Kd.R_lower (nw1 ho27 (pR HO_5.out)) (below_size (pS HB.out)))
                  have n2_ := aK (Kd.C_below (by repeat (first | (with_reducible exact HR113.out) | (with_reducible refine Kd.C_alloc ?_ _) | (with_reducible refine Kd.C_drewN ?_ _) | (with_reducible refine Kd.C_drew ?_) | exact HR113.out)) hb)
                  have n3_ := aK (Kd.C_below (by repeat (first | (with_reducible exact HR126.out) | (with_reducible refine Kd.C_alloc ?_ _) | (with_reducible refine Kd.C_drewN ?_ _) | (with_reducible refine Kd.C_drew ?_) | exact HR126.out)) hb)
                  replace HB := bS HB hb
                  clear HO_5 HR113 HR126
                  have HO_5 := n0_
                  have HR113 := n2_
                  have HR126 := n3_
                  clear n0_ n2_ n3_ hb ho27
                  refine hK.out _ _ trivial (fun hHeld => ?_)
                  clear hK K
                  refine norm_ (a' := ?_) ?_ ?_
                  rotate_left
                  ·
                   show Act.put _ (some 47) _ = _
                   simp only [sP]
                   rfl
                  refine one_ (i := 0) (N := some 41) #[true, true, true, true, false, true, true, false, true, true, true, false, false] rfl rfl (one_of HT_.out (by kernel_rfl)) (by decide) (fun K hK => ?_)
                  refine Kd.R_lit_step (Kd.int .i64) _ 3 ?hg (N := 41) ?hd (xs := ([] : List Int)) (inner := []) (ok := fun _ => True) (okp := fun _ => True) ?hr ?hp (fun _ hk => hk) trivial (Below.refl _ _) (Nat.le_refl _) (by simp) ?_; (case hd => rfl); (case hg => rfl); (case hr => first | (go_simp; done) | (go_simp; rfl)); (case hp => exact (Reps.none _ _))
                  intro v108 w28 ho29 hb hg_ hnew_
                  clear hg_ hnew_
                  (first | rw [← Ny107.out] at ho29 | (simp only [Int.reduceToNat] at ho29; rw [← Ny107.out] at ho29))
                  have n0_ := aK (Kd.R_elder' (pR HO_5.out) (Kd.R_base ho29) hb)
                  have n1_ := aK (Kd.R_elder' (pR HO119.out) (Kd.R_base ho29) hb)
                  have HO109 := aK (Kd.R_lower (nw2 ho29 (pR HO_5.out) (pR HO119.out)) (below_size (pS HB.out)))
                  have n3_ := aK (Kd.C_below (by repeat (first | (with_reducible exact HR113.out) | (with_reducible refine Kd.C_alloc ?_ _) | (with_reducible refine Kd.C_drewN ?_ _) | (with_reducible refine Kd.C_drew ?_) | exact HR113.out)) hb)
                  have n4_ := aK (Kd.C_below (by repeat (first | (with_reducible exact HR126.out) | (with_reducible refine Kd.C_alloc ?_ _) | (with_reducible refine Kd.C_drewN ?_ _) | (with_reducible refine Kd.C_drew ?_) | exact HR126.out)) hb)
                  replace HB := bS HB hb
                  clear HO_5 HO119 HR113 HR126
                  have HO_5 := n0_
                  have HO119 := n1_
                  have HR113 := n3_
                  have HR126 := n4_
                  clear n0_ n1_ n3_ n4_ hb ho29
                  refine hK.out _ _ trivial (fun hHeld => ?_)
                  clear hK K
                  refine norm_ (a' := ?_) ?_ ?_
                  rotate_left
                  ·
                   show Act.put _ (some 41) _ = _
                   simp only [sP]
                   rfl
                  refine one_ (i := 4) (N := some 45) #[true, true, true, true, true, true, true, false, true, true, true, false, false] rfl rfl (one_of HT_.out (by kernel_rfl)) (by decide) (fun K hK => ?_)
                  refine Kd.R_append_rows_step (Kd.int .i64) (w0 := w) w.heap.size (by rfl) (.tmp 41) (.tmp 44) 22 3 (.int .i64 0) 8 rfl Try.underlying22 info3 rfl (by decide) (by omega) v108 y107 y110 _ _ _ (fun k_ => some k_ ≠ (.slice (some ad106) x5_1.length co10 : Value).ownBlock ∧ some k_ ≠ (v118 : Value).ownBlock) (fun _ => False) rfl rfl ?aO ?aR (fun _ _ h => h) (fun _ h => h.elim) ?aF ?aB ?aS ?aL ?_
                  (case aR => repeat (first | exact (by repeat (first | (with_reducible exact HR113.out) | (with_reducible refine Kd.C_alloc ?_ _) | (with_reducible refine Kd.C_drewN ?_ _) | (with_reducible refine Kd.C_drew ?_) | exact HR113.out)) | (with_reducible refine Kd.C_alloc ?_ _) | (with_reducible refine Kd.C_drewN ?_ _) | (with_reducible refine Kd.C_drew ?_)))
                  (case aB => exact (pS HB.out))
                  (case aF => exact (fun k_ hk => ⟨Kd.fresh' (Kd.R_lt (pR HO_5.out)) k_ hk, Kd.fresh' (Kd.R_lt (pR HO119.out)) k_ hk⟩))
                  (case aO => exact (pR (rP HO109.out)))
                  (case aS => exact (below_size (pS HB.out)))
                  (case aL => have := LMc18.out; omega)
                  intro v115 w30 ho hb hg hat
                  rw [← Ny114.out] at ho
                  have n0_ := aK (Kd.R_after (ok := (fun k_ => some k_ ≠ (v118 : Value).ownBlock)) (pR (rP HO_5.out)) hg hat)
                  have n1_ := aK (Kd.R_after (ok := (fun k_ => some k_ ≠ (.slice (some ad106) x5_1.length co10 : Value).ownBlock)) (pR (rP HO119.out)) hg hat)
                  have n2_ := aK (hb)
                  have n3_ := aK ((show Kd.C (Kd.int .i64) w30 (some ad106) y110.length y110 from by rw [Ny110.out]; exact Kd.C_take (m := (x8_2 : Int).toNat) ((Kd.R_reads' (Kd.R_after (ok := (fun k_ => some k_ ≠ (v118 : Value).ownBlock)) (pR (rP HO_5.out)) hg hat)).2.2) KL24.out))
                  have n4_ := aK ((show Kd.C (Kd.int .i64) w30 A25 y123.length y123 from by rw [Ny123.out, KA25.out]; exact Kd.C_drop (m := (x8_2 : Int).toNat) (c := co10) ((Kd.R_reads' (Kd.R_after (ok := (fun k_ => some k_ ≠ (v118 : Value).ownBlock)) (pR (rP HO_5.out)) hg hat)).2.2) KL25.out ((Kd.R_reads' (Kd.R_after (ok := (fun k_ => some k_ ≠ (v118 : Value).ownBlock)) (pR (rP HO_5.out)) hg hat)).2.1)))
                  have HO116 := aK (ho)
                  clear HO_5 HO119 HB HR113 HR126 HO109
                  have HO_5 := n0_
                  have HO119 := n1_
                  have HB := n2_
                  have HR113 := n3_
                  have HR126 := n4_
                  clear n0_ n1_ n2_ n3_ n4_ ho hb hg hat
                  refine hK.out _ _ trivial (fun hHeld => ?_)
                  clear hK K
                  refine norm_ (a' := ?_) ?_ ?_
                  rotate_left
                  ·
                   show Act.put _ (some 45) _ = _
                   simp only [sP]
                   rfl
                  exact norm_ (by simp only [putAll, Act.put, List.setIfInBounds_toArray, List.set_cons_zero, List.set_cons_succ]) (hCont (v108, v115, v118) _ ⟨(pR (rP HO116.out)), (pR (rP HO119.out)), (pR (rP HO_5.out)), (pS HB.out)⟩)
                 rintro ⟨v108, v115, v118⟩ w31 ⟨h0_, h1_, h2_, h3_⟩
                 have n0_ : Aside0 (Kd.R (Kd.int .i64) 3 w31 w.heap.size (fun k_ => some k_ ≠ (v118 : Value).ownBlock ∧ some k_ ≠ (.slice (some ad106) x5_1.length co10 : Value).ownBlock) v115 y114) := ⟨h0_⟩
                 have n1_ : Aside0 (Kd.R (Kd.int .i64) 3 w31 w.heap.size (fun k_ => some k_ ≠ (v115 : Value).ownBlock ∧ some k_ ≠ (.slice (some ad106) x5_1.length co10 : Value).ownBlock) v118 y117) := ⟨h1_⟩
                 have n2_ : Aside0 (Kd.R (Kd.int .i64) 3 w31 w.heap.size (fun k_ => some k_ ≠ (v115 : Value).ownBlock ∧ some k_ ≠ (v118 : Value).ownBlock) (.slice (some ad106) x5_1.length co10) x5_1) := ⟨h2_⟩
                 have n3_ : Aside0 (Below w.heap.size w w31) := ⟨h3_⟩
                 clear HO_5 HB h0_ h1_ h2_ h3_
                 have HO116 := n0_
                 have HO119 := n1_
                 have HO_5 := n2_
                 have HB := n3_
                 clear n0_ n1_ n2_ n3_
                 have hHeld := trivial
                 have HR113 := aK (show Kd.C (Kd.int .i64) _ (some ad106) y110.length y110 from by rw [Ny110.out]; exact Kd.C_take (m := (x8_2 : Int).toNat) ((Kd.R_reads' HO_5.out).2.2) KL24.out)
                 have HR126 := aK (show Kd.C (Kd.int .i64) _ A25 y123.length y123 from by rw [Ny123.out, KA25.out]; exact Kd.C_drop (m := (x8_2 : Int).toNat) (c := co10) ((Kd.R_reads' HO_5.out).2.2) KL25.out ((Kd.R_reads' HO_5.out).2.1))
                 obtain ⟨Ao33, co33, eo33⟩ := Kd.R_slice HO119.out
                 (first | subst eo33 | (obtain ⟨f4_, f5_⟩ := sI eo33; subst f4_; subst f5_))
                 refine norm_ (a' := ?_) ?_ ?_
                 rotate_left
                 ·
                  simp only [putAll, Act.put, List.setIfInBounds_toArray, List.set_cons_zero, List.set_cons_succ]
                  rfl
                 refine one_ (i := 7) (N := some 48) #[true, true, true, true, true, true, true, true, true, true, true, false, false] rfl rfl (one_of HT_.out (by kernel_rfl)) (by decide) (fun K hK => ?_)
                 refine Kd.R_append_rows_step (Kd.int .i64) (w0 := w) w.heap.size (by rfl) (.tmp 45) (.tmp 47) 22 3 (.int .i64 0) 8 rfl Try.underlying22 info3 rfl (by decide) (by omega) v115 y114 y117 _ _ _ (fun k_ => some k_ ≠ (.slice (some ad106) x5_1.length co10 : Value).ownBlock ∧ some k_ ≠ (.slice Ao33 y117.length co33 : Value).ownBlock) (fun _ => False) rfl rfl ?aO ?aR (fun _ _ h => h) (fun _ h => h.elim) ?aF ?aB ?aS ?aL ?_
                 (case aR => exact pC (Kd.R_reads' HO119.out).2.2)
                 (case aB => exact (pS HB.out))
                 (case aF => exact (fun k_ hk => ⟨Kd.fresh' (Kd.R_lt (pR HO_5.out)) k_ hk, Kd.fresh' (Kd.R_lt (pR HO119.out)) k_ hk⟩))
                 (case aO => exact (pR (rP HO116.out)))
                 (case aS => exact (below_size (pS HB.out)))
                 (case aL => have := LMc19.out; omega)
                 intro v121 w32 ho hb hg hat
                 rw [← Ny120.out] at ho
                 have n0_ := aK (Kd.R_after (ok := (fun k_ => some k_ ≠ (.slice Ao33 y117.length co33 : Value).ownBlock)) (pR (rP HO_5.out)) hg hat)
                 have n1_ := aK (Kd.R_after (ok := (fun k_ => some k_ ≠ (.slice (some ad106) x5_1.length co10 : Value).ownBlock)) (pR (rP HO119.out)) hg hat)
                 have n2_ := aK (hb)
                 have n3_ := aK ((show Kd.C (Kd.int .i64) w32 (some ad106) y110.length y110 from by rw [Ny110.out]; exact Kd.C_take (m := (x8_2 : Int).toNat) ((Kd.R_reads' (Kd.R_after (ok := (fun k_ => some k_ ≠ (.slice Ao33 y117.length co33 : Value).ownBlock)) (pR (rP HO_5.out)) hg hat)).2.2) KL24.out))
                 have n4_ := aK ((show Kd.C (Kd.int .i64) w32 A25 y123.length y123 from by rw [Ny123.out, KA25.out]; exact Kd.C_drop (m := (x8_2 : Int).toNat) (c := co10) ((Kd.R_reads' (Kd.R_after (ok := (fun k_ => some k_ ≠ (.slice Ao33 y117.length co33 : Value).ownBlock)) (pR (rP HO_5.out)) hg hat)).2.2) KL25.out ((Kd.R_reads' (Kd.R_after (ok := (fun k_ => some k_ ≠ (.slice Ao33 y117.length co33 : Value).ownBlock)) (pR (rP HO_5.out)) hg hat)).2.1)))
                 have HO122 := aK (ho)
                 clear HO_5 HO119 HB HR113 HR126 HO116
                 have HO_5 := n0_
                 have HO119 := n1_
                 have HB := n2_
                 have HR113 := n3_
                 have HR126 := n4_
                 clear n0_ n1_ n2_ n3_ n4_ ho hb hg hat
                 refine hK.out _ _ trivial (fun hHeld => ?_)
                 clear hK K
                 refine norm_ (a' := ?_) ?_ ?_
                 rotate_left
                 ·
                  show Act.put _ (some 48) _ = _
                  simp only [sP]
                  rfl
                 refine one_ (i := 11) (N := some 52) #[true, true, true, true, true, true, true, true, true, true, true, true, false] rfl rfl (one_of HT_.out (by kernel_rfl)) (by decide) (fun K hK => ?_)
                 refine Kd.R_append_rows_step (Kd.int .i64) (w0 := w) w.heap.size (by rfl) (.tmp 48) (.tmp 51) 22 3 (.int .i64 0) 8 rfl Try.underlying22 info3 rfl (by decide) (by omega) v121 y120 y123 _ _ _ (fun k_ => some k_ ≠ (.slice (some ad106) x5_1.length co10 : Value).ownBlock ∧ some k_ ≠ (.slice Ao33 y117.length co33 : Value).ownBlock) (fun _ => False) rfl rfl ?aO ?aR (fun _ _ h => h) (fun _ h => h.elim) ?aF ?aB ?aS ?aL ?_
                 (case aR => repeat (first | exact (by repeat (first | (with_reducible exact HR126.out) | (with_reducible refine Kd.C_alloc ?_ _) | (with_reducible refine Kd.C_drewN ?_ _) | (with_reducible refine Kd.C_drew ?_) | exact HR126.out)) | (with_reducible refine Kd.C_alloc ?_ _) | (with_reducible refine Kd.C_drewN ?_ _) | (with_reducible refine Kd.C_drew ?_)))
                 (case aB => exact (pS HB.out))
                 (case aF => exact (fun k_ hk => ⟨Kd.fresh' (Kd.R_lt (pR HO_5.out)) k_ hk, Kd.fresh' (Kd.R_lt (pR HO119.out)) k_ hk⟩))
                 (case aO => exact (pR HO122.out))
                 (case aS => exact (below_size (pS HB.out)))
                 (case aL => have := LMc22.out; omega)
                 intro v128 w34 ho hb hg hat
                 rw [← Ny127.out] at ho
                 have n0_ := aK (Kd.R_after (ok := (fun k_ => some k_ ≠ (.slice Ao33 y117.length co33 : Value).ownBlock)) (pR HO_5.out) hg hat)
                 have n1_ := aK (Kd.R_after (ok := (fun k_ => some k_ ≠ (.slice (some ad106) x5_1.length co10 : Value).ownBlock)) (pR HO119.out) hg hat)
                 have n2_ := aK (hb)
                 have n3_ := aK ((show Kd.C (Kd.int .i64) w34 (some ad106) y110.length y110 from by rw [Ny110.out]; exact Kd.C_take (m := (x8_2 : Int).toNat) ((Kd.R_reads' (Kd.R_after (ok := (fun k_ => some k_ ≠ (.slice Ao33 y117.length co33 : Value).ownBlock)) (pR HO_5.out) hg hat)).2.2) KL24.out))
                 have n4_ := aK ((show Kd.C (Kd.int .i64) w34 A25 y123.length y123 from by rw [Ny123.out, KA25.out]; exact Kd.C_drop (m := (x8_2 : Int).toNat) (c := co10) ((Kd.R_reads' (Kd.R_after (ok := (fun k_ => some k_ ≠ (.slice Ao33 y117.length co33 : Value).ownBlock)) (pR HO_5.out) hg hat)).2.2) KL25.out ((Kd.R_reads' (Kd.R_after (ok := (fun k_ => some k_ ≠ (.slice Ao33 y117.length co33 : Value).ownBlock)) (pR HO_5.out) hg hat)).2.1)))
                 have HO129 := aK (ho)
                 clear HO_5 HO119 HB HR113 HR126 HO122
                 have HO_5 := n0_
                 have HO119 := n1_
                 have HB := n2_
                 have HR113 := n3_
                 have HR126 := n4_
                 clear n0_ n1_ n2_ n3_ n4_ ho hb hg hat
                 refine hK.out _ _ trivial (fun hHeld => ?_)
                 clear hK K
                 refine norm_ (a' := ?_) ?_ ?_
                 rotate_left
                 ·
                  show Act.put _ (some 52) _ = _
                  simp only [sP]
                  rfl
                 refine pu (i := 12) (N := some 5) #[true, true, true, true, true, true, true, true, true, true, true, true, true] rfl rfl HT_.out ?_
                 refine done_ (done_of HT_.out (by kernel_rfl)) ?_
                 try go_wp2
                 go_roundg k2
                 case measure => have := HK1.out; have := HK2.out; omega
                 case rel => exact ⟨(y127), (wrap64 (x6_1 + 1)), (by first | rfl | (simp; done) | (simp [*]; done)), H', ⟨by have := HK1.out; have := HK2.out; omega⟩, ⟨pR (Kd.R_mono HO129.out (fun _ hk => trivial))⟩, ⟨pT HB.out⟩⟩
                rw [if_neg c22] at H
                exact absurd H (by simp)
               rw [if_neg c19] at H
               exact absurd H (by simp)
              rw [if_neg c18] at H
              exact absurd H (by simp)
             rw [if_neg c17] at H
             exact absurd H (by simp)
            rw [if_neg c16] at H
            exact absurd H (by simp)
           rw [if_neg c14] at H
           exact absurd H (by simp)
          rw [if_neg c13] at H
          exact absurd H (by simp)
         rw [if_neg c11] at H
         have c11b0 : decide (0 < x8_2) = false := decide_eq_false c11
         clear c11
         obtain ⟨y130, hy130⟩ : ∃ y_ : List Int, y_ = (([] : List Int)) := ⟨_, rfl⟩
         replace H : (if 0 ≤ x8_2 then (if x8_2 ≤ (x5_1.length : Int) then ((some (x5_1.take (x8_2 : Int).toNat : List Int)).bind fun y133 => (if y130.length + y133.length < 17592186044416 then ((some (y130 ++ y133 : List Int)).bind fun y137 => ((some (([(rd ((rd_T29 l0 x6_1).f2) a1)] : List Int) : List Int)).bind fun y140 => (if y137.length + y140.length < 17592186044416 then ((some (y137 ++ y140 : List Int)).bind fun y143 => ((some (x5_1.drop (x8_2 : Int).toNat : List Int)).bind fun y146 => (if y143.length + y146.length < 17592186044416 then (spec_l9Values.l0 k2 l0 a1 (y143 ++ y146) (wrap64 (x6_1 + 1))) else (none)))) else (none)))) else (none))) else (none)) else (none)) = some r := by first | (rw [hy130]; with_reducible exact H) | (have H2_ := (Option.bind_some _ _).symm.trans H; rw [hy130]; with_reducible exact H2_) | (have H2_ := (Option.bind_some _ _).symm.trans H; with_reducible exact H2_) | with_reducible exact H | (rw [hy130]; exact H) | exact H
         have Ny130 := Aside0.mk hy130
         clear hy130
         by_cases c35 : 0 ≤ x8_2
         ·
          rw [if_pos c35] at H
          have c35b0 := eq_true c35
          have c35b1 : decide (0 ≤ x8_2) = true := decide_eq_true c35
          clear c35
          by_cases c36 : x8_2 ≤ (x5_1.length : Int)
          ·
           rw [if_pos c36] at H
           have c36b0 := eq_true c36
           have c36b1 : decide (x8_2 ≤ (x5_1.length : Int)) = true := decide_eq_true c36
           clear c36
           obtain ⟨y133, hy133⟩ : ∃ y_ : List Int, y_ = (x5_1.take (x8_2 : Int).toNat) := ⟨_, rfl⟩
           replace H : (if y130.length + y133.length < 17592186044416 then ((some (y130 ++ y133 : List Int)).bind fun y137 => ((some (([(rd ((rd_T29 l0 x6_1).f2) a1)] : List Int) : List Int)).bind fun y140 => (if y137.length + y140.length < 17592186044416 then ((some (y137 ++ y140 : List Int)).bind fun y143 => ((some (x5_1.drop (x8_2 : Int).toNat : List Int)).bind fun y146 => (if y143.length + y146.length < 17592186044416 then (spec_l9Values.l0 k2 l0 a1 (y143 ++ y146) (wrap64 (x6_1 + 1))) else (none)))) else (none)))) else (none)) = some r := by first | (rw [hy133]; with_reducible exact H) | (have H2_ := (Option.bind_some _ _).symm.trans H; rw [hy133]; with_reducible exact H2_) | (have H2_ := (Option.bind_some _ _).symm.trans H; with_reducible exact H2_) | with_reducible exact H | (rw [hy133]; exact H) | exact H
           have Ny133 := Aside0.mk hy133
           clear hy133
           by_cases c37 : y130.length + y133.length < 17592186044416
           ·
            rw [if_pos c37] at H
            have LMc37 := Aside0.mk c37
            clear c37
            obtain ⟨y137, hy137⟩ : ∃ y_ : List Int, y_ = (y130 ++ y133) := ⟨_, rfl⟩
            replace H : ((some (([(rd ((rd_T29 l0 x6_1).f2) a1)] : List Int) : List Int)).bind fun y140 => (if y137.length + y140.length < 17592186044416 then ((some (y137 ++ y140 : List Int)).bind fun y143 => ((some (x5_1.drop (x8_2 : Int).toNat : List Int)).bind fun y146 => (if y143.length + y146.length < 17592186044416 then (spec_l9Values.l0 k2 l0 a1 (y143 ++ y146) (wrap64 (x6_1 + 1))) else (none)))) else (none))) = some r := by first | (rw [hy137]; with_reducible exact H) | (have H2_ := (Option.bind_some _ _).symm.trans H; rw [hy137]; with_reducible exact H2_) | (have H2_ := (Option.bind_some _ _).symm.trans H; with_reducible exact H2_) | with_reducible exact H | (rw [hy137]; exact H) | exact H
            have Ny137 := Aside0.mk hy137
            clear hy137
            obtain ⟨y140, hy140⟩ : ∃ y_ : List Int, y_ = (([(rd ((rd_T29 l0 x6_1).f2) a1)] : List Int)) := ⟨_, rfl⟩
            replace H : (if y137.length + y140.length < 17592186044416 then ((some (y137 ++ y140 : List Int)).bind fun y143 => ((some (x5_1.drop (x8_2 : Int).toNat : List Int)).bind fun y146 => (if y143.length + y146.length < 17592186044416 then (spec_l9Values.l0 k2 l0 a1 (y143 ++ y146) (wrap64 (x6_1 + 1))) else (none)))) else (none)) = some r := by first | (rw [hy140]; with_reducible exact H) | (have H2_ := (Option.bind_some _ _).symm.trans H; rw [hy140]; with_reducible exact H2_) | (have H2_ := (Option.bind_some _ _).symm.trans H; with_reducible exact H2_) | with_reducible exact H | (rw [hy140]; exact H) | exact H
            have Ny140 := Aside0.mk hy140
            clear hy140
            by_cases c38 : y137.length + y140.length < 17592186044416
            ·
             rw [if_pos c38] at H
             have LMc38 := Aside0.mk c38
             clear c38
             obtain ⟨y143, hy143⟩ : ∃ y_ : List Int, y_ = (y137 ++ y140) := ⟨_, rfl⟩
             replace H : ((some (x5_1.drop (x8_2 : Int).toNat : List Int)).bind fun y146 => (if y143.length + y146.length < 17592186044416 then (spec_l9Values.l0 k2 l0 a1 (y143 ++ y146) (wrap64 (x6_1 + 1))) else (none))) = some r := by first | (rw [hy143]; with_reducible exact H) | (have H2_ := (Option.bind_some _ _).symm.trans H; rw [hy143]; with_reducible exact H2_) | (have H2_ := (Option.bind_some _ _).symm.trans H; with_reducible exact H2_) | with_reducible exact H | (rw [hy143]; exact H) | exact H
             have Ny143 := Aside0.mk hy143
             clear hy143
             have c39b0 := eq_true (of_decide_eq_true (by first | (with_reducible assumption) | assumption) : 0 ≤ x8_2)
             have c40b0 := eq_true (of_decide_eq_true (by first | (with_reducible assumption) | assumption) : x8_2 ≤ (x5_1.length : Int))
             obtain ⟨y146, hy146⟩ : ∃ y_ : List Int, y_ = (x5_1.drop (x8_2 : Int).toNat) := ⟨_, rfl⟩
             replace H : (if y143.length + y146.length < 17592186044416 then (spec_l9Values.l0 k2 l0 a1 (y143 ++ y146) (wrap64 (x6_1 + 1))) else (none)) = some r := by first | (rw [hy146]; with_reducible exact H) | (have H2_ := (Option.bind_some _ _).symm.trans H; rw [hy146]; with_reducible exact H2_) | (have H2_ := (Option.bind_some _ _).symm.trans H; with_reducible exact H2_) | with_reducible exact H | (rw [hy146]; exact H) | exact H
             have Ny146 := Aside0.mk hy146
             clear hy146
             by_cases c41 : y143.length + y146.length < 17592186044416
             ·
              rw [if_pos c41] at H
              have LMc41 := Aside0.mk c41
              clear c41
              obtain ⟨y150, hy150⟩ : ∃ y_ : List Int, y_ = (y143 ++ y146) := ⟨_, rfl⟩
              replace H : (spec_l9Values.l0 k2 l0 a1 y150 (wrap64 (x6_1 + 1))) = some r := by first | (rw [hy150]; with_reducible exact H) | (have H2_ := (Option.bind_some _ _).symm.trans H; rw [hy150]; with_reducible exact H2_) | (have H2_ := (Option.bind_some _ _).symm.trans H; with_reducible exact H2_) | with_reducible exact H | (rw [hy150]; exact H) | exact H
              have Ny150 := Aside0.mk hy150
              clear hy150
              have H' := Aside0.mk H
              clear H
              try go_wp2
              have n0_ := aK (Kd.R_drew HO_5.out)
              have n1_ := aK (below_drew1 HB.out)
              clear HO_5 HB
              have HO_5 := n0_
              have HB := n1_
              clear n0_ n1_
              have q43 : (x8_2 : Int) ≤ ((x5_1.length : Int) : Int) := of_decide_eq_true (by first | (with_reducible assumption) | assumption)
              obtain ⟨i043, hi043, _, hsz43, _⟩ := info_parts info3
              have hroom43 : x5_1.length ≤ co10 := (Kd.R_reads' HO_5.out).2.1
              have hC43 : Kd.C (Kd.int .i64) _ Ao10 x5_1.length x5_1 := (Kd.R_reads' HO_5.out).2.2
              have hcut43 := cut_to (P := Try.prog) 22 3 .i64 Try.underlying22 hi043 Ao10 x5_1.length co10 x8_2 (of_decide_eq_true (by first | (with_reducible assumption) | assumption)) q43 hroom43
              have hr43 := Kd.C_take (m := (x8_2 : Int).toNat) hC43 (by omega)
              have hy43 : y133.length = (x8_2 : Int).toNat := (by rw [Ny133.out, List.length_take]; omega)
              rw [← Ny133.out] at hr43
              rw [← hy43] at hcut43
              have HR136 := Aside0.mk hr43
              have HC136 := aK (show y133.length ≤ co10 from by omega)
              clear hr43 hC43 hroom43 hi043 hsz43
              have KY43 := Aside0.mk hy43
              clear hy43
              have KL43 := aK (show (x8_2 : Int).toNat ≤ x5_1.length from by omega)
              replace q43 := eq_true q43
              have q44 : (x8_2 : Int) ≤ ((x5_1.length : Int) : Int) := of_decide_eq_true (by first | (with_reducible assumption) | assumption)
              obtain ⟨i044, hi044, _, hsz44, _⟩ := info_parts info3
              have hroom44 : x5_1.length ≤ co10 := (Kd.R_reads' HO_5.out).2.1
              have hC44 : Kd.C (Kd.int .i64) _ Ao10 x5_1.length x5_1 := (Kd.R_reads' HO_5.out).2.2
              have q044 : (0 : Int) ≤ (x8_2 : Int) := of_decide_eq_true (by first | (with_reducible assumption) | assumption)
              have hcut44 := cut_from (P := Try.prog) 22 3 .i64 Try.underlying22 hi044 1 hsz44 Ao10 x5_1.length co10 x8_2 q044 q44
              have hr44 := Kd.C_drop (m := (x8_2 : Int).toNat) (c := co10) hC44 (by omega) hroom44
              obtain ⟨A44, hA44⟩ : ∃ A1, A1 = (if co10 = (x8_2 : Int).toNat then Ao10 else (Ao10 : Option Addr).map (·.add ((x8_2 : Int).toNat * 1))) := ⟨_, rfl⟩
              obtain ⟨c44, hc44⟩ : ∃ c1, c1 = co10 - (x8_2 : Int).toNat := ⟨_, rfl⟩
              have hy44 : y146.length = x5_1.length - (x8_2 : Int).toNat := (by rw [Ny146.out, List.length_drop] <;> omega)
              rw [show (x5_1).drop (x8_2 : Int).toNat = y146 from Ny146.out.symm] at hr44
              replace hr44 : Kd.C (Kd.int .i64) _ A44 y146.length y146 := (by rw [hA44]; exact hr44)
              rw [← hy44, ← hA44, ← hc44] at hcut44
              have HR149 := Aside0.mk hr44
              have HC149 := aK (show y146.length ≤ c44 from by rw [hy44, hc44]; exact Nat.sub_le_sub_right hroom44 _)
              clear hr44 hC44 hroom44 hi044 hsz44 hc44
              have KY44 := Aside0.mk hy44
              have KA44 := Aside0.mk hA44
              clear hy44 hA44
              have KL44 := aK (show (x8_2 : Int).toNat ≤ x5_1.length from by omega)
              replace q44 := eq_true q44
              refine start_ (n := 13) (S := fun w' => True) (ds := []) #[false, false, false, false, false, false, false, false, false, false, false, false, false] (by kernel_rfl) rfl rfl trivial (fun hHeld => ?_); refine with_tabW spec_l9Values.tab10 spec_l9Values.bits10 (fun HT_ HW_ => ?_)
              generalize wr.drew = w42 at HO_5 HB HR136 HR149 hHeld ⊢
              refine pu (i := 1) (N := some 42) #[false, true, false, false, false, false, false, false, false, false, false, false, false] rfl rfl HT_.out ?_
              refine pu (i := 2) (N := some 43) #[false, true, true, false, false, false, false, false, false, false, false, false, false] rfl rfl HT_.out ?_
              refine pu (i := 3) (N := some 44) #[false, true, true, true, false, false, false, false, false, false, false, false, false] rfl rfl HT_.out ?_
              refine pu (i := 5) (N := some 46) #[false, true, true, true, false, true, false, false, false, false, false, false, false] rfl rfl HT_.out ?_
              refine pu (i := 8) (N := some 49) #[false, true, true, true, false, true, false, false, true, false, false, false, false] rfl rfl HT_.out ?_
              refine pu (i := 9) (N := some 50) #[false, true, true, true, false, true, false, false, true, true, false, false, false] rfl rfl HT_.out ?_
              refine pu (i := 10) (N := some 51) #[false, true, true, true, false, true, false, false, true, true, true, false, false] rfl rfl HT_.out ?_
              refine join_ (σ := Value × Value × Value) 3 #[true, true, true, true, true, true, true, false, true, true, true, false, false] (fun s_ => [(41, s_.1), (45, s_.2.1), (47, s_.2.2)]) (fun s_ w' => (Kd.R (Kd.int .i64) 3 w' w.heap.size (fun k_ => some k_ ≠ (s_.2.2 : Value).ownBlock ∧ some k_ ≠ (.slice Ao10 x5_1.length co10 : Value).ownBlock) s_.2.1 y137) ∧ (Kd.R (Kd.int .i64) 3 w' w.heap.size (fun k_ => some k_ ≠ (s_.2.1 : Value).ownBlock ∧ some k_ ≠ (.slice Ao10 x5_1.length co10 : Value).ownBlock) s_.2.2 y140) ∧ (Kd.R (Kd.int .i64) 3 w' w.heap.size (fun k_ => some k_ ≠ (s_.2.1 : Value).ownBlock ∧ some k_ ≠ (s_.2.2 : Value).ownBlock) (.slice Ao10 x5_1.length co10) x5_1) ∧ (Below w.heap.size w w')) ?_ ?_
              rotate_left
              ·
               intro hCont
               refine two_ (i := 0) (j := 6) (Ni := some 41) (Nj := some 47) #[true, true, true, true, false, true, false, false, true, true, true, false, false] #[false, true, true, true, false, true, true, false, true, true, true, false, false] rfl rfl rfl rfl (two_of HT_.out (by kernel_rfl)) (by decide) (by decide) (fun K hK => ?_) (fun K hK => ?_)
               ·
                skip
                refine Kd.R_lit_step (Kd.int .i64) _ 3 ?hg (N := 41) ?hd (xs := ([] : List Int)) (inner := []) (ok := fun _ => True) (okp := fun _ => True) ?hr ?hp (fun _ hk => hk) trivial (Below.refl _ _) (Nat.le_refl _) (by simp) ?_; (case hd => rfl); (case hg => rfl); (case hr => first | (go_simp; done) | (go_simp; rfl)); (case hp => exact (Reps.none _ _))
                intro v131 w45 ho46 hb hg_ hnew_
                clear hg_ hnew_
                (first | rw [← Ny130.out] at ho46 | (simp only [Int.reduceToNat] at ho46; rw [← Ny130.out] at ho46))
                have n0_ := aK (Kd.R_elder' (pR HO_5.out) (Kd.R_base ho46) hb)
                have HO132 := aK (Kd.R_lower (nw1 ho46 (pR HO_5.out)) (below_size (pS HB.out)))
                have n2_ := aK (Kd.C_below (by repeat (first | (with_reducible exact HR136.out) | (with_reducible refine Kd.C_alloc ?_ _) | (with_reducible refine Kd.C_drewN ?_ _) | (with_reducible refine Kd.C_drew ?_) | exact HR136.out)) hb)
                have n3_ := aK (Kd.C_below (by repeat (first | (with_reducible exact HR149.out) | (with_reducible refine Kd.C_alloc ?_ _) | (with_reducible refine Kd.C_drewN ?_ _) | (with_reducible refine Kd.C_drew ?_) | exact HR149.out)) hb)
                replace HB := bS HB hb
                clear HO_5 HR136 HR149
                have HO_5 := n0_
                have HR136 := n2_
                have HR149 := n3_
                clear n0_ n2_ n3_ hb ho46
                refine hK.out _ _ trivial (fun hHeld => ?_)
                clear hK K
                refine norm_ (a' := ?_) ?_ ?_
                rotate_left
                ·
                 show Act.put _ (some 41) _ = _
                 simp only [sP]
                 rfl
                refine two_ (i := 4) (j := 6) (Ni := some 45) (Nj := some 47) #[true, true, true, true, true, true, false, false, true, true, true, false, false] #[true, true, true, true, false, true, true, false, true, true, true, false, false] rfl rfl rfl rfl (two_of HT_.out (by kernel_rfl)) (by decide) (by decide) (fun K hK => ?_) (fun K hK => ?_)
                ·
                 skip
                 refine Kd.R_append_rows_step (Kd.int .i64) (w0 := w) w.heap.size (by rfl) (.tmp 41) (.tmp 44) 22 3 (.int .i64 0) 8 rfl Try.underlying22 info3 rfl (by decide) (by omega) v131 y130 y133 _ _ _ (fun k_ => some k_ ≠ (.slice Ao10 x5_1.length co10 : Value).ownBlock) (fun _ => False) rfl rfl ?aO ?aR (fun _ _ h => h) (fun _ h => h.elim) ?aF ?aB ?aS ?aL ?_
                 (case aR => repeat (first | exact (by repeat (first | (with_reducible exact HR136.out) | (with_reducible refine Kd.C_alloc ?_ _) | (with_reducible refine Kd.C_drewN ?_ _) | (with_reducible refine Kd.C_drew ?_) | exact HR136.out)) | (with_reducible refine Kd.C_alloc ?_ _) | (with_reducible refine Kd.C_drewN ?_ _) | (with_reducible refine Kd.C_drew ?_)))
                 (case aB => exact (pS HB.out))
                 (case aF => exact (fun k_ hk => Kd.fresh' (Kd.R_lt (pR HO_5.out)) k_ hk))
                 (case aO => exact (pR (Kd.R_mono HO132.out (fun _ hk => hk.2))))
                 (case aS => exact (below_size (pS HB.out)))
                 (case aL => have := LMc37.out; omega)
                 intro v138 w47 ho hb hg hat
                 rw [← Ny137.out] at ho
                 have n0_ := aK (Kd.R_after (ok := (fun _ => True)) (pR HO_5.out) hg hat)
                 have n1_ := aK (hb)
                 have n2_ := aK ((show Kd.C (Kd.int .i64) w47 Ao10 y133.length y133 from by rw [Ny133.out]; exact Kd.C_take (m := (x8_2 : Int).toNat) ((Kd.R_reads' (Kd.R_after (ok := (fun _ => True)) (pR HO_5.out) hg hat)).2.2) KL43.out))
                 have n3_ := aK ((show Kd.C (Kd.int .i64) w47 A44 y146.length y146 from by rw [Ny146.out, KA44.out]; exact Kd.C_drop (m := (x8_2 : Int).toNat) (c := co10) ((Kd.R_reads' (Kd.R_after (ok := (fun _ => True)) (pR HO_5.out) hg hat)).2.2) KL44.out ((Kd.R_reads' (Kd.R_after (ok := (fun _ => True)) (pR HO_5.out) hg hat)).2.1)))
                 have HO139 := aK (ho)
                 clear HO_5 HB HR136 HR149 HO132
                 have HO_5 := n0_
                 have HB := n1_
                 have HR136 := n2_
                 have HR149 := n3_
                 clear n0_ n1_ n2_ n3_ ho hb hg hat
                 refine hK.out _ _ trivial (fun hHeld => ?_)
                 clear hK K
                 refine norm_ (a' := ?_) ?_ ?_
                 rotate_left
                 ·
                  show Act.put _ (some 45) _ = _
                  simp only [sP]
                  rfl
                 refine one_ (i := 6) (N := some 47) #[true, true, true, true, true, true, true, false, true, true, true, false, false] rfl rfl (one_of HT_.out (by kernel_rfl)) (by decide) (fun K hK => ?_)
                 refine Kd.R_lit_step (Kd.int .i64) _ 3 ?hg (N := 47) ?hd (xs := ([(rd ((rd_T29 l0 x6_1).f2) a1)] : List Int)) (inner := [.int .i64 (rd ((rd_T29 l0 x6_1).f2) a1)]) (ok := fun _ => True) (okp := fun _ => True) ?hr ?hp (fun _ hk => hk) trivial (Below.refl _ _) (Nat.le_refl _) (by simp) ?_; (case hd => rfl); (case hg => rfl); (case hr => first | (go_simp; done) | (go_simp; rfl)); (case hp => exact (Reps.one (show Kd.M (Kd.int .i64) _ _ _ (rd ((rd_T29 l0 x6_1).f2) a1) [.int .i64 (rd ((rd_T29 l0 x6_1).f2) a1)] from rfl) (Reps.none _ _)))
                 intro v141 w48 ho49 hb hg_ hnew_
                 clear hg_ hnew_
                 (first | rw [← Ny140.out] at ho49 | (simp only [Int.reduceToNat] at ho49; rw [← Ny140.out] at ho49))
                 have n0_ := aK (Kd.R_elder' (pR HO_5.out) (Kd.R_base ho49) hb)
                 have n1_ := aK (Kd.R_elder' (pR HO139.out) (Kd.R_base ho49) hb)
                 have HO142 := aK (Kd.R_lower (nw2 ho49 (pR HO_5.out) (pR HO139.out)) (below_size (pS HB.out)))
                 have n3_ := aK (Kd.C_below (by repeat (first | (with_reducible exact HR136.out) | (with_reducible refine Kd.C_alloc ?_ _) | (with_reducible refine Kd.C_drewN ?_ _) | (with_reducible refine Kd.C_drew ?_) | exact HR136.out)) hb)
                 have n4_ := aK (Kd.C_below (by repeat (first | (with_reducible exact HR149.out) | (with_reducible refine Kd.C_alloc ?_ _) | (with_reducible refine Kd.C_drewN ?_ _) | (with_reducible refine Kd.C_drew ?_) | exact HR149.out)) hb)
                 replace HB := bS HB hb
                 clear HO_5 HO139 HR136 HR149
                 have HO_5 := n0_
                 have HO139 := n1_
                 have HR136 := n3_
                 have HR149 := n4_
                 clear n0_ n1_ n3_ n4_ hb ho49
                 refine hK.out _ _ trivial (fun hHeld => ?_)
                 clear hK K
                 refine norm_ (a' := ?_) ?_ ?_
                 rotate_left
                 ·
                  show Act.put _ (some 47) _ = _
                  simp only [sP]
                  rfl
                 exact norm_ (by simp only [putAll, Act.put, List.setIfInBounds_toArray, List.set_cons_zero, List.set_cons_succ]) (hCont (v131, v138, v141) _ ⟨(pR (rP HO139.out)), (pR (rP HO142.out)), (pR (rP HO_5.out)), (pS HB.out)⟩)
                skip
                refine Kd.R_lit_step (Kd.int .i64) _ 3 ?hg (N := 47) ?hd (xs := ([(rd ((rd_T29 l0 x6_1).f2) a1)] : List Int)) (inner := [.int .i64 (rd ((rd_T29 l0 x6_1).f2) a1)]) (ok := fun _ => True) (okp := fun _ => True) ?hr ?hp (fun _ hk => hk) trivial (Below.refl _ _) (Nat.le_refl _) (by simp) ?_; (case hd => rfl); (case hg => rfl); (case hr => first | (go_simp; done) | (go_simp; rfl)); (case hp => exact (Reps.one (show Kd.M (Kd.int .i64) _ _ _ (rd ((rd_T29 l0 x6_1).f2) a1) [.int .i64 (rd ((rd_T29 l0 x6_1).f2) a1)] from rfl) (Reps.none _ _)))
                intro v141 w47 ho48 hb hg_ hnew_
                clear hg_ hnew_
                (first | rw [← Ny140.out] at ho48 | (simp only [Int.reduceToNat] at ho48; rw [← Ny140.out] at ho48))
                have n0_ := aK (Kd.R_elder' (pR HO_5.out) (Kd.R_base ho48) hb)
                have n1_ := aK (Kd.R_elder' (pR HO132.out) (Kd.R_base ho48) hb)
                have HO142 := aK (Kd.R_lower (nw2 ho48 (pR HO_5.out) (pR HO132.out)) (below_size (pS HB.out)))
                have n3_ := aK (Kd.C_below (by repeat (first | (with_reducible exact HR136.out) | (with_reducible refine Kd.C_alloc ?_ _) | (with_reducible refine Kd.C_drewN ?_ _) | (with_reducible refine Kd.C_drew ?_) | exact HR136.out)) hb)
                have n4_ := aK (Kd.C_below (by repeat (first | (with_reducible exact HR149.out) | (with_reducible refine Kd.C_alloc ?_ _) | (with_reducible refine Kd.C_drewN ?_ _) | (with_reducible refine Kd.C_drew ?_) | exact HR149.out)) hb)
                replace HB := bS HB hb
                clear HO_5 HO132 HR136 HR149
                have HO_5 := n0_
                have HO132 := n1_
                have HR136 := n3_
                have HR149 := n4_
                clear n0_ n1_ n3_ n4_ hb ho48
                refine hK.out _ _ trivial (fun hHeld => ?_)
                clear hK K
                refine norm_ (a' := ?_) ?_ ?_
                rotate_left
                ·
                 show Act.put _ (some 47) _ = _
                 simp only [sP]
                 rfl
                refine one_ (i := 4) (N := some 45) #[true, true, true, true, true, true, true, false, true, true, true, false, false] rfl rfl (one_of HT_.out (by kernel_rfl)) (by decide) (fun K hK => ?_)
                refine Kd.R_append_rows_step (Kd.int .i64) (w0 := w) w.heap.size (by rfl) (.tmp 41) (.tmp 44) 22 3 (.int .i64 0) 8 rfl Try.underlying22 info3 rfl (by decide) (by omega) v131 y130 y133 _ _ _ (fun k_ => some k_ ≠ (.slice Ao10 x5_1.length co10 : Value).ownBlock ∧ some k_ ≠ (v141 : Value).ownBlock) (fun _ => False) rfl rfl ?aO ?aR (fun _ _ h => h) (fun _ h => h.elim) ?aF ?aB ?aS ?aL ?_
                (case aR => repeat (first | exact (by repeat (first | (with_reducible exact HR136.out) | (with_reducible refine Kd.C_alloc ?_ _) | (with_reducible refine Kd.C_drewN ?_ _) | (with_reducible refine Kd.C_drew ?_) | exact HR136.out)) | (with_reducible refine Kd.C_alloc ?_ _) | (with_reducible refine Kd.C_drewN ?_ _) | (with_reducible refine Kd.C_drew ?_)))
                (case aB => exact (pS HB.out))
                (case aF => exact (fun k_ hk => ⟨Kd.fresh' (Kd.R_lt (pR HO_5.out)) k_ hk, Kd.fresh' (Kd.R_lt (pR HO142.out)) k_ hk⟩))
                (case aO => exact (pR (rP HO132.out)))
                (case aS => exact (below_size (pS HB.out)))
                (case aL => have := LMc37.out; omega)
                intro v138 w49 ho hb hg hat
                rw [← Ny137.out] at ho
                have n0_ := aK (Kd.R_after (ok := (fun k_ => some k_ ≠ (v141 : Value).ownBlock)) (pR (rP HO_5.out)) hg hat)
                have n1_ := aK (Kd.R_after (ok := (fun k_ => some k_ ≠ (.slice Ao10 x5_1.length co10 : Value).ownBlock)) (pR (rP HO142.out)) hg hat)
                have n2_ := aK (hb)
                have n3_ := aK ((show Kd.C (Kd.int .i64) w49 Ao10 y133.length y133 from by rw [Ny133.out]; exact Kd.C_take (m := (x8_2 : Int).toNat) ((Kd.R_reads' (Kd.R_after (ok := (fun k_ => some k_ ≠ (v141 : Value).ownBlock)) (pR (rP HO_5.out)) hg hat)).2.2) KL43.out))
                have n4_ := aK ((show Kd.C (Kd.int .i64) w49 A44 y146.length y146 from by rw [Ny146.out, KA44.out]; exact Kd.C_drop (m := (x8_2 : Int).toNat) (c := co10) ((Kd.R_reads' (Kd.R_after (ok := (fun k_ => some k_ ≠ (v141 : Value).ownBlock)) (pR (rP HO_5.out)) hg hat)).2.2) KL44.out ((Kd.R_reads' (Kd.R_after (ok := (fun k_ => some k_ ≠ (v141 : Value).ownBlock)) (pR (rP HO_5.out)) hg hat)).2.1)))
                have HO139 := aK (ho)
                clear HO_5 HO142 HB HR136 HR149 HO132
                have HO_5 := n0_
                have HO142 := n1_
                have HB := n2_
                have HR136 := n3_
                have HR149 := n4_
                clear n0_ n1_ n2_ n3_ n4_ ho hb hg hat
                refine hK.out _ _ trivial (fun hHeld => ?_)
                clear hK K
                refine norm_ (a' := ?_) ?_ ?_
                rotate_left
                ·
                 show Act.put _ (some 45) _ = _
                 simp only [sP]
                 rfl
                exact norm_ (by simp only [putAll, Act.put, List.setIfInBounds_toArray, List.set_cons_zero, List.set_cons_succ]) (hCont (v131, v138, v141) _ ⟨(pR (rP HO139.out)), (pR (rP HO142.out)), (pR (rP HO_5.out)), (pS HB.out)⟩)
               skip
               refine Kd.R_lit_step (Kd.int .i64) _ 3 ?hg (N := 47) ?hd (xs := ([(rd ((rd_T29 l0 x6_1).f2) a1)] : List Int)) (inner := [.int .i64 (rd ((rd_T29 l0 x6_1).f2) a1)]) (ok := fun _ => True) (okp := fun _ => True) ?hr ?hp (fun _ hk => hk) trivial (Below.refl _ _) (Nat.le_refl _) (by simp) ?_; (case hd => rfl); (case hg => rfl); (case hr => first | (go_simp; done) | (go_simp; rfl)); (case hp => exact (Reps.one (show Kd.M (Kd.int .i64) _ _ _ (rd ((rd_T29 l0 x6_1).f2) a1) [.int .i64 (rd ((rd_T29 l0 x6_1).f2) a1)] from rfl) (Reps.none _ _)))
               intro v141 w45 ho46 hb hg_ hnew_
               clear hg_ hnew_
               (first | rw [← Ny140.out] at ho46 | (simp only [Int.reduceToNat] at ho46; rw [← Ny140.out] at ho46))
               have n0_ := aK (Kd.R_elder' (pR HO_5.out) (Kd.R_base ho46) hb)
               have HO142 := aK (Kd.R_lower (nw1 ho46 (pR HO_5.out)) (below_size (pS HB.out)))
               have n2_ := aK (Kd.C_below (by repeat (first | (with_reducible exact HR136.out) | (with_reducible refine Kd.C_alloc ?_ _) | (with_reducible refine Kd.C_drewN ?_ _) | (with_reducible refine Kd.C_drew ?_) | exact HR136.out)) hb)
               have n3_ := aK (Kd.C_below (by repeat (first | (with_reducible exact HR149.out) | (with_reducible refine Kd.C_alloc ?_ _) | (with_reducible refine Kd.C_drewN ?_ _) | (with_reducible refine Kd.C_drew ?_) | exact HR149.out)) hb)
               replace HB := bS HB hb
               clear HO_5 HR136 HR149
               have HO_5 := n0_
               have HR136 := n2_
               have HR149 := n3_
               clear n0_ n2_ n3_ hb ho46
               refine hK.out _ _ trivial (fun hHeld => ?_)
               clear hK K
               refine norm_ (a' := ?_) ?_ ?_
               rotate_left
               ·
                show Act.put _ (some 47) _ = _
                simp only [sP]
                rfl
               refine one_ (i := 0) (N := some 41) #[true, true, true, true, false, true, true, false, true, true, true, false, false] rfl rfl (one_of HT_.out (by kernel_rfl)) (by decide) (fun K hK => ?_)
               refine Kd.R_lit_step (Kd.int .i64) _ 3 ?hg (N := 41) ?hd (xs := ([] : List Int)) (inner := []) (ok := fun _ => True) (okp := fun _ => True) ?hr ?hp (fun _ hk => hk) trivial (Below.refl _ _) (Nat.le_refl _) (by simp) ?_; (case hd => rfl); (case hg => rfl); (case hr => first | (go_simp; done) | (go_simp; rfl)); (case hp => exact (Reps.none _ _))
               intro v131 w47 ho48 hb hg_ hnew_
               clear hg_ hnew_
               (first | rw [← Ny130.out] at ho48 | (simp only [Int.reduceToNat] at ho48; rw [← Ny130.out] at ho48))
               have n0_ := aK (Kd.R_elder' (pR HO_5.out) (Kd.R_base ho48) hb)
               have n1_ := aK (Kd.R_elder' (pR HO142.out) (Kd.R_base ho48) hb)
               have HO132 := aK (Kd.R_lower (nw2 ho48 (pR HO_5.out) (pR HO142.out)) (below_size (pS HB.out)))
               have n3_ := aK (Kd.C_below (by repeat (first | (with_reducible exact HR136.out) | (with_reducible refine Kd.C_alloc ?_ _) | (with_reducible refine Kd.C_drewN ?_ _) | (with_reducible refine Kd.C_drew ?_) | exact HR136.out)) hb)
               have n4_ := aK (Kd.C_below (by repeat (first | (with_reducible exact HR149.out) | (with_reducible refine Kd.C_alloc ?_ _) | (with_reducible refine Kd.C_drewN ?_ _) | (with_reducible refine Kd.C_drew ?_) | exact HR149.out)) hb)
               replace HB := bS HB hb
               clear HO_5 HO142 HR136 HR149
               have HO_5 := n0_
               have HO142 := n1_
               have HR136 := n3_
               have HR149 := n4_
               clear n0_ n1_ n3_ n4_ hb ho48
               refine hK.out _ _ trivial (fun hHeld => ?_)
               clear hK K
               refine norm_ (a' := ?_) ?_ ?_
               rotate_left
               ·
                show Act.put _ (some 41) _ = _
                simp only [sP]
                rfl
               refine one_ (i := 4) (N := some 45) #[true, true, true, true, true, true, true, false, true, true, true, false, false] rfl rfl (one_of HT_.out (by kernel_rfl)) (by decide) (fun K hK => ?_)
               refine Kd.R_append_rows_step (Kd.int .i64) (w0 := w) w.heap.size (by rfl) (.tmp 41) (.tmp 44) 22 3 (.int .i64 0) 8 rfl Try.underlying22 info3 rfl (by decide) (by omega) v131 y130 y133 _ _ _ (fun k_ => some k_ ≠ (.slice Ao10 x5_1.length co10 : Value).ownBlock ∧ some k_ ≠ (v141 : Value).ownBlock) (fun _ => False) rfl rfl ?aO ?aR (fun _ _ h => h) (fun _ h => h.elim) ?aF ?aB ?aS ?aL ?_
               (case aR => repeat (first | exact (by repeat (first | (with_reducible exact HR136.out) | (with_reducible refine Kd.C_alloc ?_ _) | (with_reducible refine Kd.C_drewN ?_ _) | (with_reducible refine Kd.C_drew ?_) | exact HR136.out)) | (with_reducible refine Kd.C_alloc ?_ _) | (with_reducible refine Kd.C_drewN ?_ _) | (with_reducible refine Kd.C_drew ?_)))
               (case aB => exact (pS HB.out))
               (case aF => exact (fun k_ hk => ⟨Kd.fresh' (Kd.R_lt (pR HO_5.out)) k_ hk, Kd.fresh' (Kd.R_lt (pR HO142.out)) k_ hk⟩))
               (case aO => exact (pR (rP HO132.out)))
               (case aS => exact (below_size (pS HB.out)))
               (case aL => have := LMc37.out; omega)
               intro v138 w49 ho hb hg hat
               rw [← Ny137.out] at ho
               have n0_ := aK (Kd.R_after (ok := (fun k_ => some k_ ≠ (v141 : Value).ownBlock)) (pR (rP HO_5.out)) hg hat)
               have n1_ := aK (Kd.R_after (ok := (fun k_ => some k_ ≠ (.slice Ao10 x5_1.length co10 : Value).ownBlock)) (pR (rP HO142.out)) hg hat)
               have n2_ := aK (hb)
               have n3_ := aK ((show Kd.C (Kd.int .i64) w49 Ao10 y133.length y133 from by rw [Ny133.out]; exact Kd.C_take (m := (x8_2 : Int).toNat) ((Kd.R_reads' (Kd.R_after (ok := (fun k_ => some k_ ≠ (v141 : Value).ownBlock)) (pR (rP HO_5.out)) hg hat)).2.2) KL43.out))
               have n4_ := aK ((show Kd.C (Kd.int .i64) w49 A44 y146.length y146 from by rw [Ny146.out, KA44.out]; exact Kd.C_drop (m := (x8_2 : Int).toNat) (c := co10) ((Kd.R_reads' (Kd.R_after (ok := (fun k_ => some k_ ≠ (v141 : Value).ownBlock)) (pR (rP HO_5.out)) hg hat)).2.2) KL44.out ((Kd.R_reads' (Kd.R_after (ok := (fun k_ => some k_ ≠ (v141 : Value).ownBlock)) (pR (rP HO_5.out)) hg hat)).2.1)))
               have HO139 := aK (ho)
               clear HO_5 HO142 HB HR136 HR149 HO132
               have HO_5 := n0_
               have HO142 := n1_
               have HB := n2_
               have HR136 := n3_
               have HR149 := n4_
               clear n0_ n1_ n2_ n3_ n4_ ho hb hg hat
               refine hK.out _ _ trivial (fun hHeld => ?_)
               clear hK K
               refine norm_ (a' := ?_) ?_ ?_
               rotate_left
               ·
                show Act.put _ (some 45) _ = _
                simp only [sP]
                rfl
               exact norm_ (by simp only [putAll, Act.put, List.setIfInBounds_toArray, List.set_cons_zero, List.set_cons_succ]) (hCont (v131, v138, v141) _ ⟨(pR (rP HO139.out)), (pR (rP HO142.out)), (pR (rP HO_5.out)), (pS HB.out)⟩)
              rintro ⟨v131, v138, v141⟩ w50 ⟨h0_, h1_, h2_, h3_⟩
              have n0_ : Aside0 (Kd.R (Kd.int .i64) 3 w50 w.heap.size (fun k_ => some k_ ≠ (v141 : Value).ownBlock ∧ some k_ ≠ (.slice Ao10 x5_1.length co10 : Value).ownBlock) v138 y137) := ⟨h0_⟩
              have n1_ : Aside0 (Kd.R (Kd.int .i64) 3 w50 w.heap.size (fun k_ => some k_ ≠ (v138 : Value).ownBlock ∧ some k_ ≠ (.slice Ao10 x5_1.length co10 : Value).ownBlock) v141 y140) := ⟨h1_⟩
              have n2_ : Aside0 (Kd.R (Kd.int .i64) 3 w50 w.heap.size (fun k_ => some k_ ≠ (v138 : Value).ownBlock ∧ some k_ ≠ (v141 : Value).ownBlock) (.slice Ao10 x5_1.length co10) x5_1) := ⟨h2_⟩
              have n3_ : Aside0 (Below w.heap.size w w50) := ⟨h3_⟩
              clear HO_5 HB h0_ h1_ h2_ h3_
              have HO139 := n0_
              have HO142 := n1_
              have HO_5 := n2_
              have HB := n3_
              clear n0_ n1_ n2_ n3_
              have hHeld := trivial
              have HR136 := aK (show Kd.C (Kd.int .i64) _ Ao10 y133.length y133 from by rw [Ny133.out]; exact Kd.C_take (m := (x8_2 : Int).toNat) ((Kd.R_reads' HO_5.out).2.2) KL43.out)
              have HR149 := aK (show Kd.C (Kd.int .i64) _ A44 y146.length y146 from by rw [Ny146.out, KA44.out]; exact Kd.C_drop (m := (x8_2 : Int).toNat) (c := co10) ((Kd.R_reads' HO_5.out).2.2) KL44.out ((Kd.R_reads' HO_5.out).2.1))
              obtain ⟨Ao52, co52, eo52⟩ := Kd.R_slice HO142.out
              (first | subst eo52 | (obtain ⟨f4_, f5_⟩ := sI eo52; subst f4_; subst f5_))
              refine norm_ (a' := ?_) ?_ ?_
              rotate_left
              ·
               simp only [putAll, Act.put, List.setIfInBounds_toArray, List.set_cons_zero, List.set_cons_succ]
               rfl
              refine one_ (i := 7) (N := some 48) #[true, true, true, true, true, true, true, true, true, true, true, false, false] rfl rfl (one_of HT_.out (by kernel_rfl)) (by decide) (fun K hK => ?_)
              refine Kd.R_append_rows_step (Kd.int .i64) (w0 := w) w.heap.size (by rfl) (.tmp 45) (.tmp 47) 22 3 (.int .i64 0) 8 rfl Try.underlying22 info3 rfl (by decide) (by omega) v138 y137 y140 _ _ _ (fun k_ => some k_ ≠ (.slice Ao10 x5_1.length co10 : Value).ownBlock ∧ some k_ ≠ (.slice Ao52 y140.length co52 : Value).ownBlock) (fun _ => False) rfl rfl ?aO ?aR (fun _ _ h => h) (fun _ h => h.elim) ?aF ?aB ?aS ?aL ?_
              (case aR => exact pC (Kd.R_reads' HO142.out).2.2)
              (case aB => exact (pS HB.out))
              (case aF => exact (fun k_ hk => ⟨Kd.fresh' (Kd.R_lt (pR HO_5.out)) k_ hk, Kd.fresh' (Kd.R_lt (pR HO142.out)) k_ hk⟩))
              (case aO => exact (pR (rP HO139.out)))
              (case aS => exact (below_size (pS HB.out)))
              (case aL => have := LMc38.out; omega)
              intro v144 w51 ho hb hg hat
              rw [← Ny143.out] at ho
              have n0_ := aK (Kd.R_after (ok := (fun k_ => some k_ ≠ (.slice Ao52 y140.length co52 : Value).ownBlock)) (pR (rP HO_5.out)) hg hat)
              have n1_ := aK (Kd.R_after (ok := (fun k_ => some k_ ≠ (.slice Ao10 x5_1.length co10 : Value).ownBlock)) (pR (rP HO142.out)) hg hat)
              have n2_ := aK (hb)
              have n3_ := aK ((show Kd.C (Kd.int .i64) w51 Ao10 y133.length y133 from by rw [Ny133.out]; exact Kd.C_take (m := (x8_2 : Int).toNat) ((Kd.R_reads' (Kd.R_after (ok := (fun k_ => some k_ ≠ (.slice Ao52 y140.length co52 : Value).ownBlock)) (pR (rP HO_5.out)) hg hat)).2.2) KL43.out))
              have n4_ := aK ((show Kd.C (Kd.int .i64) w51 A44 y146.length y146 from by rw [Ny146.out, KA44.out]; exact Kd.C_drop (m := (x8_2 : Int).toNat) (c := co10) ((Kd.R_reads' (Kd.R_after (ok := (fun k_ => some k_ ≠ (.slice Ao52 y140.length co52 : Value).ownBlock)) (pR (rP HO_5.out)) hg hat)).2.2) KL44.out ((Kd.R_reads' (Kd.R_after (ok := (fun k_ => some k_ ≠ (.slice Ao52 y140.length co52 : Value).ownBlock)) (pR (rP HO_5.out)) hg hat)).2.1)))
              have HO145 := aK (ho)
              clear HO_5 HO142 HB HR136 HR149 HO139
              have HO_5 := n0_
              have HO142 := n1_
              have HB := n2_
              have HR136 := n3_
              have HR149 := n4_
              clear n0_ n1_ n2_ n3_ n4_ ho hb hg hat
              refine hK.out _ _ trivial (fun hHeld => ?_)
              clear hK K
              refine norm_ (a' := ?_) ?_ ?_
              rotate_left
              ·
               show Act.put _ (some 48) _ = _
               simp only [sP]
               rfl
              refine one_ (i := 11) (N := some 52) #[true, true, true, true, true, true, true, true, true, true, true, true, false] rfl rfl (one_of HT_.out (by kernel_rfl)) (by decide) (fun K hK => ?_)
              refine Kd.R_append_rows_step (Kd.int .i64) (w0 := w) w.heap.size (by rfl) (.tmp 48) (.tmp 51) 22 3 (.int .i64 0) 8 rfl Try.underlying22 info3 rfl (by decide) (by omega) v144 y143 y146 _ _ _ (fun k_ => some k_ ≠ (.slice Ao10 x5_1.length co10 : Value).ownBlock ∧ some k_ ≠ (.slice Ao52 y140.length co52 : Value).ownBlock) (fun _ => False) rfl rfl ?aO ?aR (fun _ _ h => h) (fun _ h => h.elim) ?aF ?aB ?aS ?aL ?_
              (case aR => repeat (first | exact (by repeat (first | (with_reducible exact HR149.out) | (with_reducible refine Kd.C_alloc ?_ _) | (with_reducible refine Kd.C_drewN ?_ _) | (with_reducible refine Kd.C_drew ?_) | exact HR149.out)) | (with_reducible refine Kd.C_alloc ?_ _) | (with_reducible refine Kd.C_drewN ?_ _) | (with_reducible refine Kd.C_drew ?_)))
              (case aB => exact (pS HB.out))
              (case aF => exact (fun k_ hk => ⟨Kd.fresh' (Kd.R_lt (pR HO_5.out)) k_ hk, Kd.fresh' (Kd.R_lt (pR HO142.out)) k_ hk⟩))
              (case aO => exact (pR HO145.out))
              (case aS => exact (below_size (pS HB.out)))
              (case aL => have := LMc41.out; omega)
              intro v151 w53 ho hb hg hat
              rw [← Ny150.out] at ho
              have n0_ := aK (Kd.R_after (ok := (fun k_ => some k_ ≠ (.slice Ao52 y140.length co52 : Value).ownBlock)) (pR HO_5.out) hg hat)
              have n1_ := aK (Kd.R_after (ok := (fun k_ => some k_ ≠ (.slice Ao10 x5_1.length co10 : Value).ownBlock)) (pR HO142.out) hg hat)
              have n2_ := aK (hb)
              have n3_ := aK ((show Kd.C (Kd.int .i64) w53 Ao10 y133.length y133 from by rw [Ny133.out]; exact Kd.C_take (m := (x8_2 : Int).toNat) ((Kd.R_reads' (Kd.R_after (ok := (fun k_ => some k_ ≠ (.slice Ao52 y140.length co52 : Value).ownBlock)) (pR HO_5.out) hg hat)).2.2) KL43.out))
              have n4_ := aK ((show Kd.C (Kd.int .i64) w53 A44 y146.length y146 from by rw [Ny146.out, KA44.out]; exact Kd.C_drop (m := (x8_2 : Int).toNat) (c := co10) ((Kd.R_reads' (Kd.R_after (ok := (fun k_ => some k_ ≠ (.slice Ao52 y140.length co52 : Value).ownBlock)) (pR HO_5.out) hg hat)).2.2) KL44.out ((Kd.R_reads' (Kd.R_after (ok := (fun k_ => some k_ ≠ (.slice Ao52 y140.length co52 : Value).ownBlock)) (pR HO_5.out) hg hat)).2.1)))
              have HO152 := aK (ho)
              clear HO_5 HO142 HB HR136 HR149 HO145
              have HO_5 := n0_
              have HO142 := n1_
              have HB := n2_
              have HR136 := n3_
              have HR149 := n4_
              clear n0_ n1_ n2_ n3_ n4_ ho hb hg hat
              refine hK.out _ _ trivial (fun hHeld => ?_)
              clear hK K
              refine norm_ (a' := ?_) ?_ ?_
              rotate_left
              ·
               show Act.put _ (some 52) _ = _
               simp only [sP]
               rfl
              refine pu (i := 12) (N := some 5) #[true, true, true, true, true, true, true, true, true, true, true, true, true] rfl rfl HT_.out ?_
              refine done_ (done_of HT_.out (by kernel_rfl)) ?_
              try go_wp2
              go_roundg k2
              case measure => have := HK1.out; have := HK2.out; omega
              case rel => exact ⟨(y150), (wrap64 (x6_1 + 1)), (by first | rfl | (simp; done) | (simp [*]; done)), H', ⟨by have := HK1.out; have := HK2.out; omega⟩, ⟨pR (Kd.R_mono HO152.out (fun _ hk => trivial))⟩, ⟨pT HB.out⟩⟩
             rw [if_neg c41] at H
             exact absurd H (by simp)
            rw [if_neg c38] at H
            exact absurd H (by simp)
           rw [if_neg c37] at H
           exact absurd H (by simp)
          rw [if_neg c36] at H
          exact absurd H (by simp)
         rw [if_neg c35] at H
         exact absurd H (by simp)
      rw [if_neg c8] at H
      exact absurd H (by simp)
     rw [if_neg c7] at H
     exact absurd H (by simp)
    rw [if_neg c6] at H
    exact absurd H (by simp)
   rw [if_neg c5] at H
   have c5b0 : decide (x6_1 < (l0.length : Int)) = false := decide_eq_false c5
   clear c5
   obtain rfl := Option.some.inj H
   go_wp2
   go_ret
   exact ⟨_, er, by (with_reducible repeat (first | apply Kd.R_alloc | apply Kd.R_drewN | apply Kd.R_drew)); exact HO_5.out, pT HB.out⟩
mutual
def spec_RankOf.j0 : Nat → List (S29) → Int → Int → Bool → Option (Int × Int × Bool)
 | 0, _, _, _, _ => none
 | k + 1, x0, x3, x11, x26 => if x26 = true then (some (0, 0, false)) else ((spec_l9Values.f k x0 x11).bind fun t103 => (spec_RankOf.l0 k x3 0 0 t103 0))
def spec_RankOf.l0 : Nat → Int → Int → Int → List Int → Int → Option (Int × Int × Bool)
 | 0, _, _, _, _, _ => none
 | k + 1, x3, x12, x13, x14, x15 => if x15 < (x14.length : Int) then (if 0 ≤ x15 then (if (rd x14 x15) < x3 then (if (rd x14 x15) = x3 then (spec_RankOf.l0 k x3 (wrap64 (x12 + 1)) (wrap64 (x13 + 1)) x14 (wrap64 (x15 + 1))) else (spec_RankOf.l0 k x3 (wrap64 (x12 + 1)) x13 x14 (wrap64 (x15 + 1)))) else (if (rd x14 x15) = x3 then (spec_RankOf.l0 k x3 x12 (wrap64 (x13 + 1)) x14 (wrap64 (x15 + 1))) else (spec_RankOf.l0 k x3 x12 x13 x14 (wrap64 (x15 + 1))))) else (none)) else (some (x12, x13, true))
end
def spec_RankOf.f (k : Nat) (l0 : List (S29)) (a1 : Int) (a2 : Int) (a3 : Int) : Option (Int × Int × Bool) := (spec_l9Cell.f k l0 a1 a2).bind fun t101 => (if t101 < 0 then (spec_RankOf.j0 k l0 a3 t101 true) else ((spec_l13Threshold.f a3).bind fun t102 => (spec_RankOf.j0 k l0 a3 t101 (!t102))))
theorem spec_RankOf.calls (k : Nat) (A0 : Option Addr) (c0 : Nat) (l0 : List (S29)) (a1 : Int) (a2 : Int) (a3 : Int) (r1 : Int) (r2 : Int) (r3 : Bool) (w : World) (hr0 : Kd.C k29 w A0 l0.length l0) (hc0 : l0.length ≤ c0) (h : spec_RankOf.f k l0 a1 a2 a3 = some (r1, r2, r3)) :
  Calls Try.prog 49 #[.slice A0 l0.length c0, .int .i64 a1, .int .i64 a2, .int .i64 a3] w fun e w' => e = .returned (.tuple #[.int .i64 r1, .int .i64 r2, .bool r3]) ∧ Below w.heap.size w w' := by
 have HR0 := Aside0.mk hr0
 have HC0 := Aside0.mk hc0
 clear hr0 hc0
 have HB := aK (Below.refl w.heap.size w)
 have H : ((spec_l9Cell.f k l0 a1 a2).bind fun t101 => (if t101 < 0 then (spec_RankOf.j0 k l0 a3 t101 true) else ((spec_l13Threshold.f a3).bind fun t102 => (spec_RankOf.j0 k l0 a3 t101 (!t102))))) = some (r1, r2, r3) := h
 clear h
 replace H := Option.bind_eq_some_iff.mp H
 obtain ⟨t101, A50, H⟩ := H
 replace H : (if t101 < 0 then (spec_RankOf.j0 k l0 a3 t101 true) else ((spec_l13Threshold.f a3).bind fun t102 => (spec_RankOf.j0 k l0 a3 t101 (!t102)))) = some (r1, r2, r3) := H
 have A5 := Aside0.mk A50
 clear A50
 have HC6 := Aside0.mk H
 clear H
 go_enter Try.func49, Try.ntmps49
 go_upto_region 2 with (first | ((with_reducible refine gate_callee (f := 123) rfl ?_); refine gl (some 19) Try.func123 #[.slice A0 l0.length c0, .int .i64 a1, .int .i64 a2] ?_; (with_reducible refine (spec_l9Cell.calls k _ _ l0 a1 a2 t101 _ ?side1 ?side2 A5.out).mono ?_); (case side1 => exact pC HR0.out); (case side2 => exact HC0.out); rintro e w7 ⟨rfl, hb⟩; refine ⟨_, rfl, ?_⟩; replace HB := bS HB hb; (try clear hb); (try clear hb2); (try clear hk); (try clear hi)))
 (try simp only [Act.put, List.setIfInBounds_toArray, List.set_cons_zero, List.set_cons_succ])
 go_cut [26] (fun v26 wc => ∃ (kq : Nat) (x26_5 : Bool), v26 = .bool x26_5 ∧ Aside0 (spec_RankOf.j0 kq l0 a3 t101 x26_5 = some (r1, r2, r3)) ∧ Aside0 (kq ≤ k) ∧ Aside0 (Below w.heap.size w wc))
 case first =>
  have H := HC6.out
  clear HC6
  by_cases c8 : t101 < 0
  ·
   rw [if_pos c8] at H
   have c8b0 : decide (t101 < 0) = true := decide_eq_true c8
   clear c8
   (first | rw [c8b0] | (simp only [i64_w, i32_w]; rw [c8b0]) | skip)
   have H' := Aside0.mk H
   clear H
   go_wp2
   go_meet
   case rel => exact ⟨_, (true), (by first | rfl | (simp; done) | (simp [*]; done)), H', ⟨by first | omega | exact Nat.le_refl _⟩, ⟨pT HB.out⟩⟩
  rw [if_neg c8] at H
  have c8b0 : decide (t101 < 0) = false := decide_eq_false c8
  clear c8
  (first | rw [c8b0] | (simp only [i64_w, i32_w]; rw [c8b0]) | skip)
  replace H := Option.bind_eq_some_iff.mp H
  obtain ⟨t102, A90, H⟩ := H
  replace H : (spec_RankOf.j0 k l0 a3 t101 (!t102)) = some (r1, r2, r3) := H
  have A9 := Aside0.mk A90
  clear A90
  have H' := Aside0.mk H
  clear H
  go_wp2_with (first | (go_at_call 124; (with_reducible refine (spec_l13Threshold.calls a3 t102 _ A9.out).mono ?_); rintro e w' ⟨rfl, ⟨nd, rfl⟩⟩))
  go_meet
  case rel => exact ⟨_, (!t102), (by first | rfl | (simp; done) | (simp [*]; done)), H', ⟨by first | omega | exact Nat.le_refl _⟩, ⟨pT HB.out⟩⟩
 case rest =>
  clear HC6
  try clear c1
  try clear p2
  try clear c4
  try clear c8
  try clear c8b0
  obtain ⟨kq, x26_5, rfl, HA, HJ5, HB⟩ := hcut
  cases kq with
  | zero => exact absurd HA.out (by simp [spec_RankOf.j0])
  | succ kj5 =>
   have H := HA.out
   clear HA
   simp only [spec_RankOf.j0] at H
   by_cases c10 : x26_5 = true
   ·
    subst c10
    have H1 : (some (0, 0, false)) = some (r1, r2, r3) := by rw [if_pos rfl] at H; exact H
    clear H
    have H := H1
    clear H1
    simp only [Option.some.injEq, Prod.mk.injEq] at H
    obtain ⟨rfl, rfl, rfl⟩ := H
    go_wp2
    go_ret3
    exact ⟨er, pT HB.out⟩
   replace c10 := Bool.eq_false_iff.mpr c10
   subst c10
   have H1 : ((spec_l9Values.f kj5 l0 t101).bind fun t103 => (spec_RankOf.l0 kj5 a3 0 0 t103 0)) = some (r1, r2, r3) := by rw [if_neg (show ¬ (false = true) by decide)] at H; exact H
   clear H
   have H := H1
   clear H1
   replace H := Option.bind_eq_some_iff.mp H
   obtain ⟨t103, A110, H⟩ := H
   replace H : (spec_RankOf.l0 kj5 a3 0 0 t103 0) = some (r1, r2, r3) := H
   have A11 := Aside0.mk A110
   clear A110
   have H' := Aside0.mk H
   clear H
   go_wp2_with (first | ((with_reducible refine gate_callee (f := 125) rfl ?_); refine gl (some 29) Try.func125 #[.slice A0 l0.length c0, .int .i64 t101] ?_; (with_reducible refine (spec_l9Values.calls kj5 _ _ l0 t101 t103 _ ?side1 ?side2 A11.out).mono ?_); (case side1 => exact pC (Kd.C_below HR0.out HB.out)); (case side2 => exact HC0.out); rintro e w12 ⟨v104, rfl, ho0, hb⟩; refine ⟨_, rfl, ?_⟩; have HO105 := aK (Kd.R_lower ho0 (below_size (pS HB.out))); replace HB := bS HB hb; (try clear hb); (try clear hb2); (try clear hk); (try clear hi); (try clear ho0)))
   go_loopg [12, 13, 15] kj5 (fun kq v12 v13 v15 w' => ∃ (x12_2 : Int) (x13_2 : Int) (x15_2 : Int), v12 = .int .i64 x12_2 ∧ v13 = .int .i64 x13_2 ∧ v15 = .int .i64 x15_2 ∧ Aside0 (spec_RankOf.l0 kq a3 x12_2 x13_2 t103 x15_2 = some (r1, r2, r3)) ∧ Aside0 (kq ≤ kj5) ∧ Aside0 (Kd.R (Kd.int .i64) 3 w' w.heap.size (fun _ => True) v104 t103) ∧ Aside0 (Below w.heap.size w w'))
   case atStart => exact ⟨(0), (0), (0), (by first | rfl | (simp; done) | (simp [*]; done)), (by first | rfl | (simp; done) | (simp [*]; done)), (by first | rfl | (simp; done) | (simp [*]; done)), H', ⟨Nat.le_refl _⟩, ⟨pR HO105.out⟩, ⟨pT HB.out⟩⟩
   case round =>
    clear H'
    try clear c1
    try clear p2
    try clear c4
    try clear c8
    try clear c8b0
    try clear c10
    try clear c12
    try clear p2
    obtain ⟨x12_2, x13_2, x15_2, rfl, rfl, rfl, HA, HK2, HO_14, HB⟩ := hrel
    cases gk with
    | zero => exact absurd HA.out (by simp [spec_RankOf.l0])
    | succ k2 =>
     have H := HA.out
     clear HA
     simp only [spec_RankOf.l0] at H
     by_cases c13 : x15_2 < (t103.length : Int)
     ·
      rw [if_pos c13] at H
      have c13b0 : decide (x15_2 < (t103.length : Int)) = true := decide_eq_true c13
      clear c13
      by_cases c14 : 0 ≤ x15_2
      ·
       rw [if_pos c14] at H
       have c14b0 : decide (0 ≤ x15_2) = true := decide_eq_true c14
       clear c14
       by_cases c15 : (rd t103 x15_2) < a3
       ·
        rw [if_pos c15] at H
        have c15b0 : decide ((rd t103 x15_2) < a3) = true := decide_eq_true c15
        clear c15
        by_cases c16 : (rd t103 x15_2) = a3
        ·
         rw [if_pos c16] at H
         have c16b0 : ((rd t103 x15_2) == a3) = true := beq_iff_eq.mpr c16
         have c16b1 : ((rd t103 x15_2) != a3) = false := bne_eq_false_iff_eq.mpr c16
         clear c16
         have H' := Aside0.mk H
         clear H
         obtain ⟨Ao17, co17, eo17⟩ := Kd.R_slice HO_14.out
         subst eo17
         have p106 : 0 ≤ (x15_2 : Int) := of_decide_eq_true (by first | (with_reducible assumption) | assumption)
         have q106 : x15_2 < (t103.length : Int) := of_decide_eq_true (by first | (with_reducible assumption) | assumption)
         obtain ⟨ad106, e106, hx106_0⟩ := Kd.at_int (Kd.R_reads' HO_14.out).2.2 x15_2 p106 q106
         cases e106
         replace p106 := eq_true p106
         replace q106 := eq_true q106
         have p107 : 0 ≤ (x15_2 : Int) := of_decide_eq_true (by first | (with_reducible assumption) | assumption)
         have q107 : x15_2 < (t103.length : Int) := of_decide_eq_true (by first | (with_reducible assumption) | assumption)
         obtain ⟨ad107, e107, hx107_0⟩ := Kd.at_int (Kd.R_reads' HO_14.out).2.2 x15_2 p107 q107
         obtain rfl : ad106 = ad107 := (by injection e107)
         replace p107 := eq_true p107
         replace q107 := eq_true q107
         go_wp2
         go_roundg k2
         case measure => have := HJ5.out; have := HK2.out; omega
         case rel => exact ⟨(wrap64 (x12_2 + 1)), (wrap64 (x13_2 + 1)), (wrap64 (x15_2 + 1)), (by first | rfl | (simp; done) | (simp [*]; done)), (by first | rfl | (simp; done) | (simp [*]; done)), (by first | rfl | (simp; done) | (simp [*]; done)), H', ⟨by have := HJ5.out; have := HK2.out; omega⟩, ⟨pR HO_14.out⟩, ⟨pT HB.out⟩⟩
        rw [if_neg c16] at H
        have c16b0 : ((rd t103 x15_2) == a3) = false := beq_eq_false_iff_ne.mpr c16
        have c16b1 : ((rd t103 x15_2) != a3) = true := bne_iff_ne.mpr c16
        have H' := Aside0.mk H
        clear H
        obtain ⟨Ao18, co18, eo18⟩ := Kd.R_slice HO_14.out
        subst eo18
        have p106 : 0 ≤ (x15_2 : Int) := of_decide_eq_true (by first | (with_reducible assumption) | assumption)
        have q106 : x15_2 < (t103.length : Int) := of_decide_eq_true (by first | (with_reducible assumption) | assumption)
        obtain ⟨ad106, e106, hx106_0⟩ := Kd.at_int (Kd.R_reads' HO_14.out).2.2 x15_2 p106 q106
        cases e106
        replace p106 := eq_true p106
        replace q106 := eq_true q106
        have p107 : 0 ≤ (x15_2 : Int) := of_decide_eq_true (by first | (with_reducible assumption) | assumption)
        have q107 : x15_2 < (t103.length : Int) := of_decide_eq_true (by first | (with_reducible assumption) | assumption)
        obtain ⟨ad107, e107, hx107_0⟩ := Kd.at_int (Kd.R_reads' HO_14.out).2.2 x15_2 p107 q107
        obtain rfl : ad106 = ad107 := (by injection e107)
        replace p107 := eq_true p107
        replace q107 := eq_true q107
        go_wp2
        go_roundg k2
        case measure => have := HJ5.out; have := HK2.out; omega
        case rel => exact ⟨(wrap64 (x12_2 + 1)), (x13_2), (wrap64 (x15_2 + 1)), (by first | rfl | (simp; done) | (simp [*]; done)), (by first | rfl | (simp; done) | (simp [*]; done)), (by first | rfl | (simp; done) | (simp [*]; done)), H', ⟨by have := HJ5.out; have := HK2.out; omega⟩, ⟨pR HO_14.out⟩, ⟨pT HB.out⟩⟩
       rw [if_neg c15] at H
       have c15b0 : decide ((rd t103 x15_2) < a3) = false := decide_eq_false c15
       clear c15
       by_cases c19 : (rd t103 x15_2) = a3
       ·
        rw [if_pos c19] at H
        have c19b0 : ((rd t103 x15_2) == a3) = true := beq_iff_eq.mpr c19
        have c19b1 : ((rd t103 x15_2) != a3) = false := bne_eq_false_iff_eq.mpr c19
        clear c19
        have H' := Aside0.mk H
        clear H
        obtain ⟨Ao20, co20, eo20⟩ := Kd.R_slice HO_14.out
        subst eo20
        have p106 : 0 ≤ (x15_2 : Int) := of_decide_eq_true (by first | (with_reducible assumption) | assumption)
        have q106 : x15_2 < (t103.length : Int) := of_decide_eq_true (by first | (with_reducible assumption) | assumption)
        obtain ⟨ad106, e106, hx106_0⟩ := Kd.at_int (Kd.R_reads' HO_14.out).2.2 x15_2 p106 q106
        cases e106
        replace p106 := eq_true p106
        replace q106 := eq_true q106
        have p108 : 0 ≤ (x15_2 : Int) := of_decide_eq_true (by first | (with_reducible assumption) | assumption)
        have q108 : x15_2 < (t103.length : Int) := of_decide_eq_true (by first | (with_reducible assumption) | assumption)
        obtain ⟨ad108, e108, hx108_0⟩ := Kd.at_int (Kd.R_reads' HO_14.out).2.2 x15_2 p108 q108
        obtain rfl : ad106 = ad108 := (by injection e108)
        replace p108 := eq_true p108
        replace q108 := eq_true q108
        go_wp2
        go_roundg k2
        case measure => have := HJ5.out; have := HK2.out; omega
        case rel => exact ⟨(x12_2), (wrap64 (x13_2 + 1)), (wrap64 (x15_2 + 1)), (by first | rfl | (simp; done) | (simp [*]; done)), (by first | rfl | (simp; done) | (simp [*]; done)), (by first | rfl | (simp; done) | (simp [*]; done)), H', ⟨by have := HJ5.out; have := HK2.out; omega⟩, ⟨pR HO_14.out⟩, ⟨pT HB.out⟩⟩
       rw [if_neg c19] at H
       have c19b0 : ((rd t103 x15_2) == a3) = false := beq_eq_false_iff_ne.mpr c19
       have c19b1 : ((rd t103 x15_2) != a3) = true := bne_iff_ne.mpr c19
       have H' := Aside0.mk H
       clear H
       obtain ⟨Ao21, co21, eo21⟩ := Kd.R_slice HO_14.out
       subst eo21
       have p106 : 0 ≤ (x15_2 : Int) := of_decide_eq_true (by first | (with_reducible assumption) | assumption)
       have q106 : x15_2 < (t103.length : Int) := of_decide_eq_true (by first | (with_reducible assumption) | assumption)
       obtain ⟨ad106, e106, hx106_0⟩ := Kd.at_int (Kd.R_reads' HO_14.out).2.2 x15_2 p106 q106
       cases e106
       replace p106 := eq_true p106
       replace q106 := eq_true q106
       have p108 : 0 ≤ (x15_2 : Int) := of_decide_eq_true (by first | (with_reducible assumption) | assumption)
       have q108 : x15_2 < (t103.length : Int) := of_decide_eq_true (by first | (with_reducible assumption) | assumption)
       obtain ⟨ad108, e108, hx108_0⟩ := Kd.at_int (Kd.R_reads' HO_14.out).2.2 x15_2 p108 q108
       obtain rfl : ad106 = ad108 := (by injection e108)
       replace p108 := eq_true p108
       replace q108 := eq_true q108
       go_wp2
       go_roundg k2
       case measure => have := HJ5.out; have := HK2.out; omega
       case rel => exact ⟨(x12_2), (x13_2), (wrap64 (x15_2 + 1)), (by first | rfl | (simp; done) | (simp [*]; done)), (by first | rfl | (simp; done) | (simp [*]; done)), (by first | rfl | (simp; done) | (simp [*]; done)), H', ⟨by have := HJ5.out; have := HK2.out; omega⟩, ⟨pR HO_14.out⟩, ⟨pT HB.out⟩⟩
      rw [if_neg c14] at H
      exact absurd H (by simp)
     rw [if_neg c13] at H
     have c13b0 : decide (x15_2 < (t103.length : Int)) = false := decide_eq_false c13
     clear c13
     simp only [Option.some.injEq, Prod.mk.injEq] at H
     obtain ⟨rfl, rfl, rfl⟩ := H
     obtain ⟨Ao22, co22, eo22⟩ := Kd.R_slice HO_14.out
     subst eo22
     go_wp2
     go_ret3
     exact ⟨er, pT HB.out⟩
def impl_countAtLeast.l0 : Nat → Int → Int → List Int → Int → Int → Option (Int)
 | 0, _, _, _, _, _ => none
 | k + 1, x1, x5, x8, x9, x10 => if x10 < x9 then (if 0 ≤ x10 then (if x10 < (x8.length : Int) then (if (rd x8 x10) ≥ x1 then (impl_countAtLeast.l0 k x1 (wrap64 (x5 + 1)) x8 x9 (wrap64 (x10 + 1))) else (impl_countAtLeast.l0 k x1 x5 x8 x9 (wrap64 (x10 + 1)))) else (none)) else (none)) else (some x5)
def impl_countAtLeast.f (k : Nat) (l0 : List Int) (a1 : Int) : Option (Int) := impl_countAtLeast.l0 k a1 0 l0 (l0.length : Int) 0
theorem impl_countAtLeast.calls (k : Nat) (A0 : Option Addr) (c0 : Nat) (l0 : List Int) (a1 : Int) (r : Int) (w : World) (hr0 : Kd.C (Kd.int .i64) w A0 l0.length l0) (hc0 : l0.length ≤ c0) (h : impl_countAtLeast.f k l0 a1 = some r) :
  Calls Try.prog 126 #[.slice A0 l0.length c0, .int .i64 a1] w fun e w' => e = .returned (.int .i64 r) ∧ Drawn0 w w' := by
 have HR0 := Aside0.mk hr0
 have HC0 := Aside0.mk hc0
 clear hr0 hc0
 have H : (impl_countAtLeast.l0 k a1 0 l0 (l0.length : Int) 0) = some r := h
 clear h
 have H' := Aside0.mk H
 clear H
 go_enter Try.func126, Try.ntmps126
 go_wp2
 go_loopg [5, 10] k (fun kq v5 v10 w' => ∃ (x5_1 : Int) (x10_1 : Int), v5 = .int .i64 x5_1 ∧ v10 = .int .i64 x10_1 ∧ Aside0 (impl_countAtLeast.l0 kq a1 x5_1 l0 (l0.length : Int) x10_1 = some r) ∧ Aside0 (kq ≤ k) ∧ Drawn0 w w')
 case atStart => exact ⟨(0), (0), (by first | rfl | (simp; done) | (simp [*]; done)), (by first | rfl | (simp; done) | (simp [*]; done)), H', ⟨Nat.le_refl _⟩, by repeat (first | exact Drawn0.refl _ | apply Drawn0.step)⟩
 case round =>
  clear H'
  try clear c1
  try clear p2
  obtain ⟨x5_1, x10_1, rfl, rfl, HA, HK1, ⟨m1, rfl⟩⟩ := hrel
  cases gk with
  | zero => exact absurd HA.out (by simp [impl_countAtLeast.l0])
  | succ k1 =>
   have H := HA.out
   clear HA
   simp only [impl_countAtLeast.l0] at H
   by_cases c3 : x10_1 < (l0.length : Int)
   ·
    rw [if_pos c3] at H
    have c3b0 : decide (x10_1 < (l0.length : Int)) = true := decide_eq_true c3
    clear c3
    by_cases c4 : 0 ≤ x10_1
    ·
     rw [if_pos c4] at H
     have c4b0 : decide (0 ≤ x10_1) = true := decide_eq_true c4
     clear c4
     by_cases c5 : x10_1 < (l0.length : Int)
     ·
      rw [if_pos c5] at H
      have c5b0 : decide (x10_1 < (l0.length : Int)) = true := decide_eq_true c5
      clear c5
      by_cases c6 : (rd l0 x10_1) ≥ a1
      ·
       rw [if_pos c6] at H
       have c6b0 : decide (a1 ≤ (rd l0 x10_1)) = true := decide_eq_true c6
       clear c6
       have H' := Aside0.mk H
       clear H
       have p101 : 0 ≤ (x10_1 : Int) := of_decide_eq_true (by first | (with_reducible assumption) | assumption)
       have q101 : x10_1 < (l0.length : Int) := of_decide_eq_true (by first | (with_reducible assumption) | assumption)
       obtain ⟨ad101, e101, hx101_0⟩ := Kd.at_int HR0.out x10_1 p101 q101
       cases e101
       replace p101 := eq_true p101
       replace q101 := eq_true q101
       go_wp2
       go_roundg k1
       case measure => have := HK1.out; omega
       case rel => exact ⟨(wrap64 (x5_1 + 1)), (wrap64 (x10_1 + 1)), (by first | rfl | (simp; done) | (simp [*]; done)), (by first | rfl | (simp; done) | (simp [*]; done)), H', ⟨by have := HK1.out; omega⟩, by repeat (first | exact Drawn0.refl _ | apply Drawn0.step)⟩
      rw [if_neg c6] at H
      have c6b0 : decide (a1 ≤ (rd l0 x10_1)) = false := decide_eq_false c6
      clear c6
      have H' := Aside0.mk H
      clear H
      have p101 : 0 ≤ (x10_1 : Int) := of_decide_eq_true (by first | (with_reducible assumption) | assumption)
      have q101 : x10_1 < (l0.length : Int) := of_decide_eq_true (by first | (with_reducible assumption) | assumption)
      obtain ⟨ad101, e101, hx101_0⟩ := Kd.at_int HR0.out x10_1 p101 q101
      cases e101
      replace p101 := eq_true p101
      replace q101 := eq_true q101
      go_wp2
      go_roundg k1
      case measure => have := HK1.out; omega
      case rel => exact ⟨(x5_1), (wrap64 (x10_1 + 1)), (by first | rfl | (simp; done) | (simp [*]; done)), (by first | rfl | (simp; done) | (simp [*]; done)), H', ⟨by have := HK1.out; omega⟩, by repeat (first | exact Drawn0.refl _ | apply Drawn0.step)⟩
     rw [if_neg c5] at H
     exact absurd H (by simp)
    rw [if_neg c4] at H
    exact absurd H (by simp)
   rw [if_neg c3] at H
   have c3b0 : decide (x10_1 < (l0.length : Int)) = false := decide_eq_false c3
   clear c3
   obtain rfl := Option.some.inj H
   go_wp2
   go_ret
   exact ⟨by first | rfl | (simp; done) | (simp [*]; done), by repeat (first | exact Drawn0.refl _ | apply Drawn0.step)⟩
def impl_ChanceAt.j0 : Nat → List (S29) → Int → Int → Int → Bool → Option (Int × Int × Bool)
 | 0, _, _, _, _, _ => none
 | k + 1, x0, x1, x2, x3, x21 => if x21 = true then (some (0, 0, false)) else (if 0 < (x0.length : Int) then ((impl_memberValues.f k x0 (wrap64 ((wrap64 (x2 * ((rd_T29 x0 0).f0))) + x1))).bind fun t104 => ((impl_countAtLeast.f k t104 x3).bind fun t107 => (some (t107, (t104.length : Int), true)))) else (none))
def impl_ChanceAt.f (k : Nat) (l0 : List (S29)) (a1 : Int) (a2 : Int) (a3 : Int) : Option (Int × Int × Bool) := (impl_isEnsembleCell.f k l0 a1 a2).bind fun t101 => (if t101 = true then ((impl_within.f a3 (-9000) 9000).bind fun t102 => (impl_ChanceAt.j0 k l0 a1 a2 a3 (!t102))) else (impl_ChanceAt.j0 k l0 a1 a2 a3 true))
theorem impl_ChanceAt.calls (k : Nat) (A0 : Option Addr) (c0 : Nat) (l0 : List (S29)) (a1 : Int) (a2 : Int) (a3 : Int) (r1 : Int) (r2 : Int) (r3 : Bool) (w : World) (hr0 : Kd.C k29 w A0 l0.length l0) (hc0 : l0.length ≤ c0) (h : impl_ChanceAt.f k l0 a1 a2 a3 = some (r1, r2, r3)) :
  Calls Try.prog 50 #[.slice A0 l0.length c0, .int .i64 a1, .int .i64 a2, .int .i64 a3] w fun e w' => e = .returned (.tuple #[.int .i64 r1, .int .i64 r2, .bool r3]) ∧ Below w.heap.size w w' := by
 have HR0 := Aside0.mk hr0
 have HC0 := Aside0.mk hc0
 clear hr0 hc0
 have HB := aK (Below.refl w.heap.size w)
 have H : ((impl_isEnsembleCell.f k l0 a1 a2).bind fun t101 => (if t101 = true then ((impl_within.f a3 (-9000) 9000).bind fun t102 => (impl_ChanceAt.j0 k l0 a1 a2 a3 (!t102))) else (impl_ChanceAt.j0 k l0 a1 a2 a3 true))) = some (r1, r2, r3) := h
 clear h
 have HC5 := Aside0.mk H
 clear H
 go_enter Try.func50, Try.ntmps50
 go_upto_region 1 with (fail)
 go_cut [21] (fun v21 wc => ∃ (kq : Nat) (x21_4 : Bool), v21 = .bool x21_4 ∧ Aside0 (impl_ChanceAt.j0 kq l0 a1 a2 a3 x21_4 = some (r1, r2, r3)) ∧ Aside0 (kq ≤ k) ∧ Aside0 (Below w.heap.size w wc))
 case first =>
  have H := HC5.out
  clear HC5
  replace H := Option.bind_eq_some_iff.mp H
  obtain ⟨t101, A60, H⟩ := H
  replace H : (if t101 = true then ((impl_within.f a3 (-9000) 9000).bind fun t102 => (impl_ChanceAt.j0 k l0 a1 a2 a3 (!t102))) else (impl_ChanceAt.j0 k l0 a1 a2 a3 true)) = some (r1, r2, r3) := H
  have A6 := Aside0.mk A60
  clear A60
  by_cases c7 : t101 = true
  ·
   subst c7
   have H1 : ((impl_within.f a3 (-9000) 9000).bind fun t102 => (impl_ChanceAt.j0 k l0 a1 a2 a3 (!t102))) = some (r1, r2, r3) := by rw [if_pos rfl] at H; exact H
   clear H
   have H := H1
   clear H1
   replace H := Option.bind_eq_some_iff.mp H
   obtain ⟨t102, A80, H⟩ := H
   replace H : (impl_ChanceAt.j0 k l0 a1 a2 a3 (!t102)) = some (r1, r2, r3) := H
   have A8 := Aside0.mk A80
   clear A80
   have H' := Aside0.mk H
   clear H
   go_wp2_with (first | ((with_reducible refine gate_callee (f := 121) rfl ?_); refine gl (some 15) Try.func121 #[.slice A0 l0.length c0, .int .i64 a1, .int .i64 a2] ?_; (with_reducible refine (impl_isEnsembleCell.calls k _ _ l0 a1 a2 true _ ?side1 ?side2 A6.out).mono ?_); (case side1 => exact pC (Kd.C_below HR0.out HB.out)); (case side2 => exact HC0.out); rintro e w9 ⟨rfl, hb⟩; refine ⟨_, rfl, ?_⟩; replace HB := bS HB hb; (try clear hb); (try clear hb2); (try clear hk); (try clear hi)) | (go_at_call 105; (with_reducible refine (impl_within.calls a3 (-9000) 9000 t102 _ A8.out).mono ?_); rintro e w' ⟨rfl, ⟨nd, rfl⟩⟩))
   go_meet
   case rel => exact ⟨_, (!t102), (by first | rfl | (simp; done) | (simp [*]; done)), H', ⟨by first | omega | exact Nat.le_refl _⟩, ⟨pT HB.out⟩⟩
  replace c7 := Bool.eq_false_iff.mpr c7
  subst c7
  have H1 : (impl_ChanceAt.j0 k l0 a1 a2 a3 true) = some (r1, r2, r3) := by rw [if_neg (show ¬ (false = true) by decide)] at H; exact H
  clear H
  have H := H1
  clear H1
  have H' := Aside0.mk H
  clear H
  go_wp2_with (first | ((with_reducible refine gate_callee (f := 121) rfl ?_); refine gl (some 15) Try.func121 #[.slice A0 l0.length c0, .int .i64 a1, .int .i64 a2] ?_; (with_reducible refine (impl_isEnsembleCell.calls k _ _ l0 a1 a2 false _ ?side1 ?side2 A6.out).mono ?_); (case side1 => exact pC (Kd.C_below HR0.out HB.out)); (case side2 => exact HC0.out); rintro e w10 ⟨rfl, hb⟩; refine ⟨_, rfl, ?_⟩; replace HB := bS HB hb; (try clear hb); (try clear hb2); (try clear hk); (try clear hi)))
  go_meet
  case rel => exact ⟨_, (true), (by first | rfl | (simp; done) | (simp [*]; done)), H', ⟨by first | omega | exact Nat.le_refl _⟩, ⟨pT HB.out⟩⟩
 case rest =>
  clear HC5
  try clear c1
  try clear p2
  try clear c5
  try clear c7
  obtain ⟨kq, x21_4, rfl, HA, HJ4, HB⟩ := hcut
  cases kq with
  | zero => exact absurd HA.out (by simp [impl_ChanceAt.j0])
  | succ kj4 =>
   have H := HA.out
   clear HA
   simp only [impl_ChanceAt.j0] at H
   by_cases c11 : x21_4 = true
   ·
    subst c11
    have H1 : (some (0, 0, false)) = some (r1, r2, r3) := by rw [if_pos rfl] at H; exact H
    clear H
    have H := H1
    clear H1
    simp only [Option.some.injEq, Prod.mk.injEq] at H
    obtain ⟨rfl, rfl, rfl⟩ := H
    go_wp2
    go_ret3
    exact ⟨er, pT HB.out⟩
   replace c11 := Bool.eq_false_iff.mpr c11
   subst c11
   have H1 : (if 0 < (l0.length : Int) then ((impl_memberValues.f kj4 l0 (wrap64 ((wrap64 (a2 * ((rd_T29 l0 0).f0))) + a1))).bind fun t104 => ((impl_countAtLeast.f kj4 t104 a3).bind fun t107 => (some (t107, (t104.length : Int), true)))) else (none)) = some (r1, r2, r3) := by rw [if_neg (show ¬ (false = true) by decide)] at H; exact H
   clear H
   have H := H1
   clear H1
   by_cases c12 : 0 < (l0.length : Int)
   ·
    rw [if_pos c12] at H
    have c12b0 : decide (0 < (l0.length : Int)) = true := decide_eq_true c12
    have c12b1 : decide (0 < l0.length) = true := decide_eq_true (by omega)
    clear c12
    replace H := Option.bind_eq_some_iff.mp H
    obtain ⟨t104, A130, H⟩ := H
    replace H : ((impl_countAtLeast.f kj4 t104 a3).bind fun t107 => (some (t107, (t104.length : Int), true))) = some (r1, r2, r3) := H
    have A13 := Aside0.mk A130
    clear A130
    replace H := Option.bind_eq_some_iff.mp H
    obtain ⟨t107, A140, H⟩ := H
    replace H : (some (t107, (t104.length : Int), true)) = some (r1, r2, r3) := H
    have A14 := Aside0.mk A140
    clear A140
    simp only [Option.some.injEq, Prod.mk.injEq] at H
    obtain ⟨rfl, rfl, rfl⟩ := H
    have p103 : 0 ≤ (0 : Int) := (by omega)
    have q103 : 0 < (l0.length : Int) := of_decide_eq_true (by first | (with_reducible assumption) | assumption)
    obtain ⟨ad103, A103_2, c103_2, e103, hx103_0, hx103_1, hx103_2, hl103_2, hi103_2⟩ := at_T29 HR0.out 0 p103 q103
    cases e103
    have qi103 : (0 < l0.length) = True := eq_true (by omega)
    (try rw [show ((0 : Int)).toNat = 0 from rfl] at hx103_0)
    (try rw [show 0 * 3 = 0 from rfl] at hx103_0)
    (try rw [Addr.add_zero'] at hx103_0)
    (try rw [show ((0 : Int)).toNat = 0 from rfl] at hx103_1)
    (try rw [show 0 * 3 = 0 from rfl] at hx103_1)
    (try rw [Addr.add_zero'] at hx103_1)
    (try rw [show ((0 : Int)).toNat = 0 from rfl] at hx103_2)
    (try rw [show 0 * 3 = 0 from rfl] at hx103_2)
    (try rw [Addr.add_zero'] at hx103_2)
    replace hx103_0 := (HB.out.cell (World.block_lt_of_cell? w _ hx103_0)).trans hx103_0
    replace hx103_1 := (HB.out.cell (World.block_lt_of_cell? w _ hx103_1)).trans hx103_1
    replace hx103_2 := (HB.out.cell (World.block_lt_of_cell? w _ hx103_2)).trans hx103_2
    have HR103_2 := Aside0.mk hi103_2
    have HC103_2 := Aside0.mk hl103_2
    clear hi103_2 hl103_2
    replace p103 := eq_true p103
    replace q103 := eq_true q103
    go_wp2_with (first | ((with_reducible refine gate_callee (f := 122) rfl ?_); refine gl (some 31) Try.func122 #[.slice (some ad103) l0.length c0, .int .i64 (wrap64 ((wrap64 (a2 * ((rd_T29 l0 0).f0))) + a1))] ?_; (with_reducible refine (impl_memberValues.calls kj4 _ _ l0 (wrap64 ((wrap64 (a2 * ((rd_T29 l0 0).f0))) + a1)) t104 _ ?side1 ?side2 A13.out).mono ?_); (case side1 => exact pC (Kd.C_below HR0.out HB.out)); (case side2 => exact HC0.out); rintro e w15 ⟨v105, rfl, ho0, hb⟩; refine ⟨_, rfl, ?_⟩; have HO106 := aK (Kd.R_lower ho0 (below_size (pS HB.out))); replace HB := bS HB hb; (try clear hb); (try clear hb2); (try clear hk); (try clear hi); (try clear ho0); obtain ⟨Ao16, co16, eo16⟩ := Kd.R_slice HO106.out; subst eo16) | ((with_reducible refine gate_callee (f := 126) rfl ?_); refine gl (some 34) Try.func126 #[.slice Ao16 t104.length co16, .int .i64 a3] ?_; (with_reducible refine (impl_countAtLeast.calls kj4 _ _ t104 a3 t107 _ ?side1 ?side2 A14.out).mono ?_); (case side1 => exact pC (Kd.R_reads' HO106.out).2.2); (case side2 => exact (Kd.R_reads' HO106.out).2.1); rintro e w' ⟨rfl, ⟨nd, rfl⟩⟩; refine ⟨_, rfl, ?_⟩))
    go_ret3
    exact ⟨er, pT HB.out⟩
   rw [if_neg c12] at H
   exact absurd H (by simp)
end Go.Proofs.Ytilffhaghabdgaa.P
