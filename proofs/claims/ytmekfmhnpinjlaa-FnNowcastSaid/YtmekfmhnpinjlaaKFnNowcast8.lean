/- Texts of the claim FnNowcast, merged: part 8 of 13: the program's and the reference's functions as Lean functions, the walks that show it, and plain lemmas; no conditions. -/
import Derived.Test.YtmekfmhnpinjlaaKFnNowcast3
import Derived.Test.YtmekfmhnpinjlaaKFnNowcast4
open Go.RowKit Go.Proofs.YtmekfmhnpinjlaaW.PrintWords Go.Proofs.YtmekfmhnpinjlaaW.PrintLast Go.Proofs.YtmekfmhnpinjlaaW.PrintMore
set_option linter.unusedVariables false
set_option linter.unusedSimpArgs false
set_option maxHeartbeats 8000000
set_option maxRecDepth 100000
namespace Go.Proofs.Ytmekfmhnpinjlaa.P
attribute [local go_sem] max2_int min2_int max_two min_two max_three min_three max_four min_four
def spec_l2Same.f (k : Nat) (a0_0 : Int) (a0_1 : Int) (l0_2 : List Int) (a1_0 : Int) (a1_1 : Int) (l1_2 : List Int) : Option (Bool) := (spec_l2Good.f k a0_0 a0_1 l0_2).bind fun t103 => (if t103 = true then ((spec_l2Good.f k a1_0 a1_1 l1_2).bind fun t104 => (if t104 = true then (if a0_0 = a1_0 then (some (a0_1 == a1_1)) else (some false)) else (some false))) else (some false))
theorem spec_l2Same.calls (k : Nat) (a0_0 : Int) (a0_1 : Int) (A0_2 : Option Addr) (c0_2 : Nat) (l0_2 : List Int) (a1_0 : Int) (a1_1 : Int) (A1_2 : Option Addr) (c1_2 : Nat) (l1_2 : List Int) (r : Bool) (w : World) (hr0_2 : Kd.C (Kd.int .i64) w A0_2 l0_2.length l0_2) (hc0_2 : l0_2.length ≤ c0_2) (hr1_2 : Kd.C (Kd.int .i64) w A1_2 l1_2.length l1_2) (hc1_2 : l1_2.length ≤ c1_2) (h : spec_l2Same.f k a0_0 a0_1 l0_2 a1_0 a1_1 l1_2 = some r) :
  Calls Try.prog 54 #[.agg #[.int .i64 a0_0, .int .i64 a0_1, .slice A0_2 l0_2.length c0_2], .agg #[.int .i64 a1_0, .int .i64 a1_1, .slice A1_2 l1_2.length c1_2]] w fun e w' => e = .returned (.bool r) ∧ Below w.heap.size w w' := by
 have hu26 := Try.underlying26
 have HR0_2 := aK hr0_2
 have HC0_2 := aK hc0_2
 clear hr0_2 hc0_2
 have HR1_2 := aK hr1_2
 have HC1_2 := aK hc1_2
 clear hr1_2 hc1_2
 have HB := aK (Below.refl w.heap.size w)
 have H : ((spec_l2Good.f k a0_0 a0_1 l0_2).bind fun t103 => (if t103 = true then ((spec_l2Good.f k a1_0 a1_1 l1_2).bind fun t104 => (if t104 = true then (if a0_0 = a1_0 then (some (a0_1 == a1_1)) else (some false)) else (some false))) else (some false))) = some r := h
 clear h
 replace H := oA H
 obtain ⟨t103, A3, H⟩ := H
 replace H : (if t103 = true then ((spec_l2Good.f k a1_0 a1_1 l1_2).bind fun t104 => (if t104 = true then (if a0_0 = a1_0 then (some (a0_1 == a1_1)) else (some false)) else (some false))) else (some false)) = some r := H
 by_cases c4 : t103 = true
 rotate_left
 ·
  replace c4 := Bool.eq_false_iff.mpr c4; subst c4
  have H1 : (some false) = some r := by rw [if_neg (show ¬ (false = true) by decide)] at H; exact H
  clear H; have H := H1; clear H1
  obtain rfl := Option.some.inj H
  go_enter Try.func54, Try.ntmps54
  go_wp2_with (first | ((with_reducible refine ga 2 rfl ?_); refine bxa #[.int .i64 a0_0, .int .i64 a0_1, .slice A0_2 l0_2.length c0_2] 26 ?_; intro g101 hg w33 B101 hb; have GW101 := gA hg HB; replace HB := bS HB hb; clear hb hg) | ((with_reducible refine ga 3 rfl ?_); refine bxa #[.int .i64 a1_0, .int .i64 a1_1, .slice A1_2 l1_2.length c1_2] 26 ?_; intro g102 hg w34 B102 hb; have GW102 := gA hg HB; obtain ⟨N101_102, N102_101⟩ := na hg B101; replace B101 := bB B101 hb; replace HB := bS HB hb; clear hb hg; obtain ⟨_, _⟩ := nB N101_102; obtain ⟨_, _, _, _, _, _⟩ := bc3 B101.out) | ((with_reducible refine gc 21 rfl ?_); refine gl (some 6) Try.func21 #[.agg #[.int .i64 a0_0, .int .i64 a0_1, .slice A0_2 l0_2.length c0_2]] ?_; (with_reducible refine (spec_l2Good.calls k a0_0 a0_1 _ _ l0_2 false _ ?side1 ?side2 A3.out).mono ?_); (case side1 => exact cB HR0_2 HB); (case side2 => exact HC0_2.out); rintro e w37 ⟨rfl, hb⟩; refine ⟨_, rfl, ?_⟩; replace B101 := bB B101 hb; replace B102 := bB B102 hb; replace HB := bS HB hb; (try clear hb); (try clear hb2); (try clear hk); (try clear hi)))
  go_ret
  exact ⟨er, pT HB.out⟩
 subst c4
 have H1 : ((spec_l2Good.f k a1_0 a1_1 l1_2).bind fun t104 => (if t104 = true then (if a0_0 = a1_0 then (some (a0_1 == a1_1)) else (some false)) else (some false))) = some r := by rw [if_pos rfl] at H; exact H
 clear H
 have H := H1
 clear H1
 replace H := oA H
 obtain ⟨t104, A5, H⟩ := H
 replace H : (if t104 = true then (if a0_0 = a1_0 then (some (a0_1 == a1_1)) else (some false)) else (some false)) = some r := H
 by_cases c6 : t104 = true
 rotate_left
 ·
  replace c6 := Bool.eq_false_iff.mpr c6; subst c6
  have H1 : (some false) = some r := by rw [if_neg (show ¬ (false = true) by decide)] at H; exact H
  clear H; have H := H1; clear H1
  obtain rfl := Option.some.inj H
  go_enter Try.func54, Try.ntmps54
  go_wp2_with (first | ((with_reducible refine ga 2 rfl ?_); refine bxa #[.int .i64 a0_0, .int .i64 a0_1, .slice A0_2 l0_2.length c0_2] 26 ?_; intro g101 hg w26 B101 hb; have GW101 := gA hg HB; replace HB := bS HB hb; clear hb hg) | ((with_reducible refine ga 3 rfl ?_); refine bxa #[.int .i64 a1_0, .int .i64 a1_1, .slice A1_2 l1_2.length c1_2] 26 ?_; intro g102 hg w27 B102 hb; have GW102 := gA hg HB; obtain ⟨N101_102, N102_101⟩ := na hg B101; replace B101 := bB B101 hb; replace HB := bS HB hb; clear hb hg; obtain ⟨_, _⟩ := nB N101_102; obtain ⟨_, _, _, _, _, _⟩ := bc3 B101.out) | ((with_reducible refine gc 21 rfl ?_); refine gl (some 6) Try.func21 #[.agg #[.int .i64 a0_0, .int .i64 a0_1, .slice A0_2 l0_2.length c0_2]] ?_; (with_reducible refine (spec_l2Good.calls k a0_0 a0_1 _ _ l0_2 true _ ?side1 ?side2 A3.out).mono ?_); (case side1 => exact cB HR0_2 HB); (case side2 => exact HC0_2.out); rintro e w30 ⟨rfl, hb⟩; refine ⟨_, rfl, ?_⟩; replace B101 := bB B101 hb; replace B102 := bB B102 hb; replace HB := bS HB hb; (try clear hb); (try clear hb2); (try clear hk); (try clear hi); obtain ⟨_, _, _, _, _, _⟩ := bc3 B102.out) | (go_at_call 21; (with_reducible refine (spec_l2Good.calls k a1_0 a1_1 _ _ l1_2 false _ ?side1 ?side2 A5.out).mono ?_); (case side1 => exact cB HR1_2 HB); (case side2 => exact HC1_2.out); rintro e w32 ⟨rfl, hb⟩; replace B101 := bB B101 hb; replace B102 := bB B102 hb; replace HB := bS HB hb; (try clear hb); (try clear hb2); (try clear hk); (try clear hi)))
  go_ret
  exact ⟨er, pT HB.out⟩
 subst c6
 have H1 : (if a0_0 = a1_0 then (some (a0_1 == a1_1)) else (some false)) = some r := by rw [if_pos rfl] at H; exact H
 clear H
 have H := H1
 clear H1
 by_cases c7 : a0_0 = a1_0
 ·
  rw [if_pos c7] at H
  have c7b0 : (a0_0 == a1_0) = true := beq_iff_eq.mpr c7
  have c7b1 : (a0_0 != a1_0) = false := bne_eq_false_iff_eq.mpr c7
  clear c7
  obtain rfl := Option.some.inj H
  go_enter Try.func54, Try.ntmps54
  go_wp2_with (first | ((with_reducible refine ga 2 rfl ?_); refine bxa #[.int .i64 a0_0, .int .i64 a0_1, .slice A0_2 l0_2.length c0_2] 26 ?_; intro g101 hg w8 B101 hb; have GW101 := gA hg HB; replace HB := bS HB hb; clear hb hg) | ((with_reducible refine ga 3 rfl ?_); refine bxa #[.int .i64 a1_0, .int .i64 a1_1, .slice A1_2 l1_2.length c1_2] 26 ?_; intro g102 hg w9 B102 hb; have GW102 := gA hg HB; obtain ⟨N101_102, N102_101⟩ := na hg B101; replace B101 := bB B101 hb; replace HB := bS HB hb; clear hb hg; obtain ⟨_, _⟩ := nB N101_102; obtain ⟨_, _, _, _, _, _⟩ := bc3 B101.out) | ((with_reducible refine gc 21 rfl ?_); refine gl (some 6) Try.func21 #[.agg #[.int .i64 a0_0, .int .i64 a0_1, .slice A0_2 l0_2.length c0_2]] ?_; (with_reducible refine (spec_l2Good.calls k a0_0 a0_1 _ _ l0_2 true _ ?side1 ?side2 A3.out).mono ?_); (case side1 => exact cB HR0_2 HB); (case side2 => exact HC0_2.out); rintro e w12 ⟨rfl, hb⟩; refine ⟨_, rfl, ?_⟩; replace B101 := bB B101 hb; replace B102 := bB B102 hb; replace HB := bS HB hb; (try clear hb); (try clear hb2); (try clear hk); (try clear hi); obtain ⟨_, _, _, _, _, _⟩ := bc3 B102.out) | (go_at_call 21; (with_reducible refine (spec_l2Good.calls k a1_0 a1_1 _ _ l1_2 true _ ?side1 ?side2 A5.out).mono ?_); (case side1 => exact cB HR1_2 HB); (case side2 => exact HC1_2.out); rintro e w14 ⟨rfl, hb⟩; replace B101 := bB B101 hb; replace B102 := bB B102 hb; replace HB := bS HB hb; (try clear hb); (try clear hb2); (try clear hk); (try clear hi); obtain ⟨_, _, _, _, _, _⟩ := bc3 B101.out; obtain ⟨_, _, _, _, _, _⟩ := bc3 B102.out))
  go_ret
  exact ⟨er, pT HB.out⟩
 rw [if_neg c7] at H
 have c7b0 : (a0_0 == a1_0) = false := beq_eq_false_iff_ne.mpr c7
 have c7b1 : (a0_0 != a1_0) = true := bne_iff_ne.mpr c7
 obtain rfl := Option.some.inj H
 go_enter Try.func54, Try.ntmps54
 go_wp2_with (first | ((with_reducible refine ga 2 rfl ?_); refine bxa #[.int .i64 a0_0, .int .i64 a0_1, .slice A0_2 l0_2.length c0_2] 26 ?_; intro g101 hg w17 B101 hb; have GW101 := gA hg HB; replace HB := bS HB hb; clear hb hg) | ((with_reducible refine ga 3 rfl ?_); refine bxa #[.int .i64 a1_0, .int .i64 a1_1, .slice A1_2 l1_2.length c1_2] 26 ?_; intro g102 hg w18 B102 hb; have GW102 := gA hg HB; obtain ⟨N101_102, N102_101⟩ := na hg B101; replace B101 := bB B101 hb; replace HB := bS HB hb; clear hb hg; obtain ⟨_, _⟩ := nB N101_102; obtain ⟨_, _, _, _, _, _⟩ := bc3 B101.out) | ((with_reducible refine gc 21 rfl ?_); refine gl (some 6) Try.func21 #[.agg #[.int .i64 a0_0, .int .i64 a0_1, .slice A0_2 l0_2.length c0_2]] ?_; (with_reducible refine (spec_l2Good.calls k a0_0 a0_1 _ _ l0_2 true _ ?side1 ?side2 A3.out).mono ?_); (case side1 => exact cB HR0_2 HB); (case side2 => exact HC0_2.out); rintro e w21 ⟨rfl, hb⟩; refine ⟨_, rfl, ?_⟩; replace B101 := bB B101 hb; replace B102 := bB B102 hb; replace HB := bS HB hb; (try clear hb); (try clear hb2); (try clear hk); (try clear hi); obtain ⟨_, _, _, _, _, _⟩ := bc3 B102.out) | (go_at_call 21; (with_reducible refine (spec_l2Good.calls k a1_0 a1_1 _ _ l1_2 true _ ?side1 ?side2 A5.out).mono ?_); (case side1 => exact cB HR1_2 HB); (case side2 => exact HC1_2.out); rintro e w23 ⟨rfl, hb⟩; replace B101 := bB B101 hb; replace B102 := bB B102 hb; replace HB := bS HB hb; (try clear hb); (try clear hb2); (try clear hk); (try clear hi); obtain ⟨_, _, _, _, _, _⟩ := bc3 B101.out; obtain ⟨_, _, _, _, _, _⟩ := bc3 B102.out))
 go_ret
 exact ⟨er, pT HB.out⟩
def spec_l1Most.f (a0 : Int) (a1 : Int) : Option (Int) := if a0 > a1 then (some a0) else (some a1)
theorem spec_l1Most.calls (a0 : Int) (a1 : Int) (r : Int) (w : World) (h : spec_l1Most.f a0 a1 = some r) :
  Calls Try.prog 85 #[.int .i64 a0, .int .i64 a1] w fun e w' => e = .returned (.int .i64 r) ∧ Drawn0 w w' := by
 have H : (if a0 > a1 then (some a0) else (some a1)) = some r := h
 clear h
 by_cases c3 : a0 > a1
 ·
  rw [if_pos c3] at H
  have c3b0 : decide (a1 < a0) = true := decide_eq_true c3
  clear c3
  obtain rfl := Option.some.inj H
  go_enter Try.func85, Try.ntmps85
  go_wp2
  go_ret
  exact ⟨by first | rfl | (simp; done) | (simp [*]; done), by repeat (first | exact Drawn0.refl _ | apply Drawn0.step)⟩
 rw [if_neg c3] at H
 have c3b0 : decide (a1 < a0) = false := decide_eq_false c3
 clear c3
 obtain rfl := Option.some.inj H
 go_enter Try.func85, Try.ntmps85
 go_wp2
 go_ret
 exact ⟨by first | rfl | (simp; done) | (simp [*]; done), by repeat (first | exact Drawn0.refl _ | apply Drawn0.step)⟩
def spec_l11Abs.f (a0 : Int) : Option (Int) := (spec_l1Most.f a0 (wrap64 (-a0))).bind fun t101 => (some t101)
theorem spec_l11Abs.calls (a0 : Int) (r : Int) (w : World) (h : spec_l11Abs.f a0 = some r) :
  Calls Try.prog 73 #[.int .i64 a0] w fun e w' => e = .returned (.int .i64 r) ∧ Drawn0 w w' := by
 have H : ((spec_l1Most.f a0 (wrap64 (-a0))).bind fun t101 => (some t101)) = some r := h
 clear h
 replace H := oA H
 obtain ⟨t101, A2, H⟩ := H
 replace H : (some t101) = some r := H
 obtain rfl := Option.some.inj H
 go_enter Try.func73, Try.ntmps73
 go_wp2_with (first | ((with_reducible refine gc 85 rfl ?_); refine gl (some 6) Try.func85 #[.int .i64 a0, .int .i64 (wrap64 (-a0))] ?_; (with_reducible refine (spec_l1Most.calls a0 (wrap64 (-a0)) t101 _ A2.out).mono ?_); rintro e w' ⟨rfl, ⟨nd, rfl⟩⟩; refine ⟨_, rfl, ?_⟩))
 go_ret
 exact ⟨by first | rfl | (simp; done) | (simp [*]; done), by repeat (first | exact Drawn0.refl _ | apply Drawn0.step)⟩
mutual
def spec_l11Match.l0 : Nat → Int → Int → Int → Int → Int → List Int → Int → Int → List Int → Int → Int → Option (Int × Int)
 | 0, _, _, _, _, _, _, _, _, _, _, _ => none
 | k + 1, x8, x9, x10, x102000, x102001, x102002, x103000, x103001, x103002, x104000, x104001 => if x10 < x102001 then (spec_l11Match.l1 k x8 x9 x10 0 x102000 x102001 x102002 x103000 x103001 x103002 x104000 x104001) else (some (x8, x9))
def spec_l11Match.l1 : Nat → Int → Int → Int → Int → Int → Int → List Int → Int → Int → List Int → Int → Int → Option (Int × Int)
 | 0, _, _, _, _, _, _, _, _, _, _, _, _ => none
 | k + 1, x8, x9, x10, x11, x102000, x102001, x102002, x103000, x103001, x103002, x104000, x104001 => if x11 < x102000 then ((spec_l2Has.f x103000 x103001 x103002 (wrap64 (x11 + x104000)) (wrap64 (x10 + x104001))).bind fun t104 => (if t104 = true then ((spec_l2At.f x102000 x102001 x102002 x11 x10).bind fun t105 => ((spec_l2At.f x103000 x103001 x103002 (wrap64 (x11 + x104000)) (wrap64 (x10 + x104001))).bind fun t106 => (if t105 = (-9999) then (spec_l11Match.l1 k x8 x9 x10 (wrap64 (x11 + 1)) x102000 x102001 x102002 x103000 x103001 x103002 x104000 x104001) else (if t106 = (-9999) then (spec_l11Match.l1 k x8 x9 x10 (wrap64 (x11 + 1)) x102000 x102001 x102002 x103000 x103001 x103002 x104000 x104001) else ((spec_l11Abs.f (wrap64 (t105 - t106))).bind fun t107 => (spec_l11Match.l1 k (wrap64 (x8 + t107)) (wrap64 (x9 + 1)) x10 (wrap64 (x11 + 1)) x102000 x102001 x102002 x103000 x103001 x103002 x104000 x104001)))))) else (spec_l11Match.l1 k x8 x9 x10 (wrap64 (x11 + 1)) x102000 x102001 x102002 x103000 x103001 x103002 x104000 x104001))) else (spec_l11Match.l0 k x8 x9 (wrap64 (x10 + 1)) x102000 x102001 x102002 x103000 x103001 x103002 x104000 x104001)
end
def spec_l11Match.f (k : Nat) (a0_0 : Int) (a0_1 : Int) (l0_2 : List Int) (a1_0 : Int) (a1_1 : Int) (l1_2 : List Int) (a2_0 : Int) (a2_1 : Int) : Option (Int × Int) := spec_l11Match.l0 k 0 0 0 a0_0 a0_1 l0_2 a1_0 a1_1 l1_2 a2_0 a2_1
def spec_l11Match.T9 : Bool × List (List Nat × List Nat) := (true, [([], []), ([], []), ([], []), ([0, 1, 2], [0, 1, 2]), ([], []), ([], []), ([], []), ([6], [6]), ([5, 7], [5, 7]), ([], []), ([], []), ([10], [10]), ([9, 11], [9, 11]), ([4, 8, 12, 3], [4, 8, 12]), ([3, 13, 0, 1, 2, 3], [3]), ([13, 14, 0, 1, 2, 3, 4, 5, 6, 7, 8, 9, 10, 11, 12, 13, 14], [13])])
def spec_l11Match.B9 : List Nat := [0, 0, 0, 7, 0, 0, 0, 64, 224, 0, 0, 1024, 3584, 8191, 16383, 32767]
theorem spec_l11Match.tab9 : rtab .any (opsOf Try.f72 9) = spec_l11Match.T9 := by kernel_rfl
theorem spec_l11Match.bits9 : waitsOk spec_l11Match.T9.2 spec_l11Match.B9 = true := by kernel_rfl
theorem spec_l11Match.calls (k : Nat) (a0_0 : Int) (a0_1 : Int) (A0_2 : Option Addr) (c0_2 : Nat) (l0_2 : List Int) (a1_0 : Int) (a1_1 : Int) (A1_2 : Option Addr) (c1_2 : Nat) (l1_2 : List Int) (a2_0 : Int) (a2_1 : Int) (r1 : Int) (r2 : Int) (w : World) (hr0_2 : Kd.C (Kd.int .i64) w A0_2 l0_2.length l0_2) (hc0_2 : l0_2.length ≤ c0_2) (hr1_2 : Kd.C (Kd.int .i64) w A1_2 l1_2.length l1_2) (hc1_2 : l1_2.length ≤ c1_2) (h : spec_l11Match.f k a0_0 a0_1 l0_2 a1_0 a1_1 l1_2 a2_0 a2_1 = some (r1, r2)) :
  Calls Try.prog 72 #[.agg #[.int .i64 a0_0, .int .i64 a0_1, .slice A0_2 l0_2.length c0_2], .agg #[.int .i64 a1_0, .int .i64 a1_1, .slice A1_2 l1_2.length c1_2], .agg #[.int .i64 a2_0, .int .i64 a2_1]] w fun e w' => e = .returned (.tuple #[.int .i64 r1, .int .i64 r2]) ∧ Below w.heap.size w w' := by
 have hu26 := Try.underlying26
 have hu28 := Try.underlying28
 have HR0_2 := aK hr0_2
 have HC0_2 := aK hc0_2
 clear hr0_2 hc0_2
 have HR1_2 := aK hr1_2
 have HC1_2 := aK hc1_2
 clear hr1_2 hc1_2
 have HB := aK (Below.refl w.heap.size w)
 have H : (spec_l11Match.l0 k 0 0 0 a0_0 a0_1 l0_2 a1_0 a1_1 l1_2 a2_0 a2_1) = some (r1, r2) := h
 clear h
 have H' := aK H
 clear H
 go_enter Try.func72, Try.ntmps72
 go_wp2_with (first | ((with_reducible refine ga 3 rfl ?_); refine bxa #[.int .i64 a0_0, .int .i64 a0_1, .slice A0_2 l0_2.length c0_2] 26 ?_; intro g101 hg w4 B101 hb; have GW101 := gA hg HB; replace HB := bS HB hb; clear hb hg) | ((with_reducible refine ga 4 rfl ?_); refine bxa #[.int .i64 a1_0, .int .i64 a1_1, .slice A1_2 l1_2.length c1_2] 26 ?_; intro g102 hg w5 B102 hb; have GW102 := gA hg HB; obtain ⟨N101_102, N102_101⟩ := na hg B101; replace B101 := bB B101 hb; replace HB := bS HB hb; clear hb hg) | ((with_reducible refine ga 5 rfl ?_); refine bxa #[.int .i64 a2_0, .int .i64 a2_1] 28 ?_; intro g103 hg w6 B103 hb; have GW103 := gA hg HB; obtain ⟨N101_103, N103_101⟩ := na hg B101; obtain ⟨N102_103, N103_102⟩ := na hg B102; replace B101 := bB B101 hb; replace B102 := bB B102 hb; replace HB := bS HB hb; clear hb hg))
 go_loopg [8, 9, 10] k (fun kq v8 v9 v10 w' => ∃ (x8_1 : Int) (x9_1 : Int) (x10_1 : Int), v8 = .int .i64 x8_1 ∧ v9 = .int .i64 x9_1 ∧ v10 = .int .i64 x10_1 ∧ Aside0 (spec_l11Match.l0 kq x8_1 x9_1 x10_1 a0_0 a0_1 l0_2 a1_0 a1_1 l1_2 a2_0 a2_1 = some (r1, r2)) ∧ Aside0 (kq ≤ k) ∧ Aside0 (w'.heap[g101]? = some (.cells #[.int .i64 a0_0, .int .i64 a0_1, (.slice A0_2 l0_2.length c0_2)] 26 (0, 0))) ∧ Aside0 (w'.heap[g102]? = some (.cells #[.int .i64 a1_0, .int .i64 a1_1, (.slice A1_2 l1_2.length c1_2)] 26 (0, 0))) ∧ Aside0 (w'.heap[g103]? = some (.cells #[.int .i64 a2_0, .int .i64 a2_1] 28 (0, 0))) ∧ Aside0 (Below w.heap.size w w'))
 case atStart => exact ⟨(0), (0), (0), (by first | rfl | (simp; done) | (simp [*]; done)), (by first | rfl | (simp; done) | (simp [*]; done)), (by first | rfl | (simp; done) | (simp [*]; done)), H', ⟨Nat.le_refl _⟩, ⟨by refine bk ?_; exact B101.out⟩, ⟨by refine bk ?_; exact B102.out⟩, ⟨by refine bk ?_; exact B103.out⟩, ⟨pT HB.out⟩⟩
 case round =>
 clear H'
 obtain ⟨x8_1, x9_1, x10_1, rfl, rfl, rfl, HA, HK1, B101, B102, B103, HB⟩ := hrel
 cases gk with
 | zero => exact absurd HA.out (by simp [spec_l11Match.l0])
 | succ k1 =>
 have H := HA.out
 clear HA
 simp only [spec_l11Match.l0] at H
 by_cases c7 : x10_1 < a0_1
 rotate_left
 ·
  rw [if_neg c7] at H
  have c7b0 : decide (x10_1 < a0_1) = false := decide_eq_false c7
  clear c7
  simp only [Option.some.injEq, Prod.mk.injEq] at H
  obtain ⟨rfl, rfl⟩ := H; obtain ⟨_, _⟩ := nB N101_102; obtain ⟨_, _⟩ := nB N101_103; obtain ⟨_, _, _, _, _, _⟩ := bc3 B101.out
  go_wp2
  go_ret2
  exact ⟨er, pT HB.out⟩
 rw [if_pos c7] at H
 have c7b0 : decide (x10_1 < a0_1) = true := decide_eq_true c7
 clear c7
 have H' := aK H
 clear H
 obtain ⟨_, _⟩ := nB N101_102
 obtain ⟨_, _⟩ := nB N101_103
 obtain ⟨z10_0, z10_1, z10_2, y10_0, y10_1, y10_2⟩ := bc3 B101.out
 go_wp2
 go_loopg [8, 9, 11] k1 (fun kq v8 v9 v11 w' => ∃ (x8_2 : Int) (x9_2 : Int) (x11_2 : Int), v8 = .int .i64 x8_2 ∧ v9 = .int .i64 x9_2 ∧ v11 = .int .i64 x11_2 ∧ Aside0 (spec_l11Match.l1 kq x8_2 x9_2 x10_1 x11_2 a0_0 a0_1 l0_2 a1_0 a1_1 l1_2 a2_0 a2_1 = some (r1, r2)) ∧ Aside0 (kq ≤ k1) ∧ Aside0 (w'.heap[g101]? = some (.cells #[.int .i64 a0_0, .int .i64 a0_1, (.slice A0_2 l0_2.length c0_2)] 26 (0, 0))) ∧ Aside0 (w'.heap[g102]? = some (.cells #[.int .i64 a1_0, .int .i64 a1_1, (.slice A1_2 l1_2.length c1_2)] 26 (0, 0))) ∧ Aside0 (w'.heap[g103]? = some (.cells #[.int .i64 a2_0, .int .i64 a2_1] 28 (0, 0))) ∧ Aside0 (Below w.heap.size w w'))
 case atStart => exact ⟨(x8_1), (x9_1), (0), (by first | rfl | (simp; done) | (simp [*]; done)), (by first | rfl | (simp; done) | (simp [*]; done)), (by first | rfl | (simp; done) | (simp [*]; done)), H', ⟨Nat.le_refl _⟩, ⟨by refine bk ?_; exact B101.out⟩, ⟨by refine bk ?_; exact B102.out⟩, ⟨by refine bk ?_; exact B103.out⟩, ⟨pT HB.out⟩⟩
 case round =>
 clear H'
 clear c7b0 z10_0 z10_1 z10_2 y10_0 y10_1 y10_2
 obtain ⟨x8_2, x9_2, x11_2, rfl, rfl, rfl, HA, HK2, B101, B102, B103, HB⟩ := hrel
 cases gk with
 | zero => exact absurd HA.out (by simp [spec_l11Match.l1])
 | succ k2 =>
 have H := HA.out
 clear HA
 simp only [spec_l11Match.l1] at H
 by_cases c11 : x11_2 < a0_0
 rotate_left
 ·
  rw [if_neg c11] at H
  have c11b0 : decide (x11_2 < a0_0) = false := decide_eq_false c11
  clear c11; have H' := aK H; clear H; obtain ⟨_, _⟩ := nB N101_102; obtain ⟨_, _⟩ := nB N101_103; obtain ⟨_, _, _, _, _, _⟩ := bc3 B101.out
  go_wp2
  go_roundg k2
  case measure => have := HK1.out; have := HK2.out; omega
  case rel => exact ⟨(x8_2), (x9_2), (wrap64 (x10_1 + 1)), (by first | rfl | (simp; done) | (simp [*]; done)), (by first | rfl | (simp; done) | (simp [*]; done)), (by first | rfl | (simp; done) | (simp [*]; done)), H', ⟨by have := HK1.out; have := HK2.out; omega⟩, ⟨by refine bk ?_; exact B101.out⟩, ⟨by refine bk ?_; exact B102.out⟩, ⟨by refine bk ?_; exact B103.out⟩, ⟨pT HB.out⟩⟩
 rw [if_pos c11] at H
 have c11b0 : decide (x11_2 < a0_0) = true := decide_eq_true c11
 clear c11
 replace H := oA H
 obtain ⟨t104, A12, H⟩ := H
 replace H : (if t104 = true then ((spec_l2At.f a0_0 a0_1 l0_2 x11_2 x10_1).bind fun t105 => ((spec_l2At.f a1_0 a1_1 l1_2 (wrap64 (x11_2 + a2_0)) (wrap64 (x10_1 + a2_1))).bind fun t106 => (if t105 = (-9999) then (spec_l11Match.l1 k2 x8_2 x9_2 x10_1 (wrap64 (x11_2 + 1)) a0_0 a0_1 l0_2 a1_0 a1_1 l1_2 a2_0 a2_1) else (if t106 = (-9999) then (spec_l11Match.l1 k2 x8_2 x9_2 x10_1 (wrap64 (x11_2 + 1)) a0_0 a0_1 l0_2 a1_0 a1_1 l1_2 a2_0 a2_1) else ((spec_l11Abs.f (wrap64 (t105 - t106))).bind fun t107 => (spec_l11Match.l1 k2 (wrap64 (x8_2 + t107)) (wrap64 (x9_2 + 1)) x10_1 (wrap64 (x11_2 + 1)) a0_0 a0_1 l0_2 a1_0 a1_1 l1_2 a2_0 a2_1)))))) else (spec_l11Match.l1 k2 x8_2 x9_2 x10_1 (wrap64 (x11_2 + 1)) a0_0 a0_1 l0_2 a1_0 a1_1 l1_2 a2_0 a2_1)) = some (r1, r2) := H
 by_cases c13 : t104 = true
 rotate_left
 ·
  replace c13 := Bool.eq_false_iff.mpr c13; subst c13
  have H1 : (spec_l11Match.l1 k2 x8_2 x9_2 x10_1 (wrap64 (x11_2 + 1)) a0_0 a0_1 l0_2 a1_0 a1_1 l1_2 a2_0 a2_1) = some (r1, r2) := by rw [if_neg (show ¬ (false = true) by decide)] at H; exact H
  clear H; have H := H1; clear H1; have H' := aK H; clear H; obtain ⟨_, _⟩ := nB N101_102; obtain ⟨_, _⟩ := nB N101_103; obtain ⟨_, _, _, _, _, _⟩ := bc3 B101.out; obtain ⟨_, _⟩ := nB N102_103; obtain ⟨_, _, _, _, _, _⟩ := bc3 B102.out; obtain ⟨_, _, _, _⟩ := bc2 B103.out
  go_wp2_with (first | ((with_reducible refine gc 47 rfl ?_); refine gl (some 35) Try.func47 #[.agg #[.int .i64 a1_0, .int .i64 a1_1, .slice A1_2 l1_2.length c1_2], .int .i64 (wrap64 (x11_2 + a2_0)), .int .i64 (wrap64 (x10_1 + a2_1))] ?_; (with_reducible refine (spec_l2Has.calls a1_0 a1_1 _ _ l1_2 (wrap64 (x11_2 + a2_0)) (wrap64 (x10_1 + a2_1)) false _ ?side1 ?side2 A12.out).mono ?_); (case side1 => exact cB HR1_2 HB); (case side2 => exact HC1_2.out); rintro e w55 ⟨rfl, hb⟩; refine ⟨_, rfl, ?_⟩; replace B101 := bB B101 hb; replace B102 := bB B102 hb; replace B103 := bB B103 hb; replace HB := bS HB hb; (try clear hb)))
  go_roundg k2
  case measure => have := HK1.out; have := HK2.out; omega
  case rel => exact ⟨(x8_2), (x9_2), (wrap64 (x11_2 + 1)), (by first | rfl | (simp; done) | (simp [*]; done)), (by first | rfl | (simp; done) | (simp [*]; done)), (by first | rfl | (simp; done) | (simp [*]; done)), H', ⟨by have := HK1.out; have := HK2.out; omega⟩, ⟨by refine bk ?_; exact B101.out⟩, ⟨by refine bk ?_; exact B102.out⟩, ⟨by refine bk ?_; exact B103.out⟩, ⟨pT HB.out⟩⟩
 subst c13
 have H1 : ((spec_l2At.f a0_0 a0_1 l0_2 x11_2 x10_1).bind fun t105 => ((spec_l2At.f a1_0 a1_1 l1_2 (wrap64 (x11_2 + a2_0)) (wrap64 (x10_1 + a2_1))).bind fun t106 => (if t105 = (-9999) then (spec_l11Match.l1 k2 x8_2 x9_2 x10_1 (wrap64 (x11_2 + 1)) a0_0 a0_1 l0_2 a1_0 a1_1 l1_2 a2_0 a2_1) else (if t106 = (-9999) then (spec_l11Match.l1 k2 x8_2 x9_2 x10_1 (wrap64 (x11_2 + 1)) a0_0 a0_1 l0_2 a1_0 a1_1 l1_2 a2_0 a2_1) else ((spec_l11Abs.f (wrap64 (t105 - t106))).bind fun t107 => (spec_l11Match.l1 k2 (wrap64 (x8_2 + t107)) (wrap64 (x9_2 + 1)) x10_1 (wrap64 (x11_2 + 1)) a0_0 a0_1 l0_2 a1_0 a1_1 l1_2 a2_0 a2_1)))))) = some (r1, r2) := by rw [if_pos rfl] at H; exact H
 clear H
 have H := H1
 clear H1
 replace H := oA H
 obtain ⟨t105, A14, H⟩ := H
 replace H : ((spec_l2At.f a1_0 a1_1 l1_2 (wrap64 (x11_2 + a2_0)) (wrap64 (x10_1 + a2_1))).bind fun t106 => (if t105 = (-9999) then (spec_l11Match.l1 k2 x8_2 x9_2 x10_1 (wrap64 (x11_2 + 1)) a0_0 a0_1 l0_2 a1_0 a1_1 l1_2 a2_0 a2_1) else (if t106 = (-9999) then (spec_l11Match.l1 k2 x8_2 x9_2 x10_1 (wrap64 (x11_2 + 1)) a0_0 a0_1 l0_2 a1_0 a1_1 l1_2 a2_0 a2_1) else ((spec_l11Abs.f (wrap64 (t105 - t106))).bind fun t107 => (spec_l11Match.l1 k2 (wrap64 (x8_2 + t107)) (wrap64 (x9_2 + 1)) x10_1 (wrap64 (x11_2 + 1)) a0_0 a0_1 l0_2 a1_0 a1_1 l1_2 a2_0 a2_1))))) = some (r1, r2) := H
 replace H := oA H
 obtain ⟨t106, A15, H⟩ := H
 replace H : (if t105 = (-9999) then (spec_l11Match.l1 k2 x8_2 x9_2 x10_1 (wrap64 (x11_2 + 1)) a0_0 a0_1 l0_2 a1_0 a1_1 l1_2 a2_0 a2_1) else (if t106 = (-9999) then (spec_l11Match.l1 k2 x8_2 x9_2 x10_1 (wrap64 (x11_2 + 1)) a0_0 a0_1 l0_2 a1_0 a1_1 l1_2 a2_0 a2_1) else ((spec_l11Abs.f (wrap64 (t105 - t106))).bind fun t107 => (spec_l11Match.l1 k2 (wrap64 (x8_2 + t107)) (wrap64 (x9_2 + 1)) x10_1 (wrap64 (x11_2 + 1)) a0_0 a0_1 l0_2 a1_0 a1_1 l1_2 a2_0 a2_1)))) = some (r1, r2) := H
 by_cases c16 : t105 = (-9999)
 ·
  rw [if_pos c16] at H
  have c16b0 : (t105 == (-9999)) = true := beq_iff_eq.mpr c16
  have c16b1 : (t105 != (-9999)) = false := bne_eq_false_iff_eq.mpr c16
  clear c16; have H' := aK H; clear H; obtain ⟨_, _⟩ := nB N101_102; obtain ⟨_, _⟩ := nB N101_103; obtain ⟨_, _, _, _, _, _⟩ := bc3 B101.out; obtain ⟨_, _⟩ := nB N102_103; obtain ⟨_, _, _, _, _, _⟩ := bc3 B102.out; obtain ⟨_, _, _, _⟩ := bc2 B103.out
  try go_wp2_with (first | ((with_reducible refine gc 47 rfl ?_); refine gl (some 35) Try.func47 #[.agg #[.int .i64 a1_0, .int .i64 a1_1, .slice A1_2 l1_2.length c1_2], .int .i64 (wrap64 (x11_2 + a2_0)), .int .i64 (wrap64 (x10_1 + a2_1))] ?_; (with_reducible refine (spec_l2Has.calls a1_0 a1_1 _ _ l1_2 (wrap64 (x11_2 + a2_0)) (wrap64 (x10_1 + a2_1)) true _ ?side1 ?side2 A12.out).mono ?_); (case side1 => exact cB HR1_2 HB); (case side2 => exact HC1_2.out); rintro e w23 ⟨rfl, hb⟩; refine ⟨_, rfl, ?_⟩; replace B101 := bB B101 hb; replace B102 := bB B102 hb; replace B103 := bB B103 hb; replace HB := bS HB hb; (try clear hb)))
  replace B101 := bD B101; replace B102 := bD B102; replace B103 := bD B103; replace HB := aK (below_drew1 HB.out)
  refine start_ (n := 16) (S := fun w' => w'.cell? ⟨g101, 0, none⟩ = some (.int .i64 a0_0) ∧ w'.cell? ⟨g101, 1, none⟩ = some (.int .i64 a0_1) ∧ w'.cell? ⟨g101, 2, none⟩ = some (.slice A0_2 l0_2.length c0_2) ∧ w'.cell? ⟨g102, 0, none⟩ = some (.int .i64 a1_0) ∧ w'.cell? ⟨g102, 1, none⟩ = some (.int .i64 a1_1) ∧ w'.cell? ⟨g102, 2, none⟩ = some (.slice A1_2 l1_2.length c1_2) ∧ w'.cell? ⟨g103, 0, none⟩ = some (.int .i64 a2_0) ∧ w'.cell? ⟨g103, 1, none⟩ = some (.int .i64 a2_1)) (ds := []) (bz [0, 16]) (by kernel_rfl) rfl rfl (cj3 B101.out (cj3 B102.out (cz2 B103.out))) (fun hHeld => ?_); refine with_tabW spec_l11Match.tab9 spec_l11Match.bits9 (fun HT_ HW_ => ?_)
  generalize w23.drew = w24 at B101 B102 B103 HB hHeld ⊢
  refine pz 1 38 [0, 1, 1, 14] HT_ ?_
  refine pz 2 39 [0, 1, 2, 13] HT_ ?_
  refine pz 5 42 [0, 1, 2, 2, 1, 10] HT_ ?_
  refine pz 6 43 [0, 1, 2, 2, 2, 9] HT_ ?_
  refine pz 9 46 [0, 1, 2, 2, 2, 2, 1, 6] HT_ ?_
  refine pz 10 47 [0, 1, 2, 2, 2, 2, 2, 5] HT_ ?_
  refine tz 0 37 [3, 2, 2, 2, 2, 5] HT_ HW_ rfl (by rintro w' ⟨s0, s1, s2, s3, s4, s5, s6, s7⟩; go_simp; with_reducible rfl) hHeld ?_
  refine tz 4 41 [3, 1, 3, 2, 2, 5] HT_ HW_ rfl (by rintro w' ⟨s0, s1, s2, s3, s4, s5, s6, s7⟩; go_simp; with_reducible rfl) hHeld ?_
  refine tz 7 44 [3, 1, 4, 1, 2, 5] HT_ HW_ rfl (by rintro w' ⟨s0, s1, s2, s3, s4, s5, s6, s7⟩; go_simp; with_reducible rfl) hHeld ?_
  refine pz 8 45 [3, 1, 7, 5] HT_ ?_
  refine tz 11 48 [3, 1, 8, 4] HT_ HW_ rfl (by rintro w' ⟨s0, s1, s2, s3, s4, s5, s6, s7⟩; go_simp; with_reducible rfl) hHeld ?_
  refine pz 12 49 [3, 1, 9, 3] HT_ ?_
  refine oz 3 40 [13, 3] HT_ fun K hK => ?_
  refine gs Try.func48 #[.agg #[.int .i64 a0_0, .int .i64 a0_1, .slice A0_2 l0_2.length c0_2], .int .i64 x11_2, .int .i64 x10_1] ?_
  with_reducible refine (spec_l2At.calls a0_0 a0_1 _ _ l0_2 x11_2 x10_1 t105 _ ?side1 ?side2 A14.out).mono ?_
  (case side1 => exact cB HR0_2 HB)
  (case side2 => exact HC0_2.out)
  rintro e w25 ⟨rfl, hb⟩
  refine ⟨_, rfl, ?_⟩
  replace B101 := bB B101 hb; replace B102 := bB B102 hb; replace B103 := bB B103 hb; replace HB := bS HB hb; clear hb
  refine hK.out _ _ (cj3 B101.out (cj3 B102.out (cz2 B103.out))) (fun hHeld => ?_)
  clear hK K
  refine nm 40 ?_
  refine oz 13 50 [14, 2] HT_ fun K hK => ?_
  refine gs Try.func48 #[.agg #[.int .i64 a1_0, .int .i64 a1_1, .slice A1_2 l1_2.length c1_2], .int .i64 (wrap64 (x11_2 + a2_0)), .int .i64 (wrap64 (x10_1 + a2_1))] ?_
  with_reducible refine (spec_l2At.calls a1_0 a1_1 _ _ l1_2 (wrap64 (x11_2 + a2_0)) (wrap64 (x10_1 + a2_1)) t106 _ ?side1 ?side2 A15.out).mono ?_
  (case side1 => exact cB HR1_2 HB)
  (case side2 => exact HC1_2.out)
  rintro e w26 ⟨rfl, hb⟩
  refine ⟨_, rfl, ?_⟩
  replace B101 := bB B101 hb; replace B102 := bB B102 hb; replace B103 := bB B103 hb; replace HB := bS HB hb; clear hb
  refine hK.out _ _ (cj3 B101.out (cj3 B102.out (cz2 B103.out))) (fun hHeld => ?_)
  clear hK K
  refine nm 50 ?_
  refine pz 14 12 [15, 1] HT_ ?_
  refine pz 15 13 [16, 0] HT_ ?_
  refine done_ (done_of HT_.out (by kernel_rfl)) ?_
  try go_wp2
  go_roundg k2
  case measure => have := HK1.out; have := HK2.out; omega
  case rel => exact ⟨(x8_2), (x9_2), (wrap64 (x11_2 + 1)), (by first | rfl | (simp; done) | (simp [*]; done)), (by first | rfl | (simp; done) | (simp [*]; done)), (by first | rfl | (simp; done) | (simp [*]; done)), H', ⟨by have := HK1.out; have := HK2.out; omega⟩, ⟨by refine bk ?_; exact B101.out⟩, ⟨by refine bk ?_; exact B102.out⟩, ⟨by refine bk ?_; exact B103.out⟩, ⟨pT HB.out⟩⟩
 rw [if_neg c16] at H
 have c16b0 : (t105 == (-9999)) = false := beq_eq_false_iff_ne.mpr c16
 have c16b1 : (t105 != (-9999)) = true := bne_iff_ne.mpr c16
 by_cases c27 : t106 = (-9999)
 ·
  rw [if_pos c27] at H
  have c27b0 : (t106 == (-9999)) = true := beq_iff_eq.mpr c27
  have c27b1 : (t106 != (-9999)) = false := bne_eq_false_iff_eq.mpr c27
  clear c27; have H' := aK H; clear H; obtain ⟨_, _⟩ := nB N101_102; obtain ⟨_, _⟩ := nB N101_103; obtain ⟨_, _, _, _, _, _⟩ := bc3 B101.out; obtain ⟨_, _⟩ := nB N102_103; obtain ⟨_, _, _, _, _, _⟩ := bc3 B102.out; obtain ⟨_, _, _, _⟩ := bc2 B103.out
  try go_wp2_with (first | ((with_reducible refine gc 47 rfl ?_); refine gl (some 35) Try.func47 #[.agg #[.int .i64 a1_0, .int .i64 a1_1, .slice A1_2 l1_2.length c1_2], .int .i64 (wrap64 (x11_2 + a2_0)), .int .i64 (wrap64 (x10_1 + a2_1))] ?_; (with_reducible refine (spec_l2Has.calls a1_0 a1_1 _ _ l1_2 (wrap64 (x11_2 + a2_0)) (wrap64 (x10_1 + a2_1)) true _ ?side1 ?side2 A12.out).mono ?_); (case side1 => exact cB HR1_2 HB); (case side2 => exact HC1_2.out); rintro e w34 ⟨rfl, hb⟩; refine ⟨_, rfl, ?_⟩; replace B101 := bB B101 hb; replace B102 := bB B102 hb; replace B103 := bB B103 hb; replace HB := bS HB hb; (try clear hb)))
  replace B101 := bD B101; replace B102 := bD B102; replace B103 := bD B103; replace HB := aK (below_drew1 HB.out)
  refine start_ (n := 16) (S := fun w' => w'.cell? ⟨g101, 0, none⟩ = some (.int .i64 a0_0) ∧ w'.cell? ⟨g101, 1, none⟩ = some (.int .i64 a0_1) ∧ w'.cell? ⟨g101, 2, none⟩ = some (.slice A0_2 l0_2.length c0_2) ∧ w'.cell? ⟨g102, 0, none⟩ = some (.int .i64 a1_0) ∧ w'.cell? ⟨g102, 1, none⟩ = some (.int .i64 a1_1) ∧ w'.cell? ⟨g102, 2, none⟩ = some (.slice A1_2 l1_2.length c1_2) ∧ w'.cell? ⟨g103, 0, none⟩ = some (.int .i64 a2_0) ∧ w'.cell? ⟨g103, 1, none⟩ = some (.int .i64 a2_1)) (ds := []) (bz [0, 16]) (by kernel_rfl) rfl rfl (cj3 B101.out (cj3 B102.out (cz2 B103.out))) (fun hHeld => ?_); refine with_tabW spec_l11Match.tab9 spec_l11Match.bits9 (fun HT_ HW_ => ?_)
  generalize w34.drew = w35 at B101 B102 B103 HB hHeld ⊢
  refine pz 1 38 [0, 1, 1, 14] HT_ ?_
  refine pz 2 39 [0, 1, 2, 13] HT_ ?_
  refine pz 5 42 [0, 1, 2, 2, 1, 10] HT_ ?_
  refine pz 6 43 [0, 1, 2, 2, 2, 9] HT_ ?_
  refine pz 9 46 [0, 1, 2, 2, 2, 2, 1, 6] HT_ ?_
  refine pz 10 47 [0, 1, 2, 2, 2, 2, 2, 5] HT_ ?_
  refine tz 0 37 [3, 2, 2, 2, 2, 5] HT_ HW_ rfl (by rintro w' ⟨s0, s1, s2, s3, s4, s5, s6, s7⟩; go_simp; with_reducible rfl) hHeld ?_
  refine tz 4 41 [3, 1, 3, 2, 2, 5] HT_ HW_ rfl (by rintro w' ⟨s0, s1, s2, s3, s4, s5, s6, s7⟩; go_simp; with_reducible rfl) hHeld ?_
  refine tz 7 44 [3, 1, 4, 1, 2, 5] HT_ HW_ rfl (by rintro w' ⟨s0, s1, s2, s3, s4, s5, s6, s7⟩; go_simp; with_reducible rfl) hHeld ?_
  refine pz 8 45 [3, 1, 7, 5] HT_ ?_
  refine tz 11 48 [3, 1, 8, 4] HT_ HW_ rfl (by rintro w' ⟨s0, s1, s2, s3, s4, s5, s6, s7⟩; go_simp; with_reducible rfl) hHeld ?_
  refine pz 12 49 [3, 1, 9, 3] HT_ ?_
  refine oz 3 40 [13, 3] HT_ fun K hK => ?_
  refine gs Try.func48 #[.agg #[.int .i64 a0_0, .int .i64 a0_1, .slice A0_2 l0_2.length c0_2], .int .i64 x11_2, .int .i64 x10_1] ?_
  with_reducible refine (spec_l2At.calls a0_0 a0_1 _ _ l0_2 x11_2 x10_1 t105 _ ?side1 ?side2 A14.out).mono ?_
  (case side1 => exact cB HR0_2 HB)
  (case side2 => exact HC0_2.out)
  rintro e w36 ⟨rfl, hb⟩
  refine ⟨_, rfl, ?_⟩
  replace B101 := bB B101 hb; replace B102 := bB B102 hb; replace B103 := bB B103 hb; replace HB := bS HB hb; clear hb
  refine hK.out _ _ (cj3 B101.out (cj3 B102.out (cz2 B103.out))) (fun hHeld => ?_)
  clear hK K
  refine nm 40 ?_
  refine oz 13 50 [14, 2] HT_ fun K hK => ?_
  refine gs Try.func48 #[.agg #[.int .i64 a1_0, .int .i64 a1_1, .slice A1_2 l1_2.length c1_2], .int .i64 (wrap64 (x11_2 + a2_0)), .int .i64 (wrap64 (x10_1 + a2_1))] ?_
  with_reducible refine (spec_l2At.calls a1_0 a1_1 _ _ l1_2 (wrap64 (x11_2 + a2_0)) (wrap64 (x10_1 + a2_1)) t106 _ ?side1 ?side2 A15.out).mono ?_
  (case side1 => exact cB HR1_2 HB)
  (case side2 => exact HC1_2.out)
  rintro e w37 ⟨rfl, hb⟩
  refine ⟨_, rfl, ?_⟩
  replace B101 := bB B101 hb; replace B102 := bB B102 hb; replace B103 := bB B103 hb; replace HB := bS HB hb; clear hb
  refine hK.out _ _ (cj3 B101.out (cj3 B102.out (cz2 B103.out))) (fun hHeld => ?_)
  clear hK K
  refine nm 50 ?_
  refine pz 14 12 [15, 1] HT_ ?_
  refine pz 15 13 [16, 0] HT_ ?_
  refine done_ (done_of HT_.out (by kernel_rfl)) ?_
  try go_wp2
  go_roundg k2
  case measure => have := HK1.out; have := HK2.out; omega
  case rel => exact ⟨(x8_2), (x9_2), (wrap64 (x11_2 + 1)), (by first | rfl | (simp; done) | (simp [*]; done)), (by first | rfl | (simp; done) | (simp [*]; done)), (by first | rfl | (simp; done) | (simp [*]; done)), H', ⟨by have := HK1.out; have := HK2.out; omega⟩, ⟨by refine bk ?_; exact B101.out⟩, ⟨by refine bk ?_; exact B102.out⟩, ⟨by refine bk ?_; exact B103.out⟩, ⟨pT HB.out⟩⟩
 rw [if_neg c27] at H
 have c27b0 : (t106 == (-9999)) = false := beq_eq_false_iff_ne.mpr c27
 have c27b1 : (t106 != (-9999)) = true := bne_iff_ne.mpr c27
 replace H := oA H
 obtain ⟨t107, A38, H⟩ := H
 replace H : (spec_l11Match.l1 k2 (wrap64 (x8_2 + t107)) (wrap64 (x9_2 + 1)) x10_1 (wrap64 (x11_2 + 1)) a0_0 a0_1 l0_2 a1_0 a1_1 l1_2 a2_0 a2_1) = some (r1, r2) := H
 have H' := aK H
 clear H
 obtain ⟨_, _⟩ := nB N101_102
 obtain ⟨_, _⟩ := nB N101_103
 obtain ⟨_, _, _, _, _, _⟩ := bc3 B101.out
 obtain ⟨_, _⟩ := nB N102_103
 obtain ⟨_, _, _, _, _, _⟩ := bc3 B102.out
 obtain ⟨_, _, _, _⟩ := bc2 B103.out
 try go_wp2_with (first | ((with_reducible refine gc 47 rfl ?_); refine gl (some 35) Try.func47 #[.agg #[.int .i64 a1_0, .int .i64 a1_1, .slice A1_2 l1_2.length c1_2], .int .i64 (wrap64 (x11_2 + a2_0)), .int .i64 (wrap64 (x10_1 + a2_1))] ?_; (with_reducible refine (spec_l2Has.calls a1_0 a1_1 _ _ l1_2 (wrap64 (x11_2 + a2_0)) (wrap64 (x10_1 + a2_1)) true _ ?side1 ?side2 A12.out).mono ?_); (case side1 => exact cB HR1_2 HB); (case side2 => exact HC1_2.out); rintro e w45 ⟨rfl, hb⟩; refine ⟨_, rfl, ?_⟩; replace B101 := bB B101 hb; replace B102 := bB B102 hb; replace B103 := bB B103 hb; replace HB := bS HB hb; (try clear hb)))
 replace B101 := bD B101
 replace B102 := bD B102
 replace B103 := bD B103
 replace HB := aK (below_drew1 HB.out)
 refine start_ (n := 16) (S := fun w' => w'.cell? ⟨g101, 0, none⟩ = some (.int .i64 a0_0) ∧ w'.cell? ⟨g101, 1, none⟩ = some (.int .i64 a0_1) ∧ w'.cell? ⟨g101, 2, none⟩ = some (.slice A0_2 l0_2.length c0_2) ∧ w'.cell? ⟨g102, 0, none⟩ = some (.int .i64 a1_0) ∧ w'.cell? ⟨g102, 1, none⟩ = some (.int .i64 a1_1) ∧ w'.cell? ⟨g102, 2, none⟩ = some (.slice A1_2 l1_2.length c1_2) ∧ w'.cell? ⟨g103, 0, none⟩ = some (.int .i64 a2_0) ∧ w'.cell? ⟨g103, 1, none⟩ = some (.int .i64 a2_1)) (ds := []) (bz [0, 16]) (by kernel_rfl) rfl rfl (cj3 B101.out (cj3 B102.out (cz2 B103.out))) (fun hHeld => ?_); refine with_tabW spec_l11Match.tab9 spec_l11Match.bits9 (fun HT_ HW_ => ?_)
 generalize w45.drew = w46 at B101 B102 B103 HB hHeld ⊢
 refine pz 1 38 [0, 1, 1, 14] HT_ ?_
 refine pz 2 39 [0, 1, 2, 13] HT_ ?_
 refine pz 5 42 [0, 1, 2, 2, 1, 10] HT_ ?_
 refine pz 6 43 [0, 1, 2, 2, 2, 9] HT_ ?_
 refine pz 9 46 [0, 1, 2, 2, 2, 2, 1, 6] HT_ ?_
 refine pz 10 47 [0, 1, 2, 2, 2, 2, 2, 5] HT_ ?_
 refine tz 0 37 [3, 2, 2, 2, 2, 5] HT_ HW_ rfl (by rintro w' ⟨s0, s1, s2, s3, s4, s5, s6, s7⟩; go_simp; with_reducible rfl) hHeld ?_
 refine tz 4 41 [3, 1, 3, 2, 2, 5] HT_ HW_ rfl (by rintro w' ⟨s0, s1, s2, s3, s4, s5, s6, s7⟩; go_simp; with_reducible rfl) hHeld ?_
 refine tz 7 44 [3, 1, 4, 1, 2, 5] HT_ HW_ rfl (by rintro w' ⟨s0, s1, s2, s3, s4, s5, s6, s7⟩; go_simp; with_reducible rfl) hHeld ?_
 refine pz 8 45 [3, 1, 7, 5] HT_ ?_
 refine tz 11 48 [3, 1, 8, 4] HT_ HW_ rfl (by rintro w' ⟨s0, s1, s2, s3, s4, s5, s6, s7⟩; go_simp; with_reducible rfl) hHeld ?_
 refine pz 12 49 [3, 1, 9, 3] HT_ ?_
 refine oz 3 40 [13, 3] HT_ fun K hK => ?_
 refine gs Try.func48 #[.agg #[.int .i64 a0_0, .int .i64 a0_1, .slice A0_2 l0_2.length c0_2], .int .i64 x11_2, .int .i64 x10_1] ?_
 with_reducible refine (spec_l2At.calls a0_0 a0_1 _ _ l0_2 x11_2 x10_1 t105 _ ?side1 ?side2 A14.out).mono ?_
 (case side1 => exact cB HR0_2 HB)
 (case side2 => exact HC0_2.out)
 rintro e w47 ⟨rfl, hb⟩
 refine ⟨_, rfl, ?_⟩
 replace B101 := bB B101 hb
 replace B102 := bB B102 hb
 replace B103 := bB B103 hb
 replace HB := bS HB hb
 clear hb
 refine hK.out _ _ (cj3 B101.out (cj3 B102.out (cz2 B103.out))) (fun hHeld => ?_)
 clear hK K
 refine nm 40 ?_
 refine oz 13 50 [14, 2] HT_ fun K hK => ?_
 refine gs Try.func48 #[.agg #[.int .i64 a1_0, .int .i64 a1_1, .slice A1_2 l1_2.length c1_2], .int .i64 (wrap64 (x11_2 + a2_0)), .int .i64 (wrap64 (x10_1 + a2_1))] ?_
 with_reducible refine (spec_l2At.calls a1_0 a1_1 _ _ l1_2 (wrap64 (x11_2 + a2_0)) (wrap64 (x10_1 + a2_1)) t106 _ ?side1 ?side2 A15.out).mono ?_
 (case side1 => exact cB HR1_2 HB)
 (case side2 => exact HC1_2.out)
 rintro e w48 ⟨rfl, hb⟩
 refine ⟨_, rfl, ?_⟩
 replace B101 := bB B101 hb
 replace B102 := bB B102 hb
 replace B103 := bB B103 hb
 replace HB := bS HB hb
 clear hb
 refine hK.out _ _ (cj3 B101.out (cj3 B102.out (cz2 B103.out))) (fun hHeld => ?_)
 clear hK K
 refine nm 50 ?_
 refine pz 14 12 [15, 1] HT_ ?_
 refine pz 15 13 [16, 0] HT_ ?_
 refine done_ (done_of HT_.out (by kernel_rfl)) ?_
 try go_wp2_with (first | ((with_reducible refine gc 73 rfl ?_); refine gl (some 61) Try.func73 #[.int .i64 (wrap64 (t105 - t106))] ?_; (with_reducible refine (spec_l11Abs.calls (wrap64 (t105 - t106)) t107 _ A38.out).mono ?_); rintro e w' ⟨rfl, ⟨nd, rfl⟩⟩; refine ⟨_, rfl, ?_⟩))
 go_roundg k2
 case measure => have := HK1.out; have := HK2.out; omega
 case rel => exact ⟨(wrap64 (x8_2 + t107)), (wrap64 (x9_2 + 1)), (wrap64 (x11_2 + 1)), (by first | rfl | (simp; done) | (simp [*]; done)), (by first | rfl | (simp; done) | (simp [*]; done)), (by first | rfl | (simp; done) | (simp [*]; done)), H', ⟨by have := HK1.out; have := HK2.out; omega⟩, ⟨by refine bk ?_; exact B101.out⟩, ⟨by refine bk ?_; exact B102.out⟩, ⟨by refine bk ?_; exact B103.out⟩, ⟨pT HB.out⟩⟩
def spec_l11Qualifies.f (k : Nat) (a0_0 : Int) (a0_1 : Int) (l0_2 : List Int) (a1_0 : Int) (a1_1 : Int) (l1_2 : List Int) (a2_0 : Int) (a2_1 : Int) : Option (Bool) := (spec_l11Match.f k a0_0 a0_1 l0_2 a1_0 a1_1 l1_2 a2_0 a2_1).bind fun bt104 => (if bt104.2 > 0 then (some (decide ((wrap64 (2 * bt104.2)) ≥ (l0_2.length : Int)))) else (some false))
theorem spec_l11Qualifies.calls (k : Nat) (a0_0 : Int) (a0_1 : Int) (A0_2 : Option Addr) (c0_2 : Nat) (l0_2 : List Int) (a1_0 : Int) (a1_1 : Int) (A1_2 : Option Addr) (c1_2 : Nat) (l1_2 : List Int) (a2_0 : Int) (a2_1 : Int) (r : Bool) (w : World) (hr0_2 : Kd.C (Kd.int .i64) w A0_2 l0_2.length l0_2) (hc0_2 : l0_2.length ≤ c0_2) (hr1_2 : Kd.C (Kd.int .i64) w A1_2 l1_2.length l1_2) (hc1_2 : l1_2.length ≤ c1_2) (h : spec_l11Qualifies.f k a0_0 a0_1 l0_2 a1_0 a1_1 l1_2 a2_0 a2_1 = some r) :
  Calls Try.prog 66 #[.agg #[.int .i64 a0_0, .int .i64 a0_1, .slice A0_2 l0_2.length c0_2], .agg #[.int .i64 a1_0, .int .i64 a1_1, .slice A1_2 l1_2.length c1_2], .agg #[.int .i64 a2_0, .int .i64 a2_1]] w fun e w' => e = .returned (.bool r) ∧ Below w.heap.size w w' := by
 have hu26 := Try.underlying26
 have hu28 := Try.underlying28
 have HR0_2 := aK hr0_2
 have HC0_2 := aK hc0_2
 clear hr0_2 hc0_2
 have HR1_2 := aK hr1_2
 have HC1_2 := aK hc1_2
 clear hr1_2 hc1_2
 have HB := aK (Below.refl w.heap.size w)
 have H : ((spec_l11Match.f k a0_0 a0_1 l0_2 a1_0 a1_1 l1_2 a2_0 a2_1).bind fun bt104 => (if bt104.2 > 0 then (some (decide ((wrap64 (2 * bt104.2)) ≥ (l0_2.length : Int)))) else (some false))) = some r := h
 clear h
 replace H := oA H
 obtain ⟨⟨t104, t105⟩, A4, H⟩ := H
 replace H : (if t105 > 0 then (some (decide ((wrap64 (2 * t105)) ≥ (l0_2.length : Int)))) else (some false)) = some r := H
 by_cases c5 : t105 > 0
 ·
  rw [if_pos c5] at H
  have c5b0 : decide (0 < t105) = true := decide_eq_true c5
  clear c5
  obtain rfl := Option.some.inj H
  go_enter Try.func66, Try.ntmps66
  go_wp2_with (first | ((with_reducible refine ga 3 rfl ?_); (try (refine gate_guard (by rfl) ?_; dsimp only)); refine bxa #[.int .i64 a0_0, .int .i64 a0_1, .slice A0_2 l0_2.length c0_2] 26 ?_; intro g101 hg w6 B101 hb; have GW101 := gA hg HB; replace HB := bS HB hb; clear hb hg) | ((with_reducible refine ga 4 rfl ?_); (try (refine gate_guard (by rfl) ?_; dsimp only)); refine bxa #[.int .i64 a1_0, .int .i64 a1_1, .slice A1_2 l1_2.length c1_2] 26 ?_; intro g102 hg w7 B102 hb; have GW102 := gA hg HB; obtain ⟨N101_102, N102_101⟩ := na hg B101; replace B101 := bB B101 hb; replace HB := bS HB hb; clear hb hg) | ((with_reducible refine ga 5 rfl ?_); (try (refine gate_guard (by rfl) ?_; dsimp only)); refine bxa #[.int .i64 a2_0, .int .i64 a2_1] 28 ?_; intro g103 hg w8 B103 hb; have GW103 := gA hg HB; obtain ⟨N101_103, N103_101⟩ := na hg B101; obtain ⟨N102_103, N103_102⟩ := na hg B102; replace B101 := bB B101 hb; replace B102 := bB B102 hb; replace HB := bS HB hb; clear hb hg; obtain ⟨_, _⟩ := nB N101_102; obtain ⟨_, _⟩ := nB N101_103; obtain ⟨_, _, _, _, _, _⟩ := bc3 B101.out; obtain ⟨_, _⟩ := nB N102_103; obtain ⟨_, _, _, _, _, _⟩ := bc3 B102.out; obtain ⟨_, _, _, _⟩ := bc2 B103.out) | ((with_reducible refine gc 72 rfl ?_); refine gl (some 13) Try.func72 #[.agg #[.int .i64 a0_0, .int .i64 a0_1, .slice A0_2 l0_2.length c0_2], .agg #[.int .i64 a1_0, .int .i64 a1_1, .slice A1_2 l1_2.length c1_2], .agg #[.int .i64 a2_0, .int .i64 a2_1]] ?_; (with_reducible refine (spec_l11Match.calls k a0_0 a0_1 _ _ l0_2 a1_0 a1_1 _ _ l1_2 a2_0 a2_1 t104 t105 _ ?side1 ?side2 ?side3 ?side4 A4.out).mono ?_); (case side1 => exact cB HR0_2 HB); (case side2 => exact HC0_2.out); (case side3 => exact cB HR1_2 HB); (case side4 => exact HC1_2.out); rintro e w15 ⟨rfl, hb⟩; refine ⟨_, rfl, ?_⟩; replace B101 := bB B101 hb; replace B102 := bB B102 hb; replace B103 := bB B103 hb; replace HB := bS HB hb; (try clear hb); (try clear hb2); (try clear hk); (try clear hi); obtain ⟨_, _, _, _, _, _⟩ := bc3 B101.out))
  go_ret
  exact ⟨er, pT HB.out⟩
 rw [if_neg c5] at H
 have c5b0 : decide (0 < t105) = false := decide_eq_false c5
 clear c5
 obtain rfl := Option.some.inj H
 go_enter Try.func66, Try.ntmps66
 go_wp2_with (first | ((with_reducible refine ga 3 rfl ?_); (try (refine gate_guard (by rfl) ?_; dsimp only)); refine bxa #[.int .i64 a0_0, .int .i64 a0_1, .slice A0_2 l0_2.length c0_2] 26 ?_; intro g101 hg w17 B101 hb; have GW101 := gA hg HB; replace HB := bS HB hb; clear hb hg) | ((with_reducible refine ga 4 rfl ?_); (try (refine gate_guard (by rfl) ?_; dsimp only)); refine bxa #[.int .i64 a1_0, .int .i64 a1_1, .slice A1_2 l1_2.length c1_2] 26 ?_; intro g102 hg w18 B102 hb; have GW102 := gA hg HB; obtain ⟨N101_102, N102_101⟩ := na hg B101; replace B101 := bB B101 hb; replace HB := bS HB hb; clear hb hg) | ((with_reducible refine ga 5 rfl ?_); (try (refine gate_guard (by rfl) ?_; dsimp only)); refine bxa #[.int .i64 a2_0, .int .i64 a2_1] 28 ?_; intro g103 hg w19 B103 hb; have GW103 := gA hg HB; obtain ⟨N101_103, N103_101⟩ := na hg B101; obtain ⟨N102_103, N103_102⟩ := na hg B102; replace B101 := bB B101 hb; replace B102 := bB B102 hb; replace HB := bS HB hb; clear hb hg; obtain ⟨_, _⟩ := nB N101_102; obtain ⟨_, _⟩ := nB N101_103; obtain ⟨_, _, _, _, _, _⟩ := bc3 B101.out; obtain ⟨_, _⟩ := nB N102_103; obtain ⟨_, _, _, _, _, _⟩ := bc3 B102.out; obtain ⟨_, _, _, _⟩ := bc2 B103.out) | ((with_reducible refine gc 72 rfl ?_); refine gl (some 13) Try.func72 #[.agg #[.int .i64 a0_0, .int .i64 a0_1, .slice A0_2 l0_2.length c0_2], .agg #[.int .i64 a1_0, .int .i64 a1_1, .slice A1_2 l1_2.length c1_2], .agg #[.int .i64 a2_0, .int .i64 a2_1]] ?_; (with_reducible refine (spec_l11Match.calls k a0_0 a0_1 _ _ l0_2 a1_0 a1_1 _ _ l1_2 a2_0 a2_1 t104 t105 _ ?side1 ?side2 ?side3 ?side4 A4.out).mono ?_); (case side1 => exact cB HR0_2 HB); (case side2 => exact HC0_2.out); (case side3 => exact cB HR1_2 HB); (case side4 => exact HC1_2.out); rintro e w26 ⟨rfl, hb⟩; refine ⟨_, rfl, ?_⟩; replace B101 := bB B101 hb; replace B102 := bB B102 hb; replace B103 := bB B103 hb; replace HB := bS HB hb; (try clear hb); (try clear hb2); (try clear hk); (try clear hi)))
 go_ret
 exact ⟨er, pT HB.out⟩
def spec_l11Better.f (k : Nat) (a0_0 : Int) (a0_1 : Int) (l0_2 : List Int) (a1_0 : Int) (a1_1 : Int) (l1_2 : List Int) (a2_0 : Int) (a2_1 : Int) (a3_0 : Int) (a3_1 : Int) : Option (Bool) := (spec_l11Match.f k a0_0 a0_1 l0_2 a1_0 a1_1 l1_2 a2_0 a2_1).bind fun bt105 => ((spec_l11Match.f k a0_0 a0_1 l0_2 a1_0 a1_1 l1_2 a3_0 a3_1).bind fun bt107 => (if (wrap64 (bt105.1 * bt107.2)) = (wrap64 (bt107.1 * bt105.2)) then ((spec_l11Abs.f a2_0).bind fun t109 => ((spec_l11Abs.f a2_1).bind fun t110 => ((spec_l11Abs.f a3_0).bind fun t111 => ((spec_l11Abs.f a3_1).bind fun t112 => (if (wrap64 (t109 + t110)) = (wrap64 (t111 + t112)) then (if a2_1 < a3_1 then (some true) else (if a2_1 = a3_1 then (some (decide (a2_0 < a3_0))) else (some false))) else (some (decide ((wrap64 (t109 + t110)) < (wrap64 (t111 + t112)))))))))) else (some (decide ((wrap64 (bt105.1 * bt107.2)) < (wrap64 (bt107.1 * bt105.2)))))))
theorem spec_l11Better.calls (k : Nat) (a0_0 : Int) (a0_1 : Int) (A0_2 : Option Addr) (c0_2 : Nat) (l0_2 : List Int) (a1_0 : Int) (a1_1 : Int) (A1_2 : Option Addr) (c1_2 : Nat) (l1_2 : List Int) (a2_0 : Int) (a2_1 : Int) (a3_0 : Int) (a3_1 : Int) (r : Bool) (w : World) (hr0_2 : Kd.C (Kd.int .i64) w A0_2 l0_2.length l0_2) (hc0_2 : l0_2.length ≤ c0_2) (hr1_2 : Kd.C (Kd.int .i64) w A1_2 l1_2.length l1_2) (hc1_2 : l1_2.length ≤ c1_2) (h : spec_l11Better.f k a0_0 a0_1 l0_2 a1_0 a1_1 l1_2 a2_0 a2_1 a3_0 a3_1 = some r) :
  Calls Try.prog 67 #[.agg #[.int .i64 a0_0, .int .i64 a0_1, .slice A0_2 l0_2.length c0_2], .agg #[.int .i64 a1_0, .int .i64 a1_1, .slice A1_2 l1_2.length c1_2], .agg #[.int .i64 a2_0, .int .i64 a2_1], .agg #[.int .i64 a3_0, .int .i64 a3_1]] w fun e w' => e = .returned (.bool r) ∧ Below w.heap.size w w' := by
 have hu26 := Try.underlying26
 have hu28 := Try.underlying28
 have HR0_2 := aK hr0_2
 have HC0_2 := aK hc0_2
 clear hr0_2 hc0_2
 have HR1_2 := aK hr1_2
 have HC1_2 := aK hc1_2
 clear hr1_2 hc1_2
 have HB := aK (Below.refl w.heap.size w)
 have H : ((spec_l11Match.f k a0_0 a0_1 l0_2 a1_0 a1_1 l1_2 a2_0 a2_1).bind fun bt105 => ((spec_l11Match.f k a0_0 a0_1 l0_2 a1_0 a1_1 l1_2 a3_0 a3_1).bind fun bt107 => (if (wrap64 (bt105.1 * bt107.2)) = (wrap64 (bt107.1 * bt105.2)) then ((spec_l11Abs.f a2_0).bind fun t109 => ((spec_l11Abs.f a2_1).bind fun t110 => ((spec_l11Abs.f a3_0).bind fun t111 => ((spec_l11Abs.f a3_1).bind fun t112 => (if (wrap64 (t109 + t110)) = (wrap64 (t111 + t112)) then (if a2_1 < a3_1 then (some true) else (if a2_1 = a3_1 then (some (decide (a2_0 < a3_0))) else (some false))) else (some (decide ((wrap64 (t109 + t110)) < (wrap64 (t111 + t112)))))))))) else (some (decide ((wrap64 (bt105.1 * bt107.2)) < (wrap64 (bt107.1 * bt105.2)))))))) = some r := h
 clear h
 replace H := oA H
 obtain ⟨⟨t105, t106⟩, A5, H⟩ := H
 replace H : ((spec_l11Match.f k a0_0 a0_1 l0_2 a1_0 a1_1 l1_2 a3_0 a3_1).bind fun bt107 => (if (wrap64 (t105 * bt107.2)) = (wrap64 (bt107.1 * t106)) then ((spec_l11Abs.f a2_0).bind fun t109 => ((spec_l11Abs.f a2_1).bind fun t110 => ((spec_l11Abs.f a3_0).bind fun t111 => ((spec_l11Abs.f a3_1).bind fun t112 => (if (wrap64 (t109 + t110)) = (wrap64 (t111 + t112)) then (if a2_1 < a3_1 then (some true) else (if a2_1 = a3_1 then (some (decide (a2_0 < a3_0))) else (some false))) else (some (decide ((wrap64 (t109 + t110)) < (wrap64 (t111 + t112)))))))))) else (some (decide ((wrap64 (t105 * bt107.2)) < (wrap64 (bt107.1 * t106))))))) = some r := H
 replace H := oA H
 obtain ⟨⟨t107, t108⟩, A6, H⟩ := H
 replace H : (if (wrap64 (t105 * t108)) = (wrap64 (t107 * t106)) then ((spec_l11Abs.f a2_0).bind fun t109 => ((spec_l11Abs.f a2_1).bind fun t110 => ((spec_l11Abs.f a3_0).bind fun t111 => ((spec_l11Abs.f a3_1).bind fun t112 => (if (wrap64 (t109 + t110)) = (wrap64 (t111 + t112)) then (if a2_1 < a3_1 then (some true) else (if a2_1 = a3_1 then (some (decide (a2_0 < a3_0))) else (some false))) else (some (decide ((wrap64 (t109 + t110)) < (wrap64 (t111 + t112)))))))))) else (some (decide ((wrap64 (t105 * t108)) < (wrap64 (t107 * t106)))))) = some r := H
 by_cases c7 : (wrap64 (t105 * t108)) = (wrap64 (t107 * t106))
 rotate_left
 ·
  rw [if_neg c7] at H
  have c7b0 : ((wrap64 (t105 * t108)) == (wrap64 (t107 * t106))) = false := beq_eq_false_iff_ne.mpr c7
  have c7b1 : ((wrap64 (t105 * t108)) != (wrap64 (t107 * t106))) = true := bne_iff_ne.mpr c7
  obtain rfl := Option.some.inj H
  go_enter Try.func67, Try.ntmps67
  go_wp2_with (first | ((with_reducible refine ga 4 rfl ?_); refine bxa #[.int .i64 a0_0, .int .i64 a0_1, .slice A0_2 l0_2.length c0_2] 26 ?_; intro g101 hg w95 B101 hb; have GW101 := gA hg HB; replace HB := bS HB hb; clear hb hg) | ((with_reducible refine ga 5 rfl ?_); refine bxa #[.int .i64 a1_0, .int .i64 a1_1, .slice A1_2 l1_2.length c1_2] 26 ?_; intro g102 hg w96 B102 hb; have GW102 := gA hg HB; obtain ⟨N101_102, N102_101⟩ := na hg B101; replace B101 := bB B101 hb; replace HB := bS HB hb; clear hb hg) | ((with_reducible refine ga 6 rfl ?_); refine bxa #[.int .i64 a2_0, .int .i64 a2_1] 28 ?_; intro g103 hg w97 B103 hb; have GW103 := gA hg HB; obtain ⟨N101_103, N103_101⟩ := na hg B101; obtain ⟨N102_103, N103_102⟩ := na hg B102; replace B101 := bB B101 hb; replace B102 := bB B102 hb; replace HB := bS HB hb; clear hb hg) | ((with_reducible refine ga 7 rfl ?_); refine bxa #[.int .i64 a3_0, .int .i64 a3_1] 28 ?_; intro g104 hg w98 B104 hb; have GW104 := gA hg HB; obtain ⟨N101_104, N104_101⟩ := na hg B101; obtain ⟨N102_104, N104_102⟩ := na hg B102; obtain ⟨N103_104, N104_103⟩ := na hg B103; replace B101 := bB B101 hb; replace B102 := bB B102 hb; replace B103 := bB B103 hb; replace HB := bS HB hb; clear hb hg; obtain ⟨_, _⟩ := nB N101_102; obtain ⟨_, _⟩ := nB N101_103; obtain ⟨_, _⟩ := nB N101_104; obtain ⟨_, _, _, _, _, _⟩ := bc3 B101.out; obtain ⟨_, _⟩ := nB N102_103; obtain ⟨_, _⟩ := nB N102_104; obtain ⟨_, _, _, _, _, _⟩ := bc3 B102.out; obtain ⟨_, _⟩ := nB N103_104; obtain ⟨_, _, _, _⟩ := bc2 B103.out) | (go_at_call 72; (with_reducible refine (spec_l11Match.calls k a0_0 a0_1 _ _ l0_2 a1_0 a1_1 _ _ l1_2 a2_0 a2_1 t105 t106 _ ?side1 ?side2 ?side3 ?side4 A5.out).mono ?_); (case side1 => exact cB HR0_2 HB); (case side2 => exact HC0_2.out); (case side3 => exact cB HR1_2 HB); (case side4 => exact HC1_2.out); rintro e w108 ⟨rfl, hb⟩; replace B101 := bB B101 hb; replace B102 := bB B102 hb; replace B103 := bB B103 hb; replace B104 := bB B104 hb; replace HB := bS HB hb; (try clear hb); obtain ⟨_, _, _, _, _, _⟩ := bc3 B101.out; obtain ⟨_, _, _, _, _, _⟩ := bc3 B102.out; obtain ⟨_, _, _, _⟩ := bc2 B104.out) | (go_at_call 72; (with_reducible refine (spec_l11Match.calls k a0_0 a0_1 _ _ l0_2 a1_0 a1_1 _ _ l1_2 a3_0 a3_1 t107 t108 _ ?side1 ?side2 ?side3 ?side4 A6.out).mono ?_); (case side1 => exact cB HR0_2 HB); (case side2 => exact HC0_2.out); (case side3 => exact cB HR1_2 HB); (case side4 => exact HC1_2.out); rintro e w112 ⟨rfl, hb⟩; replace B101 := bB B101 hb; replace B102 := bB B102 hb; replace B103 := bB B103 hb; replace B104 := bB B104 hb; replace HB := bS HB hb; (try clear hb)))
  repeat (go_quiet (first | ((with_reducible refine ga 4 rfl ?_); refine bxa #[.int .i64 a0_0, .int .i64 a0_1, .slice A0_2 l0_2.length c0_2] 26 ?_; intro g101 hg w95 B101 hb; have GW101 := gA hg HB; replace HB := bS HB hb; clear hb hg)); try go_wp2_with (first | ((with_reducible refine ga 4 rfl ?_); refine bxa #[.int .i64 a0_0, .int .i64 a0_1, .slice A0_2 l0_2.length c0_2] 26 ?_; intro g101 hg w95 B101 hb; have GW101 := gA hg HB; replace HB := bS HB hb; clear hb hg)))
  go_ret
  exact ⟨er, pT HB.out⟩
 rw [if_pos c7] at H
 have c7b0 : ((wrap64 (t105 * t108)) == (wrap64 (t107 * t106))) = true := beq_iff_eq.mpr c7
 have c7b1 : ((wrap64 (t105 * t108)) != (wrap64 (t107 * t106))) = false := bne_eq_false_iff_eq.mpr c7
 clear c7
 replace H := oA H
 obtain ⟨t109, A8, H⟩ := H
 replace H : ((spec_l11Abs.f a2_1).bind fun t110 => ((spec_l11Abs.f a3_0).bind fun t111 => ((spec_l11Abs.f a3_1).bind fun t112 => (if (wrap64 (t109 + t110)) = (wrap64 (t111 + t112)) then (if a2_1 < a3_1 then (some true) else (if a2_1 = a3_1 then (some (decide (a2_0 < a3_0))) else (some false))) else (some (decide ((wrap64 (t109 + t110)) < (wrap64 (t111 + t112))))))))) = some r := H
 replace H := oA H
 obtain ⟨t110, A9, H⟩ := H
 replace H : ((spec_l11Abs.f a3_0).bind fun t111 => ((spec_l11Abs.f a3_1).bind fun t112 => (if (wrap64 (t109 + t110)) = (wrap64 (t111 + t112)) then (if a2_1 < a3_1 then (some true) else (if a2_1 = a3_1 then (some (decide (a2_0 < a3_0))) else (some false))) else (some (decide ((wrap64 (t109 + t110)) < (wrap64 (t111 + t112)))))))) = some r := H
 replace H := oA H
 obtain ⟨t111, A10, H⟩ := H
 replace H : ((spec_l11Abs.f a3_1).bind fun t112 => (if (wrap64 (t109 + t110)) = (wrap64 (t111 + t112)) then (if a2_1 < a3_1 then (some true) else (if a2_1 = a3_1 then (some (decide (a2_0 < a3_0))) else (some false))) else (some (decide ((wrap64 (t109 + t110)) < (wrap64 (t111 + t112))))))) = some r := H
 replace H := oA H
 obtain ⟨t112, A11, H⟩ := H
 replace H : (if (wrap64 (t109 + t110)) = (wrap64 (t111 + t112)) then (if a2_1 < a3_1 then (some true) else (if a2_1 = a3_1 then (some (decide (a2_0 < a3_0))) else (some false))) else (some (decide ((wrap64 (t109 + t110)) < (wrap64 (t111 + t112)))))) = some r := H
 by_cases c12 : (wrap64 (t109 + t110)) = (wrap64 (t111 + t112))
 rotate_left
 ·
  rw [if_neg c12] at H
  have c12b0 : ((wrap64 (t109 + t110)) == (wrap64 (t111 + t112))) = false := beq_eq_false_iff_ne.mpr c12
  have c12b1 : ((wrap64 (t109 + t110)) != (wrap64 (t111 + t112))) = true := bne_iff_ne.mpr c12
  obtain rfl := Option.some.inj H
  go_enter Try.func67, Try.ntmps67
  go_wp2_with (first | ((with_reducible refine ga 4 rfl ?_); refine bxa #[.int .i64 a0_0, .int .i64 a0_1, .slice A0_2 l0_2.length c0_2] 26 ?_; intro g101 hg w75 B101 hb; have GW101 := gA hg HB; replace HB := bS HB hb; clear hb hg) | ((with_reducible refine ga 5 rfl ?_); refine bxa #[.int .i64 a1_0, .int .i64 a1_1, .slice A1_2 l1_2.length c1_2] 26 ?_; intro g102 hg w76 B102 hb; have GW102 := gA hg HB; obtain ⟨N101_102, N102_101⟩ := na hg B101; replace B101 := bB B101 hb; replace HB := bS HB hb; clear hb hg) | ((with_reducible refine ga 6 rfl ?_); refine bxa #[.int .i64 a2_0, .int .i64 a2_1] 28 ?_; intro g103 hg w77 B103 hb; have GW103 := gA hg HB; obtain ⟨N101_103, N103_101⟩ := na hg B101; obtain ⟨N102_103, N103_102⟩ := na hg B102; replace B101 := bB B101 hb; replace B102 := bB B102 hb; replace HB := bS HB hb; clear hb hg) | ((with_reducible refine ga 7 rfl ?_); refine bxa #[.int .i64 a3_0, .int .i64 a3_1] 28 ?_; intro g104 hg w78 B104 hb; have GW104 := gA hg HB; obtain ⟨N101_104, N104_101⟩ := na hg B101; obtain ⟨N102_104, N104_102⟩ := na hg B102; obtain ⟨N103_104, N104_103⟩ := na hg B103; replace B101 := bB B101 hb; replace B102 := bB B102 hb; replace B103 := bB B103 hb; replace HB := bS HB hb; clear hb hg; obtain ⟨_, _⟩ := nB N101_102; obtain ⟨_, _⟩ := nB N101_103; obtain ⟨_, _⟩ := nB N101_104; obtain ⟨_, _, _, _, _, _⟩ := bc3 B101.out; obtain ⟨_, _⟩ := nB N102_103; obtain ⟨_, _⟩ := nB N102_104; obtain ⟨_, _, _, _, _, _⟩ := bc3 B102.out; obtain ⟨_, _⟩ := nB N103_104; obtain ⟨_, _, _, _⟩ := bc2 B103.out) | (go_at_call 72; (with_reducible refine (spec_l11Match.calls k a0_0 a0_1 _ _ l0_2 a1_0 a1_1 _ _ l1_2 a2_0 a2_1 t105 t106 _ ?side1 ?side2 ?side3 ?side4 A5.out).mono ?_); (case side1 => exact cB HR0_2 HB); (case side2 => exact HC0_2.out); (case side3 => exact cB HR1_2 HB); (case side4 => exact HC1_2.out); rintro e w88 ⟨rfl, hb⟩; replace B101 := bB B101 hb; replace B102 := bB B102 hb; replace B103 := bB B103 hb; replace B104 := bB B104 hb; replace HB := bS HB hb; (try clear hb); obtain ⟨_, _, _, _, _, _⟩ := bc3 B101.out; obtain ⟨_, _, _, _, _, _⟩ := bc3 B102.out; obtain ⟨_, _, _, _⟩ := bc2 B104.out) | (go_at_call 72; (with_reducible refine (spec_l11Match.calls k a0_0 a0_1 _ _ l0_2 a1_0 a1_1 _ _ l1_2 a3_0 a3_1 t107 t108 _ ?side1 ?side2 ?side3 ?side4 A6.out).mono ?_); (case side1 => exact cB HR0_2 HB); (case side2 => exact HC0_2.out); (case side3 => exact cB HR1_2 HB); (case side4 => exact HC1_2.out); rintro e w92 ⟨rfl, hb⟩; replace B101 := bB B101 hb; replace B102 := bB B102 hb; replace B103 := bB B103 hb; replace B104 := bB B104 hb; replace HB := bS HB hb; (try clear hb); obtain ⟨_, _, _, _⟩ := bc2 B103.out))
  repeat (go_quiet (first | (go_at_call 73; (with_reducible refine (spec_l11Abs.calls a2_0 t109 _ A8.out).mono ?_); rintro e w' ⟨rfl, ⟨nd, rfl⟩⟩; (try first | exact ⟨rfl, _, World.drewN_drewN _ _ _⟩ | exact ⟨rfl, _, Eq.trans (World.drewN_drewN _ _ _) (congrArg (World.drewN _) (Nat.add_assoc _ _ _))⟩)) | (go_at_call 73; (with_reducible refine (spec_l11Abs.calls a2_1 t110 _ A9.out).mono ?_); rintro e w' ⟨rfl, ⟨nd, rfl⟩⟩; (try first | exact ⟨rfl, _, World.drewN_drewN _ _ _⟩ | exact ⟨rfl, _, Eq.trans (World.drewN_drewN _ _ _) (congrArg (World.drewN _) (Nat.add_assoc _ _ _))⟩); obtain ⟨_, _, _, _⟩ := bc2 B104.out) | (go_at_call 73; (with_reducible refine (spec_l11Abs.calls a3_0 t111 _ A10.out).mono ?_); rintro e w' ⟨rfl, ⟨nd, rfl⟩⟩; (try first | exact ⟨rfl, _, World.drewN_drewN _ _ _⟩ | exact ⟨rfl, _, Eq.trans (World.drewN_drewN _ _ _) (congrArg (World.drewN _) (Nat.add_assoc _ _ _))⟩)) | (go_at_call 73; (with_reducible refine (spec_l11Abs.calls a3_1 t112 _ A11.out).mono ?_); rintro e w' ⟨rfl, ⟨nd, rfl⟩⟩; (try first | exact ⟨rfl, _, World.drewN_drewN _ _ _⟩ | exact ⟨rfl, _, Eq.trans (World.drewN_drewN _ _ _) (congrArg (World.drewN _) (Nat.add_assoc _ _ _))⟩))); try go_wp2_with (first | (go_at_call 73; (with_reducible refine (spec_l11Abs.calls a2_0 t109 _ A8.out).mono ?_); rintro e w' ⟨rfl, ⟨nd, rfl⟩⟩; (try first | exact ⟨rfl, _, World.drewN_drewN _ _ _⟩ | exact ⟨rfl, _, Eq.trans (World.drewN_drewN _ _ _) (congrArg (World.drewN _) (Nat.add_assoc _ _ _))⟩))))
  go_ret
  exact ⟨er, pT HB.out⟩
 rw [if_pos c12] at H
 have c12b0 : ((wrap64 (t109 + t110)) == (wrap64 (t111 + t112))) = true := beq_iff_eq.mpr c12
 have c12b1 : ((wrap64 (t109 + t110)) != (wrap64 (t111 + t112))) = false := bne_eq_false_iff_eq.mpr c12
 clear c12
 by_cases c13 : a2_1 < a3_1
 ·
  rw [if_pos c13] at H
  have c13b0 : decide (a2_1 < a3_1) = true := decide_eq_true c13
  clear c13
  obtain rfl := Option.some.inj H
  go_enter Try.func67, Try.ntmps67
  go_wp2_with (first | ((with_reducible refine ga 4 rfl ?_); refine bxa #[.int .i64 a0_0, .int .i64 a0_1, .slice A0_2 l0_2.length c0_2] 26 ?_; intro g101 hg w14 B101 hb; have GW101 := gA hg HB; replace HB := bS HB hb; clear hb hg) | ((with_reducible refine ga 5 rfl ?_); refine bxa #[.int .i64 a1_0, .int .i64 a1_1, .slice A1_2 l1_2.length c1_2] 26 ?_; intro g102 hg w15 B102 hb; have GW102 := gA hg HB; obtain ⟨N101_102, N102_101⟩ := na hg B101; replace B101 := bB B101 hb; replace HB := bS HB hb; clear hb hg) | ((with_reducible refine ga 6 rfl ?_); refine bxa #[.int .i64 a2_0, .int .i64 a2_1] 28 ?_; intro g103 hg w16 B103 hb; have GW103 := gA hg HB; obtain ⟨N101_103, N103_101⟩ := na hg B101; obtain ⟨N102_103, N103_102⟩ := na hg B102; replace B101 := bB B101 hb; replace B102 := bB B102 hb; replace HB := bS HB hb; clear hb hg) | ((with_reducible refine ga 7 rfl ?_); refine bxa #[.int .i64 a3_0, .int .i64 a3_1] 28 ?_; intro g104 hg w17 B104 hb; have GW104 := gA hg HB; obtain ⟨N101_104, N104_101⟩ := na hg B101; obtain ⟨N102_104, N104_102⟩ := na hg B102; obtain ⟨N103_104, N104_103⟩ := na hg B103; replace B101 := bB B101 hb; replace B102 := bB B102 hb; replace B103 := bB B103 hb; replace HB := bS HB hb; clear hb hg; obtain ⟨_, _⟩ := nB N101_102; obtain ⟨_, _⟩ := nB N101_103; obtain ⟨_, _⟩ := nB N101_104; obtain ⟨_, _, _, _, _, _⟩ := bc3 B101.out; obtain ⟨_, _⟩ := nB N102_103; obtain ⟨_, _⟩ := nB N102_104; obtain ⟨_, _, _, _, _, _⟩ := bc3 B102.out; obtain ⟨_, _⟩ := nB N103_104; obtain ⟨_, _, _, _⟩ := bc2 B103.out) | (go_at_call 72; (with_reducible refine (spec_l11Match.calls k a0_0 a0_1 _ _ l0_2 a1_0 a1_1 _ _ l1_2 a2_0 a2_1 t105 t106 _ ?side1 ?side2 ?side3 ?side4 A5.out).mono ?_); (case side1 => exact cB HR0_2 HB); (case side2 => exact HC0_2.out); (case side3 => exact cB HR1_2 HB); (case side4 => exact HC1_2.out); rintro e w27 ⟨rfl, hb⟩; replace B101 := bB B101 hb; replace B102 := bB B102 hb; replace B103 := bB B103 hb; replace B104 := bB B104 hb; replace HB := bS HB hb; (try clear hb); obtain ⟨_, _, _, _, _, _⟩ := bc3 B101.out; obtain ⟨_, _, _, _, _, _⟩ := bc3 B102.out; obtain ⟨_, _, _, _⟩ := bc2 B104.out) | (go_at_call 72; (with_reducible refine (spec_l11Match.calls k a0_0 a0_1 _ _ l0_2 a1_0 a1_1 _ _ l1_2 a3_0 a3_1 t107 t108 _ ?side1 ?side2 ?side3 ?side4 A6.out).mono ?_); (case side1 => exact cB HR0_2 HB); (case side2 => exact HC0_2.out); (case side3 => exact cB HR1_2 HB); (case side4 => exact HC1_2.out); rintro e w31 ⟨rfl, hb⟩; replace B101 := bB B101 hb; replace B102 := bB B102 hb; replace B103 := bB B103 hb; replace B104 := bB B104 hb; replace HB := bS HB hb; (try clear hb); obtain ⟨_, _, _, _⟩ := bc2 B103.out))
  repeat (go_quiet (first | (go_at_call 73; (with_reducible refine (spec_l11Abs.calls a2_0 t109 _ A8.out).mono ?_); rintro e w' ⟨rfl, ⟨nd, rfl⟩⟩; (try first | exact ⟨rfl, _, World.drewN_drewN _ _ _⟩ | exact ⟨rfl, _, Eq.trans (World.drewN_drewN _ _ _) (congrArg (World.drewN _) (Nat.add_assoc _ _ _))⟩)) | (go_at_call 73; (with_reducible refine (spec_l11Abs.calls a2_1 t110 _ A9.out).mono ?_); rintro e w' ⟨rfl, ⟨nd, rfl⟩⟩; (try first | exact ⟨rfl, _, World.drewN_drewN _ _ _⟩ | exact ⟨rfl, _, Eq.trans (World.drewN_drewN _ _ _) (congrArg (World.drewN _) (Nat.add_assoc _ _ _))⟩); obtain ⟨_, _, _, _⟩ := bc2 B104.out) | (go_at_call 73; (with_reducible refine (spec_l11Abs.calls a3_0 t111 _ A10.out).mono ?_); rintro e w' ⟨rfl, ⟨nd, rfl⟩⟩; (try first | exact ⟨rfl, _, World.drewN_drewN _ _ _⟩ | exact ⟨rfl, _, Eq.trans (World.drewN_drewN _ _ _) (congrArg (World.drewN _) (Nat.add_assoc _ _ _))⟩)) | (go_at_call 73; (with_reducible refine (spec_l11Abs.calls a3_1 t112 _ A11.out).mono ?_); rintro e w' ⟨rfl, ⟨nd, rfl⟩⟩; (try first | exact ⟨rfl, _, World.drewN_drewN _ _ _⟩ | exact ⟨rfl, _, Eq.trans (World.drewN_drewN _ _ _) (congrArg (World.drewN _) (Nat.add_assoc _ _ _))⟩))); try go_wp2_with (first | (go_at_call 73; (with_reducible refine (spec_l11Abs.calls a2_0 t109 _ A8.out).mono ?_); rintro e w' ⟨rfl, ⟨nd, rfl⟩⟩; (try first | exact ⟨rfl, _, World.drewN_drewN _ _ _⟩ | exact ⟨rfl, _, Eq.trans (World.drewN_drewN _ _ _) (congrArg (World.drewN _) (Nat.add_assoc _ _ _))⟩))))
  go_ret
  exact ⟨er, pT HB.out⟩
 rw [if_neg c13] at H
 have c13b0 : decide (a2_1 < a3_1) = false := decide_eq_false c13
 clear c13
 by_cases c34 : a2_1 = a3_1
 ·
  rw [if_pos c34] at H
  have c34b0 : (a2_1 == a3_1) = true := beq_iff_eq.mpr c34
  have c34b1 : (a2_1 != a3_1) = false := bne_eq_false_iff_eq.mpr c34
  clear c34
  obtain rfl := Option.some.inj H
  go_enter Try.func67, Try.ntmps67
  go_wp2_with (first | ((with_reducible refine ga 4 rfl ?_); refine bxa #[.int .i64 a0_0, .int .i64 a0_1, .slice A0_2 l0_2.length c0_2] 26 ?_; intro g101 hg w35 B101 hb; have GW101 := gA hg HB; replace HB := bS HB hb; clear hb hg) | ((with_reducible refine ga 5 rfl ?_); refine bxa #[.int .i64 a1_0, .int .i64 a1_1, .slice A1_2 l1_2.length c1_2] 26 ?_; intro g102 hg w36 B102 hb; have GW102 := gA hg HB; obtain ⟨N101_102, N102_101⟩ := na hg B101; replace B101 := bB B101 hb; replace HB := bS HB hb; clear hb hg) | ((with_reducible refine ga 6 rfl ?_); refine bxa #[.int .i64 a2_0, .int .i64 a2_1] 28 ?_; intro g103 hg w37 B103 hb; have GW103 := gA hg HB; obtain ⟨N101_103, N103_101⟩ := na hg B101; obtain ⟨N102_103, N103_102⟩ := na hg B102; replace B101 := bB B101 hb; replace B102 := bB B102 hb; replace HB := bS HB hb; clear hb hg) | ((with_reducible refine ga 7 rfl ?_); refine bxa #[.int .i64 a3_0, .int .i64 a3_1] 28 ?_; intro g104 hg w38 B104 hb; have GW104 := gA hg HB; obtain ⟨N101_104, N104_101⟩ := na hg B101; obtain ⟨N102_104, N104_102⟩ := na hg B102; obtain ⟨N103_104, N104_103⟩ := na hg B103; replace B101 := bB B101 hb; replace B102 := bB B102 hb; replace B103 := bB B103 hb; replace HB := bS HB hb; clear hb hg; obtain ⟨_, _⟩ := nB N101_102; obtain ⟨_, _⟩ := nB N101_103; obtain ⟨_, _⟩ := nB N101_104; obtain ⟨_, _, _, _, _, _⟩ := bc3 B101.out; obtain ⟨_, _⟩ := nB N102_103; obtain ⟨_, _⟩ := nB N102_104; obtain ⟨_, _, _, _, _, _⟩ := bc3 B102.out; obtain ⟨_, _⟩ := nB N103_104; obtain ⟨_, _, _, _⟩ := bc2 B103.out) | (go_at_call 72; (with_reducible refine (spec_l11Match.calls k a0_0 a0_1 _ _ l0_2 a1_0 a1_1 _ _ l1_2 a2_0 a2_1 t105 t106 _ ?side1 ?side2 ?side3 ?side4 A5.out).mono ?_); (case side1 => exact cB HR0_2 HB); (case side2 => exact HC0_2.out); (case side3 => exact cB HR1_2 HB); (case side4 => exact HC1_2.out); rintro e w48 ⟨rfl, hb⟩; replace B101 := bB B101 hb; replace B102 := bB B102 hb; replace B103 := bB B103 hb; replace B104 := bB B104 hb; replace HB := bS HB hb; (try clear hb); obtain ⟨_, _, _, _, _, _⟩ := bc3 B101.out; obtain ⟨_, _, _, _, _, _⟩ := bc3 B102.out; obtain ⟨_, _, _, _⟩ := bc2 B104.out) | (go_at_call 72; (with_reducible refine (spec_l11Match.calls k a0_0 a0_1 _ _ l0_2 a1_0 a1_1 _ _ l1_2 a3_0 a3_1 t107 t108 _ ?side1 ?side2 ?side3 ?side4 A6.out).mono ?_); (case side1 => exact cB HR0_2 HB); (case side2 => exact HC0_2.out); (case side3 => exact cB HR1_2 HB); (case side4 => exact HC1_2.out); rintro e w52 ⟨rfl, hb⟩; replace B101 := bB B101 hb; replace B102 := bB B102 hb; replace B103 := bB B103 hb; replace B104 := bB B104 hb; replace HB := bS HB hb; (try clear hb); obtain ⟨_, _, _, _⟩ := bc2 B103.out))
  repeat (go_quiet (first | (go_at_call 73; (with_reducible refine (spec_l11Abs.calls a2_0 t109 _ A8.out).mono ?_); rintro e w' ⟨rfl, ⟨nd, rfl⟩⟩; (try first | exact ⟨rfl, _, World.drewN_drewN _ _ _⟩ | exact ⟨rfl, _, Eq.trans (World.drewN_drewN _ _ _) (congrArg (World.drewN _) (Nat.add_assoc _ _ _))⟩)) | (go_at_call 73; (with_reducible refine (spec_l11Abs.calls a2_1 t110 _ A9.out).mono ?_); rintro e w' ⟨rfl, ⟨nd, rfl⟩⟩; (try first | exact ⟨rfl, _, World.drewN_drewN _ _ _⟩ | exact ⟨rfl, _, Eq.trans (World.drewN_drewN _ _ _) (congrArg (World.drewN _) (Nat.add_assoc _ _ _))⟩); obtain ⟨_, _, _, _⟩ := bc2 B104.out) | (go_at_call 73; (with_reducible refine (spec_l11Abs.calls a3_0 t111 _ A10.out).mono ?_); rintro e w' ⟨rfl, ⟨nd, rfl⟩⟩; (try first | exact ⟨rfl, _, World.drewN_drewN _ _ _⟩ | exact ⟨rfl, _, Eq.trans (World.drewN_drewN _ _ _) (congrArg (World.drewN _) (Nat.add_assoc _ _ _))⟩)) | (go_at_call 73; (with_reducible refine (spec_l11Abs.calls a3_1 t112 _ A11.out).mono ?_); rintro e w' ⟨rfl, ⟨nd, rfl⟩⟩; (try first | exact ⟨rfl, _, World.drewN_drewN _ _ _⟩ | exact ⟨rfl, _, Eq.trans (World.drewN_drewN _ _ _) (congrArg (World.drewN _) (Nat.add_assoc _ _ _))⟩))); try go_wp2_with (first | (go_at_call 73; (with_reducible refine (spec_l11Abs.calls a2_0 t109 _ A8.out).mono ?_); rintro e w' ⟨rfl, ⟨nd, rfl⟩⟩; (try first | exact ⟨rfl, _, World.drewN_drewN _ _ _⟩ | exact ⟨rfl, _, Eq.trans (World.drewN_drewN _ _ _) (congrArg (World.drewN _) (Nat.add_assoc _ _ _))⟩))))
  go_ret
  exact ⟨er, pT HB.out⟩
 rw [if_neg c34] at H
 have c34b0 : (a2_1 == a3_1) = false := beq_eq_false_iff_ne.mpr c34
 have c34b1 : (a2_1 != a3_1) = true := bne_iff_ne.mpr c34
 obtain rfl := Option.some.inj H
 go_enter Try.func67, Try.ntmps67
 go_wp2_with (first | ((with_reducible refine ga 4 rfl ?_); refine bxa #[.int .i64 a0_0, .int .i64 a0_1, .slice A0_2 l0_2.length c0_2] 26 ?_; intro g101 hg w55 B101 hb; have GW101 := gA hg HB; replace HB := bS HB hb; clear hb hg) | ((with_reducible refine ga 5 rfl ?_); refine bxa #[.int .i64 a1_0, .int .i64 a1_1, .slice A1_2 l1_2.length c1_2] 26 ?_; intro g102 hg w56 B102 hb; have GW102 := gA hg HB; obtain ⟨N101_102, N102_101⟩ := na hg B101; replace B101 := bB B101 hb; replace HB := bS HB hb; clear hb hg) | ((with_reducible refine ga 6 rfl ?_); refine bxa #[.int .i64 a2_0, .int .i64 a2_1] 28 ?_; intro g103 hg w57 B103 hb; have GW103 := gA hg HB; obtain ⟨N101_103, N103_101⟩ := na hg B101; obtain ⟨N102_103, N103_102⟩ := na hg B102; replace B101 := bB B101 hb; replace B102 := bB B102 hb; replace HB := bS HB hb; clear hb hg) | ((with_reducible refine ga 7 rfl ?_); refine bxa #[.int .i64 a3_0, .int .i64 a3_1] 28 ?_; intro g104 hg w58 B104 hb; have GW104 := gA hg HB; obtain ⟨N101_104, N104_101⟩ := na hg B101; obtain ⟨N102_104, N104_102⟩ := na hg B102; obtain ⟨N103_104, N104_103⟩ := na hg B103; replace B101 := bB B101 hb; replace B102 := bB B102 hb; replace B103 := bB B103 hb; replace HB := bS HB hb; clear hb hg; obtain ⟨_, _⟩ := nB N101_102; obtain ⟨_, _⟩ := nB N101_103; obtain ⟨_, _⟩ := nB N101_104; obtain ⟨_, _, _, _, _, _⟩ := bc3 B101.out; obtain ⟨_, _⟩ := nB N102_103; obtain ⟨_, _⟩ := nB N102_104; obtain ⟨_, _, _, _, _, _⟩ := bc3 B102.out; obtain ⟨_, _⟩ := nB N103_104; obtain ⟨_, _, _, _⟩ := bc2 B103.out) | (go_at_call 72; (with_reducible refine (spec_l11Match.calls k a0_0 a0_1 _ _ l0_2 a1_0 a1_1 _ _ l1_2 a2_0 a2_1 t105 t106 _ ?side1 ?side2 ?side3 ?side4 A5.out).mono ?_); (case side1 => exact cB HR0_2 HB); (case side2 => exact HC0_2.out); (case side3 => exact cB HR1_2 HB); (case side4 => exact HC1_2.out); rintro e w68 ⟨rfl, hb⟩; replace B101 := bB B101 hb; replace B102 := bB B102 hb; replace B103 := bB B103 hb; replace B104 := bB B104 hb; replace HB := bS HB hb; (try clear hb); obtain ⟨_, _, _, _, _, _⟩ := bc3 B101.out; obtain ⟨_, _, _, _, _, _⟩ := bc3 B102.out; obtain ⟨_, _, _, _⟩ := bc2 B104.out) | (go_at_call 72; (with_reducible refine (spec_l11Match.calls k a0_0 a0_1 _ _ l0_2 a1_0 a1_1 _ _ l1_2 a3_0 a3_1 t107 t108 _ ?side1 ?side2 ?side3 ?side4 A6.out).mono ?_); (case side1 => exact cB HR0_2 HB); (case side2 => exact HC0_2.out); (case side3 => exact cB HR1_2 HB); (case side4 => exact HC1_2.out); rintro e w72 ⟨rfl, hb⟩; replace B101 := bB B101 hb; replace B102 := bB B102 hb; replace B103 := bB B103 hb; replace B104 := bB B104 hb; replace HB := bS HB hb; (try clear hb); obtain ⟨_, _, _, _⟩ := bc2 B103.out))
 repeat (go_quiet (first | (go_at_call 73; (with_reducible refine (spec_l11Abs.calls a2_0 t109 _ A8.out).mono ?_); rintro e w' ⟨rfl, ⟨nd, rfl⟩⟩; (try first | exact ⟨rfl, _, World.drewN_drewN _ _ _⟩ | exact ⟨rfl, _, Eq.trans (World.drewN_drewN _ _ _) (congrArg (World.drewN _) (Nat.add_assoc _ _ _))⟩)) | (go_at_call 73; (with_reducible refine (spec_l11Abs.calls a2_1 t110 _ A9.out).mono ?_); rintro e w' ⟨rfl, ⟨nd, rfl⟩⟩; (try first | exact ⟨rfl, _, World.drewN_drewN _ _ _⟩ | exact ⟨rfl, _, Eq.trans (World.drewN_drewN _ _ _) (congrArg (World.drewN _) (Nat.add_assoc _ _ _))⟩); obtain ⟨_, _, _, _⟩ := bc2 B104.out) | (go_at_call 73; (with_reducible refine (spec_l11Abs.calls a3_0 t111 _ A10.out).mono ?_); rintro e w' ⟨rfl, ⟨nd, rfl⟩⟩; (try first | exact ⟨rfl, _, World.drewN_drewN _ _ _⟩ | exact ⟨rfl, _, Eq.trans (World.drewN_drewN _ _ _) (congrArg (World.drewN _) (Nat.add_assoc _ _ _))⟩)) | (go_at_call 73; (with_reducible refine (spec_l11Abs.calls a3_1 t112 _ A11.out).mono ?_); rintro e w' ⟨rfl, ⟨nd, rfl⟩⟩; (try first | exact ⟨rfl, _, World.drewN_drewN _ _ _⟩ | exact ⟨rfl, _, Eq.trans (World.drewN_drewN _ _ _) (congrArg (World.drewN _) (Nat.add_assoc _ _ _))⟩))); try go_wp2_with (first | (go_at_call 73; (with_reducible refine (spec_l11Abs.calls a2_0 t109 _ A8.out).mono ?_); rintro e w' ⟨rfl, ⟨nd, rfl⟩⟩; (try first | exact ⟨rfl, _, World.drewN_drewN _ _ _⟩ | exact ⟨rfl, _, Eq.trans (World.drewN_drewN _ _ _) (congrArg (World.drewN _) (Nat.add_assoc _ _ _))⟩))))
 go_ret
 exact ⟨er, pT HB.out⟩
end Go.Proofs.Ytmekfmhnpinjlaa.P
