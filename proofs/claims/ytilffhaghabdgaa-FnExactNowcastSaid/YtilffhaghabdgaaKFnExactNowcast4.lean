/- Texts of the claim FnExactNowcast, merged: part 4 of 11: the program's and the reference's functions as Lean functions, the walks that show it, and plain lemmas; no conditions. -/
import Derived.Test.YtilffhaghabdgaaKFnExactNowcast3
namespace Go.Proofs.Ytilffhaghabdgaa.P
open Go.RowKit Go.Proofs.YtilffhaghabdgaaW.PrintWords Go.Proofs.YtilffhaghabdgaaW.PrintLast Go.Proofs.YtilffhaghabdgaaW.PrintMore
attribute [local go_sem] max2_int min2_int max_two min_two max_three min_three max_four min_four
set_option linter.unusedVariables false
set_option linter.unusedSimpArgs false
set_option maxHeartbeats 8000000
set_option maxRecDepth 100000
def spec_l2Same.f (k : Nat) (a0_0 : Int) (a0_1 : Int) (l0_2 : List Int) (a1_0 : Int) (a1_1 : Int) (l1_2 : List Int) : Option (Bool) := (spec_l2Good.f k a0_0 a0_1 l0_2).bind fun t103 => (if t103 = true then ((spec_l2Good.f k a1_0 a1_1 l1_2).bind fun t104 => (if t104 = true then (if a0_0 = a1_0 then (some (a0_1 == a1_1)) else (some false)) else (some false))) else (some false))
theorem spec_l2Same.calls (k : Nat) (a0_0 : Int) (a0_1 : Int) (A0_2 : Option Addr) (c0_2 : Nat) (l0_2 : List Int) (a1_0 : Int) (a1_1 : Int) (A1_2 : Option Addr) (c1_2 : Nat) (l1_2 : List Int) (r : Bool) (w : World) (hr0_2 : Kd.C (Kd.int .i64) w A0_2 l0_2.length l0_2) (hc0_2 : l0_2.length ≤ c0_2) (hr1_2 : Kd.C (Kd.int .i64) w A1_2 l1_2.length l1_2) (hc1_2 : l1_2.length ≤ c1_2) (h : spec_l2Same.f k a0_0 a0_1 l0_2 a1_0 a1_1 l1_2 = some r) :
  Calls Try.prog 88 #[.agg #[.int .i64 a0_0, .int .i64 a0_1, .slice A0_2 l0_2.length c0_2], .agg #[.int .i64 a1_0, .int .i64 a1_1, .slice A1_2 l1_2.length c1_2]] w fun e w' => e = .returned (.bool r) ∧ Below w.heap.size w w' := by
 have hu29 := Try.underlying29
 have HR0_2 := Aside0.mk hr0_2
 have HC0_2 := Aside0.mk hc0_2
 clear hr0_2 hc0_2
 have HR1_2 := Aside0.mk hr1_2
 have HC1_2 := Aside0.mk hc1_2
 clear hr1_2 hc1_2
 have HB := aK (Below.refl w.heap.size w)
 have H : ((spec_l2Good.f k a0_0 a0_1 l0_2).bind fun t103 => (if t103 = true then ((spec_l2Good.f k a1_0 a1_1 l1_2).bind fun t104 => (if t104 = true then (if a0_0 = a1_0 then (some (a0_1 == a1_1)) else (some false)) else (some false))) else (some false))) = some r := h
 clear h
 replace H := Option.bind_eq_some_iff.mp H
 obtain ⟨t103, A30, H⟩ := H
 replace H : (if t103 = true then ((spec_l2Good.f k a1_0 a1_1 l1_2).bind fun t104 => (if t104 = true then (if a0_0 = a1_0 then (some (a0_1 == a1_1)) else (some false)) else (some false))) else (some false)) = some r := H
 have A3 := Aside0.mk A30
 clear A30
 by_cases c4 : t103 = true
 ·
  subst c4
  have H1 : ((spec_l2Good.f k a1_0 a1_1 l1_2).bind fun t104 => (if t104 = true then (if a0_0 = a1_0 then (some (a0_1 == a1_1)) else (some false)) else (some false))) = some r := by rw [if_pos rfl] at H; exact H
  clear H
  have H := H1
  clear H1
  replace H := Option.bind_eq_some_iff.mp H
  obtain ⟨t104, A50, H⟩ := H
  replace H : (if t104 = true then (if a0_0 = a1_0 then (some (a0_1 == a1_1)) else (some false)) else (some false)) = some r := H
  have A5 := Aside0.mk A50
  clear A50
  by_cases c6 : t104 = true
  ·
   subst c6
   have H1 : (if a0_0 = a1_0 then (some (a0_1 == a1_1)) else (some false)) = some r := by rw [if_pos rfl] at H; exact H
   clear H
   have H := H1
   clear H1
   by_cases c7 : a0_0 = a1_0
   ·
    rw [if_pos c7] at H
    have c7b0 : (a0_0 == a1_0) = true := beq_iff_eq.mpr c7
    have c7b1 : (a0_0 != a1_0) = false := bne_eq_false_iff_eq.mpr c7
    clear c7
    obtain rfl := Option.some.inj H
    go_enter Try.func88, Try.ntmps88
    go_wp2_with (first | ((with_reducible refine gate_dst (N := 2) rfl ?_); refine bxe (cs := #[.int .i64 a0_0, .int .i64 a0_1, .slice A0_2 l0_2.length c0_2]) (t := 29) ?_; intro gb101 hg w8 hbox hb; have BK101 := aK (hbox); have GW101 := aK (gE hg (pS HB.out)); have GE101 := GW101; replace HB := bS HB hb; clear hb hbox hg) | ((with_reducible refine gate_dst (N := 3) rfl ?_); refine bxe (cs := #[.int .i64 a1_0, .int .i64 a1_1, .slice A1_2 l1_2.length c1_2]) (t := 29) ?_; intro gb102 hg w9 hbox hb; have BK102 := aK (hbox); have GW102 := aK (gE hg (pS HB.out)); have GE102 := GW102; obtain ⟨NB101_102, NB102_101⟩ := nb hg (pB BK101.out); replace BK101 := bB BK101 hb; replace HB := bS HB hb; clear hb hbox hg; have hnb10 := NB101_102.out; have hnc10 := NB102_101.out; obtain ⟨hcz11_0, hcz11_1, hcz11_2, hfz11_0, hfz11_1, hfz11_2⟩ := bc3 BK101.out) | ((with_reducible refine gate_callee (f := 110) rfl ?_); refine gl (some 6) Try.func110 #[.agg #[.int .i64 a0_0, .int .i64 a0_1, .slice A0_2 l0_2.length c0_2]] ?_; (with_reducible refine (spec_l2Good.calls k a0_0 a0_1 _ _ l0_2 true _ ?side1 ?side2 A3.out).mono ?_); (case side1 => exact pC (Kd.C_below HR0_2.out HB.out)); (case side2 => exact HC0_2.out); rintro e w12 ⟨rfl, hb⟩; refine ⟨_, rfl, ?_⟩; replace BK101 := bB BK101 hb; replace BK102 := bB BK102 hb; replace HB := bS HB hb; (try clear hb); (try clear hb2); (try clear hk); (try clear hi); obtain ⟨hcz13_0, hcz13_1, hcz13_2, hfz13_0, hfz13_1, hfz13_2⟩ := bc3 BK102.out) | (go_at_call 110; (with_reducible refine (spec_l2Good.calls k a1_0 a1_1 _ _ l1_2 true _ ?side1 ?side2 A5.out).mono ?_); (case side1 => exact pC (Kd.C_below HR1_2.out HB.out)); (case side2 => exact HC1_2.out); rintro e w14 ⟨rfl, hb⟩; replace BK101 := bB BK101 hb; replace BK102 := bB BK102 hb; replace HB := bS HB hb; (try clear hb); (try clear hb2); (try clear hk); (try clear hi); obtain ⟨hcz15_0, hcz15_1, hcz15_2, hfz15_0, hfz15_1, hfz15_2⟩ := bc3 BK101.out; obtain ⟨hcz16_0, hcz16_1, hcz16_2, hfz16_0, hfz16_1, hfz16_2⟩ := bc3 BK102.out))
    go_ret
    exact ⟨er, pT HB.out⟩
   rw [if_neg c7] at H
   have c7b0 : (a0_0 == a1_0) = false := beq_eq_false_iff_ne.mpr c7
   have c7b1 : (a0_0 != a1_0) = true := bne_iff_ne.mpr c7
   obtain rfl := Option.some.inj H
   go_enter Try.func88, Try.ntmps88
   go_wp2_with (first | ((with_reducible refine gate_dst (N := 2) rfl ?_); refine bxe (cs := #[.int .i64 a0_0, .int .i64 a0_1, .slice A0_2 l0_2.length c0_2]) (t := 29) ?_; intro gb101 hg w17 hbox hb; have BK101 := aK (hbox); have GW101 := aK (gE hg (pS HB.out)); have GE101 := GW101; replace HB := bS HB hb; clear hb hbox hg) | ((with_reducible refine gate_dst (N := 3) rfl ?_); refine bxe (cs := #[.int .i64 a1_0, .int .i64 a1_1, .slice A1_2 l1_2.length c1_2]) (t := 29) ?_; intro gb102 hg w18 hbox hb; have BK102 := aK (hbox); have GW102 := aK (gE hg (pS HB.out)); have GE102 := GW102; obtain ⟨NB101_102, NB102_101⟩ := nb hg (pB BK101.out); replace BK101 := bB BK101 hb; replace HB := bS HB hb; clear hb hbox hg; have hnb19 := NB101_102.out; have hnc19 := NB102_101.out; obtain ⟨hcz20_0, hcz20_1, hcz20_2, hfz20_0, hfz20_1, hfz20_2⟩ := bc3 BK101.out) | ((with_reducible refine gate_callee (f := 110) rfl ?_); refine gl (some 6) Try.func110 #[.agg #[.int .i64 a0_0, .int .i64 a0_1, .slice A0_2 l0_2.length c0_2]] ?_; (with_reducible refine (spec_l2Good.calls k a0_0 a0_1 _ _ l0_2 true _ ?side1 ?side2 A3.out).mono ?_); (case side1 => exact pC (Kd.C_below HR0_2.out HB.out)); (case side2 => exact HC0_2.out); rintro e w21 ⟨rfl, hb⟩; refine ⟨_, rfl, ?_⟩; replace BK101 := bB BK101 hb; replace BK102 := bB BK102 hb; replace HB := bS HB hb; (try clear hb); (try clear hb2); (try clear hk); (try clear hi); obtain ⟨hcz22_0, hcz22_1, hcz22_2, hfz22_0, hfz22_1, hfz22_2⟩ := bc3 BK102.out) | (go_at_call 110; (with_reducible refine (spec_l2Good.calls k a1_0 a1_1 _ _ l1_2 true _ ?side1 ?side2 A5.out).mono ?_); (case side1 => exact pC (Kd.C_below HR1_2.out HB.out)); (case side2 => exact HC1_2.out); rintro e w23 ⟨rfl, hb⟩; replace BK101 := bB BK101 hb; replace BK102 := bB BK102 hb; replace HB := bS HB hb; (try clear hb); (try clear hb2); (try clear hk); (try clear hi); obtain ⟨hcz24_0, hcz24_1, hcz24_2, hfz24_0, hfz24_1, hfz24_2⟩ := bc3 BK101.out; obtain ⟨hcz25_0, hcz25_1, hcz25_2, hfz25_0, hfz25_1, hfz25_2⟩ := bc3 BK102.out))
   go_ret
   exact ⟨er, pT HB.out⟩
  replace c6 := Bool.eq_false_iff.mpr c6
  subst c6
  have H1 : (some false) = some r := by rw [if_neg (show ¬ (false = true) by decide)] at H; exact H
  clear H
  have H := H1
  clear H1
  obtain rfl := Option.some.inj H
  go_enter Try.func88, Try.ntmps88
  go_wp2_with (first | ((with_reducible refine gate_dst (N := 2) rfl ?_); refine bxe (cs := #[.int .i64 a0_0, .int .i64 a0_1, .slice A0_2 l0_2.length c0_2]) (t := 29) ?_; intro gb101 hg w26 hbox hb; have BK101 := aK (hbox); have GW101 := aK (gE hg (pS HB.out)); have GE101 := GW101; replace HB := bS HB hb; clear hb hbox hg) | ((with_reducible refine gate_dst (N := 3) rfl ?_); refine bxe (cs := #[.int .i64 a1_0, .int .i64 a1_1, .slice A1_2 l1_2.length c1_2]) (t := 29) ?_; intro gb102 hg w27 hbox hb; have BK102 := aK (hbox); have GW102 := aK (gE hg (pS HB.out)); have GE102 := GW102; obtain ⟨NB101_102, NB102_101⟩ := nb hg (pB BK101.out); replace BK101 := bB BK101 hb; replace HB := bS HB hb; clear hb hbox hg; have hnb28 := NB101_102.out; have hnc28 := NB102_101.out; obtain ⟨hcz29_0, hcz29_1, hcz29_2, hfz29_0, hfz29_1, hfz29_2⟩ := bc3 BK101.out) | ((with_reducible refine gate_callee (f := 110) rfl ?_); refine gl (some 6) Try.func110 #[.agg #[.int .i64 a0_0, .int .i64 a0_1, .slice A0_2 l0_2.length c0_2]] ?_; (with_reducible refine (spec_l2Good.calls k a0_0 a0_1 _ _ l0_2 true _ ?side1 ?side2 A3.out).mono ?_); (case side1 => exact pC (Kd.C_below HR0_2.out HB.out)); (case side2 => exact HC0_2.out); rintro e w30 ⟨rfl, hb⟩; refine ⟨_, rfl, ?_⟩; replace BK101 := bB BK101 hb; replace BK102 := bB BK102 hb; replace HB := bS HB hb; (try clear hb); (try clear hb2); (try clear hk); (try clear hi); obtain ⟨hcz31_0, hcz31_1, hcz31_2, hfz31_0, hfz31_1, hfz31_2⟩ := bc3 BK102.out) | (go_at_call 110; (with_reducible refine (spec_l2Good.calls k a1_0 a1_1 _ _ l1_2 false _ ?side1 ?side2 A5.out).mono ?_); (case side1 => exact pC (Kd.C_below HR1_2.out HB.out)); (case side2 => exact HC1_2.out); rintro e w32 ⟨rfl, hb⟩; replace BK101 := bB BK101 hb; replace BK102 := bB BK102 hb; replace HB := bS HB hb; (try clear hb); (try clear hb2); (try clear hk); (try clear hi)))
  go_ret
  exact ⟨er, pT HB.out⟩
 replace c4 := Bool.eq_false_iff.mpr c4
 subst c4
 have H1 : (some false) = some r := by rw [if_neg (show ¬ (false = true) by decide)] at H; exact H
 clear H
 have H := H1
 clear H1
 obtain rfl := Option.some.inj H
 go_enter Try.func88, Try.ntmps88
 go_wp2_with (first | ((with_reducible refine gate_dst (N := 2) rfl ?_); refine bxe (cs := #[.int .i64 a0_0, .int .i64 a0_1, .slice A0_2 l0_2.length c0_2]) (t := 29) ?_; intro gb101 hg w33 hbox hb; have BK101 := aK (hbox); have GW101 := aK (gE hg (pS HB.out)); have GE101 := GW101; replace HB := bS HB hb; clear hb hbox hg) | ((with_reducible refine gate_dst (N := 3) rfl ?_); refine bxe (cs := #[.int .i64 a1_0, .int .i64 a1_1, .slice A1_2 l1_2.length c1_2]) (t := 29) ?_; intro gb102 hg w34 hbox hb; have BK102 := aK (hbox); have GW102 := aK (gE hg (pS HB.out)); have GE102 := GW102; obtain ⟨NB101_102, NB102_101⟩ := nb hg (pB BK101.out); replace BK101 := bB BK101 hb; replace HB := bS HB hb; clear hb hbox hg; have hnb35 := NB101_102.out; have hnc35 := NB102_101.out; obtain ⟨hcz36_0, hcz36_1, hcz36_2, hfz36_0, hfz36_1, hfz36_2⟩ := bc3 BK101.out) | ((with_reducible refine gate_callee (f := 110) rfl ?_); refine gl (some 6) Try.func110 #[.agg #[.int .i64 a0_0, .int .i64 a0_1, .slice A0_2 l0_2.length c0_2]] ?_; (with_reducible refine (spec_l2Good.calls k a0_0 a0_1 _ _ l0_2 false _ ?side1 ?side2 A3.out).mono ?_); (case side1 => exact pC (Kd.C_below HR0_2.out HB.out)); (case side2 => exact HC0_2.out); rintro e w37 ⟨rfl, hb⟩; refine ⟨_, rfl, ?_⟩; replace BK101 := bB BK101 hb; replace BK102 := bB BK102 hb; replace HB := bS HB hb; (try clear hb); (try clear hb2); (try clear hk); (try clear hi)))
 go_ret
 exact ⟨er, pT HB.out⟩
def spec_l1Most.f (a0 : Int) (a1 : Int) : Option (Int) := if a0 > a1 then (some a0) else (some a1)
theorem spec_l1Most.calls (a0 : Int) (a1 : Int) (r : Int) (w : World) (h : spec_l1Most.f a0 a1 = some r) :
  Calls Try.prog 119 #[.int .i64 a0, .int .i64 a1] w fun e w' => e = .returned (.int .i64 r) ∧ Drawn0 w w' := by
 have H : (if a0 > a1 then (some a0) else (some a1)) = some r := h
 clear h
 by_cases c3 : a0 > a1
 ·
  rw [if_pos c3] at H
  have c3b0 : decide (a1 < a0) = true := decide_eq_true c3
  clear c3
  obtain rfl := Option.some.inj H
  go_enter Try.func119, Try.ntmps119
  go_wp2
  go_ret
  exact ⟨by first | rfl | (simp; done) | (simp [*]; done), by repeat (first | exact Drawn0.refl _ | apply Drawn0.step)⟩
 rw [if_neg c3] at H
 have c3b0 : decide (a1 < a0) = false := decide_eq_false c3
 clear c3
 obtain rfl := Option.some.inj H
 go_enter Try.func119, Try.ntmps119
 go_wp2
 go_ret
 exact ⟨by first | rfl | (simp; done) | (simp [*]; done), by repeat (first | exact Drawn0.refl _ | apply Drawn0.step)⟩
def spec_l11Abs.f (a0 : Int) : Option (Int) := (spec_l1Most.f a0 (wrap64 (-a0))).bind fun t101 => (some t101)
theorem spec_l11Abs.calls (a0 : Int) (r : Int) (w : World) (h : spec_l11Abs.f a0 = some r) :
  Calls Try.prog 167 #[.int .i64 a0] w fun e w' => e = .returned (.int .i64 r) ∧ Drawn0 w w' := by
 have H : ((spec_l1Most.f a0 (wrap64 (-a0))).bind fun t101 => (some t101)) = some r := h
 clear h
 replace H := Option.bind_eq_some_iff.mp H
 obtain ⟨t101, A20, H⟩ := H
 replace H : (some t101) = some r := H
 have A2 := Aside0.mk A20
 clear A20
 obtain rfl := Option.some.inj H
 go_enter Try.func167, Try.ntmps167
 go_wp2_with (first | ((with_reducible refine gate_callee (f := 119) rfl ?_); refine gl (some 6) Try.func119 #[.int .i64 a0, .int .i64 (wrap64 (-a0))] ?_; (with_reducible refine (spec_l1Most.calls a0 (wrap64 (-a0)) t101 _ A2.out).mono ?_); rintro e w' ⟨rfl, ⟨nd, rfl⟩⟩; refine ⟨_, rfl, ?_⟩))
 go_ret
 exact ⟨by first | rfl | (simp; done) | (simp [*]; done), by repeat (first | exact Drawn0.refl _ | apply Drawn0.step)⟩
mutual
def spec_l11Match.l0 : Nat → Int → Int → Int → Int → Int → List Int → Int → Int → List Int → Int → Int → Option (Int × Int)
 | 0, _, _, _, _, _, _, _, _, _, _, _ => none
 | k + 1, x8, x9, x10, x102000, x102001, x102002, x103000, x103001, x103002, x104000, x104001 => if x10 < x102001 then (spec_l11Match.l1 k x8 x9 x10 0 x102000 x102001 x102002 x103000 x103001 x103002 x104000 x104001) else (some (x8, x9))
def spec_l11Match.l1 : Nat → Int → Int → Int → Int → Int → Int → List Int → Int → Int → List Int → Int → Int → Option (Int × Int)
 | 0, _, _, _, _, _, _, _, _, _, _, _, _ => none
 | k + 1, x8, x9, x10, x11, x102000, x102001, x102002, x103000, x103001, x103002, x104000, x104001 => if x11 < x102000 then ((spec_l2Has.f x103000 x103001 x103002 (wrap64 (x11 + x104000)) (wrap64 (x10 + x104001))).bind fun t104 => (if t104 = true then ((spec_l2At.f x102000 x102001 x102002 x11 x10).bind fun t105 => ((spec_l2At.f x103000 x103001 x103002 (wrap64 (x11 + x104000)) (wrap64 (x10 + x104001))).bind fun t106 => (if t105 = (-9999) then (spec_l11Match.l1 k x8 x9 x10 (wrap64 (x11 + 1)) x102000 x102001 x102002 x103000 x103001 x103002 x104000 x104001) else (if t106 = (-9999) then (spec_l11Match.l1 k x8 x9 x10 (wrap64 (x11 + 1)) x102000 x102001 x102002 x103000 x103001 x103002 x104000 x104001) else ((spec_l11Abs.f (wrap64 (t105 - t106))).bind fun t107 => (spec_l11Match.l1 k (wrap64 (x8 + t107)) (wrap64 (x9 + 1)) x10 (wrap64 (x11 + 1)) x102000 x102001 x102002 x103000 x103001 x103002 x104000 x104001)))))) else (spec_l11Match.l1 k x8 x9 x10 (wrap64 (x11 + 1)) x102000 x102001 x102002 x103000 x103001 x103002 x104000 x104001))) else (spec_l11Match.l0 k x8 x9 (wrap64 (x10 + 1)) x102000 x102001 x102002 x103000 x103001 x103002 x104000 x104001)
end
def spec_l11Match.f (k : Nat) (a0_0 : Int) (a0_1 : Int) (l0_2 : List Int) (a1_0 : Int) (a1_1 : Int) (l1_2 : List Int) (a2_0 : Int) (a2_1 : Int) : Option (Int × Int) := spec_l11Match.l0 k 0 0 0 a0_0 a0_1 l0_2 a1_0 a1_1 l1_2 a2_0 a2_1
def spec_l11Match.T9 : Bool × List (List Nat × List Nat) := (true, [([], []), ([], []), ([], []), ([0, 1, 2], [0, 1, 2]), ([], []), ([], []), ([], []), ([6], [6]), ([5, 7], [5, 7]), ([], []), ([], []), ([10], [10]), ([9, 11], [9, 11]), ([4, 8, 12, 3], [4, 8, 12]), ([3, 13, 0, 1, 2, 3], [3]), ([13, 14, 0, 1, 2, 3, 4, 5, 6, 7, 8, 9, 10, 11, 12, 13, 14], [13])])
def spec_l11Match.B9 : List Nat := [0, 0, 0, 7, 0, 0, 0, 64, 224, 0, 0, 1024, 3584, 8191, 16383, 32767]
theorem spec_l11Match.tab9 : rtab .any (opsOf Try.f102 9) = spec_l11Match.T9 := by kernel_rfl
theorem spec_l11Match.bits9 : waitsOk spec_l11Match.T9.2 spec_l11Match.B9 = true := by kernel_rfl
theorem spec_l11Match.calls (k : Nat) (a0_0 : Int) (a0_1 : Int) (A0_2 : Option Addr) (c0_2 : Nat) (l0_2 : List Int) (a1_0 : Int) (a1_1 : Int) (A1_2 : Option Addr) (c1_2 : Nat) (l1_2 : List Int) (a2_0 : Int) (a2_1 : Int) (r1 : Int) (r2 : Int) (w : World) (hr0_2 : Kd.C (Kd.int .i64) w A0_2 l0_2.length l0_2) (hc0_2 : l0_2.length ≤ c0_2) (hr1_2 : Kd.C (Kd.int .i64) w A1_2 l1_2.length l1_2) (hc1_2 : l1_2.length ≤ c1_2) (h : spec_l11Match.f k a0_0 a0_1 l0_2 a1_0 a1_1 l1_2 a2_0 a2_1 = some (r1, r2)) :
  Calls Try.prog 102 #[.agg #[.int .i64 a0_0, .int .i64 a0_1, .slice A0_2 l0_2.length c0_2], .agg #[.int .i64 a1_0, .int .i64 a1_1, .slice A1_2 l1_2.length c1_2], .agg #[.int .i64 a2_0, .int .i64 a2_1]] w fun e w' => e = .returned (.tuple #[.int .i64 r1, .int .i64 r2]) ∧ Below w.heap.size w w' := by
 have hu29 := Try.underlying29
 have hu37 := Try.underlying37
 have HR0_2 := Aside0.mk hr0_2
 have HC0_2 := Aside0.mk hc0_2
 clear hr0_2 hc0_2
 have HR1_2 := Aside0.mk hr1_2
 have HC1_2 := Aside0.mk hc1_2
 clear hr1_2 hc1_2
 have HB := aK (Below.refl w.heap.size w)
 have H : (spec_l11Match.l0 k 0 0 0 a0_0 a0_1 l0_2 a1_0 a1_1 l1_2 a2_0 a2_1) = some (r1, r2) := h
 clear h
 have H' := Aside0.mk H
 clear H
 go_enter Try.func102, Try.ntmps102
 go_wp2_with (first | ((with_reducible refine gate_dst (N := 3) rfl ?_); refine bxe (cs := #[.int .i64 a0_0, .int .i64 a0_1, .slice A0_2 l0_2.length c0_2]) (t := 29) ?_; intro gb101 hg w4 hbox hb; have BK101 := aK (hbox); have GW101 := aK (gE hg (pS HB.out)); have GE101 := GW101; replace HB := bS HB hb; clear hb hbox hg) | ((with_reducible refine gate_dst (N := 4) rfl ?_); refine bxe (cs := #[.int .i64 a1_0, .int .i64 a1_1, .slice A1_2 l1_2.length c1_2]) (t := 29) ?_; intro gb102 hg w5 hbox hb; have BK102 := aK (hbox); have GW102 := aK (gE hg (pS HB.out)); have GE102 := GW102; obtain ⟨NB101_102, NB102_101⟩ := nb hg (pB BK101.out); replace BK101 := bB BK101 hb; replace HB := bS HB hb; clear hb hbox hg) | ((with_reducible refine gate_dst (N := 5) rfl ?_); refine bxe (cs := #[.int .i64 a2_0, .int .i64 a2_1]) (t := 37) ?_; intro gb103 hg w6 hbox hb; have BK103 := aK (hbox); have GW103 := aK (gE hg (pS HB.out)); have GE103 := GW103; obtain ⟨NB101_103, NB103_101⟩ := nb hg (pB BK101.out); obtain ⟨NB102_103, NB103_102⟩ := nb hg (pB BK102.out); replace BK101 := bB BK101 hb; replace BK102 := bB BK102 hb; replace HB := bS HB hb; clear hb hbox hg))
 go_loopg [8, 9, 10] k (fun kq v8 v9 v10 w' => ∃ (x8_1 : Int) (x9_1 : Int) (x10_1 : Int), v8 = .int .i64 x8_1 ∧ v9 = .int .i64 x9_1 ∧ v10 = .int .i64 x10_1 ∧ Aside0 (spec_l11Match.l0 kq x8_1 x9_1 x10_1 a0_0 a0_1 l0_2 a1_0 a1_1 l1_2 a2_0 a2_1 = some (r1, r2)) ∧ Aside0 (kq ≤ k) ∧ Aside0 (w'.heap[gb101]? = some (.cells #[.int .i64 a0_0, .int .i64 a0_1, (.slice A0_2 l0_2.length c0_2)] 29 (0, 0))) ∧ Aside0 (w'.heap[gb102]? = some (.cells #[.int .i64 a1_0, .int .i64 a1_1, (.slice A1_2 l1_2.length c1_2)] 29 (0, 0))) ∧ Aside0 (w'.heap[gb103]? = some (.cells #[.int .i64 a2_0, .int .i64 a2_1] 37 (0, 0))) ∧ Aside0 (Below w.heap.size w w'))
 case atStart => exact ⟨(0), (0), (0), (by first | rfl | (simp; done) | (simp [*]; done)), (by first | rfl | (simp; done) | (simp [*]; done)), (by first | rfl | (simp; done) | (simp [*]; done)), H', ⟨Nat.le_refl _⟩, ⟨by refine bk ?_; exact BK101.out⟩, ⟨by refine bk ?_; exact BK102.out⟩, ⟨by refine bk ?_; exact BK103.out⟩, ⟨pT HB.out⟩⟩
 case round =>
  clear H'
  try clear c1
  try clear p2
  obtain ⟨x8_1, x9_1, x10_1, rfl, rfl, rfl, HA, HK1, BK101, BK102, BK103, HB⟩ := hrel
  cases gk with
  | zero => exact absurd HA.out (by simp [spec_l11Match.l0])
  | succ k1 =>
   have H := HA.out
   clear HA
   simp only [spec_l11Match.l0] at H
   by_cases c7 : x10_1 < a0_1
   ·
    rw [if_pos c7] at H
    have c7b0 : decide (x10_1 < a0_1) = true := decide_eq_true c7
    clear c7
    have H' := Aside0.mk H
    clear H
    have hnb8 := NB101_102.out
    have hnc8 := NB102_101.out
    have hnb9 := NB101_103.out
    have hnc9 := NB103_101.out
    obtain ⟨hcz10_0, hcz10_1, hcz10_2, hfz10_0, hfz10_1, hfz10_2⟩ := bc3 BK101.out
    go_wp2
    go_loopg [8, 9, 11] k1 (fun kq v8 v9 v11 w' => ∃ (x8_2 : Int) (x9_2 : Int) (x11_2 : Int), v8 = .int .i64 x8_2 ∧ v9 = .int .i64 x9_2 ∧ v11 = .int .i64 x11_2 ∧ Aside0 (spec_l11Match.l1 kq x8_2 x9_2 x10_1 x11_2 a0_0 a0_1 l0_2 a1_0 a1_1 l1_2 a2_0 a2_1 = some (r1, r2)) ∧ Aside0 (kq ≤ k1) ∧ Aside0 (w'.heap[gb101]? = some (.cells #[.int .i64 a0_0, .int .i64 a0_1, (.slice A0_2 l0_2.length c0_2)] 29 (0, 0))) ∧ Aside0 (w'.heap[gb102]? = some (.cells #[.int .i64 a1_0, .int .i64 a1_1, (.slice A1_2 l1_2.length c1_2)] 29 (0, 0))) ∧ Aside0 (w'.heap[gb103]? = some (.cells #[.int .i64 a2_0, .int .i64 a2_1] 37 (0, 0))) ∧ Aside0 (Below w.heap.size w w'))
    case atStart => exact ⟨(x8_1), (x9_1), (0), (by first | rfl | (simp; done) | (simp [*]; done)), (by first | rfl | (simp; done) | (simp [*]; done)), (by first | rfl | (simp; done) | (simp [*]; done)), H', ⟨Nat.le_refl _⟩, ⟨by refine bk ?_; exact BK101.out⟩, ⟨by refine bk ?_; exact BK102.out⟩, ⟨by refine bk ?_; exact BK103.out⟩, ⟨pT HB.out⟩⟩
    case round =>
     clear H'
     try clear c1
     try clear p2
     try clear c7
     try clear c7b0
     try clear c8
     try clear c9
     try clear c10
     try clear hcz10_0
     try clear hcz10_1
     try clear hcz10_2
     try clear hfz10_0
     try clear hfz10_1
     try clear hfz10_2
     try clear p2
     obtain ⟨x8_2, x9_2, x11_2, rfl, rfl, rfl, HA, HK2, BK101, BK102, BK103, HB⟩ := hrel
     cases gk with
     | zero => exact absurd HA.out (by simp [spec_l11Match.l1])
     | succ k2 =>
      have H := HA.out
      clear HA
      simp only [spec_l11Match.l1] at H
      by_cases c11 : x11_2 < a0_0
      ·
       rw [if_pos c11] at H
       have c11b0 : decide (x11_2 < a0_0) = true := decide_eq_true c11
       clear c11
       replace H := Option.bind_eq_some_iff.mp H
       obtain ⟨t104, A120, H⟩ := H
       replace H : (if t104 = true then ((spec_l2At.f a0_0 a0_1 l0_2 x11_2 x10_1).bind fun t105 => ((spec_l2At.f a1_0 a1_1 l1_2 (wrap64 (x11_2 + a2_0)) (wrap64 (x10_1 + a2_1))).bind fun t106 => (if t105 = (-9999) then (spec_l11Match.l1 k2 x8_2 x9_2 x10_1 (wrap64 (x11_2 + 1)) a0_0 a0_1 l0_2 a1_0 a1_1 l1_2 a2_0 a2_1) else (if t106 = (-9999) then (spec_l11Match.l1 k2 x8_2 x9_2 x10_1 (wrap64 (x11_2 + 1)) a0_0 a0_1 l0_2 a1_0 a1_1 l1_2 a2_0 a2_1) else ((spec_l11Abs.f (wrap64 (t105 - t106))).bind fun t107 => (spec_l11Match.l1 k2 (wrap64 (x8_2 + t107)) (wrap64 (x9_2 + 1)) x10_1 (wrap64 (x11_2 + 1)) a0_0 a0_1 l0_2 a1_0 a1_1 l1_2 a2_0 a2_1)))))) else (spec_l11Match.l1 k2 x8_2 x9_2 x10_1 (wrap64 (x11_2 + 1)) a0_0 a0_1 l0_2 a1_0 a1_1 l1_2 a2_0 a2_1)) = some (r1, r2) := H
       have A12 := Aside0.mk A120
       clear A120
       by_cases c13 : t104 = true
       ·
        subst c13
        have H1 : ((spec_l2At.f a0_0 a0_1 l0_2 x11_2 x10_1).bind fun t105 => ((spec_l2At.f a1_0 a1_1 l1_2 (wrap64 (x11_2 + a2_0)) (wrap64 (x10_1 + a2_1))).bind fun t106 => (if t105 = (-9999) then (spec_l11Match.l1 k2 x8_2 x9_2 x10_1 (wrap64 (x11_2 + 1)) a0_0 a0_1 l0_2 a1_0 a1_1 l1_2 a2_0 a2_1) else (if t106 = (-9999) then (spec_l11Match.l1 k2 x8_2 x9_2 x10_1 (wrap64 (x11_2 + 1)) a0_0 a0_1 l0_2 a1_0 a1_1 l1_2 a2_0 a2_1) else ((spec_l11Abs.f (wrap64 (t105 - t106))).bind fun t107 => (spec_l11Match.l1 k2 (wrap64 (x8_2 + t107)) (wrap64 (x9_2 + 1)) x10_1 (wrap64 (x11_2 + 1)) a0_0 a0_1 l0_2 a1_0 a1_1 l1_2 a2_0 a2_1)))))) = some (r1, r2) := by rw [if_pos rfl] at H; exact H
        clear H
        have H := H1
        clear H1
        replace H := Option.bind_eq_some_iff.mp H
        obtain ⟨t105, A140, H⟩ := H
        replace H : ((spec_l2At.f a1_0 a1_1 l1_2 (wrap64 (x11_2 + a2_0)) (wrap64 (x10_1 + a2_1))).bind fun t106 => (if t105 = (-9999) then (spec_l11Match.l1 k2 x8_2 x9_2 x10_1 (wrap64 (x11_2 + 1)) a0_0 a0_1 l0_2 a1_0 a1_1 l1_2 a2_0 a2_1) else (if t106 = (-9999) then (spec_l11Match.l1 k2 x8_2 x9_2 x10_1 (wrap64 (x11_2 + 1)) a0_0 a0_1 l0_2 a1_0 a1_1 l1_2 a2_0 a2_1) else ((spec_l11Abs.f (wrap64 (t105 - t106))).bind fun t107 => (spec_l11Match.l1 k2 (wrap64 (x8_2 + t107)) (wrap64 (x9_2 + 1)) x10_1 (wrap64 (x11_2 + 1)) a0_0 a0_1 l0_2 a1_0 a1_1 l1_2 a2_0 a2_1))))) = some (r1, r2) := H
        have A14 := Aside0.mk A140
        clear A140
        replace H := Option.bind_eq_some_iff.mp H
        obtain ⟨t106, A150, H⟩ := H
        replace H : (if t105 = (-9999) then (spec_l11Match.l1 k2 x8_2 x9_2 x10_1 (wrap64 (x11_2 + 1)) a0_0 a0_1 l0_2 a1_0 a1_1 l1_2 a2_0 a2_1) else (if t106 = (-9999) then (spec_l11Match.l1 k2 x8_2 x9_2 x10_1 (wrap64 (x11_2 + 1)) a0_0 a0_1 l0_2 a1_0 a1_1 l1_2 a2_0 a2_1) else ((spec_l11Abs.f (wrap64 (t105 - t106))).bind fun t107 => (spec_l11Match.l1 k2 (wrap64 (x8_2 + t107)) (wrap64 (x9_2 + 1)) x10_1 (wrap64 (x11_2 + 1)) a0_0 a0_1 l0_2 a1_0 a1_1 l1_2 a2_0 a2_1)))) = some (r1, r2) := H
        have A15 := Aside0.mk A150
        clear A150
        by_cases c16 : t105 = (-9999)
        ·
         rw [if_pos c16] at H
         have c16b0 : (t105 == (-9999)) = true := beq_iff_eq.mpr c16
         have c16b1 : (t105 != (-9999)) = false := bne_eq_false_iff_eq.mpr c16
         clear c16
         have H' := Aside0.mk H
         clear H
         have hnb17 := NB101_102.out
         have hnc17 := NB102_101.out
         have hnb18 := NB101_103.out
         have hnc18 := NB103_101.out
         obtain ⟨hcz19_0, hcz19_1, hcz19_2, hfz19_0, hfz19_1, hfz19_2⟩ := bc3 BK101.out
         have hnb20 := NB102_103.out
         have hnc20 := NB103_102.out
         obtain ⟨hcz21_0, hcz21_1, hcz21_2, hfz21_0, hfz21_1, hfz21_2⟩ := bc3 BK102.out
         obtain ⟨hcz22_0, hcz22_1, hfz22_0, hfz22_1⟩ := bc2 BK103.out
         try go_wp2_with (first | ((with_reducible refine gate_callee (f := 165) rfl ?_); refine gl (some 35) Try.func165 #[.agg #[.int .i64 a1_0, .int .i64 a1_1, .slice A1_2 l1_2.length c1_2], .int .i64 (wrap64 (x11_2 + a2_0)), .int .i64 (wrap64 (x10_1 + a2_1))] ?_; (with_reducible refine (spec_l2Has.calls a1_0 a1_1 _ _ l1_2 (wrap64 (x11_2 + a2_0)) (wrap64 (x10_1 + a2_1)) true _ ?side1 ?side2 A12.out).mono ?_); (case side1 => exact pC (Kd.C_below HR1_2.out HB.out)); (case side2 => exact HC1_2.out); rintro e w23 ⟨rfl, hb⟩; refine ⟨_, rfl, ?_⟩; replace BK101 := bB BK101 hb; replace BK102 := bB BK102 hb; replace BK103 := bB BK103 hb; replace HB := bS HB hb; (try clear hb); (try clear hb2); (try clear hk); (try clear hi)))
         have n0_ := aK (blk_drew BK101.out)
         have n1_ := aK (blk_drew BK102.out)
         have n2_ := aK (blk_drew BK103.out)
         have n3_ := aK (below_drew1 HB.out)
         clear BK101 BK102 BK103 HB
         have BK101 := n0_
         have BK102 := n1_
         have BK103 := n2_
         have HB := n3_
         clear n0_ n1_ n2_ n3_
         refine start_ (n := 16) (S := fun w' => w'.cell? ⟨gb101, 0, none⟩ = some (.int .i64 a0_0) ∧ w'.cell? ⟨gb101, 1, none⟩ = some (.int .i64 a0_1) ∧ w'.cell? ⟨gb101, 2, none⟩ = some (.slice A0_2 l0_2.length c0_2) ∧ w'.cell? ⟨gb102, 0, none⟩ = some (.int .i64 a1_0) ∧ w'.cell? ⟨gb102, 1, none⟩ = some (.int .i64 a1_1) ∧ w'.cell? ⟨gb102, 2, none⟩ = some (.slice A1_2 l1_2.length c1_2) ∧ w'.cell? ⟨gb103, 0, none⟩ = some (.int .i64 a2_0) ∧ w'.cell? ⟨gb103, 1, none⟩ = some (.int .i64 a2_1)) (ds := []) #[false, false, false, false, false, false, false, false, false, false, false, false, false, false, false, false] (by kernel_rfl) rfl rfl (cj3 BK101.out (cj3 BK102.out (cz2 BK103.out))) (fun hHeld => ?_); refine with_tabW spec_l11Match.tab9 spec_l11Match.bits9 (fun HT_ HW_ => ?_)
         generalize w23.drew = w24 at BK101 BK102 BK103 HB hHeld ⊢
         refine pu (i := 1) (N := some 38) #[false, true, false, false, false, false, false, false, false, false, false, false, false, false, false, false] rfl rfl HT_.out ?_
         refine pu (i := 2) (N := some 39) #[false, true, true, false, false, false, false, false, false, false, false, false, false, false, false, false] rfl rfl HT_.out ?_
         refine pu (i := 5) (N := some 42) #[false, true, true, false, false, true, false, false, false, false, false, false, false, false, false, false] rfl rfl HT_.out ?_
         refine pu (i := 6) (N := some 43) #[false, true, true, false, false, true, true, false, false, false, false, false, false, false, false, false] rfl rfl HT_.out ?_
         refine pu (i := 9) (N := some 46) #[false, true, true, false, false, true, true, false, false, true, false, false, false, false, false, false] rfl rfl HT_.out ?_
         refine pu (i := 10) (N := some 47) #[false, true, true, false, false, true, true, false, false, true, true, false, false, false, false, false] rfl rfl HT_.out ?_
         refine tk (i := 0) (N := some 37) #[true, true, true, false, false, true, true, false, false, true, true, false, false, false, false, false] rfl rfl HT_.out HW_.out (Or.inl ⟨by rfl, by rintro w' ⟨s0, s1, s2, s3, s4, s5, s6, s7⟩; go_simp; with_reducible rfl⟩) hHeld ?_
         refine tk (i := 4) (N := some 41) #[true, true, true, false, true, true, true, false, false, true, true, false, false, false, false, false] rfl rfl HT_.out HW_.out (Or.inl ⟨by rfl, by rintro w' ⟨s0, s1, s2, s3, s4, s5, s6, s7⟩; go_simp; with_reducible rfl⟩) hHeld ?_
         refine tk (i := 7) (N := some 44) #[true, true, true, false, true, true, true, true, false, true, true, false, false, false, false, false] rfl rfl HT_.out HW_.out (Or.inl ⟨by rfl, by rintro w' ⟨s0, s1, s2, s3, s4, s5, s6, s7⟩; go_simp; with_reducible rfl⟩) hHeld ?_
         refine pu (i := 8) (N := some 45) #[true, true, true, false, true, true, true, true, true, true, true, false, false, false, false, false] rfl rfl HT_.out ?_
         refine tk (i := 11) (N := some 48) #[true, true, true, false, true, true, true, true, true, true, true, true, false, false, false, false] rfl rfl HT_.out HW_.out (Or.inl ⟨by rfl, by rintro w' ⟨s0, s1, s2, s3, s4, s5, s6, s7⟩; go_simp; with_reducible rfl⟩) hHeld ?_
         refine pu (i := 12) (N := some 49) #[true, true, true, false, true, true, true, true, true, true, true, true, true, false, false, false] rfl rfl HT_.out ?_
         refine one_ (i := 3) (N := some 40) #[true, true, true, true, true, true, true, true, true, true, true, true, true, false, false, false] rfl rfl (one_of HT_.out (by kernel_rfl)) (by decide) (fun K hK => ?_)
         refine goes_ Try.func166 (by kernel_rfl) rfl #[.agg #[.int .i64 a0_0, .int .i64 a0_1, .slice A0_2 l0_2.length c0_2], .int .i64 x11_2, .int .i64 x10_1] (by rfl) rfl rfl (by (try simp only [List.map_toArray, List.map_cons, List.map_nil]); first | done | rfl | (simp only [List.length_drop, List.length_take]; rfl)) ?_
         with_reducible refine (spec_l2At.calls a0_0 a0_1 _ _ l0_2 x11_2 x10_1 t105 _ ?side1 ?side2 A14.out).mono ?_
         (case side1 => exact pC (Kd.C_below HR0_2.out HB.out))
         (case side2 => exact HC0_2.out)
         rintro e w25 ⟨rfl, hb⟩
         refine ⟨_, rfl, ?_⟩
         replace BK101 := bB BK101 hb
         replace BK102 := bB BK102 hb
         replace BK103 := bB BK103 hb
         replace HB := bS HB hb
         (try clear hb)
         (try clear hb2)
         (try clear hk)
         (try clear hi)
         refine hK.out _ _ (cj3 BK101.out (cj3 BK102.out (cz2 BK103.out))) (fun hHeld => ?_)
         clear hK K
         refine norm_ (a' := ?_) ?_ ?_
         rotate_left
         ·
          show Act.put _ (some 40) _ = _
          simp only [sP]
          rfl
         refine one_ (i := 13) (N := some 50) #[true, true, true, true, true, true, true, true, true, true, true, true, true, true, false, false] rfl rfl (one_of HT_.out (by kernel_rfl)) (by decide) (fun K hK => ?_)
         refine goes_ Try.func166 (by kernel_rfl) rfl #[.agg #[.int .i64 a1_0, .int .i64 a1_1, .slice A1_2 l1_2.length c1_2], .int .i64 (wrap64 (x11_2 + a2_0)), .int .i64 (wrap64 (x10_1 + a2_1))] (by rfl) rfl rfl (by (try simp only [List.map_toArray, List.map_cons, List.map_nil]); first | done | rfl | (simp only [List.length_drop, List.length_take]; rfl)) ?_
         with_reducible refine (spec_l2At.calls a1_0 a1_1 _ _ l1_2 (wrap64 (x11_2 + a2_0)) (wrap64 (x10_1 + a2_1)) t106 _ ?side1 ?side2 A15.out).mono ?_
         (case side1 => exact pC (Kd.C_below HR1_2.out HB.out))
         (case side2 => exact HC1_2.out)
         rintro e w26 ⟨rfl, hb⟩
         refine ⟨_, rfl, ?_⟩
         replace BK101 := bB BK101 hb
         replace BK102 := bB BK102 hb
         replace BK103 := bB BK103 hb
         replace HB := bS HB hb
         (try clear hb)
         (try clear hb2)
         (try clear hk)
         (try clear hi)
         refine hK.out _ _ (cj3 BK101.out (cj3 BK102.out (cz2 BK103.out))) (fun hHeld => ?_)
         clear hK K
         refine norm_ (a' := ?_) ?_ ?_
         rotate_left
         ·
          show Act.put _ (some 50) _ = _
          simp only [sP]
          rfl
         refine pu (i := 14) (N := some 12) #[true, true, true, true, true, true, true, true, true, true, true, true, true, true, true, false] rfl rfl HT_.out ?_
         refine pu (i := 15) (N := some 13) #[true, true, true, true, true, true, true, true, true, true, true, true, true, true, true, true] rfl rfl HT_.out ?_
         refine done_ (done_of HT_.out (by kernel_rfl)) ?_
         try go_wp2
         go_roundg k2
         case measure => have := HK1.out; have := HK2.out; omega
         case rel => exact ⟨(x8_2), (x9_2), (wrap64 (x11_2 + 1)), (by first | rfl | (simp; done) | (simp [*]; done)), (by first | rfl | (simp; done) | (simp [*]; done)), (by first | rfl | (simp; done) | (simp [*]; done)), H', ⟨by have := HK1.out; have := HK2.out; omega⟩, ⟨by refine bk ?_; exact BK101.out⟩, ⟨by refine bk ?_; exact BK102.out⟩, ⟨by refine bk ?_; exact BK103.out⟩, ⟨pT HB.out⟩⟩
        rw [if_neg c16] at H
        have c16b0 : (t105 == (-9999)) = false := beq_eq_false_iff_ne.mpr c16
        have c16b1 : (t105 != (-9999)) = true := bne_iff_ne.mpr c16
        by_cases c27 : t106 = (-9999)
        ·
         rw [if_pos c27] at H
         have c27b0 : (t106 == (-9999)) = true := beq_iff_eq.mpr c27
         have c27b1 : (t106 != (-9999)) = false := bne_eq_false_iff_eq.mpr c27
         clear c27
         have H' := Aside0.mk H
         clear H
         have hnb28 := NB101_102.out
         have hnc28 := NB102_101.out
         have hnb29 := NB101_103.out
         have hnc29 := NB103_101.out
         obtain ⟨hcz30_0, hcz30_1, hcz30_2, hfz30_0, hfz30_1, hfz30_2⟩ := bc3 BK101.out
         have hnb31 := NB102_103.out
         have hnc31 := NB103_102.out
         obtain ⟨hcz32_0, hcz32_1, hcz32_2, hfz32_0, hfz32_1, hfz32_2⟩ := bc3 BK102.out
         obtain ⟨hcz33_0, hcz33_1, hfz33_0, hfz33_1⟩ := bc2 BK103.out
         try go_wp2_with (first | ((with_reducible refine gate_callee (f := 165) rfl ?_); refine gl (some 35) Try.func165 #[.agg #[.int .i64 a1_0, .int .i64 a1_1, .slice A1_2 l1_2.length c1_2], .int .i64 (wrap64 (x11_2 + a2_0)), .int .i64 (wrap64 (x10_1 + a2_1))] ?_; (with_reducible refine (spec_l2Has.calls a1_0 a1_1 _ _ l1_2 (wrap64 (x11_2 + a2_0)) (wrap64 (x10_1 + a2_1)) true _ ?side1 ?side2 A12.out).mono ?_); (case side1 => exact pC (Kd.C_below HR1_2.out HB.out)); (case side2 => exact HC1_2.out); rintro e w34 ⟨rfl, hb⟩; refine ⟨_, rfl, ?_⟩; replace BK101 := bB BK101 hb; replace BK102 := bB BK102 hb; replace BK103 := bB BK103 hb; replace HB := bS HB hb; (try clear hb); (try clear hb2); (try clear hk); (try clear hi)))
         have n0_ := aK (blk_drew BK101.out)
         have n1_ := aK (blk_drew BK102.out)
         have n2_ := aK (blk_drew BK103.out)
         have n3_ := aK (below_drew1 HB.out)
         clear BK101 BK102 BK103 HB
         have BK101 := n0_
         have BK102 := n1_
         have BK103 := n2_
         have HB := n3_
         clear n0_ n1_ n2_ n3_
         refine start_ (n := 16) (S := fun w' => w'.cell? ⟨gb101, 0, none⟩ = some (.int .i64 a0_0) ∧ w'.cell? ⟨gb101, 1, none⟩ = some (.int .i64 a0_1) ∧ w'.cell? ⟨gb101, 2, none⟩ = some (.slice A0_2 l0_2.length c0_2) ∧ w'.cell? ⟨gb102, 0, none⟩ = some (.int .i64 a1_0) ∧ w'.cell? ⟨gb102, 1, none⟩ = some (.int .i64 a1_1) ∧ w'.cell? ⟨gb102, 2, none⟩ = some (.slice A1_2 l1_2.length c1_2) ∧ w'.cell? ⟨gb103, 0, none⟩ = some (.int .i64 a2_0) ∧ w'.cell? ⟨gb103, 1, none⟩ = some (.int .i64 a2_1)) (ds := []) #[false, false, false, false, false, false, false, false, false, false, false, false, false, false, false, false] (by kernel_rfl) rfl rfl (cj3 BK101.out (cj3 BK102.out (cz2 BK103.out))) (fun hHeld => ?_); refine with_tabW spec_l11Match.tab9 spec_l11Match.bits9 (fun HT_ HW_ => ?_)
         generalize w34.drew = w35 at BK101 BK102 BK103 HB hHeld ⊢
         refine pu (i := 1) (N := some 38) #[false, true, false, false, false, false, false, false, false, false, false, false, false, false, false, false] rfl rfl HT_.out ?_
         refine pu (i := 2) (N := some 39) #[false, true, true, false, false, false, false, false, false, false, false, false, false, false, false, false] rfl rfl HT_.out ?_
         refine pu (i := 5) (N := some 42) #[false, true, true, false, false, true, false, false, false, false, false, false, false, false, false, false] rfl rfl HT_.out ?_
         refine pu (i := 6) (N := some 43) #[false, true, true, false, false, true, true, false, false, false, false, false, false, false, false, false] rfl rfl HT_.out ?_
         refine pu (i := 9) (N := some 46) #[false, true, true, false, false, true, true, false, false, true, false, false, false, false, false, false] rfl rfl HT_.out ?_
         refine pu (i := 10) (N := some 47) #[false, true, true, false, false, true, true, false, false, true, true, false, false, false, false, false] rfl rfl HT_.out ?_
         refine tk (i := 0) (N := some 37) #[true, true, true, false, false, true, true, false, false, true, true, false, false, false, false, false] rfl rfl HT_.out HW_.out (Or.inl ⟨by rfl, by rintro w' ⟨s0, s1, s2, s3, s4, s5, s6, s7⟩; go_simp; with_reducible rfl⟩) hHeld ?_
         refine tk (i := 4) (N := some 41) #[true, true, true, false, true, true, true, false, false, true, true, false, false, false, false, false] rfl rfl HT_.out HW_.out (Or.inl ⟨by rfl, by rintro w' ⟨s0, s1, s2, s3, s4, s5, s6, s7⟩; go_simp; with_reducible rfl⟩) hHeld ?_
         refine tk (i := 7) (N := some 44) #[true, true, true, false, true, true, true, true, false, true, true, false, false, false, false, false] rfl rfl HT_.out HW_.out (Or.inl ⟨by rfl, by rintro w' ⟨s0, s1, s2, s3, s4, s5, s6, s7⟩; go_simp; with_reducible rfl⟩) hHeld ?_
         refine pu (i := 8) (N := some 45) #[true, true, true, false, true, true, true, true, true, true, true, false, false, false, false, false] rfl rfl HT_.out ?_
         refine tk (i := 11) (N := some 48) #[true, true, true, false, true, true, true, true, true, true, true, true, false, false, false, false] rfl rfl HT_.out HW_.out (Or.inl ⟨by rfl, by rintro w' ⟨s0, s1, s2, s3, s4, s5, s6, s7⟩; go_simp; with_reducible rfl⟩) hHeld ?_
         refine pu (i := 12) (N := some 49) #[true, true, true, false, true, true, true, true, true, true, true, true, true, false, false, false] rfl rfl HT_.out ?_
         refine one_ (i := 3) (N := some 40) #[true, true, true, true, true, true, true, true, true, true, true, true, true, false, false, false] rfl rfl (one_of HT_.out (by kernel_rfl)) (by decide) (fun K hK => ?_)
         refine goes_ Try.func166 (by kernel_rfl) rfl #[.agg #[.int .i64 a0_0, .int .i64 a0_1, .slice A0_2 l0_2.length c0_2], .int .i64 x11_2, .int .i64 x10_1] (by rfl) rfl rfl (by (try simp only [List.map_toArray, List.map_cons, List.map_nil]); first | done | rfl | (simp only [List.length_drop, List.length_take]; rfl)) ?_
         with_reducible refine (spec_l2At.calls a0_0 a0_1 _ _ l0_2 x11_2 x10_1 t105 _ ?side1 ?side2 A14.out).mono ?_
         (case side1 => exact pC (Kd.C_below HR0_2.out HB.out))
         (case side2 => exact HC0_2.out)
         rintro e w36 ⟨rfl, hb⟩
         refine ⟨_, rfl, ?_⟩
         replace BK101 := bB BK101 hb
         replace BK102 := bB BK102 hb
         replace BK103 := bB BK103 hb
         replace HB := bS HB hb
         (try clear hb)
         (try clear hb2)
         (try clear hk)
         (try clear hi)
         refine hK.out _ _ (cj3 BK101.out (cj3 BK102.out (cz2 BK103.out))) (fun hHeld => ?_)
         clear hK K
         refine norm_ (a' := ?_) ?_ ?_
         rotate_left
         ·
          show Act.put _ (some 40) _ = _
          simp only [sP]
          rfl
         refine one_ (i := 13) (N := some 50) #[true, true, true, true, true, true, true, true, true, true, true, true, true, true, false, false] rfl rfl (one_of HT_.out (by kernel_rfl)) (by decide) (fun K hK => ?_)
         refine goes_ Try.func166 (by kernel_rfl) rfl #[.agg #[.int .i64 a1_0, .int .i64 a1_1, .slice A1_2 l1_2.length c1_2], .int .i64 (wrap64 (x11_2 + a2_0)), .int .i64 (wrap64 (x10_1 + a2_1))] (by rfl) rfl rfl (by (try simp only [List.map_toArray, List.map_cons, List.map_nil]); first | done | rfl | (simp only [List.length_drop, List.length_take]; rfl)) ?_
         with_reducible refine (spec_l2At.calls a1_0 a1_1 _ _ l1_2 (wrap64 (x11_2 + a2_0)) (wrap64 (x10_1 + a2_1)) t106 _ ?side1 ?side2 A15.out).mono ?_
         (case side1 => exact pC (Kd.C_below HR1_2.out HB.out))
         (case side2 => exact HC1_2.out)
         rintro e w37 ⟨rfl, hb⟩
         refine ⟨_, rfl, ?_⟩
         replace BK101 := bB BK101 hb
         replace BK102 := bB BK102 hb
         replace BK103 := bB BK103 hb
         replace HB := bS HB hb
         (try clear hb)
         (try clear hb2)
         (try clear hk)
         (try clear hi)
         refine hK.out _ _ (cj3 BK101.out (cj3 BK102.out (cz2 BK103.out))) (fun hHeld => ?_)
         clear hK K
         refine norm_ (a' := ?_) ?_ ?_
         rotate_left
         ·
          show Act.put _ (some 50) _ = _
          simp only [sP]
          rfl
         refine pu (i := 14) (N := some 12) #[true, true, true, true, true, true, true, true, true, true, true, true, true, true, true, false] rfl rfl HT_.out ?_
         refine pu (i := 15) (N := some 13) #[true, true, true, true, true, true, true, true, true, true, true, true, true, true, true, true] rfl rfl HT_.out ?_
         refine done_ (done_of HT_.out (by kernel_rfl)) ?_
         try go_wp2
         go_roundg k2
         case measure => have := HK1.out; have := HK2.out; omega
         case rel => exact ⟨(x8_2), (x9_2), (wrap64 (x11_2 + 1)), (by first | rfl | (simp; done) | (simp [*]; done)), (by first | rfl | (simp; done) | (simp [*]; done)), (by first | rfl | (simp; done) | (simp [*]; done)), H', ⟨by have := HK1.out; have := HK2.out; omega⟩, ⟨by refine bk ?_; exact BK101.out⟩, ⟨by refine bk ?_; exact BK102.out⟩, ⟨by refine bk ?_; exact BK103.out⟩, ⟨pT HB.out⟩⟩
        rw [if_neg c27] at H
        have c27b0 : (t106 == (-9999)) = false := beq_eq_false_iff_ne.mpr c27
        have c27b1 : (t106 != (-9999)) = true := bne_iff_ne.mpr c27
        replace H := Option.bind_eq_some_iff.mp H
        obtain ⟨t107, A380, H⟩ := H
        replace H : (spec_l11Match.l1 k2 (wrap64 (x8_2 + t107)) (wrap64 (x9_2 + 1)) x10_1 (wrap64 (x11_2 + 1)) a0_0 a0_1 l0_2 a1_0 a1_1 l1_2 a2_0 a2_1) = some (r1, r2) := H
        have A38 := Aside0.mk A380
        clear A380
        have H' := Aside0.mk H
        clear H
        have hnb39 := NB101_102.out
        have hnc39 := NB102_101.out
        have hnb40 := NB101_103.out
        have hnc40 := NB103_101.out
        obtain ⟨hcz41_0, hcz41_1, hcz41_2, hfz41_0, hfz41_1, hfz41_2⟩ := bc3 BK101.out
        have hnb42 := NB102_103.out
        have hnc42 := NB103_102.out
        obtain ⟨hcz43_0, hcz43_1, hcz43_2, hfz43_0, hfz43_1, hfz43_2⟩ := bc3 BK102.out
        obtain ⟨hcz44_0, hcz44_1, hfz44_0, hfz44_1⟩ := bc2 BK103.out
        try go_wp2_with (first | ((with_reducible refine gate_callee (f := 165) rfl ?_); refine gl (some 35) Try.func165 #[.agg #[.int .i64 a1_0, .int .i64 a1_1, .slice A1_2 l1_2.length c1_2], .int .i64 (wrap64 (x11_2 + a2_0)), .int .i64 (wrap64 (x10_1 + a2_1))] ?_; (with_reducible refine (spec_l2Has.calls a1_0 a1_1 _ _ l1_2 (wrap64 (x11_2 + a2_0)) (wrap64 (x10_1 + a2_1)) true _ ?side1 ?side2 A12.out).mono ?_); (case side1 => exact pC (Kd.C_below HR1_2.out HB.out)); (case side2 => exact HC1_2.out); rintro e w45 ⟨rfl, hb⟩; refine ⟨_, rfl, ?_⟩; replace BK101 := bB BK101 hb; replace BK102 := bB BK102 hb; replace BK103 := bB BK103 hb; replace HB := bS HB hb; (try clear hb); (try clear hb2); (try clear hk); (try clear hi)))
        have n0_ := aK (blk_drew BK101.out)
        have n1_ := aK (blk_drew BK102.out)
        have n2_ := aK (blk_drew BK103.out)
        have n3_ := aK (below_drew1 HB.out)
        clear BK101 BK102 BK103 HB
        have BK101 := n0_
        have BK102 := n1_
        have BK103 := n2_
        have HB := n3_
        clear n0_ n1_ n2_ n3_
        refine start_ (n := 16) (S := fun w' => w'.cell? ⟨gb101, 0, none⟩ = some (.int .i64 a0_0) ∧ w'.cell? ⟨gb101, 1, none⟩ = some (.int .i64 a0_1) ∧ w'.cell? ⟨gb101, 2, none⟩ = some (.slice A0_2 l0_2.length c0_2) ∧ w'.cell? ⟨gb102, 0, none⟩ = some (.int .i64 a1_0) ∧ w'.cell? ⟨gb102, 1, none⟩ = some (.int .i64 a1_1) ∧ w'.cell? ⟨gb102, 2, none⟩ = some (.slice A1_2 l1_2.length c1_2) ∧ w'.cell? ⟨gb103, 0, none⟩ = some (.int .i64 a2_0) ∧ w'.cell? ⟨gb103, 1, none⟩ = some (.int .i64 a2_1)) (ds := []) #[false, false, false, false, false, false, false, false, false, false, false, false, false, false, false, false] (by kernel_rfl) rfl rfl (cj3 BK101.out (cj3 BK102.out (cz2 BK103.out))) (fun hHeld => ?_); refine with_tabW spec_l11Match.tab9 spec_l11Match.bits9 (fun HT_ HW_ => ?_)
        generalize w45.drew = w46 at BK101 BK102 BK103 HB hHeld ⊢
        refine pu (i := 1) (N := some 38) #[false, true, false, false, false, false, false, false, false, false, false, false, false, false, false, false] rfl rfl HT_.out ?_
        refine pu (i := 2) (N := some 39) #[false, true, true, false, false, false, false, false, false, false, false, false, false, false, false, false] rfl rfl HT_.out ?_
        refine pu (i := 5) (N := some 42) #[false, true, true, false, false, true, false, false, false, false, false, false, false, false, false, false] rfl rfl HT_.out ?_
        refine pu (i := 6) (N := some 43) #[false, true, true, false, false, true, true, false, false, false, false, false, false, false, false, false] rfl rfl HT_.out ?_
        refine pu (i := 9) (N := some 46) #[false, true, true, false, false, true, true, false, false, true, false, false, false, false, false, false] rfl rfl HT_.out ?_
        refine pu (i := 10) (N := some 47) #[false, true, true, false, false, true, true, false, false, true, true, false, false, false, false, false] rfl rfl HT_.out ?_
        refine tk (i := 0) (N := some 37) #[true, true, true, false, false, true, true, false, false, true, true, false, false, false, false, false] rfl rfl HT_.out HW_.out (Or.inl ⟨by rfl, by rintro w' ⟨s0, s1, s2, s3, s4, s5, s6, s7⟩; go_simp; with_reducible rfl⟩) hHeld ?_
        refine tk (i := 4) (N := some 41) #[true, true, true, false, true, true, true, false, false, true, true, false, false, false, false, false] rfl rfl HT_.out HW_.out (Or.inl ⟨by rfl, by rintro w' ⟨s0, s1, s2, s3, s4, s5, s6, s7⟩; go_simp; with_reducible rfl⟩) hHeld ?_
        refine tk (i := 7) (N := some 44) #[true, true, true, false, true, true, true, true, false, true, true, false, false, false, false, false] rfl rfl HT_.out HW_.out (Or.inl ⟨by rfl, by rintro w' ⟨s0, s1, s2, s3, s4, s5, s6, s7⟩; go_simp; with_reducible rfl⟩) hHeld ?_
        refine pu (i := 8) (N := some 45) #[true, true, true, false, true, true, true, true, true, true, true, false, false, false, false, false] rfl rfl HT_.out ?_
        refine tk (i := 11) (N := some 48) #[true, true, true, false, true, true, true, true, true, true, true, true, false, false, false, false] rfl rfl HT_.out HW_.out (Or.inl ⟨by rfl, by rintro w' ⟨s0, s1, s2, s3, s4, s5, s6, s7⟩; go_simp; with_reducible rfl⟩) hHeld ?_
        refine pu (i := 12) (N := some 49) #[true, true, true, false, true, true, true, true, true, true, true, true, true, false, false, false] rfl rfl HT_.out ?_
        refine one_ (i := 3) (N := some 40) #[true, true, true, true, true, true, true, true, true, true, true, true, true, false, false, false] rfl rfl (one_of HT_.out (by kernel_rfl)) (by decide) (fun K hK => ?_)
        refine goes_ Try.func166 (by kernel_rfl) rfl #[.agg #[.int .i64 a0_0, .int .i64 a0_1, .slice A0_2 l0_2.length c0_2], .int .i64 x11_2, .int .i64 x10_1] (by rfl) rfl rfl (by (try simp only [List.map_toArray, List.map_cons, List.map_nil]); first | done | rfl | (simp only [List.length_drop, List.length_take]; rfl)) ?_
        with_reducible refine (spec_l2At.calls a0_0 a0_1 _ _ l0_2 x11_2 x10_1 t105 _ ?side1 ?side2 A14.out).mono ?_
        (case side1 => exact pC (Kd.C_below HR0_2.out HB.out))
        (case side2 => exact HC0_2.out)
        rintro e w47 ⟨rfl, hb⟩
        refine ⟨_, rfl, ?_⟩
        replace BK101 := bB BK101 hb
        replace BK102 := bB BK102 hb
        replace BK103 := bB BK103 hb
        replace HB := bS HB hb
        (try clear hb)
        (try clear hb2)
        (try clear hk)
        (try clear hi)
        refine hK.out _ _ (cj3 BK101.out (cj3 BK102.out (cz2 BK103.out))) (fun hHeld => ?_)
        clear hK K
        refine norm_ (a' := ?_) ?_ ?_
        rotate_left
        ·
         show Act.put _ (some 40) _ = _
         simp only [sP]
         rfl
        refine one_ (i := 13) (N := some 50) #[true, true, true, true, true, true, true, true, true, true, true, true, true, true, false, false] rfl rfl (one_of HT_.out (by kernel_rfl)) (by decide) (fun K hK => ?_)
        refine goes_ Try.func166 (by kernel_rfl) rfl #[.agg #[.int .i64 a1_0, .int .i64 a1_1, .slice A1_2 l1_2.length c1_2], .int .i64 (wrap64 (x11_2 + a2_0)), .int .i64 (wrap64 (x10_1 + a2_1))] (by rfl) rfl rfl (by (try simp only [List.map_toArray, List.map_cons, List.map_nil]); first | done | rfl | (simp only [List.length_drop, List.length_take]; rfl)) ?_
        with_reducible refine (spec_l2At.calls a1_0 a1_1 _ _ l1_2 (wrap64 (x11_2 + a2_0)) (wrap64 (x10_1 + a2_1)) t106 _ ?side1 ?side2 A15.out).mono ?_
        (case side1 => exact pC (Kd.C_below HR1_2.out HB.out))
        (case side2 => exact HC1_2.out)
        rintro e w48 ⟨rfl, hb⟩
        refine ⟨_, rfl, ?_⟩
        replace BK101 := bB BK101 hb
        replace BK102 := bB BK102 hb
        replace BK103 := bB BK103 hb
        replace HB := bS HB hb
        (try clear hb)
        (try clear hb2)
        (try clear hk)
        (try clear hi)
        refine hK.out _ _ (cj3 BK101.out (cj3 BK102.out (cz2 BK103.out))) (fun hHeld => ?_)
        clear hK K
        refine norm_ (a' := ?_) ?_ ?_
        rotate_left
        ·
         show Act.put _ (some 50) _ = _
         simp only [sP]
         rfl
        refine pu (i := 14) (N := some 12) #[true, true, true, true, true, true, true, true, true, true, true, true, true, true, true, false] rfl rfl HT_.out ?_
        refine pu (i := 15) (N := some 13) #[true, true, true, true, true, true, true, true, true, true, true, true, true, true, true, true] rfl rfl HT_.out ?_
        refine done_ (done_of HT_.out (by kernel_rfl)) ?_
        try go_wp2_with (first | ((with_reducible refine gate_callee (f := 167) rfl ?_); refine gl (some 61) Try.func167 #[.int .i64 (wrap64 (t105 - t106))] ?_; (with_reducible refine (spec_l11Abs.calls (wrap64 (t105 - t106)) t107 _ A38.out).mono ?_); rintro e w' ⟨rfl, ⟨nd, rfl⟩⟩; refine ⟨_, rfl, ?_⟩))
        go_roundg k2
        case measure => have := HK1.out; have := HK2.out; omega
        case rel => exact ⟨(wrap64 (x8_2 + t107)), (wrap64 (x9_2 + 1)), (wrap64 (x11_2 + 1)), (by first | rfl | (simp; done) | (simp [*]; done)), (by first | rfl | (simp; done) | (simp [*]; done)), (by first | rfl | (simp; done) | (simp [*]; done)), H', ⟨by have := HK1.out; have := HK2.out; omega⟩, ⟨by refine bk ?_; exact BK101.out⟩, ⟨by refine bk ?_; exact BK102.out⟩, ⟨by refine bk ?_; exact BK103.out⟩, ⟨pT HB.out⟩⟩
       replace c13 := Bool.eq_false_iff.mpr c13
       subst c13
       have H1 : (spec_l11Match.l1 k2 x8_2 x9_2 x10_1 (wrap64 (x11_2 + 1)) a0_0 a0_1 l0_2 a1_0 a1_1 l1_2 a2_0 a2_1) = some (r1, r2) := by rw [if_neg (show ¬ (false = true) by decide)] at H; exact H
       clear H
       have H := H1
       clear H1
       have H' := Aside0.mk H
       clear H
       have hnb49 := NB101_102.out
       have hnc49 := NB102_101.out
       have hnb50 := NB101_103.out
       have hnc50 := NB103_101.out
       obtain ⟨hcz51_0, hcz51_1, hcz51_2, hfz51_0, hfz51_1, hfz51_2⟩ := bc3 BK101.out
       have hnb52 := NB102_103.out
       have hnc52 := NB103_102.out
       obtain ⟨hcz53_0, hcz53_1, hcz53_2, hfz53_0, hfz53_1, hfz53_2⟩ := bc3 BK102.out
       obtain ⟨hcz54_0, hcz54_1, hfz54_0, hfz54_1⟩ := bc2 BK103.out
       go_wp2_with (first | ((with_reducible refine gate_callee (f := 165) rfl ?_); refine gl (some 35) Try.func165 #[.agg #[.int .i64 a1_0, .int .i64 a1_1, .slice A1_2 l1_2.length c1_2], .int .i64 (wrap64 (x11_2 + a2_0)), .int .i64 (wrap64 (x10_1 + a2_1))] ?_; (with_reducible refine (spec_l2Has.calls a1_0 a1_1 _ _ l1_2 (wrap64 (x11_2 + a2_0)) (wrap64 (x10_1 + a2_1)) false _ ?side1 ?side2 A12.out).mono ?_); (case side1 => exact pC (Kd.C_below HR1_2.out HB.out)); (case side2 => exact HC1_2.out); rintro e w55 ⟨rfl, hb⟩; refine ⟨_, rfl, ?_⟩; replace BK101 := bB BK101 hb; replace BK102 := bB BK102 hb; replace BK103 := bB BK103 hb; replace HB := bS HB hb; (try clear hb); (try clear hb2); (try clear hk); (try clear hi)))
       go_roundg k2
       case measure => have := HK1.out; have := HK2.out; omega
       case rel => exact ⟨(x8_2), (x9_2), (wrap64 (x11_2 + 1)), (by first | rfl | (simp; done) | (simp [*]; done)), (by first | rfl | (simp; done) | (simp [*]; done)), (by first | rfl | (simp; done) | (simp [*]; done)), H', ⟨by have := HK1.out; have := HK2.out; omega⟩, ⟨by refine bk ?_; exact BK101.out⟩, ⟨by refine bk ?_; exact BK102.out⟩, ⟨by refine bk ?_; exact BK103.out⟩, ⟨pT HB.out⟩⟩
      rw [if_neg c11] at H
      have c11b0 : decide (x11_2 < a0_0) = false := decide_eq_false c11
      clear c11
      have H' := Aside0.mk H
      clear H
      have hnb56 := NB101_102.out
      have hnc56 := NB102_101.out
      have hnb57 := NB101_103.out
      have hnc57 := NB103_101.out
      obtain ⟨hcz58_0, hcz58_1, hcz58_2, hfz58_0, hfz58_1, hfz58_2⟩ := bc3 BK101.out
      go_wp2
      go_roundg k2
      case measure => have := HK1.out; have := HK2.out; omega
      case rel => exact ⟨(x8_2), (x9_2), (wrap64 (x10_1 + 1)), (by first | rfl | (simp; done) | (simp [*]; done)), (by first | rfl | (simp; done) | (simp [*]; done)), (by first | rfl | (simp; done) | (simp [*]; done)), H', ⟨by have := HK1.out; have := HK2.out; omega⟩, ⟨by refine bk ?_; exact BK101.out⟩, ⟨by refine bk ?_; exact BK102.out⟩, ⟨by refine bk ?_; exact BK103.out⟩, ⟨pT HB.out⟩⟩
   rw [if_neg c7] at H
   have c7b0 : decide (x10_1 < a0_1) = false := decide_eq_false c7
   clear c7
   simp only [Option.some.injEq, Prod.mk.injEq] at H
   obtain ⟨rfl, rfl⟩ := H
   have hnb59 := NB101_102.out
   have hnc59 := NB102_101.out
   have hnb60 := NB101_103.out
   have hnc60 := NB103_101.out
   obtain ⟨hcz61_0, hcz61_1, hcz61_2, hfz61_0, hfz61_1, hfz61_2⟩ := bc3 BK101.out
   go_wp2
   go_ret2
   exact ⟨er, pT HB.out⟩
def spec_l11Qualifies.f (k : Nat) (a0_0 : Int) (a0_1 : Int) (l0_2 : List Int) (a1_0 : Int) (a1_1 : Int) (l1_2 : List Int) (a2_0 : Int) (a2_1 : Int) : Option (Bool) := (spec_l11Match.f k a0_0 a0_1 l0_2 a1_0 a1_1 l1_2 a2_0 a2_1).bind fun bt104 => (if bt104.2 > 0 then (some (decide ((wrap64 (2 * bt104.2)) ≥ (l0_2.length : Int)))) else (some false))
theorem spec_l11Qualifies.calls (k : Nat) (a0_0 : Int) (a0_1 : Int) (A0_2 : Option Addr) (c0_2 : Nat) (l0_2 : List Int) (a1_0 : Int) (a1_1 : Int) (A1_2 : Option Addr) (c1_2 : Nat) (l1_2 : List Int) (a2_0 : Int) (a2_1 : Int) (r : Bool) (w : World) (hr0_2 : Kd.C (Kd.int .i64) w A0_2 l0_2.length l0_2) (hc0_2 : l0_2.length ≤ c0_2) (hr1_2 : Kd.C (Kd.int .i64) w A1_2 l1_2.length l1_2) (hc1_2 : l1_2.length ≤ c1_2) (h : spec_l11Qualifies.f k a0_0 a0_1 l0_2 a1_0 a1_1 l1_2 a2_0 a2_1 = some r) :
  Calls Try.prog 157 #[.agg #[.int .i64 a0_0, .int .i64 a0_1, .slice A0_2 l0_2.length c0_2], .agg #[.int .i64 a1_0, .int .i64 a1_1, .slice A1_2 l1_2.length c1_2], .agg #[.int .i64 a2_0, .int .i64 a2_1]] w fun e w' => e = .returned (.bool r) ∧ Below w.heap.size w w' := by
 have hu29 := Try.underlying29
 have hu37 := Try.underlying37
 have HR0_2 := Aside0.mk hr0_2
 have HC0_2 := Aside0.mk hc0_2
 clear hr0_2 hc0_2
 have HR1_2 := Aside0.mk hr1_2
 have HC1_2 := Aside0.mk hc1_2
 clear hr1_2 hc1_2
 have HB := aK (Below.refl w.heap.size w)
 have H : ((spec_l11Match.f k a0_0 a0_1 l0_2 a1_0 a1_1 l1_2 a2_0 a2_1).bind fun bt104 => (if bt104.2 > 0 then (some (decide ((wrap64 (2 * bt104.2)) ≥ (l0_2.length : Int)))) else (some false))) = some r := h
 clear h
 replace H := Option.bind_eq_some_iff.mp H
 obtain ⟨⟨t104, t105⟩, A40, H⟩ := H
 replace H : (if t105 > 0 then (some (decide ((wrap64 (2 * t105)) ≥ (l0_2.length : Int)))) else (some false)) = some r := H
 have A4 := Aside0.mk A40
 clear A40
 by_cases c5 : t105 > 0
 ·
  rw [if_pos c5] at H
  have c5b0 : decide (0 < t105) = true := decide_eq_true c5
  clear c5
  obtain rfl := Option.some.inj H
  go_enter Try.func157, Try.ntmps157
  go_wp2_with (first | ((with_reducible refine gate_dst (N := 3) rfl ?_); (try (refine gate_guard (by rfl) ?_; dsimp only)); refine bxe (cs := #[.int .i64 a0_0, .int .i64 a0_1, .slice A0_2 l0_2.length c0_2]) (t := 29) ?_; intro gb101 hg w6 hbox hb; have BK101 := aK (hbox); have GW101 := aK (gE hg (pS HB.out)); have GE101 := GW101; replace HB := bS HB hb; clear hb hbox hg) | ((with_reducible refine gate_dst (N := 4) rfl ?_); (try (refine gate_guard (by rfl) ?_; dsimp only)); refine bxe (cs := #[.int .i64 a1_0, .int .i64 a1_1, .slice A1_2 l1_2.length c1_2]) (t := 29) ?_; intro gb102 hg w7 hbox hb; have BK102 := aK (hbox); have GW102 := aK (gE hg (pS HB.out)); have GE102 := GW102; obtain ⟨NB101_102, NB102_101⟩ := nb hg (pB BK101.out); replace BK101 := bB BK101 hb; replace HB := bS HB hb; clear hb hbox hg) | ((with_reducible refine gate_dst (N := 5) rfl ?_); (try (refine gate_guard (by rfl) ?_; dsimp only)); refine bxe (cs := #[.int .i64 a2_0, .int .i64 a2_1]) (t := 37) ?_; intro gb103 hg w8 hbox hb; have BK103 := aK (hbox); have GW103 := aK (gE hg (pS HB.out)); have GE103 := GW103; obtain ⟨NB101_103, NB103_101⟩ := nb hg (pB BK101.out); obtain ⟨NB102_103, NB103_102⟩ := nb hg (pB BK102.out); replace BK101 := bB BK101 hb; replace BK102 := bB BK102 hb; replace HB := bS HB hb; clear hb hbox hg; have hnb9 := NB101_102.out; have hnc9 := NB102_101.out; have hnb10 := NB101_103.out; have hnc10 := NB103_101.out; obtain ⟨hcz11_0, hcz11_1, hcz11_2, hfz11_0, hfz11_1, hfz11_2⟩ := bc3 BK101.out; have hnb12 := NB102_103.out; have hnc12 := NB103_102.out; obtain ⟨hcz13_0, hcz13_1, hcz13_2, hfz13_0, hfz13_1, hfz13_2⟩ := bc3 BK102.out; obtain ⟨hcz14_0, hcz14_1, hfz14_0, hfz14_1⟩ := bc2 BK103.out) | ((with_reducible refine gate_callee (f := 102) rfl ?_); refine gl (some 13) Try.func102 #[.agg #[.int .i64 a0_0, .int .i64 a0_1, .slice A0_2 l0_2.length c0_2], .agg #[.int .i64 a1_0, .int .i64 a1_1, .slice A1_2 l1_2.length c1_2], .agg #[.int .i64 a2_0, .int .i64 a2_1]] ?_; (with_reducible refine (spec_l11Match.calls k a0_0 a0_1 _ _ l0_2 a1_0 a1_1 _ _ l1_2 a2_0 a2_1 t104 t105 _ ?side1 ?side2 ?side3 ?side4 A4.out).mono ?_); (case side1 => exact pC (Kd.C_below HR0_2.out HB.out)); (case side2 => exact HC0_2.out); (case side3 => exact pC (Kd.C_below HR1_2.out HB.out)); (case side4 => exact HC1_2.out); rintro e w15 ⟨rfl, hb⟩; refine ⟨_, rfl, ?_⟩; replace BK101 := bB BK101 hb; replace BK102 := bB BK102 hb; replace BK103 := bB BK103 hb; replace HB := bS HB hb; (try clear hb); (try clear hb2); (try clear hk); (try clear hi); obtain ⟨hcz16_0, hcz16_1, hcz16_2, hfz16_0, hfz16_1, hfz16_2⟩ := bc3 BK101.out))
  go_ret
  exact ⟨er, pT HB.out⟩
 rw [if_neg c5] at H
 have c5b0 : decide (0 < t105) = false := decide_eq_false c5
 clear c5
 obtain rfl := Option.some.inj H
 go_enter Try.func157, Try.ntmps157
 go_wp2_with (first | ((with_reducible refine gate_dst (N := 3) rfl ?_); (try (refine gate_guard (by rfl) ?_; dsimp only)); refine bxe (cs := #[.int .i64 a0_0, .int .i64 a0_1, .slice A0_2 l0_2.length c0_2]) (t := 29) ?_; intro gb101 hg w17 hbox hb; have BK101 := aK (hbox); have GW101 := aK (gE hg (pS HB.out)); have GE101 := GW101; replace HB := bS HB hb; clear hb hbox hg) | ((with_reducible refine gate_dst (N := 4) rfl ?_); (try (refine gate_guard (by rfl) ?_; dsimp only)); refine bxe (cs := #[.int .i64 a1_0, .int .i64 a1_1, .slice A1_2 l1_2.length c1_2]) (t := 29) ?_; intro gb102 hg w18 hbox hb; have BK102 := aK (hbox); have GW102 := aK (gE hg (pS HB.out)); have GE102 := GW102; obtain ⟨NB101_102, NB102_101⟩ := nb hg (pB BK101.out); replace BK101 := bB BK101 hb; replace HB := bS HB hb; clear hb hbox hg) | ((with_reducible refine gate_dst (N := 5) rfl ?_); (try (refine gate_guard (by rfl) ?_; dsimp only)); refine bxe (cs := #[.int .i64 a2_0, .int .i64 a2_1]) (t := 37) ?_; intro gb103 hg w19 hbox hb; have BK103 := aK (hbox); have GW103 := aK (gE hg (pS HB.out)); have GE103 := GW103; obtain ⟨NB101_103, NB103_101⟩ := nb hg (pB BK101.out); obtain ⟨NB102_103, NB103_102⟩ := nb hg (pB BK102.out); replace BK101 := bB BK101 hb; replace BK102 := bB BK102 hb; replace HB := bS HB hb; clear hb hbox hg; have hnb20 := NB101_102.out; have hnc20 := NB102_101.out; have hnb21 := NB101_103.out; have hnc21 := NB103_101.out; obtain ⟨hcz22_0, hcz22_1, hcz22_2, hfz22_0, hfz22_1, hfz22_2⟩ := bc3 BK101.out; have hnb23 := NB102_103.out; have hnc23 := NB103_102.out; obtain ⟨hcz24_0, hcz24_1, hcz24_2, hfz24_0, hfz24_1, hfz24_2⟩ := bc3 BK102.out; obtain ⟨hcz25_0, hcz25_1, hfz25_0, hfz25_1⟩ := bc2 BK103.out) | ((with_reducible refine gate_callee (f := 102) rfl ?_); refine gl (some 13) Try.func102 #[.agg #[.int .i64 a0_0, .int .i64 a0_1, .slice A0_2 l0_2.length c0_2], .agg #[.int .i64 a1_0, .int .i64 a1_1, .slice A1_2 l1_2.length c1_2], .agg #[.int .i64 a2_0, .int .i64 a2_1]] ?_; (with_reducible refine (spec_l11Match.calls k a0_0 a0_1 _ _ l0_2 a1_0 a1_1 _ _ l1_2 a2_0 a2_1 t104 t105 _ ?side1 ?side2 ?side3 ?side4 A4.out).mono ?_); (case side1 => exact pC (Kd.C_below HR0_2.out HB.out)); (case side2 => exact HC0_2.out); (case side3 => exact pC (Kd.C_below HR1_2.out HB.out)); (case side4 => exact HC1_2.out); rintro e w26 ⟨rfl, hb⟩; refine ⟨_, rfl, ?_⟩; replace BK101 := bB BK101 hb; replace BK102 := bB BK102 hb; replace BK103 := bB BK103 hb; replace HB := bS HB hb; (try clear hb); (try clear hb2); (try clear hk); (try clear hi)))
 go_ret
 exact ⟨er, pT HB.out⟩
def spec_l11Better.f (k : Nat) (a0_0 : Int) (a0_1 : Int) (l0_2 : List Int) (a1_0 : Int) (a1_1 : Int) (l1_2 : List Int) (a2_0 : Int) (a2_1 : Int) (a3_0 : Int) (a3_1 : Int) : Option (Bool) := (spec_l11Match.f k a0_0 a0_1 l0_2 a1_0 a1_1 l1_2 a2_0 a2_1).bind fun bt105 => ((spec_l11Match.f k a0_0 a0_1 l0_2 a1_0 a1_1 l1_2 a3_0 a3_1).bind fun bt107 => (if (wrap64 (bt105.1 * bt107.2)) = (wrap64 (bt107.1 * bt105.2)) then ((spec_l11Abs.f a2_0).bind fun t109 => ((spec_l11Abs.f a2_1).bind fun t110 => ((spec_l11Abs.f a3_0).bind fun t111 => ((spec_l11Abs.f a3_1).bind fun t112 => (if (wrap64 (t109 + t110)) = (wrap64 (t111 + t112)) then (if a2_1 < a3_1 then (some true) else (if a2_1 = a3_1 then (some (decide (a2_0 < a3_0))) else (some false))) else (some (decide ((wrap64 (t109 + t110)) < (wrap64 (t111 + t112)))))))))) else (some (decide ((wrap64 (bt105.1 * bt107.2)) < (wrap64 (bt107.1 * bt105.2)))))))
theorem spec_l11Better.calls (k : Nat) (a0_0 : Int) (a0_1 : Int) (A0_2 : Option Addr) (c0_2 : Nat) (l0_2 : List Int) (a1_0 : Int) (a1_1 : Int) (A1_2 : Option Addr) (c1_2 : Nat) (l1_2 : List Int) (a2_0 : Int) (a2_1 : Int) (a3_0 : Int) (a3_1 : Int) (r : Bool) (w : World) (hr0_2 : Kd.C (Kd.int .i64) w A0_2 l0_2.length l0_2) (hc0_2 : l0_2.length ≤ c0_2) (hr1_2 : Kd.C (Kd.int .i64) w A1_2 l1_2.length l1_2) (hc1_2 : l1_2.length ≤ c1_2) (h : spec_l11Better.f k a0_0 a0_1 l0_2 a1_0 a1_1 l1_2 a2_0 a2_1 a3_0 a3_1 = some r) :
  Calls Try.prog 158 #[.agg #[.int .i64 a0_0, .int .i64 a0_1, .slice A0_2 l0_2.length c0_2], .agg #[.int .i64 a1_0, .int .i64 a1_1, .slice A1_2 l1_2.length c1_2], .agg #[.int .i64 a2_0, .int .i64 a2_1], .agg #[.int .i64 a3_0, .int .i64 a3_1]] w fun e w' => e = .returned (.bool r) ∧ Below w.heap.size w w' := by
 have hu29 := Try.underlying29
 have hu37 := Try.underlying37
 have HR0_2 := Aside0.mk hr0_2
 have HC0_2 := Aside0.mk hc0_2
 clear hr0_2 hc0_2
 have HR1_2 := Aside0.mk hr1_2
 have HC1_2 := Aside0.mk hc1_2
 clear hr1_2 hc1_2
 have HB := aK (Below.refl w.heap.size w)
 have H : ((spec_l11Match.f k a0_0 a0_1 l0_2 a1_0 a1_1 l1_2 a2_0 a2_1).bind fun bt105 => ((spec_l11Match.f k a0_0 a0_1 l0_2 a1_0 a1_1 l1_2 a3_0 a3_1).bind fun bt107 => (if (wrap64 (bt105.1 * bt107.2)) = (wrap64 (bt107.1 * bt105.2)) then ((spec_l11Abs.f a2_0).bind fun t109 => ((spec_l11Abs.f a2_1).bind fun t110 => ((spec_l11Abs.f a3_0).bind fun t111 => ((spec_l11Abs.f a3_1).bind fun t112 => (if (wrap64 (t109 + t110)) = (wrap64 (t111 + t112)) then (if a2_1 < a3_1 then (some true) else (if a2_1 = a3_1 then (some (decide (a2_0 < a3_0))) else (some false))) else (some (decide ((wrap64 (t109 + t110)) < (wrap64 (t111 + t112)))))))))) else (some (decide ((wrap64 (bt105.1 * bt107.2)) < (wrap64 (bt107.1 * bt105.2)))))))) = some r := h
 clear h
 replace H := Option.bind_eq_some_iff.mp H
 obtain ⟨⟨t105, t106⟩, A50, H⟩ := H
 replace H : ((spec_l11Match.f k a0_0 a0_1 l0_2 a1_0 a1_1 l1_2 a3_0 a3_1).bind fun bt107 => (if (wrap64 (t105 * bt107.2)) = (wrap64 (bt107.1 * t106)) then ((spec_l11Abs.f a2_0).bind fun t109 => ((spec_l11Abs.f a2_1).bind fun t110 => ((spec_l11Abs.f a3_0).bind fun t111 => ((spec_l11Abs.f a3_1).bind fun t112 => (if (wrap64 (t109 + t110)) = (wrap64 (t111 + t112)) then (if a2_1 < a3_1 then (some true) else (if a2_1 = a3_1 then (some (decide (a2_0 < a3_0))) else (some false))) else (some (decide ((wrap64 (t109 + t110)) < (wrap64 (t111 + t112)))))))))) else (some (decide ((wrap64 (t105 * bt107.2)) < (wrap64 (bt107.1 * t106))))))) = some r := H
 have A5 := Aside0.mk A50
 clear A50
 replace H := Option.bind_eq_some_iff.mp H
 obtain ⟨⟨t107, t108⟩, A60, H⟩ := H
 replace H : (if (wrap64 (t105 * t108)) = (wrap64 (t107 * t106)) then ((spec_l11Abs.f a2_0).bind fun t109 => ((spec_l11Abs.f a2_1).bind fun t110 => ((spec_l11Abs.f a3_0).bind fun t111 => ((spec_l11Abs.f a3_1).bind fun t112 => (if (wrap64 (t109 + t110)) = (wrap64 (t111 + t112)) then (if a2_1 < a3_1 then (some true) else (if a2_1 = a3_1 then (some (decide (a2_0 < a3_0))) else (some false))) else (some (decide ((wrap64 (t109 + t110)) < (wrap64 (t111 + t112)))))))))) else (some (decide ((wrap64 (t105 * t108)) < (wrap64 (t107 * t106)))))) = some r := H
 have A6 := Aside0.mk A60
 clear A60
 by_cases c7 : (wrap64 (t105 * t108)) = (wrap64 (t107 * t106))
 ·
  rw [if_pos c7] at H
  have c7b0 : ((wrap64 (t105 * t108)) == (wrap64 (t107 * t106))) = true := beq_iff_eq.mpr c7
  have c7b1 : ((wrap64 (t105 * t108)) != (wrap64 (t107 * t106))) = false := bne_eq_false_iff_eq.mpr c7
  clear c7
  replace H := Option.bind_eq_some_iff.mp H
  obtain ⟨t109, A80, H⟩ := H
  replace H : ((spec_l11Abs.f a2_1).bind fun t110 => ((spec_l11Abs.f a3_0).bind fun t111 => ((spec_l11Abs.f a3_1).bind fun t112 => (if (wrap64 (t109 + t110)) = (wrap64 (t111 + t112)) then (if a2_1 < a3_1 then (some true) else (if a2_1 = a3_1 then (some (decide (a2_0 < a3_0))) else (some false))) else (some (decide ((wrap64 (t109 + t110)) < (wrap64 (t111 + t112))))))))) = some r := H
  have A8 := Aside0.mk A80
  clear A80
  replace H := Option.bind_eq_some_iff.mp H
  obtain ⟨t110, A90, H⟩ := H
  replace H : ((spec_l11Abs.f a3_0).bind fun t111 => ((spec_l11Abs.f a3_1).bind fun t112 => (if (wrap64 (t109 + t110)) = (wrap64 (t111 + t112)) then (if a2_1 < a3_1 then (some true) else (if a2_1 = a3_1 then (some (decide (a2_0 < a3_0))) else (some false))) else (some (decide ((wrap64 (t109 + t110)) < (wrap64 (t111 + t112)))))))) = some r := H
  have A9 := Aside0.mk A90
  clear A90
  replace H := Option.bind_eq_some_iff.mp H
  obtain ⟨t111, A100, H⟩ := H
  replace H : ((spec_l11Abs.f a3_1).bind fun t112 => (if (wrap64 (t109 + t110)) = (wrap64 (t111 + t112)) then (if a2_1 < a3_1 then (some true) else (if a2_1 = a3_1 then (some (decide (a2_0 < a3_0))) else (some false))) else (some (decide ((wrap64 (t109 + t110)) < (wrap64 (t111 + t112))))))) = some r := H
  have A10 := Aside0.mk A100
  clear A100
  replace H := Option.bind_eq_some_iff.mp H
  obtain ⟨t112, A110, H⟩ := H
  replace H : (if (wrap64 (t109 + t110)) = (wrap64 (t111 + t112)) then (if a2_1 < a3_1 then (some true) else (if a2_1 = a3_1 then (some (decide (a2_0 < a3_0))) else (some false))) else (some (decide ((wrap64 (t109 + t110)) < (wrap64 (t111 + t112)))))) = some r := H
  have A11 := Aside0.mk A110
  clear A110
  by_cases c12 : (wrap64 (t109 + t110)) = (wrap64 (t111 + t112))
  ·
   rw [if_pos c12] at H
   have c12b0 : ((wrap64 (t109 + t110)) == (wrap64 (t111 + t112))) = true := beq_iff_eq.mpr c12
   have c12b1 : ((wrap64 (t109 + t110)) != (wrap64 (t111 + t112))) = false := bne_eq_false_iff_eq.mpr c12
   clear c12
   by_cases c13 : a2_1 < a3_1
   ·
    rw [if_pos c13] at H
    have c13b0 : decide (a2_1 < a3_1) = true := decide_eq_true c13
    clear c13
    obtain rfl := Option.some.inj H
    go_enter Try.func158, Try.ntmps158
    go_wp2_with (first | ((with_reducible refine gate_dst (N := 4) rfl ?_); refine bxe (cs := #[.int .i64 a0_0, .int .i64 a0_1, .slice A0_2 l0_2.length c0_2]) (t := 29) ?_; intro gb101 hg w14 hbox hb; have BK101 := aK (hbox); have GW101 := aK (gE hg (pS HB.out)); have GE101 := GW101; replace HB := bS HB hb; clear hb hbox hg) | ((with_reducible refine gate_dst (N := 5) rfl ?_); refine bxe (cs := #[.int .i64 a1_0, .int .i64 a1_1, .slice A1_2 l1_2.length c1_2]) (t := 29) ?_; intro gb102 hg w15 hbox hb; have BK102 := aK (hbox); have GW102 := aK (gE hg (pS HB.out)); have GE102 := GW102; obtain ⟨NB101_102, NB102_101⟩ := nb hg (pB BK101.out); replace BK101 := bB BK101 hb; replace HB := bS HB hb; clear hb hbox hg) | ((with_reducible refine gate_dst (N := 6) rfl ?_); refine bxe (cs := #[.int .i64 a2_0, .int .i64 a2_1]) (t := 37) ?_; intro gb103 hg w16 hbox hb; have BK103 := aK (hbox); have GW103 := aK (gE hg (pS HB.out)); have GE103 := GW103; obtain ⟨NB101_103, NB103_101⟩ := nb hg (pB BK101.out); obtain ⟨NB102_103, NB103_102⟩ := nb hg (pB BK102.out); replace BK101 := bB BK101 hb; replace BK102 := bB BK102 hb; replace HB := bS HB hb; clear hb hbox hg) | ((with_reducible refine gate_dst (N := 7) rfl ?_); refine bxe (cs := #[.int .i64 a3_0, .int .i64 a3_1]) (t := 37) ?_; intro gb104 hg w17 hbox hb; have BK104 := aK (hbox); have GW104 := aK (gE hg (pS HB.out)); have GE104 := GW104; obtain ⟨NB101_104, NB104_101⟩ := nb hg (pB BK101.out); obtain ⟨NB102_104, NB104_102⟩ := nb hg (pB BK102.out); obtain ⟨NB103_104, NB104_103⟩ := nb hg (pB BK103.out); replace BK101 := bB BK101 hb; replace BK102 := bB BK102 hb; replace BK103 := bB BK103 hb; replace HB := bS HB hb; clear hb hbox hg; have hnb18 := NB101_102.out; have hnc18 := NB102_101.out; have hnb19 := NB101_103.out; have hnc19 := NB103_101.out; have hnb20 := NB101_104.out; have hnc20 := NB104_101.out; obtain ⟨hcz21_0, hcz21_1, hcz21_2, hfz21_0, hfz21_1, hfz21_2⟩ := bc3 BK101.out; have hnb22 := NB102_103.out; have hnc22 := NB103_102.out; have hnb23 := NB102_104.out; have hnc23 := NB104_102.out; obtain ⟨hcz24_0, hcz24_1, hcz24_2, hfz24_0, hfz24_1, hfz24_2⟩ := bc3 BK102.out; have hnb25 := NB103_104.out; have hnc25 := NB104_103.out; obtain ⟨hcz26_0, hcz26_1, hfz26_0, hfz26_1⟩ := bc2 BK103.out) | (go_at_call 102; (with_reducible refine (spec_l11Match.calls k a0_0 a0_1 _ _ l0_2 a1_0 a1_1 _ _ l1_2 a2_0 a2_1 t105 t106 _ ?side1 ?side2 ?side3 ?side4 A5.out).mono ?_); (case side1 => exact pC (Kd.C_below HR0_2.out HB.out)); (case side2 => exact HC0_2.out); (case side3 => exact pC (Kd.C_below HR1_2.out HB.out)); (case side4 => exact HC1_2.out); rintro e w27 ⟨rfl, hb⟩; replace BK101 := bB BK101 hb; replace BK102 := bB BK102 hb; replace BK103 := bB BK103 hb; replace BK104 := bB BK104 hb; replace HB := bS HB hb; (try clear hb); (try clear hb2); (try clear hk); (try clear hi); obtain ⟨hcz28_0, hcz28_1, hcz28_2, hfz28_0, hfz28_1, hfz28_2⟩ := bc3 BK101.out; obtain ⟨hcz29_0, hcz29_1, hcz29_2, hfz29_0, hfz29_1, hfz29_2⟩ := bc3 BK102.out; obtain ⟨hcz30_0, hcz30_1, hfz30_0, hfz30_1⟩ := bc2 BK104.out) | (go_at_call 102; (with_reducible refine (spec_l11Match.calls k a0_0 a0_1 _ _ l0_2 a1_0 a1_1 _ _ l1_2 a3_0 a3_1 t107 t108 _ ?side1 ?side2 ?side3 ?side4 A6.out).mono ?_); (case side1 => exact pC (Kd.C_below HR0_2.out HB.out)); (case side2 => exact HC0_2.out); (case side3 => exact pC (Kd.C_below HR1_2.out HB.out)); (case side4 => exact HC1_2.out); rintro e w31 ⟨rfl, hb⟩; replace BK101 := bB BK101 hb; replace BK102 := bB BK102 hb; replace BK103 := bB BK103 hb; replace BK104 := bB BK104 hb; replace HB := bS HB hb; (try clear hb); (try clear hb2); (try clear hk); (try clear hi); obtain ⟨hcz32_0, hcz32_1, hfz32_0, hfz32_1⟩ := bc2 BK103.out) | (go_at_call 167; (with_reducible refine (spec_l11Abs.calls a2_0 t109 _ A8.out).mono ?_); rintro e w' ⟨rfl, ⟨nd, rfl⟩⟩; (try first | exact ⟨rfl, _, World.drewN_drewN _ _ _⟩ | exact ⟨rfl, _, Eq.trans (World.drewN_drewN _ _ _) (congrArg (World.drewN _) (Nat.add_assoc _ _ _))⟩)) | (go_at_call 167; (with_reducible refine (spec_l11Abs.calls a2_1 t110 _ A9.out).mono ?_); rintro e w' ⟨rfl, ⟨nd, rfl⟩⟩; (try first | exact ⟨rfl, _, World.drewN_drewN _ _ _⟩ | exact ⟨rfl, _, Eq.trans (World.drewN_drewN _ _ _) (congrArg (World.drewN _) (Nat.add_assoc _ _ _))⟩); obtain ⟨hcz33_0, hcz33_1, hfz33_0, hfz33_1⟩ := bc2 BK104.out) | (go_at_call 167; (with_reducible refine (spec_l11Abs.calls a3_0 t111 _ A10.out).mono ?_); rintro e w' ⟨rfl, ⟨nd, rfl⟩⟩; (try first | exact ⟨rfl, _, World.drewN_drewN _ _ _⟩ | exact ⟨rfl, _, Eq.trans (World.drewN_drewN _ _ _) (congrArg (World.drewN _) (Nat.add_assoc _ _ _))⟩)) | (go_at_call 167; (with_reducible refine (spec_l11Abs.calls a3_1 t112 _ A11.out).mono ?_); rintro e w' ⟨rfl, ⟨nd, rfl⟩⟩; (try first | exact ⟨rfl, _, World.drewN_drewN _ _ _⟩ | exact ⟨rfl, _, Eq.trans (World.drewN_drewN _ _ _) (congrArg (World.drewN _) (Nat.add_assoc _ _ _))⟩)))
    repeat (go_quiet (first | ((with_reducible refine gate_dst (N := 4) rfl ?_); refine bxe (cs := #[.int .i64 a0_0, .int .i64 a0_1, .slice A0_2 l0_2.length c0_2]) (t := 29) ?_; intro gb101 hg w14 hbox hb; have BK101 := aK (hbox); have GW101 := aK (gE hg (pS HB.out)); have GE101 := GW101; replace HB := bS HB hb; clear hb hbox hg) | ((with_reducible refine gate_dst (N := 5) rfl ?_); refine bxe (cs := #[.int .i64 a1_0, .int .i64 a1_1, .slice A1_2 l1_2.length c1_2]) (t := 29) ?_; intro gb102 hg w15 hbox hb; have BK102 := aK (hbox); have GW102 := aK (gE hg (pS HB.out)); have GE102 := GW102; obtain ⟨NB101_102, NB102_101⟩ := nb hg (pB BK101.out); replace BK101 := bB BK101 hb; replace HB := bS HB hb; clear hb hbox hg) | ((with_reducible refine gate_dst (N := 6) rfl ?_); refine bxe (cs := #[.int .i64 a2_0, .int .i64 a2_1]) (t := 37) ?_; intro gb103 hg w16 hbox hb; have BK103 := aK (hbox); have GW103 := aK (gE hg (pS HB.out)); have GE103 := GW103; obtain ⟨NB101_103, NB103_101⟩ := nb hg (pB BK101.out); obtain ⟨NB102_103, NB103_102⟩ := nb hg (pB BK102.out); replace BK101 := bB BK101 hb; replace BK102 := bB BK102 hb; replace HB := bS HB hb; clear hb hbox hg) | ((with_reducible refine gate_dst (N := 7) rfl ?_); refine bxe (cs := #[.int .i64 a3_0, .int .i64 a3_1]) (t := 37) ?_; intro gb104 hg w17 hbox hb; have BK104 := aK (hbox); have GW104 := aK (gE hg (pS HB.out)); have GE104 := GW104; obtain ⟨NB101_104, NB104_101⟩ := nb hg (pB BK101.out); obtain ⟨NB102_104, NB104_102⟩ := nb hg (pB BK102.out); obtain ⟨NB103_104, NB104_103⟩ := nb hg (pB BK103.out); replace BK101 := bB BK101 hb; replace BK102 := bB BK102 hb; replace BK103 := bB BK103 hb; replace HB := bS HB hb; clear hb hbox hg; have hnb18 := NB101_102.out; have hnc18 := NB102_101.out; have hnb19 := NB101_103.out; have hnc19 := NB103_101.out; have hnb20 := NB101_104.out; have hnc20 := NB104_101.out; obtain ⟨hcz21_0, hcz21_1, hcz21_2, hfz21_0, hfz21_1, hfz21_2⟩ := bc3 BK101.out; have hnb22 := NB102_103.out; have hnc22 := NB103_102.out; have hnb23 := NB102_104.out; have hnc23 := NB104_102.out; obtain ⟨hcz24_0, hcz24_1, hcz24_2, hfz24_0, hfz24_1, hfz24_2⟩ := bc3 BK102.out; have hnb25 := NB103_104.out; have hnc25 := NB104_103.out; obtain ⟨hcz26_0, hcz26_1, hfz26_0, hfz26_1⟩ := bc2 BK103.out) | (go_at_call 102; (with_reducible refine (spec_l11Match.calls k a0_0 a0_1 _ _ l0_2 a1_0 a1_1 _ _ l1_2 a2_0 a2_1 t105 t106 _ ?side1 ?side2 ?side3 ?side4 A5.out).mono ?_); (case side1 => exact pC (Kd.C_below HR0_2.out HB.out)); (case side2 => exact HC0_2.out); (case side3 => exact pC (Kd.C_below HR1_2.out HB.out)); (case side4 => exact HC1_2.out); rintro e w27 ⟨rfl, hb⟩; replace BK101 := bB BK101 hb; replace BK102 := bB BK102 hb; replace BK103 := bB BK103 hb; replace BK104 := bB BK104 hb; replace HB := bS HB hb; (try clear hb); (try clear hb2); (try clear hk); (try clear hi); obtain ⟨hcz28_0, hcz28_1, hcz28_2, hfz28_0, hfz28_1, hfz28_2⟩ := bc3 BK101.out; obtain ⟨hcz29_0, hcz29_1, hcz29_2, hfz29_0, hfz29_1, hfz29_2⟩ := bc3 BK102.out; obtain ⟨hcz30_0, hcz30_1, hfz30_0, hfz30_1⟩ := bc2 BK104.out) | (go_at_call 102; (with_reducible refine (spec_l11Match.calls k a0_0 a0_1 _ _ l0_2 a1_0 a1_1 _ _ l1_2 a3_0 a3_1 t107 t108 _ ?side1 ?side2 ?side3 ?side4 A6.out).mono ?_); (case side1 => exact pC (Kd.C_below HR0_2.out HB.out)); (case side2 => exact HC0_2.out); (case side3 => exact pC (Kd.C_below HR1_2.out HB.out)); (case side4 => exact HC1_2.out); rintro e w31 ⟨rfl, hb⟩; replace BK101 := bB BK101 hb; replace BK102 := bB BK102 hb; replace BK103 := bB BK103 hb; replace BK104 := bB BK104 hb; replace HB := bS HB hb; (try clear hb); (try clear hb2); (try clear hk); (try clear hi); obtain ⟨hcz32_0, hcz32_1, hfz32_0, hfz32_1⟩ := bc2 BK103.out) | (go_at_call 167; (with_reducible refine (spec_l11Abs.calls a2_0 t109 _ A8.out).mono ?_); rintro e w' ⟨rfl, ⟨nd, rfl⟩⟩; (try first | exact ⟨rfl, _, World.drewN_drewN _ _ _⟩ | exact ⟨rfl, _, Eq.trans (World.drewN_drewN _ _ _) (congrArg (World.drewN _) (Nat.add_assoc _ _ _))⟩)) | (go_at_call 167; (with_reducible refine (spec_l11Abs.calls a2_1 t110 _ A9.out).mono ?_); rintro e w' ⟨rfl, ⟨nd, rfl⟩⟩; (try first | exact ⟨rfl, _, World.drewN_drewN _ _ _⟩ | exact ⟨rfl, _, Eq.trans (World.drewN_drewN _ _ _) (congrArg (World.drewN _) (Nat.add_assoc _ _ _))⟩); obtain ⟨hcz33_0, hcz33_1, hfz33_0, hfz33_1⟩ := bc2 BK104.out) | (go_at_call 167; (with_reducible refine (spec_l11Abs.calls a3_0 t111 _ A10.out).mono ?_); rintro e w' ⟨rfl, ⟨nd, rfl⟩⟩; (try first | exact ⟨rfl, _, World.drewN_drewN _ _ _⟩ | exact ⟨rfl, _, Eq.trans (World.drewN_drewN _ _ _) (congrArg (World.drewN _) (Nat.add_assoc _ _ _))⟩)) | (go_at_call 167; (with_reducible refine (spec_l11Abs.calls a3_1 t112 _ A11.out).mono ?_); rintro e w' ⟨rfl, ⟨nd, rfl⟩⟩; (try first | exact ⟨rfl, _, World.drewN_drewN _ _ _⟩ | exact ⟨rfl, _, Eq.trans (World.drewN_drewN _ _ _) (congrArg (World.drewN _) (Nat.add_assoc _ _ _))⟩))); try go_wp2_with (first | ((with_reducible refine gate_dst (N := 4) rfl ?_); refine bxe (cs := #[.int .i64 a0_0, .int .i64 a0_1, .slice A0_2 l0_2.length c0_2]) (t := 29) ?_; intro gb101 hg w14 hbox hb; have BK101 := aK (hbox); have GW101 := aK (gE hg (pS HB.out)); have GE101 := GW101; replace HB := bS HB hb; clear hb hbox hg) | ((with_reducible refine gate_dst (N := 5) rfl ?_); refine bxe (cs := #[.int .i64 a1_0, .int .i64 a1_1, .slice A1_2 l1_2.length c1_2]) (t := 29) ?_; intro gb102 hg w15 hbox hb; have BK102 := aK (hbox); have GW102 := aK (gE hg (pS HB.out)); have GE102 := GW102; obtain ⟨NB101_102, NB102_101⟩ := nb hg (pB BK101.out); replace BK101 := bB BK101 hb; replace HB := bS HB hb; clear hb hbox hg) | ((with_reducible refine gate_dst (N := 6) rfl ?_); refine bxe (cs := #[.int .i64 a2_0, .int .i64 a2_1]) (t := 37) ?_; intro gb103 hg w16 hbox hb; have BK103 := aK (hbox); have GW103 := aK (gE hg (pS HB.out)); have GE103 := GW103; obtain ⟨NB101_103, NB103_101⟩ := nb hg (pB BK101.out); obtain ⟨NB102_103, NB103_102⟩ := nb hg (pB BK102.out); replace BK101 := bB BK101 hb; replace BK102 := bB BK102 hb; replace HB := bS HB hb; clear hb hbox hg) | ((with_reducible refine gate_dst (N := 7) rfl ?_); refine bxe (cs := #[.int .i64 a3_0, .int .i64 a3_1]) (t := 37) ?_; intro gb104 hg w17 hbox hb; have BK104 := aK (hbox); have GW104 := aK (gE hg (pS HB.out)); have GE104 := GW104; obtain ⟨NB101_104, NB104_101⟩ := nb hg (pB BK101.out); obtain ⟨NB102_104, NB104_102⟩ := nb hg (pB BK102.out); obtain ⟨NB103_104, NB104_103⟩ := nb hg (pB BK103.out); replace BK101 := bB BK101 hb; replace BK102 := bB BK102 hb; replace BK103 := bB BK103 hb; replace HB := bS HB hb; clear hb hbox hg; have hnb18 := NB101_102.out; have hnc18 := NB102_101.out; have hnb19 := NB101_103.out; have hnc19 := NB103_101.out; have hnb20 := NB101_104.out; have hnc20 := NB104_101.out; obtain ⟨hcz21_0, hcz21_1, hcz21_2, hfz21_0, hfz21_1, hfz21_2⟩ := bc3 BK101.out; have hnb22 := NB102_103.out; have hnc22 := NB103_102.out; have hnb23 := NB102_104.out; have hnc23 := NB104_102.out; obtain ⟨hcz24_0, hcz24_1, hcz24_2, hfz24_0, hfz24_1, hfz24_2⟩ := bc3 BK102.out; have hnb25 := NB103_104.out; have hnc25 := NB104_103.out; obtain ⟨hcz26_0, hcz26_1, hfz26_0, hfz26_1⟩ := bc2 BK103.out) | (go_at_call 102; (with_reducible refine (spec_l11Match.calls k a0_0 a0_1 _ _ l0_2 a1_0 a1_1 _ _ l1_2 a2_0 a2_1 t105 t106 _ ?side1 ?side2 ?side3 ?side4 A5.out).mono ?_); (case side1 => exact pC (Kd.C_below HR0_2.out HB.out)); (case side2 => exact HC0_2.out); (case side3 => exact pC (Kd.C_below HR1_2.out HB.out)); (case side4 => exact HC1_2.out); rintro e w27 ⟨rfl, hb⟩; replace BK101 := bB BK101 hb; replace BK102 := bB BK102 hb; replace BK103 := bB BK103 hb; replace BK104 := bB BK104 hb; replace HB := bS HB hb; (try clear hb); (try clear hb2); (try clear hk); (try clear hi); obtain ⟨hcz28_0, hcz28_1, hcz28_2, hfz28_0, hfz28_1, hfz28_2⟩ := bc3 BK101.out; obtain ⟨hcz29_0, hcz29_1, hcz29_2, hfz29_0, hfz29_1, hfz29_2⟩ := bc3 BK102.out; obtain ⟨hcz30_0, hcz30_1, hfz30_0, hfz30_1⟩ := bc2 BK104.out) | (go_at_call 102; (with_reducible refine (spec_l11Match.calls k a0_0 a0_1 _ _ l0_2 a1_0 a1_1 _ _ l1_2 a3_0 a3_1 t107 t108 _ ?side1 ?side2 ?side3 ?side4 A6.out).mono ?_); (case side1 => exact pC (Kd.C_below HR0_2.out HB.out)); (case side2 => exact HC0_2.out); (case side3 => exact pC (Kd.C_below HR1_2.out HB.out)); (case side4 => exact HC1_2.out); rintro e w31 ⟨rfl, hb⟩; replace BK101 := bB BK101 hb; replace BK102 := bB BK102 hb; replace BK103 := bB BK103 hb; replace BK104 := bB BK104 hb; replace HB := bS HB hb; (try clear hb); (try clear hb2); (try clear hk); (try clear hi); obtain ⟨hcz32_0, hcz32_1, hfz32_0, hfz32_1⟩ := bc2 BK103.out) | (go_at_call 167; (with_reducible refine (spec_l11Abs.calls a2_0 t109 _ A8.out).mono ?_); rintro e w' ⟨rfl, ⟨nd, rfl⟩⟩; (try first | exact ⟨rfl, _, World.drewN_drewN _ _ _⟩ | exact ⟨rfl, _, Eq.trans (World.drewN_drewN _ _ _) (congrArg (World.drewN _) (Nat.add_assoc _ _ _))⟩)) | (go_at_call 167; (with_reducible refine (spec_l11Abs.calls a2_1 t110 _ A9.out).mono ?_); rintro e w' ⟨rfl, ⟨nd, rfl⟩⟩; (try first | exact ⟨rfl, _, World.drewN_drewN _ _ _⟩ | exact ⟨rfl, _, Eq.trans (World.drewN_drewN _ _ _) (congrArg (World.drewN _) (Nat.add_assoc _ _ _))⟩); obtain ⟨hcz33_0, hcz33_1, hfz33_0, hfz33_1⟩ := bc2 BK104.out) | (go_at_call 167; (with_reducible refine (spec_l11Abs.calls a3_0 t111 _ A10.out).mono ?_); rintro e w' ⟨rfl, ⟨nd, rfl⟩⟩; (try first | exact ⟨rfl, _, World.drewN_drewN _ _ _⟩ | exact ⟨rfl, _, Eq.trans (World.drewN_drewN _ _ _) (congrArg (World.drewN _) (Nat.add_assoc _ _ _))⟩)) | (go_at_call 167; (with_reducible refine (spec_l11Abs.calls a3_1 t112 _ A11.out).mono ?_); rintro e w' ⟨rfl, ⟨nd, rfl⟩⟩; (try first | exact ⟨rfl, _, World.drewN_drewN _ _ _⟩ | exact ⟨rfl, _, Eq.trans (World.drewN_drewN _ _ _) (congrArg (World.drewN _) (Nat.add_assoc _ _ _))⟩))))
    go_ret
    exact ⟨er, pT HB.out⟩
   rw [if_neg c13] at H
   have c13b0 : decide (a2_1 < a3_1) = false := decide_eq_false c13
   clear c13
   by_cases c34 : a2_1 = a3_1
   ·
    rw [if_pos c34] at H
    have c34b0 : (a2_1 == a3_1) = true := beq_iff_eq.mpr c34
    have c34b1 : (a2_1 != a3_1) = false := bne_eq_false_iff_eq.mpr c34
    clear c34
    obtain rfl := Option.some.inj H
    go_enter Try.func158, Try.ntmps158
    go_wp2_with (first | ((with_reducible refine gate_dst (N := 4) rfl ?_); refine bxe (cs := #[.int .i64 a0_0, .int .i64 a0_1, .slice A0_2 l0_2.length c0_2]) (t := 29) ?_; intro gb101 hg w35 hbox hb; have BK101 := aK (hbox); have GW101 := aK (gE hg (pS HB.out)); have GE101 := GW101; replace HB := bS HB hb; clear hb hbox hg) | ((with_reducible refine gate_dst (N := 5) rfl ?_); refine bxe (cs := #[.int .i64 a1_0, .int .i64 a1_1, .slice A1_2 l1_2.length c1_2]) (t := 29) ?_; intro gb102 hg w36 hbox hb; have BK102 := aK (hbox); have GW102 := aK (gE hg (pS HB.out)); have GE102 := GW102; obtain ⟨NB101_102, NB102_101⟩ := nb hg (pB BK101.out); replace BK101 := bB BK101 hb; replace HB := bS HB hb; clear hb hbox hg) | ((with_reducible refine gate_dst (N := 6) rfl ?_); refine bxe (cs := #[.int .i64 a2_0, .int .i64 a2_1]) (t := 37) ?_; intro gb103 hg w37 hbox hb; have BK103 := aK (hbox); have GW103 := aK (gE hg (pS HB.out)); have GE103 := GW103; obtain ⟨NB101_103, NB103_101⟩ := nb hg (pB BK101.out); obtain ⟨NB102_103, NB103_102⟩ := nb hg (pB BK102.out); replace BK101 := bB BK101 hb; replace BK102 := bB BK102 hb; replace HB := bS HB hb; clear hb hbox hg) | ((with_reducible refine gate_dst (N := 7) rfl ?_); refine bxe (cs := #[.int .i64 a3_0, .int .i64 a3_1]) (t := 37) ?_; intro gb104 hg w38 hbox hb; have BK104 := aK (hbox); have GW104 := aK (gE hg (pS HB.out)); have GE104 := GW104; obtain ⟨NB101_104, NB104_101⟩ := nb hg (pB BK101.out); obtain ⟨NB102_104, NB104_102⟩ := nb hg (pB BK102.out); obtain ⟨NB103_104, NB104_103⟩ := nb hg (pB BK103.out); replace BK101 := bB BK101 hb; replace BK102 := bB BK102 hb; replace BK103 := bB BK103 hb; replace HB := bS HB hb; clear hb hbox hg; have hnb39 := NB101_102.out; have hnc39 := NB102_101.out; have hnb40 := NB101_103.out; have hnc40 := NB103_101.out; have hnb41 := NB101_104.out; have hnc41 := NB104_101.out; obtain ⟨hcz42_0, hcz42_1, hcz42_2, hfz42_0, hfz42_1, hfz42_2⟩ := bc3 BK101.out; have hnb43 := NB102_103.out; have hnc43 := NB103_102.out; have hnb44 := NB102_104.out; have hnc44 := NB104_102.out; obtain ⟨hcz45_0, hcz45_1, hcz45_2, hfz45_0, hfz45_1, hfz45_2⟩ := bc3 BK102.out; have hnb46 := NB103_104.out; have hnc46 := NB104_103.out; obtain ⟨hcz47_0, hcz47_1, hfz47_0, hfz47_1⟩ := bc2 BK103.out) | (go_at_call 102; (with_reducible refine (spec_l11Match.calls k a0_0 a0_1 _ _ l0_2 a1_0 a1_1 _ _ l1_2 a2_0 a2_1 t105 t106 _ ?side1 ?side2 ?side3 ?side4 A5.out).mono ?_); (case side1 => exact pC (Kd.C_below HR0_2.out HB.out)); (case side2 => exact HC0_2.out); (case side3 => exact pC (Kd.C_below HR1_2.out HB.out)); (case side4 => exact HC1_2.out); rintro e w48 ⟨rfl, hb⟩; replace BK101 := bB BK101 hb; replace BK102 := bB BK102 hb; replace BK103 := bB BK103 hb; replace BK104 := bB BK104 hb; replace HB := bS HB hb; (try clear hb); (try clear hb2); (try clear hk); (try clear hi); obtain ⟨hcz49_0, hcz49_1, hcz49_2, hfz49_0, hfz49_1, hfz49_2⟩ := bc3 BK101.out; obtain ⟨hcz50_0, hcz50_1, hcz50_2, hfz50_0, hfz50_1, hfz50_2⟩ := bc3 BK102.out; obtain ⟨hcz51_0, hcz51_1, hfz51_0, hfz51_1⟩ := bc2 BK104.out) | (go_at_call 102; (with_reducible refine (spec_l11Match.calls k a0_0 a0_1 _ _ l0_2 a1_0 a1_1 _ _ l1_2 a3_0 a3_1 t107 t108 _ ?side1 ?side2 ?side3 ?side4 A6.out).mono ?_); (case side1 => exact pC (Kd.C_below HR0_2.out HB.out)); (case side2 => exact HC0_2.out); (case side3 => exact pC (Kd.C_below HR1_2.out HB.out)); (case side4 => exact HC1_2.out); rintro e w52 ⟨rfl, hb⟩; replace BK101 := bB BK101 hb; replace BK102 := bB BK102 hb; replace BK103 := bB BK103 hb; replace BK104 := bB BK104 hb; replace HB := bS HB hb; (try clear hb); (try clear hb2); (try clear hk); (try clear hi); obtain ⟨hcz53_0, hcz53_1, hfz53_0, hfz53_1⟩ := bc2 BK103.out) | (go_at_call 167; (with_reducible refine (spec_l11Abs.calls a2_0 t109 _ A8.out).mono ?_); rintro e w' ⟨rfl, ⟨nd, rfl⟩⟩; (try first | exact ⟨rfl, _, World.drewN_drewN _ _ _⟩ | exact ⟨rfl, _, Eq.trans (World.drewN_drewN _ _ _) (congrArg (World.drewN _) (Nat.add_assoc _ _ _))⟩)) | (go_at_call 167; (with_reducible refine (spec_l11Abs.calls a2_1 t110 _ A9.out).mono ?_); rintro e w' ⟨rfl, ⟨nd, rfl⟩⟩; (try first | exact ⟨rfl, _, World.drewN_drewN _ _ _⟩ | exact ⟨rfl, _, Eq.trans (World.drewN_drewN _ _ _) (congrArg (World.drewN _) (Nat.add_assoc _ _ _))⟩); obtain ⟨hcz54_0, hcz54_1, hfz54_0, hfz54_1⟩ := bc2 BK104.out) | (go_at_call 167; (with_reducible refine (spec_l11Abs.calls a3_0 t111 _ A10.out).mono ?_); rintro e w' ⟨rfl, ⟨nd, rfl⟩⟩; (try first | exact ⟨rfl, _, World.drewN_drewN _ _ _⟩ | exact ⟨rfl, _, Eq.trans (World.drewN_drewN _ _ _) (congrArg (World.drewN _) (Nat.add_assoc _ _ _))⟩)) | (go_at_call 167; (with_reducible refine (spec_l11Abs.calls a3_1 t112 _ A11.out).mono ?_); rintro e w' ⟨rfl, ⟨nd, rfl⟩⟩; (try first | exact ⟨rfl, _, World.drewN_drewN _ _ _⟩ | exact ⟨rfl, _, Eq.trans (World.drewN_drewN _ _ _) (congrArg (World.drewN _) (Nat.add_assoc _ _ _))⟩)))
    repeat (go_quiet (first | ((with_reducible refine gate_dst (N := 4) rfl ?_); refine bxe (cs := #[.int .i64 a0_0, .int .i64 a0_1, .slice A0_2 l0_2.length c0_2]) (t := 29) ?_; intro gb101 hg w35 hbox hb; have BK101 := aK (hbox); have GW101 := aK (gE hg (pS HB.out)); have GE101 := GW101; replace HB := bS HB hb; clear hb hbox hg) | ((with_reducible refine gate_dst (N := 5) rfl ?_); refine bxe (cs := #[.int .i64 a1_0, .int .i64 a1_1, .slice A1_2 l1_2.length c1_2]) (t := 29) ?_; intro gb102 hg w36 hbox hb; have BK102 := aK (hbox); have GW102 := aK (gE hg (pS HB.out)); have GE102 := GW102; obtain ⟨NB101_102, NB102_101⟩ := nb hg (pB BK101.out); replace BK101 := bB BK101 hb; replace HB := bS HB hb; clear hb hbox hg) | ((with_reducible refine gate_dst (N := 6) rfl ?_); refine bxe (cs := #[.int .i64 a2_0, .int .i64 a2_1]) (t := 37) ?_; intro gb103 hg w37 hbox hb; have BK103 := aK (hbox); have GW103 := aK (gE hg (pS HB.out)); have GE103 := GW103; obtain ⟨NB101_103, NB103_101⟩ := nb hg (pB BK101.out); obtain ⟨NB102_103, NB103_102⟩ := nb hg (pB BK102.out); replace BK101 := bB BK101 hb; replace BK102 := bB BK102 hb; replace HB := bS HB hb; clear hb hbox hg) | ((with_reducible refine gate_dst (N := 7) rfl ?_); refine bxe (cs := #[.int .i64 a3_0, .int .i64 a3_1]) (t := 37) ?_; intro gb104 hg w38 hbox hb; have BK104 := aK (hbox); have GW104 := aK (gE hg (pS HB.out)); have GE104 := GW104; obtain ⟨NB101_104, NB104_101⟩ := nb hg (pB BK101.out); obtain ⟨NB102_104, NB104_102⟩ := nb hg (pB BK102.out); obtain ⟨NB103_104, NB104_103⟩ := nb hg (pB BK103.out); replace BK101 := bB BK101 hb; replace BK102 := bB BK102 hb; replace BK103 := bB BK103 hb; replace HB := bS HB hb; clear hb hbox hg; have hnb39 := NB101_102.out; have hnc39 := NB102_101.out; have hnb40 := NB101_103.out; have hnc40 := NB103_101.out; have hnb41 := NB101_104.out; have hnc41 := NB104_101.out; obtain ⟨hcz42_0, hcz42_1, hcz42_2, hfz42_0, hfz42_1, hfz42_2⟩ := bc3 BK101.out; have hnb43 := NB102_103.out; have hnc43 := NB103_102.out; have hnb44 := NB102_104.out; have hnc44 := NB104_102.out; obtain ⟨hcz45_0, hcz45_1, hcz45_2, hfz45_0, hfz45_1, hfz45_2⟩ := bc3 BK102.out; have hnb46 := NB103_104.out; have hnc46 := NB104_103.out; obtain ⟨hcz47_0, hcz47_1, hfz47_0, hfz47_1⟩ := bc2 BK103.out) | (go_at_call 102; (with_reducible refine (spec_l11Match.calls k a0_0 a0_1 _ _ l0_2 a1_0 a1_1 _ _ l1_2 a2_0 a2_1 t105 t106 _ ?side1 ?side2 ?side3 ?side4 A5.out).mono ?_); (case side1 => exact pC (Kd.C_below HR0_2.out HB.out)); (case side2 => exact HC0_2.out); (case side3 => exact pC (Kd.C_below HR1_2.out HB.out)); (case side4 => exact HC1_2.out); rintro e w48 ⟨rfl, hb⟩; replace BK101 := bB BK101 hb; replace BK102 := bB BK102 hb; replace BK103 := bB BK103 hb; replace BK104 := bB BK104 hb; replace HB := bS HB hb; (try clear hb); (try clear hb2); (try clear hk); (try clear hi); obtain ⟨hcz49_0, hcz49_1, hcz49_2, hfz49_0, hfz49_1, hfz49_2⟩ := bc3 BK101.out; obtain ⟨hcz50_0, hcz50_1, hcz50_2, hfz50_0, hfz50_1, hfz50_2⟩ := bc3 BK102.out; obtain ⟨hcz51_0, hcz51_1, hfz51_0, hfz51_1⟩ := bc2 BK104.out) | (go_at_call 102; (with_reducible refine (spec_l11Match.calls k a0_0 a0_1 _ _ l0_2 a1_0 a1_1 _ _ l1_2 a3_0 a3_1 t107 t108 _ ?side1 ?side2 ?side3 ?side4 A6.out).mono ?_); (case side1 => exact pC (Kd.C_below HR0_2.out HB.out)); (case side2 => exact HC0_2.out); (case side3 => exact pC (Kd.C_below HR1_2.out HB.out)); (case side4 => exact HC1_2.out); rintro e w52 ⟨rfl, hb⟩; replace BK101 := bB BK101 hb; replace BK102 := bB BK102 hb; replace BK103 := bB BK103 hb; replace BK104 := bB BK104 hb; replace HB := bS HB hb; (try clear hb); (try clear hb2); (try clear hk); (try clear hi); obtain ⟨hcz53_0, hcz53_1, hfz53_0, hfz53_1⟩ := bc2 BK103.out) | (go_at_call 167; (with_reducible refine (spec_l11Abs.calls a2_0 t109 _ A8.out).mono ?_); rintro e w' ⟨rfl, ⟨nd, rfl⟩⟩; (try first | exact ⟨rfl, _, World.drewN_drewN _ _ _⟩ | exact ⟨rfl, _, Eq.trans (World.drewN_drewN _ _ _) (congrArg (World.drewN _) (Nat.add_assoc _ _ _))⟩)) | (go_at_call 167; (with_reducible refine (spec_l11Abs.calls a2_1 t110 _ A9.out).mono ?_); rintro e w' ⟨rfl, ⟨nd, rfl⟩⟩; (try first | exact ⟨rfl, _, World.drewN_drewN _ _ _⟩ | exact ⟨rfl, _, Eq.trans (World.drewN_drewN _ _ _) (congrArg (World.drewN _) (Nat.add_assoc _ _ _))⟩); obtain ⟨hcz54_0, hcz54_1, hfz54_0, hfz54_1⟩ := bc2 BK104.out) | (go_at_call 167; (with_reducible refine (spec_l11Abs.calls a3_0 t111 _ A10.out).mono ?_); rintro e w' ⟨rfl, ⟨nd, rfl⟩⟩; (try first | exact ⟨rfl, _, World.drewN_drewN _ _ _⟩ | exact ⟨rfl, _, Eq.trans (World.drewN_drewN _ _ _) (congrArg (World.drewN _) (Nat.add_assoc _ _ _))⟩)) | (go_at_call 167; (with_reducible refine (spec_l11Abs.calls a3_1 t112 _ A11.out).mono ?_); rintro e w' ⟨rfl, ⟨nd, rfl⟩⟩; (try first | exact ⟨rfl, _, World.drewN_drewN _ _ _⟩ | exact ⟨rfl, _, Eq.trans (World.drewN_drewN _ _ _) (congrArg (World.drewN _) (Nat.add_assoc _ _ _))⟩))); try go_wp2_with (first | ((with_reducible refine gate_dst (N := 4) rfl ?_); refine bxe (cs := #[.int .i64 a0_0, .int .i64 a0_1, .slice A0_2 l0_2.length c0_2]) (t := 29) ?_; intro gb101 hg w35 hbox hb; have BK101 := aK (hbox); have GW101 := aK (gE hg (pS HB.out)); have GE101 := GW101; replace HB := bS HB hb; clear hb hbox hg) | ((with_reducible refine gate_dst (N := 5) rfl ?_); refine bxe (cs := #[.int .i64 a1_0, .int .i64 a1_1, .slice A1_2 l1_2.length c1_2]) (t := 29) ?_; intro gb102 hg w36 hbox hb; have BK102 := aK (hbox); have GW102 := aK (gE hg (pS HB.out)); have GE102 := GW102; obtain ⟨NB101_102, NB102_101⟩ := nb hg (pB BK101.out); replace BK101 := bB BK101 hb; replace HB := bS HB hb; clear hb hbox hg) | ((with_reducible refine gate_dst (N := 6) rfl ?_); refine bxe (cs := #[.int .i64 a2_0, .int .i64 a2_1]) (t := 37) ?_; intro gb103 hg w37 hbox hb; have BK103 := aK (hbox); have GW103 := aK (gE hg (pS HB.out)); have GE103 := GW103; obtain ⟨NB101_103, NB103_101⟩ := nb hg (pB BK101.out); obtain ⟨NB102_103, NB103_102⟩ := nb hg (pB BK102.out); replace BK101 := bB BK101 hb; replace BK102 := bB BK102 hb; replace HB := bS HB hb; clear hb hbox hg) | ((with_reducible refine gate_dst (N := 7) rfl ?_); refine bxe (cs := #[.int .i64 a3_0, .int .i64 a3_1]) (t := 37) ?_; intro gb104 hg w38 hbox hb; have BK104 := aK (hbox); have GW104 := aK (gE hg (pS HB.out)); have GE104 := GW104; obtain ⟨NB101_104, NB104_101⟩ := nb hg (pB BK101.out); obtain ⟨NB102_104, NB104_102⟩ := nb hg (pB BK102.out); obtain ⟨NB103_104, NB104_103⟩ := nb hg (pB BK103.out); replace BK101 := bB BK101 hb; replace BK102 := bB BK102 hb; replace BK103 := bB BK103 hb; replace HB := bS HB hb; clear hb hbox hg; have hnb39 := NB101_102.out; have hnc39 := NB102_101.out; have hnb40 := NB101_103.out; have hnc40 := NB103_101.out; have hnb41 := NB101_104.out; have hnc41 := NB104_101.out; obtain ⟨hcz42_0, hcz42_1, hcz42_2, hfz42_0, hfz42_1, hfz42_2⟩ := bc3 BK101.out; have hnb43 := NB102_103.out; have hnc43 := NB103_102.out; have hnb44 := NB102_104.out; have hnc44 := NB104_102.out; obtain ⟨hcz45_0, hcz45_1, hcz45_2, hfz45_0, hfz45_1, hfz45_2⟩ := bc3 BK102.out; have hnb46 := NB103_104.out; have hnc46 := NB104_103.out; obtain ⟨hcz47_0, hcz47_1, hfz47_0, hfz47_1⟩ := bc2 BK103.out) | (go_at_call 102; (with_reducible refine (spec_l11Match.calls k a0_0 a0_1 _ _ l0_2 a1_0 a1_1 _ _ l1_2 a2_0 a2_1 t105 t106 _ ?side1 ?side2 ?side3 ?side4 A5.out).mono ?_); (case side1 => exact pC (Kd.C_below HR0_2.out HB.out)); (case side2 => exact HC0_2.out); (case side3 => exact pC (Kd.C_below HR1_2.out HB.out)); (case side4 => exact HC1_2.out); rintro e w48 ⟨rfl, hb⟩; replace BK101 := bB BK101 hb; replace BK102 := bB BK102 hb; replace BK103 := bB BK103 hb; replace BK104 := bB BK104 hb; replace HB := bS HB hb; (try clear hb); (try clear hb2); (try clear hk); (try clear hi); obtain ⟨hcz49_0, hcz49_1, hcz49_2, hfz49_0, hfz49_1, hfz49_2⟩ := bc3 BK101.out; obtain ⟨hcz50_0, hcz50_1, hcz50_2, hfz50_0, hfz50_1, hfz50_2⟩ := bc3 BK102.out; obtain ⟨hcz51_0, hcz51_1, hfz51_0, hfz51_1⟩ := bc2 BK104.out) | (go_at_call 102; (with_reducible refine (spec_l11Match.calls k a0_0 a0_1 _ _ l0_2 a1_0 a1_1 _ _ l1_2 a3_0 a3_1 t107 t108 _ ?side1 ?side2 ?side3 ?side4 A6.out).mono ?_); (case side1 => exact pC (Kd.C_below HR0_2.out HB.out)); (case side2 => exact HC0_2.out); (case side3 => exact pC (Kd.C_below HR1_2.out HB.out)); (case side4 => exact HC1_2.out); rintro e w52 ⟨rfl, hb⟩; replace BK101 := bB BK101 hb; replace BK102 := bB BK102 hb; replace BK103 := bB BK103 hb; replace BK104 := bB BK104 hb; replace HB := bS HB hb; (try clear hb); (try clear hb2); (try clear hk); (try clear hi); obtain ⟨hcz53_0, hcz53_1, hfz53_0, hfz53_1⟩ := bc2 BK103.out) | (go_at_call 167; (with_reducible refine (spec_l11Abs.calls a2_0 t109 _ A8.out).mono ?_); rintro e w' ⟨rfl, ⟨nd, rfl⟩⟩; (try first | exact ⟨rfl, _, World.drewN_drewN _ _ _⟩ | exact ⟨rfl, _, Eq.trans (World.drewN_drewN _ _ _) (congrArg (World.drewN _) (Nat.add_assoc _ _ _))⟩)) | (go_at_call 167; (with_reducible refine (spec_l11Abs.calls a2_1 t110 _ A9.out).mono ?_); rintro e w' ⟨rfl, ⟨nd, rfl⟩⟩; (try first | exact ⟨rfl, _, World.drewN_drewN _ _ _⟩ | exact ⟨rfl, _, Eq.trans (World.drewN_drewN _ _ _) (congrArg (World.drewN _) (Nat.add_assoc _ _ _))⟩); obtain ⟨hcz54_0, hcz54_1, hfz54_0, hfz54_1⟩ := bc2 BK104.out) | (go_at_call 167; (with_reducible refine (spec_l11Abs.calls a3_0 t111 _ A10.out).mono ?_); rintro e w' ⟨rfl, ⟨nd, rfl⟩⟩; (try first | exact ⟨rfl, _, World.drewN_drewN _ _ _⟩ | exact ⟨rfl, _, Eq.trans (World.drewN_drewN _ _ _) (congrArg (World.drewN _) (Nat.add_assoc _ _ _))⟩)) | (go_at_call 167; (with_reducible refine (spec_l11Abs.calls a3_1 t112 _ A11.out).mono ?_); rintro e w' ⟨rfl, ⟨nd, rfl⟩⟩; (try first | exact ⟨rfl, _, World.drewN_drewN _ _ _⟩ | exact ⟨rfl, _, Eq.trans (World.drewN_drewN _ _ _) (congrArg (World.drewN _) (Nat.add_assoc _ _ _))⟩))))
    go_ret
    exact ⟨er, pT HB.out⟩
   rw [if_neg c34] at H
   have c34b0 : (a2_1 == a3_1) = false := beq_eq_false_iff_ne.mpr c34
   have c34b1 : (a2_1 != a3_1) = true := bne_iff_ne.mpr c34
   obtain rfl := Option.some.inj H
   go_enter Try.func158, Try.ntmps158
   go_wp2_with (first | ((with_reducible refine gate_dst (N := 4) rfl ?_); refine bxe (cs := #[.int .i64 a0_0, .int .i64 a0_1, .slice A0_2 l0_2.length c0_2]) (t := 29) ?_; intro gb101 hg w55 hbox hb; have BK101 := aK (hbox); have GW101 := aK (gE hg (pS HB.out)); have GE101 := GW101; replace HB := bS HB hb; clear hb hbox hg) | ((with_reducible refine gate_dst (N := 5) rfl ?_); refine bxe (cs := #[.int .i64 a1_0, .int .i64 a1_1, .slice A1_2 l1_2.length c1_2]) (t := 29) ?_; intro gb102 hg w56 hbox hb; have BK102 := aK (hbox); have GW102 := aK (gE hg (pS HB.out)); have GE102 := GW102; obtain ⟨NB101_102, NB102_101⟩ := nb hg (pB BK101.out); replace BK101 := bB BK101 hb; replace HB := bS HB hb; clear hb hbox hg) | ((with_reducible refine gate_dst (N := 6) rfl ?_); refine bxe (cs := #[.int .i64 a2_0, .int .i64 a2_1]) (t := 37) ?_; intro gb103 hg w57 hbox hb; have BK103 := aK (hbox); have GW103 := aK (gE hg (pS HB.out)); have GE103 := GW103; obtain ⟨NB101_103, NB103_101⟩ := nb hg (pB BK101.out); obtain ⟨NB102_103, NB103_102⟩ := nb hg (pB BK102.out); replace BK101 := bB BK101 hb; replace BK102 := bB BK102 hb; replace HB := bS HB hb; clear hb hbox hg) | ((with_reducible refine gate_dst (N := 7) rfl ?_); refine bxe (cs := #[.int .i64 a3_0, .int .i64 a3_1]) (t := 37) ?_; intro gb104 hg w58 hbox hb; have BK104 := aK (hbox); have GW104 := aK (gE hg (pS HB.out)); have GE104 := GW104; obtain ⟨NB101_104, NB104_101⟩ := nb hg (pB BK101.out); obtain ⟨NB102_104, NB104_102⟩ := nb hg (pB BK102.out); obtain ⟨NB103_104, NB104_103⟩ := nb hg (pB BK103.out); replace BK101 := bB BK101 hb; replace BK102 := bB BK102 hb; replace BK103 := bB BK103 hb; replace HB := bS HB hb; clear hb hbox hg; have hnb59 := NB101_102.out; have hnc59 := NB102_101.out; have hnb60 := NB101_103.out; have hnc60 := NB103_101.out; have hnb61 := NB101_104.out; have hnc61 := NB104_101.out; obtain ⟨hcz62_0, hcz62_1, hcz62_2, hfz62_0, hfz62_1, hfz62_2⟩ := bc3 BK101.out; have hnb63 := NB102_103.out; have hnc63 := NB103_102.out; have hnb64 := NB102_104.out; have hnc64 := NB104_102.out; obtain ⟨hcz65_0, hcz65_1, hcz65_2, hfz65_0, hfz65_1, hfz65_2⟩ := bc3 BK102.out; have hnb66 := NB103_104.out; have hnc66 := NB104_103.out; obtain ⟨hcz67_0, hcz67_1, hfz67_0, hfz67_1⟩ := bc2 BK103.out) | (go_at_call 102; (with_reducible refine (spec_l11Match.calls k a0_0 a0_1 _ _ l0_2 a1_0 a1_1 _ _ l1_2 a2_0 a2_1 t105 t106 _ ?side1 ?side2 ?side3 ?side4 A5.out).mono ?_); (case side1 => exact pC (Kd.C_below HR0_2.out HB.out)); (case side2 => exact HC0_2.out); (case side3 => exact pC (Kd.C_below HR1_2.out HB.out)); (case side4 => exact HC1_2.out); rintro e w68 ⟨rfl, hb⟩; replace BK101 := bB BK101 hb; replace BK102 := bB BK102 hb; replace BK103 := bB BK103 hb; replace BK104 := bB BK104 hb; replace HB := bS HB hb; (try clear hb); (try clear hb2); (try clear hk); (try clear hi); obtain ⟨hcz69_0, hcz69_1, hcz69_2, hfz69_0, hfz69_1, hfz69_2⟩ := bc3 BK101.out; obtain ⟨hcz70_0, hcz70_1, hcz70_2, hfz70_0, hfz70_1, hfz70_2⟩ := bc3 BK102.out; obtain ⟨hcz71_0, hcz71_1, hfz71_0, hfz71_1⟩ := bc2 BK104.out) | (go_at_call 102; (with_reducible refine (spec_l11Match.calls k a0_0 a0_1 _ _ l0_2 a1_0 a1_1 _ _ l1_2 a3_0 a3_1 t107 t108 _ ?side1 ?side2 ?side3 ?side4 A6.out).mono ?_); (case side1 => exact pC (Kd.C_below HR0_2.out HB.out)); (case side2 => exact HC0_2.out); (case side3 => exact pC (Kd.C_below HR1_2.out HB.out)); (case side4 => exact HC1_2.out); rintro e w72 ⟨rfl, hb⟩; replace BK101 := bB BK101 hb; replace BK102 := bB BK102 hb; replace BK103 := bB BK103 hb; replace BK104 := bB BK104 hb; replace HB := bS HB hb; (try clear hb); (try clear hb2); (try clear hk); (try clear hi); obtain ⟨hcz73_0, hcz73_1, hfz73_0, hfz73_1⟩ := bc2 BK103.out) | (go_at_call 167; (with_reducible refine (spec_l11Abs.calls a2_0 t109 _ A8.out).mono ?_); rintro e w' ⟨rfl, ⟨nd, rfl⟩⟩; (try first | exact ⟨rfl, _, World.drewN_drewN _ _ _⟩ | exact ⟨rfl, _, Eq.trans (World.drewN_drewN _ _ _) (congrArg (World.drewN _) (Nat.add_assoc _ _ _))⟩)) | (go_at_call 167; (with_reducible refine (spec_l11Abs.calls a2_1 t110 _ A9.out).mono ?_); rintro e w' ⟨rfl, ⟨nd, rfl⟩⟩; (try first | exact ⟨rfl, _, World.drewN_drewN _ _ _⟩ | exact ⟨rfl, _, Eq.trans (World.drewN_drewN _ _ _) (congrArg (World.drewN _) (Nat.add_assoc _ _ _))⟩); obtain ⟨hcz74_0, hcz74_1, hfz74_0, hfz74_1⟩ := bc2 BK104.out) | (go_at_call 167; (with_reducible refine (spec_l11Abs.calls a3_0 t111 _ A10.out).mono ?_); rintro e w' ⟨rfl, ⟨nd, rfl⟩⟩; (try first | exact ⟨rfl, _, World.drewN_drewN _ _ _⟩ | exact ⟨rfl, _, Eq.trans (World.drewN_drewN _ _ _) (congrArg (World.drewN _) (Nat.add_assoc _ _ _))⟩)) | (go_at_call 167; (with_reducible refine (spec_l11Abs.calls a3_1 t112 _ A11.out).mono ?_); rintro e w' ⟨rfl, ⟨nd, rfl⟩⟩; (try first | exact ⟨rfl, _, World.drewN_drewN _ _ _⟩ | exact ⟨rfl, _, Eq.trans (World.drewN_drewN _ _ _) (congrArg (World.drewN _) (Nat.add_assoc _ _ _))⟩)))
   repeat (go_quiet (first | ((with_reducible refine gate_dst (N := 4) rfl ?_); refine bxe (cs := #[.int .i64 a0_0, .int .i64 a0_1, .slice A0_2 l0_2.length c0_2]) (t := 29) ?_; intro gb101 hg w55 hbox hb; have BK101 := aK (hbox); have GW101 := aK (gE hg (pS HB.out)); have GE101 := GW101; replace HB := bS HB hb; clear hb hbox hg) | ((with_reducible refine gate_dst (N := 5) rfl ?_); refine bxe (cs := #[.int .i64 a1_0, .int .i64 a1_1, .slice A1_2 l1_2.length c1_2]) (t := 29) ?_; intro gb102 hg w56 hbox hb; have BK102 := aK (hbox); have GW102 := aK (gE hg (pS HB.out)); have GE102 := GW102; obtain ⟨NB101_102, NB102_101⟩ := nb hg (pB BK101.out); replace BK101 := bB BK101 hb; replace HB := bS HB hb; clear hb hbox hg) | ((with_reducible refine gate_dst (N := 6) rfl ?_); refine bxe (cs := #[.int .i64 a2_0, .int .i64 a2_1]) (t := 37) ?_; intro gb103 hg w57 hbox hb; have BK103 := aK (hbox); have GW103 := aK (gE hg (pS HB.out)); have GE103 := GW103; obtain ⟨NB101_103, NB103_101⟩ := nb hg (pB BK101.out); obtain ⟨NB102_103, NB103_102⟩ := nb hg (pB BK102.out); replace BK101 := bB BK101 hb; replace BK102 := bB BK102 hb; replace HB := bS HB hb; clear hb hbox hg) | ((with_reducible refine gate_dst (N := 7) rfl ?_); refine bxe (cs := #[.int .i64 a3_0, .int .i64 a3_1]) (t := 37) ?_; intro gb104 hg w58 hbox hb; have BK104 := aK (hbox); have GW104 := aK (gE hg (pS HB.out)); have GE104 := GW104; obtain ⟨NB101_104, NB104_101⟩ := nb hg (pB BK101.out); obtain ⟨NB102_104, NB104_102⟩ := nb hg (pB BK102.out); obtain ⟨NB103_104, NB104_103⟩ := nb hg (pB BK103.out); replace BK101 := bB BK101 hb; replace BK102 := bB BK102 hb; replace BK103 := bB BK103 hb; replace HB := bS HB hb; clear hb hbox hg; have hnb59 := NB101_102.out; have hnc59 := NB102_101.out; have hnb60 := NB101_103.out; have hnc60 := NB103_101.out; have hnb61 := NB101_104.out; have hnc61 := NB104_101.out; obtain ⟨hcz62_0, hcz62_1, hcz62_2, hfz62_0, hfz62_1, hfz62_2⟩ := bc3 BK101.out; have hnb63 := NB102_103.out; have hnc63 := NB103_102.out; have hnb64 := NB102_104.out; have hnc64 := NB104_102.out; obtain ⟨hcz65_0, hcz65_1, hcz65_2, hfz65_0, hfz65_1, hfz65_2⟩ := bc3 BK102.out; have hnb66 := NB103_104.out; have hnc66 := NB104_103.out; obtain ⟨hcz67_0, hcz67_1, hfz67_0, hfz67_1⟩ := bc2 BK103.out) | (go_at_call 102; (with_reducible refine (spec_l11Match.calls k a0_0 a0_1 _ _ l0_2 a1_0 a1_1 _ _ l1_2 a2_0 a2_1 t105 t106 _ ?side1 ?side2 ?side3 ?side4 A5.out).mono ?_); (case side1 => exact pC (Kd.C_below HR0_2.out HB.out)); (case side2 => exact HC0_2.out); (case side3 => exact pC (Kd.C_below HR1_2.out HB.out)); (case side4 => exact HC1_2.out); rintro e w68 ⟨rfl, hb⟩; replace BK101 := bB BK101 hb; replace BK102 := bB BK102 hb; replace BK103 := bB BK103 hb; replace BK104 := bB BK104 hb; replace HB := bS HB hb; (try clear hb); (try clear hb2); (try clear hk); (try clear hi); obtain ⟨hcz69_0, hcz69_1, hcz69_2, hfz69_0, hfz69_1, hfz69_2⟩ := bc3 BK101.out; obtain ⟨hcz70_0, hcz70_1, hcz70_2, hfz70_0, hfz70_1, hfz70_2⟩ := bc3 BK102.out; obtain ⟨hcz71_0, hcz71_1, hfz71_0, hfz71_1⟩ := bc2 BK104.out) | (go_at_call 102; (with_reducible refine (spec_l11Match.calls k a0_0 a0_1 _ _ l0_2 a1_0 a1_1 _ _ l1_2 a3_0 a3_1 t107 t108 _ ?side1 ?side2 ?side3 ?side4 A6.out).mono ?_); (case side1 => exact pC (Kd.C_below HR0_2.out HB.out)); (case side2 => exact HC0_2.out); (case side3 => exact pC (Kd.C_below HR1_2.out HB.out)); (case side4 => exact HC1_2.out); rintro e w72 ⟨rfl, hb⟩; replace BK101 := bB BK101 hb; replace BK102 := bB BK102 hb; replace BK103 := bB BK103 hb; replace BK104 := bB BK104 hb; replace HB := bS HB hb; (try clear hb); (try clear hb2); (try clear hk); (try clear hi); obtain ⟨hcz73_0, hcz73_1, hfz73_0, hfz73_1⟩ := bc2 BK103.out) | (go_at_call 167; (with_reducible refine (spec_l11Abs.calls a2_0 t109 _ A8.out).mono ?_); rintro e w' ⟨rfl, ⟨nd, rfl⟩⟩; (try first | exact ⟨rfl, _, World.drewN_drewN _ _ _⟩ | exact ⟨rfl, _, Eq.trans (World.drewN_drewN _ _ _) (congrArg (World.drewN _) (Nat.add_assoc _ _ _))⟩)) | (go_at_call 167; (with_reducible refine (spec_l11Abs.calls a2_1 t110 _ A9.out).mono ?_); rintro e w' ⟨rfl, ⟨nd, rfl⟩⟩; (try first | exact ⟨rfl, _, World.drewN_drewN _ _ _⟩ | exact ⟨rfl, _, Eq.trans (World.drewN_drewN _ _ _) (congrArg (World.drewN _) (Nat.add_assoc _ _ _))⟩); obtain ⟨hcz74_0, hcz74_1, hfz74_0, hfz74_1⟩ := bc2 BK104.out) | (go_at_call 167; (with_reducible refine (spec_l11Abs.calls a3_0 t111 _ A10.out).mono ?_); rintro e w' ⟨rfl, ⟨nd, rfl⟩⟩; (try first | exact ⟨rfl, _, World.drewN_drewN _ _ _⟩ | exact ⟨rfl, _, Eq.trans (World.drewN_drewN _ _ _) (congrArg (World.drewN _) (Nat.add_assoc _ _ _))⟩)) | (go_at_call 167; (with_reducible refine (spec_l11Abs.calls a3_1 t112 _ A11.out).mono ?_); rintro e w' ⟨rfl, ⟨nd, rfl⟩⟩; (try first | exact ⟨rfl, _, World.drewN_drewN _ _ _⟩ | exact ⟨rfl, _, Eq.trans (World.drewN_drewN _ _ _) (congrArg (World.drewN _) (Nat.add_assoc _ _ _))⟩))); try go_wp2_with (first | ((with_reducible refine gate_dst (N := 4) rfl ?_); refine bxe (cs := #[.int .i64 a0_0, .int .i64 a0_1, .slice A0_2 l0_2.length c0_2]) (t := 29) ?_; intro gb101 hg w55 hbox hb; have BK101 := aK (hbox); have GW101 := aK (gE hg (pS HB.out)); have GE101 := GW101; replace HB := bS HB hb; clear hb hbox hg) | ((with_reducible refine gate_dst (N := 5) rfl ?_); refine bxe (cs := #[.int .i64 a1_0, .int .i64 a1_1, .slice A1_2 l1_2.length c1_2]) (t := 29) ?_; intro gb102 hg w56 hbox hb; have BK102 := aK (hbox); have GW102 := aK (gE hg (pS HB.out)); have GE102 := GW102; obtain ⟨NB101_102, NB102_101⟩ := nb hg (pB BK101.out); replace BK101 := bB BK101 hb; replace HB := bS HB hb; clear hb hbox hg) | ((with_reducible refine gate_dst (N := 6) rfl ?_); refine bxe (cs := #[.int .i64 a2_0, .int .i64 a2_1]) (t := 37) ?_; intro gb103 hg w57 hbox hb; have BK103 := aK (hbox); have GW103 := aK (gE hg (pS HB.out)); have GE103 := GW103; obtain ⟨NB101_103, NB103_101⟩ := nb hg (pB BK101.out); obtain ⟨NB102_103, NB103_102⟩ := nb hg (pB BK102.out); replace BK101 := bB BK101 hb; replace BK102 := bB BK102 hb; replace HB := bS HB hb; clear hb hbox hg) | ((with_reducible refine gate_dst (N := 7) rfl ?_); refine bxe (cs := #[.int .i64 a3_0, .int .i64 a3_1]) (t := 37) ?_; intro gb104 hg w58 hbox hb; have BK104 := aK (hbox); have GW104 := aK (gE hg (pS HB.out)); have GE104 := GW104; obtain ⟨NB101_104, NB104_101⟩ := nb hg (pB BK101.out); obtain ⟨NB102_104, NB104_102⟩ := nb hg (pB BK102.out); obtain ⟨NB103_104, NB104_103⟩ := nb hg (pB BK103.out); replace BK101 := bB BK101 hb; replace BK102 := bB BK102 hb; replace BK103 := bB BK103 hb; replace HB := bS HB hb; clear hb hbox hg; have hnb59 := NB101_102.out; have hnc59 := NB102_101.out; have hnb60 := NB101_103.out; have hnc60 := NB103_101.out; have hnb61 := NB101_104.out; have hnc61 := NB104_101.out; obtain ⟨hcz62_0, hcz62_1, hcz62_2, hfz62_0, hfz62_1, hfz62_2⟩ := bc3 BK101.out; have hnb63 := NB102_103.out; have hnc63 := NB103_102.out; have hnb64 := NB102_104.out; have hnc64 := NB104_102.out; obtain ⟨hcz65_0, hcz65_1, hcz65_2, hfz65_0, hfz65_1, hfz65_2⟩ := bc3 BK102.out; have hnb66 := NB103_104.out; have hnc66 := NB104_103.out; obtain ⟨hcz67_0, hcz67_1, hfz67_0, hfz67_1⟩ := bc2 BK103.out) | (go_at_call 102; (with_reducible refine (spec_l11Match.calls k a0_0 a0_1 _ _ l0_2 a1_0 a1_1 _ _ l1_2 a2_0 a2_1 t105 t106 _ ?side1 ?side2 ?side3 ?side4 A5.out).mono ?_); (case side1 => exact pC (Kd.C_below HR0_2.out HB.out)); (case side2 => exact HC0_2.out); (case side3 => exact pC (Kd.C_below HR1_2.out HB.out)); (case side4 => exact HC1_2.out); rintro e w68 ⟨rfl, hb⟩; replace BK101 := bB BK101 hb; replace BK102 := bB BK102 hb; replace BK103 := bB BK103 hb; replace BK104 := bB BK104 hb; replace HB := bS HB hb; (try clear hb); (try clear hb2); (try clear hk); (try clear hi); obtain ⟨hcz69_0, hcz69_1, hcz69_2, hfz69_0, hfz69_1, hfz69_2⟩ := bc3 BK101.out; obtain ⟨hcz70_0, hcz70_1, hcz70_2, hfz70_0, hfz70_1, hfz70_2⟩ := bc3 BK102.out; obtain ⟨hcz71_0, hcz71_1, hfz71_0, hfz71_1⟩ := bc2 BK104.out) | (go_at_call 102; (with_reducible refine (spec_l11Match.calls k a0_0 a0_1 _ _ l0_2 a1_0 a1_1 _ _ l1_2 a3_0 a3_1 t107 t108 _ ?side1 ?side2 ?side3 ?side4 A6.out).mono ?_); (case side1 => exact pC (Kd.C_below HR0_2.out HB.out)); (case side2 => exact HC0_2.out); (case side3 => exact pC (Kd.C_below HR1_2.out HB.out)); (case side4 => exact HC1_2.out); rintro e w72 ⟨rfl, hb⟩; replace BK101 := bB BK101 hb; replace BK102 := bB BK102 hb; replace BK103 := bB BK103 hb; replace BK104 := bB BK104 hb; replace HB := bS HB hb; (try clear hb); (try clear hb2); (try clear hk); (try clear hi); obtain ⟨hcz73_0, hcz73_1, hfz73_0, hfz73_1⟩ := bc2 BK103.out) | (go_at_call 167; (with_reducible refine (spec_l11Abs.calls a2_0 t109 _ A8.out).mono ?_); rintro e w' ⟨rfl, ⟨nd, rfl⟩⟩; (try first | exact ⟨rfl, _, World.drewN_drewN _ _ _⟩ | exact ⟨rfl, _, Eq.trans (World.drewN_drewN _ _ _) (congrArg (World.drewN _) (Nat.add_assoc _ _ _))⟩)) | (go_at_call 167; (with_reducible refine (spec_l11Abs.calls a2_1 t110 _ A9.out).mono ?_); rintro e w' ⟨rfl, ⟨nd, rfl⟩⟩; (try first | exact ⟨rfl, _, World.drewN_drewN _ _ _⟩ | exact ⟨rfl, _, Eq.trans (World.drewN_drewN _ _ _) (congrArg (World.drewN _) (Nat.add_assoc _ _ _))⟩); obtain ⟨hcz74_0, hcz74_1, hfz74_0, hfz74_1⟩ := bc2 BK104.out) | (go_at_call 167; (with_reducible refine (spec_l11Abs.calls a3_0 t111 _ A10.out).mono ?_); rintro e w' ⟨rfl, ⟨nd, rfl⟩⟩; (try first | exact ⟨rfl, _, World.drewN_drewN _ _ _⟩ | exact ⟨rfl, _, Eq.trans (World.drewN_drewN _ _ _) (congrArg (World.drewN _) (Nat.add_assoc _ _ _))⟩)) | (go_at_call 167; (with_reducible refine (spec_l11Abs.calls a3_1 t112 _ A11.out).mono ?_); rintro e w' ⟨rfl, ⟨nd, rfl⟩⟩; (try first | exact ⟨rfl, _, World.drewN_drewN _ _ _⟩ | exact ⟨rfl, _, Eq.trans (World.drewN_drewN _ _ _) (congrArg (World.drewN _) (Nat.add_assoc _ _ _))⟩))))
   go_ret
   exact ⟨er, pT HB.out⟩
  rw [if_neg c12] at H
  have c12b0 : ((wrap64 (t109 + t110)) == (wrap64 (t111 + t112))) = false := beq_eq_false_iff_ne.mpr c12
  have c12b1 : ((wrap64 (t109 + t110)) != (wrap64 (t111 + t112))) = true := bne_iff_ne.mpr c12
  obtain rfl := Option.some.inj H
  go_enter Try.func158, Try.ntmps158
  go_wp2_with (first | ((with_reducible refine gate_dst (N := 4) rfl ?_); refine bxe (cs := #[.int .i64 a0_0, .int .i64 a0_1, .slice A0_2 l0_2.length c0_2]) (t := 29) ?_; intro gb101 hg w75 hbox hb; have BK101 := aK (hbox); have GW101 := aK (gE hg (pS HB.out)); have GE101 := GW101; replace HB := bS HB hb; clear hb hbox hg) | ((with_reducible refine gate_dst (N := 5) rfl ?_); refine bxe (cs := #[.int .i64 a1_0, .int .i64 a1_1, .slice A1_2 l1_2.length c1_2]) (t := 29) ?_; intro gb102 hg w76 hbox hb; have BK102 := aK (hbox); have GW102 := aK (gE hg (pS HB.out)); have GE102 := GW102; obtain ⟨NB101_102, NB102_101⟩ := nb hg (pB BK101.out); replace BK101 := bB BK101 hb; replace HB := bS HB hb; clear hb hbox hg) | ((with_reducible refine gate_dst (N := 6) rfl ?_); refine bxe (cs := #[.int .i64 a2_0, .int .i64 a2_1]) (t := 37) ?_; intro gb103 hg w77 hbox hb; have BK103 := aK (hbox); have GW103 := aK (gE hg (pS HB.out)); have GE103 := GW103; obtain ⟨NB101_103, NB103_101⟩ := nb hg (pB BK101.out); obtain ⟨NB102_103, NB103_102⟩ := nb hg (pB BK102.out); replace BK101 := bB BK101 hb; replace BK102 := bB BK102 hb; replace HB := bS HB hb; clear hb hbox hg) | ((with_reducible refine gate_dst (N := 7) rfl ?_); refine bxe (cs := #[.int .i64 a3_0, .int .i64 a3_1]) (t := 37) ?_; intro gb104 hg w78 hbox hb; have BK104 := aK (hbox); have GW104 := aK (gE hg (pS HB.out)); have GE104 := GW104; obtain ⟨NB101_104, NB104_101⟩ := nb hg (pB BK101.out); obtain ⟨NB102_104, NB104_102⟩ := nb hg (pB BK102.out); obtain ⟨NB103_104, NB104_103⟩ := nb hg (pB BK103.out); replace BK101 := bB BK101 hb; replace BK102 := bB BK102 hb; replace BK103 := bB BK103 hb; replace HB := bS HB hb; clear hb hbox hg; have hnb79 := NB101_102.out; have hnc79 := NB102_101.out; have hnb80 := NB101_103.out; have hnc80 := NB103_101.out; have hnb81 := NB101_104.out; have hnc81 := NB104_101.out; obtain ⟨hcz82_0, hcz82_1, hcz82_2, hfz82_0, hfz82_1, hfz82_2⟩ := bc3 BK101.out; have hnb83 := NB102_103.out; have hnc83 := NB103_102.out; have hnb84 := NB102_104.out; have hnc84 := NB104_102.out; obtain ⟨hcz85_0, hcz85_1, hcz85_2, hfz85_0, hfz85_1, hfz85_2⟩ := bc3 BK102.out; have hnb86 := NB103_104.out; have hnc86 := NB104_103.out; obtain ⟨hcz87_0, hcz87_1, hfz87_0, hfz87_1⟩ := bc2 BK103.out) | (go_at_call 102; (with_reducible refine (spec_l11Match.calls k a0_0 a0_1 _ _ l0_2 a1_0 a1_1 _ _ l1_2 a2_0 a2_1 t105 t106 _ ?side1 ?side2 ?side3 ?side4 A5.out).mono ?_); (case side1 => exact pC (Kd.C_below HR0_2.out HB.out)); (case side2 => exact HC0_2.out); (case side3 => exact pC (Kd.C_below HR1_2.out HB.out)); (case side4 => exact HC1_2.out); rintro e w88 ⟨rfl, hb⟩; replace BK101 := bB BK101 hb; replace BK102 := bB BK102 hb; replace BK103 := bB BK103 hb; replace BK104 := bB BK104 hb; replace HB := bS HB hb; (try clear hb); (try clear hb2); (try clear hk); (try clear hi); obtain ⟨hcz89_0, hcz89_1, hcz89_2, hfz89_0, hfz89_1, hfz89_2⟩ := bc3 BK101.out; obtain ⟨hcz90_0, hcz90_1, hcz90_2, hfz90_0, hfz90_1, hfz90_2⟩ := bc3 BK102.out; obtain ⟨hcz91_0, hcz91_1, hfz91_0, hfz91_1⟩ := bc2 BK104.out) | (go_at_call 102; (with_reducible refine (spec_l11Match.calls k a0_0 a0_1 _ _ l0_2 a1_0 a1_1 _ _ l1_2 a3_0 a3_1 t107 t108 _ ?side1 ?side2 ?side3 ?side4 A6.out).mono ?_); (case side1 => exact pC (Kd.C_below HR0_2.out HB.out)); (case side2 => exact HC0_2.out); (case side3 => exact pC (Kd.C_below HR1_2.out HB.out)); (case side4 => exact HC1_2.out); rintro e w92 ⟨rfl, hb⟩; replace BK101 := bB BK101 hb; replace BK102 := bB BK102 hb; replace BK103 := bB BK103 hb; replace BK104 := bB BK104 hb; replace HB := bS HB hb; (try clear hb); (try clear hb2); (try clear hk); (try clear hi); obtain ⟨hcz93_0, hcz93_1, hfz93_0, hfz93_1⟩ := bc2 BK103.out) | (go_at_call 167; (with_reducible refine (spec_l11Abs.calls a2_0 t109 _ A8.out).mono ?_); rintro e w' ⟨rfl, ⟨nd, rfl⟩⟩; (try first | exact ⟨rfl, _, World.drewN_drewN _ _ _⟩ | exact ⟨rfl, _, Eq.trans (World.drewN_drewN _ _ _) (congrArg (World.drewN _) (Nat.add_assoc _ _ _))⟩)) | (go_at_call 167; (with_reducible refine (spec_l11Abs.calls a2_1 t110 _ A9.out).mono ?_); rintro e w' ⟨rfl, ⟨nd, rfl⟩⟩; (try first | exact ⟨rfl, _, World.drewN_drewN _ _ _⟩ | exact ⟨rfl, _, Eq.trans (World.drewN_drewN _ _ _) (congrArg (World.drewN _) (Nat.add_assoc _ _ _))⟩); obtain ⟨hcz94_0, hcz94_1, hfz94_0, hfz94_1⟩ := bc2 BK104.out) | (go_at_call 167; (with_reducible refine (spec_l11Abs.calls a3_0 t111 _ A10.out).mono ?_); rintro e w' ⟨rfl, ⟨nd, rfl⟩⟩; (try first | exact ⟨rfl, _, World.drewN_drewN _ _ _⟩ | exact ⟨rfl, _, Eq.trans (World.drewN_drewN _ _ _) (congrArg (World.drewN _) (Nat.add_assoc _ _ _))⟩)) | (go_at_call 167; (with_reducible refine (spec_l11Abs.calls a3_1 t112 _ A11.out).mono ?_); rintro e w' ⟨rfl, ⟨nd, rfl⟩⟩; (try first | exact ⟨rfl, _, World.drewN_drewN _ _ _⟩ | exact ⟨rfl, _, Eq.trans (World.drewN_drewN _ _ _) (congrArg (World.drewN _) (Nat.add_assoc _ _ _))⟩)))
  repeat (go_quiet (first | ((with_reducible refine gate_dst (N := 4) rfl ?_); refine bxe (cs := #[.int .i64 a0_0, .int .i64 a0_1, .slice A0_2 l0_2.length c0_2]) (t := 29) ?_; intro gb101 hg w75 hbox hb; have BK101 := aK (hbox); have GW101 := aK (gE hg (pS HB.out)); have GE101 := GW101; replace HB := bS HB hb; clear hb hbox hg) | ((with_reducible refine gate_dst (N := 5) rfl ?_); refine bxe (cs := #[.int .i64 a1_0, .int .i64 a1_1, .slice A1_2 l1_2.length c1_2]) (t := 29) ?_; intro gb102 hg w76 hbox hb; have BK102 := aK (hbox); have GW102 := aK (gE hg (pS HB.out)); have GE102 := GW102; obtain ⟨NB101_102, NB102_101⟩ := nb hg (pB BK101.out); replace BK101 := bB BK101 hb; replace HB := bS HB hb; clear hb hbox hg) | ((with_reducible refine gate_dst (N := 6) rfl ?_); refine bxe (cs := #[.int .i64 a2_0, .int .i64 a2_1]) (t := 37) ?_; intro gb103 hg w77 hbox hb; have BK103 := aK (hbox); have GW103 := aK (gE hg (pS HB.out)); have GE103 := GW103; obtain ⟨NB101_103, NB103_101⟩ := nb hg (pB BK101.out); obtain ⟨NB102_103, NB103_102⟩ := nb hg (pB BK102.out); replace BK101 := bB BK101 hb; replace BK102 := bB BK102 hb; replace HB := bS HB hb; clear hb hbox hg) | ((with_reducible refine gate_dst (N := 7) rfl ?_); refine bxe (cs := #[.int .i64 a3_0, .int .i64 a3_1]) (t := 37) ?_; intro gb104 hg w78 hbox hb; have BK104 := aK (hbox); have GW104 := aK (gE hg (pS HB.out)); have GE104 := GW104; obtain ⟨NB101_104, NB104_101⟩ := nb hg (pB BK101.out); obtain ⟨NB102_104, NB104_102⟩ := nb hg (pB BK102.out); obtain ⟨NB103_104, NB104_103⟩ := nb hg (pB BK103.out); replace BK101 := bB BK101 hb; replace BK102 := bB BK102 hb; replace BK103 := bB BK103 hb; replace HB := bS HB hb; clear hb hbox hg; have hnb79 := NB101_102.out; have hnc79 := NB102_101.out; have hnb80 := NB101_103.out; have hnc80 := NB103_101.out; have hnb81 := NB101_104.out; have hnc81 := NB104_101.out; obtain ⟨hcz82_0, hcz82_1, hcz82_2, hfz82_0, hfz82_1, hfz82_2⟩ := bc3 BK101.out; have hnb83 := NB102_103.out; have hnc83 := NB103_102.out; have hnb84 := NB102_104.out; have hnc84 := NB104_102.out; obtain ⟨hcz85_0, hcz85_1, hcz85_2, hfz85_0, hfz85_1, hfz85_2⟩ := bc3 BK102.out; have hnb86 := NB103_104.out; have hnc86 := NB104_103.out; obtain ⟨hcz87_0, hcz87_1, hfz87_0, hfz87_1⟩ := bc2 BK103.out) | (go_at_call 102; (with_reducible refine (spec_l11Match.calls k a0_0 a0_1 _ _ l0_2 a1_0 a1_1 _ _ l1_2 a2_0 a2_1 t105 t106 _ ?side1 ?side2 ?side3 ?side4 A5.out).mono ?_); (case side1 => exact pC (Kd.C_below HR0_2.out HB.out)); (case side2 => exact HC0_2.out); (case side3 => exact pC (Kd.C_below HR1_2.out HB.out)); (case side4 => exact HC1_2.out); rintro e w88 ⟨rfl, hb⟩; replace BK101 := bB BK101 hb; replace BK102 := bB BK102 hb; replace BK103 := bB BK103 hb; replace BK104 := bB BK104 hb; replace HB := bS HB hb; (try clear hb); (try clear hb2); (try clear hk); (try clear hi); obtain ⟨hcz89_0, hcz89_1, hcz89_2, hfz89_0, hfz89_1, hfz89_2⟩ := bc3 BK101.out; obtain ⟨hcz90_0, hcz90_1, hcz90_2, hfz90_0, hfz90_1, hfz90_2⟩ := bc3 BK102.out; obtain ⟨hcz91_0, hcz91_1, hfz91_0, hfz91_1⟩ := bc2 BK104.out) | (go_at_call 102; (with_reducible refine (spec_l11Match.calls k a0_0 a0_1 _ _ l0_2 a1_0 a1_1 _ _ l1_2 a3_0 a3_1 t107 t108 _ ?side1 ?side2 ?side3 ?side4 A6.out).mono ?_); (case side1 => exact pC (Kd.C_below HR0_2.out HB.out)); (case side2 => exact HC0_2.out); (case side3 => exact pC (Kd.C_below HR1_2.out HB.out)); (case side4 => exact HC1_2.out); rintro e w92 ⟨rfl, hb⟩; replace BK101 := bB BK101 hb; replace BK102 := bB BK102 hb; replace BK103 := bB BK103 hb; replace BK104 := bB BK104 hb; replace HB := bS HB hb; (try clear hb); (try clear hb2); (try clear hk); (try clear hi); obtain ⟨hcz93_0, hcz93_1, hfz93_0, hfz93_1⟩ := bc2 BK103.out) | (go_at_call 167; (with_reducible refine (spec_l11Abs.calls a2_0 t109 _ A8.out).mono ?_); rintro e w' ⟨rfl, ⟨nd, rfl⟩⟩; (try first | exact ⟨rfl, _, World.drewN_drewN _ _ _⟩ | exact ⟨rfl, _, Eq.trans (World.drewN_drewN _ _ _) (congrArg (World.drewN _) (Nat.add_assoc _ _ _))⟩)) | (go_at_call 167; (with_reducible refine (spec_l11Abs.calls a2_1 t110 _ A9.out).mono ?_); rintro e w' ⟨rfl, ⟨nd, rfl⟩⟩; (try first | exact ⟨rfl, _, World.drewN_drewN _ _ _⟩ | exact ⟨rfl, _, Eq.trans (World.drewN_drewN _ _ _) (congrArg (World.drewN _) (Nat.add_assoc _ _ _))⟩); obtain ⟨hcz94_0, hcz94_1, hfz94_0, hfz94_1⟩ := bc2 BK104.out) | (go_at_call 167; (with_reducible refine (spec_l11Abs.calls a3_0 t111 _ A10.out).mono ?_); rintro e w' ⟨rfl, ⟨nd, rfl⟩⟩; (try first | exact ⟨rfl, _, World.drewN_drewN _ _ _⟩ | exact ⟨rfl, _, Eq.trans (World.drewN_drewN _ _ _) (congrArg (World.drewN _) (Nat.add_assoc _ _ _))⟩)) | (go_at_call 167; (with_reducible refine (spec_l11Abs.calls a3_1 t112 _ A11.out).mono ?_); rintro e w' ⟨rfl, ⟨nd, rfl⟩⟩; (try first | exact ⟨rfl, _, World.drewN_drewN _ _ _⟩ | exact ⟨rfl, _, Eq.trans (World.drewN_drewN _ _ _) (congrArg (World.drewN _) (Nat.add_assoc _ _ _))⟩))); try go_wp2_with (first | ((with_reducible refine gate_dst (N := 4) rfl ?_); refine bxe (cs := #[.int .i64 a0_0, .int .i64 a0_1, .slice A0_2 l0_2.length c0_2]) (t := 29) ?_; intro gb101 hg w75 hbox hb; have BK101 := aK (hbox); have GW101 := aK (gE hg (pS HB.out)); have GE101 := GW101; replace HB := bS HB hb; clear hb hbox hg) | ((with_reducible refine gate_dst (N := 5) rfl ?_); refine bxe (cs := #[.int .i64 a1_0, .int .i64 a1_1, .slice A1_2 l1_2.length c1_2]) (t := 29) ?_; intro gb102 hg w76 hbox hb; have BK102 := aK (hbox); have GW102 := aK (gE hg (pS HB.out)); have GE102 := GW102; obtain ⟨NB101_102, NB102_101⟩ := nb hg (pB BK101.out); replace BK101 := bB BK101 hb; replace HB := bS HB hb; clear hb hbox hg) | ((with_reducible refine gate_dst (N := 6) rfl ?_); refine bxe (cs := #[.int .i64 a2_0, .int .i64 a2_1]) (t := 37) ?_; intro gb103 hg w77 hbox hb; have BK103 := aK (hbox); have GW103 := aK (gE hg (pS HB.out)); have GE103 := GW103; obtain ⟨NB101_103, NB103_101⟩ := nb hg (pB BK101.out); obtain ⟨NB102_103, NB103_102⟩ := nb hg (pB BK102.out); replace BK101 := bB BK101 hb; replace BK102 := bB BK102 hb; replace HB := bS HB hb; clear hb hbox hg) | ((with_reducible refine gate_dst (N := 7) rfl ?_); refine bxe (cs := #[.int .i64 a3_0, .int .i64 a3_1]) (t := 37) ?_; intro gb104 hg w78 hbox hb; have BK104 := aK (hbox); have GW104 := aK (gE hg (pS HB.out)); have GE104 := GW104; obtain ⟨NB101_104, NB104_101⟩ := nb hg (pB BK101.out); obtain ⟨NB102_104, NB104_102⟩ := nb hg (pB BK102.out); obtain ⟨NB103_104, NB104_103⟩ := nb hg (pB BK103.out); replace BK101 := bB BK101 hb; replace BK102 := bB BK102 hb; replace BK103 := bB BK103 hb; replace HB := bS HB hb; clear hb hbox hg; have hnb79 := NB101_102.out; have hnc79 := NB102_101.out; have hnb80 := NB101_103.out; have hnc80 := NB103_101.out; have hnb81 := NB101_104.out; have hnc81 := NB104_101.out; obtain ⟨hcz82_0, hcz82_1, hcz82_2, hfz82_0, hfz82_1, hfz82_2⟩ := bc3 BK101.out; have hnb83 := NB102_103.out; have hnc83 := NB103_102.out; have hnb84 := NB102_104.out; have hnc84 := NB104_102.out; obtain ⟨hcz85_0, hcz85_1, hcz85_2, hfz85_0, hfz85_1, hfz85_2⟩ := bc3 BK102.out; have hnb86 := NB103_104.out; have hnc86 := NB104_103.out; obtain ⟨hcz87_0, hcz87_1, hfz87_0, hfz87_1⟩ := bc2 BK103.out) | (go_at_call 102; (with_reducible refine (spec_l11Match.calls k a0_0 a0_1 _ _ l0_2 a1_0 a1_1 _ _ l1_2 a2_0 a2_1 t105 t106 _ ?side1 ?side2 ?side3 ?side4 A5.out).mono ?_); (case side1 => exact pC (Kd.C_below HR0_2.out HB.out)); (case side2 => exact HC0_2.out); (case side3 => exact pC (Kd.C_below HR1_2.out HB.out)); (case side4 => exact HC1_2.out); rintro e w88 ⟨rfl, hb⟩; replace BK101 := bB BK101 hb; replace BK102 := bB BK102 hb; replace BK103 := bB BK103 hb; replace BK104 := bB BK104 hb; replace HB := bS HB hb; (try clear hb); (try clear hb2); (try clear hk); (try clear hi); obtain ⟨hcz89_0, hcz89_1, hcz89_2, hfz89_0, hfz89_1, hfz89_2⟩ := bc3 BK101.out; obtain ⟨hcz90_0, hcz90_1, hcz90_2, hfz90_0, hfz90_1, hfz90_2⟩ := bc3 BK102.out; obtain ⟨hcz91_0, hcz91_1, hfz91_0, hfz91_1⟩ := bc2 BK104.out) | (go_at_call 102; (with_reducible refine (spec_l11Match.calls k a0_0 a0_1 _ _ l0_2 a1_0 a1_1 _ _ l1_2 a3_0 a3_1 t107 t108 _ ?side1 ?side2 ?side3 ?side4 A6.out).mono ?_); (case side1 => exact pC (Kd.C_below HR0_2.out HB.out)); (case side2 => exact HC0_2.out); (case side3 => exact pC (Kd.C_below HR1_2.out HB.out)); (case side4 => exact HC1_2.out); rintro e w92 ⟨rfl, hb⟩; replace BK101 := bB BK101 hb; replace BK102 := bB BK102 hb; replace BK103 := bB BK103 hb; replace BK104 := bB BK104 hb; replace HB := bS HB hb; (try clear hb); (try clear hb2); (try clear hk); (try clear hi); obtain ⟨hcz93_0, hcz93_1, hfz93_0, hfz93_1⟩ := bc2 BK103.out) | (go_at_call 167; (with_reducible refine (spec_l11Abs.calls a2_0 t109 _ A8.out).mono ?_); rintro e w' ⟨rfl, ⟨nd, rfl⟩⟩; (try first | exact ⟨rfl, _, World.drewN_drewN _ _ _⟩ | exact ⟨rfl, _, Eq.trans (World.drewN_drewN _ _ _) (congrArg (World.drewN _) (Nat.add_assoc _ _ _))⟩)) | (go_at_call 167; (with_reducible refine (spec_l11Abs.calls a2_1 t110 _ A9.out).mono ?_); rintro e w' ⟨rfl, ⟨nd, rfl⟩⟩; (try first | exact ⟨rfl, _, World.drewN_drewN _ _ _⟩ | exact ⟨rfl, _, Eq.trans (World.drewN_drewN _ _ _) (congrArg (World.drewN _) (Nat.add_assoc _ _ _))⟩); obtain ⟨hcz94_0, hcz94_1, hfz94_0, hfz94_1⟩ := bc2 BK104.out) | (go_at_call 167; (with_reducible refine (spec_l11Abs.calls a3_0 t111 _ A10.out).mono ?_); rintro e w' ⟨rfl, ⟨nd, rfl⟩⟩; (try first | exact ⟨rfl, _, World.drewN_drewN _ _ _⟩ | exact ⟨rfl, _, Eq.trans (World.drewN_drewN _ _ _) (congrArg (World.drewN _) (Nat.add_assoc _ _ _))⟩)) | (go_at_call 167; (with_reducible refine (spec_l11Abs.calls a3_1 t112 _ A11.out).mono ?_); rintro e w' ⟨rfl, ⟨nd, rfl⟩⟩; (try first | exact ⟨rfl, _, World.drewN_drewN _ _ _⟩ | exact ⟨rfl, _, Eq.trans (World.drewN_drewN _ _ _) (congrArg (World.drewN _) (Nat.add_assoc _ _ _))⟩))))
  go_ret
  exact ⟨er, pT HB.out⟩
 rw [if_neg c7] at H
 have c7b0 : ((wrap64 (t105 * t108)) == (wrap64 (t107 * t106))) = false := beq_eq_false_iff_ne.mpr c7
 have c7b1 : ((wrap64 (t105 * t108)) != (wrap64 (t107 * t106))) = true := bne_iff_ne.mpr c7
 obtain rfl := Option.some.inj H
 go_enter Try.func158, Try.ntmps158
 go_wp2_with (first | ((with_reducible refine gate_dst (N := 4) rfl ?_); refine bxe (cs := #[.int .i64 a0_0, .int .i64 a0_1, .slice A0_2 l0_2.length c0_2]) (t := 29) ?_; intro gb101 hg w95 hbox hb; have BK101 := aK (hbox); have GW101 := aK (gE hg (pS HB.out)); have GE101 := GW101; replace HB := bS HB hb; clear hb hbox hg) | ((with_reducible refine gate_dst (N := 5) rfl ?_); refine bxe (cs := #[.int .i64 a1_0, .int .i64 a1_1, .slice A1_2 l1_2.length c1_2]) (t := 29) ?_; intro gb102 hg w96 hbox hb; have BK102 := aK (hbox); have GW102 := aK (gE hg (pS HB.out)); have GE102 := GW102; obtain ⟨NB101_102, NB102_101⟩ := nb hg (pB BK101.out); replace BK101 := bB BK101 hb; replace HB := bS HB hb; clear hb hbox hg) | ((with_reducible refine gate_dst (N := 6) rfl ?_); refine bxe (cs := #[.int .i64 a2_0, .int .i64 a2_1]) (t := 37) ?_; intro gb103 hg w97 hbox hb; have BK103 := aK (hbox); have GW103 := aK (gE hg (pS HB.out)); have GE103 := GW103; obtain ⟨NB101_103, NB103_101⟩ := nb hg (pB BK101.out); obtain ⟨NB102_103, NB103_102⟩ := nb hg (pB BK102.out); replace BK101 := bB BK101 hb; replace BK102 := bB BK102 hb; replace HB := bS HB hb; clear hb hbox hg) | ((with_reducible refine gate_dst (N := 7) rfl ?_); refine bxe (cs := #[.int .i64 a3_0, .int .i64 a3_1]) (t := 37) ?_; intro gb104 hg w98 hbox hb; have BK104 := aK (hbox); have GW104 := aK (gE hg (pS HB.out)); have GE104 := GW104; obtain ⟨NB101_104, NB104_101⟩ := nb hg (pB BK101.out); obtain ⟨NB102_104, NB104_102⟩ := nb hg (pB BK102.out); obtain ⟨NB103_104, NB104_103⟩ := nb hg (pB BK103.out); replace BK101 := bB BK101 hb; replace BK102 := bB BK102 hb; replace BK103 := bB BK103 hb; replace HB := bS HB hb; clear hb hbox hg; have hnb99 := NB101_102.out; have hnc99 := NB102_101.out; have hnb100 := NB101_103.out; have hnc100 := NB103_101.out; have hnb101 := NB101_104.out; have hnc101 := NB104_101.out; obtain ⟨hcz102_0, hcz102_1, hcz102_2, hfz102_0, hfz102_1, hfz102_2⟩ := bc3 BK101.out; have hnb103 := NB102_103.out; have hnc103 := NB103_102.out; have hnb104 := NB102_104.out; have hnc104 := NB104_102.out; obtain ⟨hcz105_0, hcz105_1, hcz105_2, hfz105_0, hfz105_1, hfz105_2⟩ := bc3 BK102.out; have hnb106 := NB103_104.out; have hnc106 := NB104_103.out; obtain ⟨hcz107_0, hcz107_1, hfz107_0, hfz107_1⟩ := bc2 BK103.out) | (go_at_call 102; (with_reducible refine (spec_l11Match.calls k a0_0 a0_1 _ _ l0_2 a1_0 a1_1 _ _ l1_2 a2_0 a2_1 t105 t106 _ ?side1 ?side2 ?side3 ?side4 A5.out).mono ?_); (case side1 => exact pC (Kd.C_below HR0_2.out HB.out)); (case side2 => exact HC0_2.out); (case side3 => exact pC (Kd.C_below HR1_2.out HB.out)); (case side4 => exact HC1_2.out); rintro e w108 ⟨rfl, hb⟩; replace BK101 := bB BK101 hb; replace BK102 := bB BK102 hb; replace BK103 := bB BK103 hb; replace BK104 := bB BK104 hb; replace HB := bS HB hb; (try clear hb); (try clear hb2); (try clear hk); (try clear hi); obtain ⟨hcz109_0, hcz109_1, hcz109_2, hfz109_0, hfz109_1, hfz109_2⟩ := bc3 BK101.out; obtain ⟨hcz110_0, hcz110_1, hcz110_2, hfz110_0, hfz110_1, hfz110_2⟩ := bc3 BK102.out; obtain ⟨hcz111_0, hcz111_1, hfz111_0, hfz111_1⟩ := bc2 BK104.out) | (go_at_call 102; (with_reducible refine (spec_l11Match.calls k a0_0 a0_1 _ _ l0_2 a1_0 a1_1 _ _ l1_2 a3_0 a3_1 t107 t108 _ ?side1 ?side2 ?side3 ?side4 A6.out).mono ?_); (case side1 => exact pC (Kd.C_below HR0_2.out HB.out)); (case side2 => exact HC0_2.out); (case side3 => exact pC (Kd.C_below HR1_2.out HB.out)); (case side4 => exact HC1_2.out); rintro e w112 ⟨rfl, hb⟩; replace BK101 := bB BK101 hb; replace BK102 := bB BK102 hb; replace BK103 := bB BK103 hb; replace BK104 := bB BK104 hb; replace HB := bS HB hb; (try clear hb); (try clear hb2); (try clear hk); (try clear hi)))
 repeat (go_quiet (first | ((with_reducible refine gate_dst (N := 4) rfl ?_); refine bxe (cs := #[.int .i64 a0_0, .int .i64 a0_1, .slice A0_2 l0_2.length c0_2]) (t := 29) ?_; intro gb101 hg w95 hbox hb; have BK101 := aK (hbox); have GW101 := aK (gE hg (pS HB.out)); have GE101 := GW101; replace HB := bS HB hb; clear hb hbox hg) | ((with_reducible refine gate_dst (N := 5) rfl ?_); refine bxe (cs := #[.int .i64 a1_0, .int .i64 a1_1, .slice A1_2 l1_2.length c1_2]) (t := 29) ?_; intro gb102 hg w96 hbox hb; have BK102 := aK (hbox); have GW102 := aK (gE hg (pS HB.out)); have GE102 := GW102; obtain ⟨NB101_102, NB102_101⟩ := nb hg (pB BK101.out); replace BK101 := bB BK101 hb; replace HB := bS HB hb; clear hb hbox hg) | ((with_reducible refine gate_dst (N := 6) rfl ?_); refine bxe (cs := #[.int .i64 a2_0, .int .i64 a2_1]) (t := 37) ?_; intro gb103 hg w97 hbox hb; have BK103 := aK (hbox); have GW103 := aK (gE hg (pS HB.out)); have GE103 := GW103; obtain ⟨NB101_103, NB103_101⟩ := nb hg (pB BK101.out); obtain ⟨NB102_103, NB103_102⟩ := nb hg (pB BK102.out); replace BK101 := bB BK101 hb; replace BK102 := bB BK102 hb; replace HB := bS HB hb; clear hb hbox hg) | ((with_reducible refine gate_dst (N := 7) rfl ?_); refine bxe (cs := #[.int .i64 a3_0, .int .i64 a3_1]) (t := 37) ?_; intro gb104 hg w98 hbox hb; have BK104 := aK (hbox); have GW104 := aK (gE hg (pS HB.out)); have GE104 := GW104; obtain ⟨NB101_104, NB104_101⟩ := nb hg (pB BK101.out); obtain ⟨NB102_104, NB104_102⟩ := nb hg (pB BK102.out); obtain ⟨NB103_104, NB104_103⟩ := nb hg (pB BK103.out); replace BK101 := bB BK101 hb; replace BK102 := bB BK102 hb; replace BK103 := bB BK103 hb; replace HB := bS HB hb; clear hb hbox hg; have hnb99 := NB101_102.out; have hnc99 := NB102_101.out; have hnb100 := NB101_103.out; have hnc100 := NB103_101.out; have hnb101 := NB101_104.out; have hnc101 := NB104_101.out; obtain ⟨hcz102_0, hcz102_1, hcz102_2, hfz102_0, hfz102_1, hfz102_2⟩ := bc3 BK101.out; have hnb103 := NB102_103.out; have hnc103 := NB103_102.out; have hnb104 := NB102_104.out; have hnc104 := NB104_102.out; obtain ⟨hcz105_0, hcz105_1, hcz105_2, hfz105_0, hfz105_1, hfz105_2⟩ := bc3 BK102.out; have hnb106 := NB103_104.out; have hnc106 := NB104_103.out; obtain ⟨hcz107_0, hcz107_1, hfz107_0, hfz107_1⟩ := bc2 BK103.out) | (go_at_call 102; (with_reducible refine (spec_l11Match.calls k a0_0 a0_1 _ _ l0_2 a1_0 a1_1 _ _ l1_2 a2_0 a2_1 t105 t106 _ ?side1 ?side2 ?side3 ?side4 A5.out).mono ?_); (case side1 => exact pC (Kd.C_below HR0_2.out HB.out)); (case side2 => exact HC0_2.out); (case side3 => exact pC (Kd.C_below HR1_2.out HB.out)); (case side4 => exact HC1_2.out); rintro e w108 ⟨rfl, hb⟩; replace BK101 := bB BK101 hb; replace BK102 := bB BK102 hb; replace BK103 := bB BK103 hb; replace BK104 := bB BK104 hb; replace HB := bS HB hb; (try clear hb); (try clear hb2); (try clear hk); (try clear hi); obtain ⟨hcz109_0, hcz109_1, hcz109_2, hfz109_0, hfz109_1, hfz109_2⟩ := bc3 BK101.out; obtain ⟨hcz110_0, hcz110_1, hcz110_2, hfz110_0, hfz110_1, hfz110_2⟩ := bc3 BK102.out; obtain ⟨hcz111_0, hcz111_1, hfz111_0, hfz111_1⟩ := bc2 BK104.out) | (go_at_call 102; (with_reducible refine (spec_l11Match.calls k a0_0 a0_1 _ _ l0_2 a1_0 a1_1 _ _ l1_2 a3_0 a3_1 t107 t108 _ ?side1 ?side2 ?side3 ?side4 A6.out).mono ?_); (case side1 => exact pC (Kd.C_below HR0_2.out HB.out)); (case side2 => exact HC0_2.out); (case side3 => exact pC (Kd.C_below HR1_2.out HB.out)); (case side4 => exact HC1_2.out); rintro e w112 ⟨rfl, hb⟩; replace BK101 := bB BK101 hb; replace BK102 := bB BK102 hb; replace BK103 := bB BK103 hb; replace BK104 := bB BK104 hb; replace HB := bS HB hb; (try clear hb); (try clear hb2); (try clear hk); (try clear hi))); try go_wp2_with (first | ((with_reducible refine gate_dst (N := 4) rfl ?_); refine bxe (cs := #[.int .i64 a0_0, .int .i64 a0_1, .slice A0_2 l0_2.length c0_2]) (t := 29) ?_; intro gb101 hg w95 hbox hb; have BK101 := aK (hbox); have GW101 := aK (gE hg (pS HB.out)); have GE101 := GW101; replace HB := bS HB hb; clear hb hbox hg) | ((with_reducible refine gate_dst (N := 5) rfl ?_); refine bxe (cs := #[.int .i64 a1_0, .int .i64 a1_1, .slice A1_2 l1_2.length c1_2]) (t := 29) ?_; intro gb102 hg w96 hbox hb; have BK102 := aK (hbox); have GW102 := aK (gE hg (pS HB.out)); have GE102 := GW102; obtain ⟨NB101_102, NB102_101⟩ := nb hg (pB BK101.out); replace BK101 := bB BK101 hb; replace HB := bS HB hb; clear hb hbox hg) | ((with_reducible refine gate_dst (N := 6) rfl ?_); refine bxe (cs := #[.int .i64 a2_0, .int .i64 a2_1]) (t := 37) ?_; intro gb103 hg w97 hbox hb; have BK103 := aK (hbox); have GW103 := aK (gE hg (pS HB.out)); have GE103 := GW103; obtain ⟨NB101_103, NB103_101⟩ := nb hg (pB BK101.out); obtain ⟨NB102_103, NB103_102⟩ := nb hg (pB BK102.out); replace BK101 := bB BK101 hb; replace BK102 := bB BK102 hb; replace HB := bS HB hb; clear hb hbox hg) | ((with_reducible refine gate_dst (N := 7) rfl ?_); refine bxe (cs := #[.int .i64 a3_0, .int .i64 a3_1]) (t := 37) ?_; intro gb104 hg w98 hbox hb; have BK104 := aK (hbox); have GW104 := aK (gE hg (pS HB.out)); have GE104 := GW104; obtain ⟨NB101_104, NB104_101⟩ := nb hg (pB BK101.out); obtain ⟨NB102_104, NB104_102⟩ := nb hg (pB BK102.out); obtain ⟨NB103_104, NB104_103⟩ := nb hg (pB BK103.out); replace BK101 := bB BK101 hb; replace BK102 := bB BK102 hb; replace BK103 := bB BK103 hb; replace HB := bS HB hb; clear hb hbox hg; have hnb99 := NB101_102.out; have hnc99 := NB102_101.out; have hnb100 := NB101_103.out; have hnc100 := NB103_101.out; have hnb101 := NB101_104.out; have hnc101 := NB104_101.out; obtain ⟨hcz102_0, hcz102_1, hcz102_2, hfz102_0, hfz102_1, hfz102_2⟩ := bc3 BK101.out; have hnb103 := NB102_103.out; have hnc103 := NB103_102.out; have hnb104 := NB102_104.out; have hnc104 := NB104_102.out; obtain ⟨hcz105_0, hcz105_1, hcz105_2, hfz105_0, hfz105_1, hfz105_2⟩ := bc3 BK102.out; have hnb106 := NB103_104.out; have hnc106 := NB104_103.out; obtain ⟨hcz107_0, hcz107_1, hfz107_0, hfz107_1⟩ := bc2 BK103.out) | (go_at_call 102; (with_reducible refine (spec_l11Match.calls k a0_0 a0_1 _ _ l0_2 a1_0 a1_1 _ _ l1_2 a2_0 a2_1 t105 t106 _ ?side1 ?side2 ?side3 ?side4 A5.out).mono ?_); (case side1 => exact pC (Kd.C_below HR0_2.out HB.out)); (case side2 => exact HC0_2.out); (case side3 => exact pC (Kd.C_below HR1_2.out HB.out)); (case side4 => exact HC1_2.out); rintro e w108 ⟨rfl, hb⟩; replace BK101 := bB BK101 hb; replace BK102 := bB BK102 hb; replace BK103 := bB BK103 hb; replace BK104 := bB BK104 hb; replace HB := bS HB hb; (try clear hb); (try clear hb2); (try clear hk); (try clear hi); obtain ⟨hcz109_0, hcz109_1, hcz109_2, hfz109_0, hfz109_1, hfz109_2⟩ := bc3 BK101.out; obtain ⟨hcz110_0, hcz110_1, hcz110_2, hfz110_0, hfz110_1, hfz110_2⟩ := bc3 BK102.out; obtain ⟨hcz111_0, hcz111_1, hfz111_0, hfz111_1⟩ := bc2 BK104.out) | (go_at_call 102; (with_reducible refine (spec_l11Match.calls k a0_0 a0_1 _ _ l0_2 a1_0 a1_1 _ _ l1_2 a3_0 a3_1 t107 t108 _ ?side1 ?side2 ?side3 ?side4 A6.out).mono ?_); (case side1 => exact pC (Kd.C_below HR0_2.out HB.out)); (case side2 => exact HC0_2.out); (case side3 => exact pC (Kd.C_below HR1_2.out HB.out)); (case side4 => exact HC1_2.out); rintro e w112 ⟨rfl, hb⟩; replace BK101 := bB BK101 hb; replace BK102 := bB BK102 hb; replace BK103 := bB BK103 hb; replace BK104 := bB BK104 hb; replace HB := bS HB hb; (try clear hb); (try clear hb2); (try clear hk); (try clear hi))))
 go_ret
 exact ⟨er, pT HB.out⟩
end Go.Proofs.Ytilffhaghabdgaa.P
