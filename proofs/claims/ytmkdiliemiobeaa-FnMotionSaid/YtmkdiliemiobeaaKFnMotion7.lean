/- Texts of the claim FnMotion, merged: part 7 of 13: the program's and the reference's functions as Lean functions, the walks that show it, and plain lemmas; no conditions. -/
import Derived.Test.YtmkdiliemiobeaaKFnMotion3
import Derived.Test.YtmkdiliemiobeaaKFnMotion6
import Derived.Test.YtmkdiliemiobeaaKFnMotion2
import Derived.WalkKit
import Derived.Laws.CopyOwn
import Derived.Deep.RegionLaw
import Derived.Shelf.RegionOpenPlain
import Derived.Deep.OwnRows
import Derived.RangeFuncRecord
import Derived.Deep.DeepMust
import Derived.Shelf.SlSortCmp.NoneTotal
import Derived.Ground.SlsfProg
import Derived.Test.YtmkdiliemiobeaaProg
namespace Go.Proofs.Ytmkdiliemiobeaa.P
open Go.RowKit Go.Proofs.YtmkdiliemiobeaaW.PrintWords Go.Proofs.YtmkdiliemiobeaaW.PrintLast Go.Proofs.YtmkdiliemiobeaaW.PrintMore
attribute [local go_sem] max2_int min2_int max_two min_two max_three min_three max_four min_four
set_option linter.unusedVariables false
set_option linter.unusedSimpArgs false
set_option maxHeartbeats 8000000
set_option maxRecDepth 100000
def impl_IsValidField.f (a0_0 : Int) (a0_1 : Int) (l0_2 : List Int) : Option (Bool) := (impl_within.f a0_0 1 8).bind fun t102 => (if t102 = true then ((impl_within.f a0_1 1 8).bind fun t103 => (if t103 = true then (if (l0_2.length : Int) = (wrap64 (a0_0 * a0_1)) then ((slices_ContainsFunc_int_at_impl_IsValidField_1.f l0_2).bind fun t104 => (some (!t104))) else (some false)) else (some false))) else (some false))
theorem impl_IsValidField.calls (a0_0 : Int) (a0_1 : Int) (A0_2 : Option Addr) (c0_2 : Nat) (l0_2 : List Int) (r : Bool) (w : World) (hr0_2 : Kd.C (Kd.int .i64) w A0_2 l0_2.length l0_2) (hc0_2 : l0_2.length ≤ c0_2) (h : impl_IsValidField.f a0_0 a0_1 l0_2 = some r) :
  Calls Try.prog 28 #[.agg #[.int .i64 a0_0, .int .i64 a0_1, .slice A0_2 l0_2.length c0_2]] w fun e w' => e = .returned (.bool r) ∧ Below w.heap.size w w' := by
 have hu26 := Try.underlying26
 have HR0_2 := Aside0.mk hr0_2
 have HC0_2 := Aside0.mk hc0_2
 clear hr0_2 hc0_2
 have HB := aK (Below.refl w.heap.size w)
 have H : ((impl_within.f a0_0 1 8).bind fun t102 => (if t102 = true then ((impl_within.f a0_1 1 8).bind fun t103 => (if t103 = true then (if (l0_2.length : Int) = (wrap64 (a0_0 * a0_1)) then ((slices_ContainsFunc_int_at_impl_IsValidField_1.f l0_2).bind fun t104 => (some (!t104))) else (some false)) else (some false))) else (some false))) = some r := h
 clear h
 replace H := Option.bind_eq_some_iff.mp H
 obtain ⟨t102, A20, H⟩ := H
 replace H : (if t102 = true then ((impl_within.f a0_1 1 8).bind fun t103 => (if t103 = true then (if (l0_2.length : Int) = (wrap64 (a0_0 * a0_1)) then ((slices_ContainsFunc_int_at_impl_IsValidField_1.f l0_2).bind fun t104 => (some (!t104))) else (some false)) else (some false))) else (some false)) = some r := H
 have A2 := Aside0.mk A20
 clear A20
 by_cases c3 : t102 = true
 rotate_left
 ·
  replace c3 := Bool.eq_false_iff.mpr c3; subst c3
  have H1 : (some false) = some r := by rw [if_neg (show ¬ (false = true) by decide)] at H; exact H
  clear H; have H := H1; clear H1
  obtain rfl := Option.some.inj H
  go_enter Try.func28, Try.ntmps28
  go_wp2_with (first | ((with_reducible refine gate_dst (N := 1) rfl ?_); (try (refine gate_guard (by rfl) ?_; dsimp only)); refine bxe (cs := #[.int .i64 a0_0, .int .i64 a0_1, .slice A0_2 l0_2.length c0_2]) (t := 26) ?_; intro gb101 hg w15 hbox hb; have BK101 := aK (hbox); have GW101 := aK (gE hg (pS HB.out)); have GE101 := GW101; replace HB := bS HB hb; clear hb hbox hg; obtain ⟨z16_0, z16_1, z16_2, y16_0, y16_1, y16_2⟩ := bc3 BK101.out) | ((with_reducible refine gate_callee (f := 38) rfl ?_); refine gl (some 5) Try.func38 #[.int .i64 a0_0, .int .i64 1, .int .i64 8] ?_; (with_reducible refine (impl_within.calls a0_0 1 8 false _ A2.out).mono ?_); rintro e w' ⟨rfl, ⟨nd, rfl⟩⟩; refine ⟨_, rfl, ?_⟩))
  go_ret
  exact ⟨er, pT HB.out⟩
 subst c3
 have H1 : ((impl_within.f a0_1 1 8).bind fun t103 => (if t103 = true then (if (l0_2.length : Int) = (wrap64 (a0_0 * a0_1)) then ((slices_ContainsFunc_int_at_impl_IsValidField_1.f l0_2).bind fun t104 => (some (!t104))) else (some false)) else (some false))) = some r := by rw [if_pos rfl] at H; exact H
 clear H
 have H := H1
 clear H1
 replace H := Option.bind_eq_some_iff.mp H
 obtain ⟨t103, A40, H⟩ := H
 replace H : (if t103 = true then (if (l0_2.length : Int) = (wrap64 (a0_0 * a0_1)) then ((slices_ContainsFunc_int_at_impl_IsValidField_1.f l0_2).bind fun t104 => (some (!t104))) else (some false)) else (some false)) = some r := H
 have A4 := Aside0.mk A40
 clear A40
 by_cases c5 : t103 = true
 rotate_left
 ·
  replace c5 := Bool.eq_false_iff.mpr c5; subst c5
  have H1 : (some false) = some r := by rw [if_neg (show ¬ (false = true) by decide)] at H; exact H
  clear H; have H := H1; clear H1
  obtain rfl := Option.some.inj H
  go_enter Try.func28, Try.ntmps28
  go_wp2_with (first | ((with_reducible refine gate_dst (N := 1) rfl ?_); (try (refine gate_guard (by rfl) ?_; dsimp only)); refine bxe (cs := #[.int .i64 a0_0, .int .i64 a0_1, .slice A0_2 l0_2.length c0_2]) (t := 26) ?_; intro gb101 hg w13 hbox hb; have BK101 := aK (hbox); have GW101 := aK (gE hg (pS HB.out)); have GE101 := GW101; replace HB := bS HB hb; clear hb hbox hg; obtain ⟨z14_0, z14_1, z14_2, y14_0, y14_1, y14_2⟩ := bc3 BK101.out) | ((with_reducible refine gate_callee (f := 38) rfl ?_); refine gl (some 5) Try.func38 #[.int .i64 a0_0, .int .i64 1, .int .i64 8] ?_; (with_reducible refine (impl_within.calls a0_0 1 8 true _ A2.out).mono ?_); rintro e w' ⟨rfl, ⟨nd, rfl⟩⟩; refine ⟨_, rfl, ?_⟩) | (go_at_call 38; (with_reducible refine (impl_within.calls a0_1 1 8 false _ A4.out).mono ?_); rintro e w' ⟨rfl, ⟨nd, rfl⟩⟩))
  go_ret
  exact ⟨er, pT HB.out⟩
 subst c5
 have H1 : (if (l0_2.length : Int) = (wrap64 (a0_0 * a0_1)) then ((slices_ContainsFunc_int_at_impl_IsValidField_1.f l0_2).bind fun t104 => (some (!t104))) else (some false)) = some r := by rw [if_pos rfl] at H; exact H
 clear H
 have H := H1
 clear H1
 by_cases c6 : (l0_2.length : Int) = (wrap64 (a0_0 * a0_1))
 rotate_left
 ·
  rw [if_neg c6] at H
  have c6b0 : ((l0_2.length : Int) == (wrap64 (a0_0 * a0_1))) = false := beq_eq_false_iff_ne.mpr c6
  have c6b1 : ((l0_2.length : Int) != (wrap64 (a0_0 * a0_1))) = true := bne_iff_ne.mpr c6
  obtain rfl := Option.some.inj H
  go_enter Try.func28, Try.ntmps28
  go_wp2_with (first | ((with_reducible refine gate_dst (N := 1) rfl ?_); (try (refine gate_guard (by rfl) ?_; dsimp only)); refine bxe (cs := #[.int .i64 a0_0, .int .i64 a0_1, .slice A0_2 l0_2.length c0_2]) (t := 26) ?_; intro gb101 hg w11 hbox hb; have BK101 := aK (hbox); have GW101 := aK (gE hg (pS HB.out)); have GE101 := GW101; replace HB := bS HB hb; clear hb hbox hg; obtain ⟨z12_0, z12_1, z12_2, y12_0, y12_1, y12_2⟩ := bc3 BK101.out) | ((with_reducible refine gate_callee (f := 38) rfl ?_); refine gl (some 5) Try.func38 #[.int .i64 a0_0, .int .i64 1, .int .i64 8] ?_; (with_reducible refine (impl_within.calls a0_0 1 8 true _ A2.out).mono ?_); rintro e w' ⟨rfl, ⟨nd, rfl⟩⟩; refine ⟨_, rfl, ?_⟩) | (go_at_call 38; (with_reducible refine (impl_within.calls a0_1 1 8 true _ A4.out).mono ?_); rintro e w' ⟨rfl, ⟨nd, rfl⟩⟩))
  go_ret
  exact ⟨er, pT HB.out⟩
 rw [if_pos c6] at H
 have c6b0 : ((l0_2.length : Int) == (wrap64 (a0_0 * a0_1))) = true := beq_iff_eq.mpr c6
 have c6b1 : ((l0_2.length : Int) != (wrap64 (a0_0 * a0_1))) = false := bne_eq_false_iff_eq.mpr c6
 clear c6
 replace H := Option.bind_eq_some_iff.mp H
 obtain ⟨t104, A70, H⟩ := H
 replace H : (some (!t104)) = some r := H
 have A7 := Aside0.mk A70
 clear A70
 obtain rfl := Option.some.inj H
 go_enter Try.func28, Try.ntmps28
 go_wp2_with (first | ((with_reducible refine gate_dst (N := 1) rfl ?_); (try (refine gate_guard (by rfl) ?_; dsimp only)); refine bxe (cs := #[.int .i64 a0_0, .int .i64 a0_1, .slice A0_2 l0_2.length c0_2]) (t := 26) ?_; intro gb101 hg w8 hbox hb; have BK101 := aK (hbox); have GW101 := aK (gE hg (pS HB.out)); have GE101 := GW101; replace HB := bS HB hb; clear hb hbox hg; obtain ⟨z9_0, z9_1, z9_2, y9_0, y9_1, y9_2⟩ := bc3 BK101.out) | ((with_reducible refine gate_callee (f := 38) rfl ?_); refine gl (some 5) Try.func38 #[.int .i64 a0_0, .int .i64 1, .int .i64 8] ?_; (with_reducible refine (impl_within.calls a0_0 1 8 true _ A2.out).mono ?_); rintro e w' ⟨rfl, ⟨nd, rfl⟩⟩; refine ⟨_, rfl, ?_⟩) | (go_at_call 38; (with_reducible refine (impl_within.calls a0_1 1 8 true _ A4.out).mono ?_); rintro e w' ⟨rfl, ⟨nd, rfl⟩⟩) | (go_at_call 50; (with_reducible refine (slices_ContainsFunc_int_at_impl_IsValidField_1.calls _ _ l0_2 t104 _ ?side1 ?side2 A7.out).mono ?_); (case side1 => exact pC (Kd.C_below HR0_2.out (pS HB.out))); (case side2 => exact HC0_2.out); rintro e w10 ⟨rfl, hb⟩; replace BK101 := bB BK101 hb; replace HB := bS HB hb; (try clear hb); (try clear hb2); (try clear hk); (try clear hi)))
 go_ret
 exact ⟨er, pT HB.out⟩
def impl_sameShape.f (a0_0 : Int) (a0_1 : Int) (l0_2 : List Int) (a1_0 : Int) (a1_1 : Int) (l1_2 : List Int) : Option (Bool) := if a0_0 = a1_0 then (some (a0_1 == a1_1)) else (some false)
theorem impl_sameShape.calls (a0_0 : Int) (a0_1 : Int) (A0_2 : Option Addr) (c0_2 : Nat) (l0_2 : List Int) (a1_0 : Int) (a1_1 : Int) (A1_2 : Option Addr) (c1_2 : Nat) (l1_2 : List Int) (r : Bool) (w : World) (hr0_2 : Kd.C (Kd.int .i64) w A0_2 l0_2.length l0_2) (hc0_2 : l0_2.length ≤ c0_2) (hr1_2 : Kd.C (Kd.int .i64) w A1_2 l1_2.length l1_2) (hc1_2 : l1_2.length ≤ c1_2) (h : impl_sameShape.f a0_0 a0_1 l0_2 a1_0 a1_1 l1_2 = some r) :
  Calls Try.prog 29 #[.agg #[.int .i64 a0_0, .int .i64 a0_1, .slice A0_2 l0_2.length c0_2], .agg #[.int .i64 a1_0, .int .i64 a1_1, .slice A1_2 l1_2.length c1_2]] w fun e w' => e = .returned (.bool r) ∧ Below w.heap.size w w' := by
 have hu26 := Try.underlying26
 have HR0_2 := Aside0.mk hr0_2
 have HC0_2 := Aside0.mk hc0_2
 clear hr0_2 hc0_2
 have HR1_2 := Aside0.mk hr1_2
 have HC1_2 := Aside0.mk hc1_2
 clear hr1_2 hc1_2
 have HB := aK (Below.refl w.heap.size w)
 have H : (if a0_0 = a1_0 then (some (a0_1 == a1_1)) else (some false)) = some r := h
 clear h
 by_cases c3 : a0_0 = a1_0
 ·
  rw [if_pos c3] at H
  have c3b0 : (a0_0 == a1_0) = true := beq_iff_eq.mpr c3
  have c3b1 : (a0_0 != a1_0) = false := bne_eq_false_iff_eq.mpr c3
  clear c3
  obtain rfl := Option.some.inj H
  go_enter Try.func29, Try.ntmps29
  go_wp2_with (first | ((with_reducible refine gate_dst (N := 2) rfl ?_); refine bxe (cs := #[.int .i64 a0_0, .int .i64 a0_1, .slice A0_2 l0_2.length c0_2]) (t := 26) ?_; intro gb101 hg w4 hbox hb; have BK101 := aK (hbox); have GW101 := aK (gE hg (pS HB.out)); have GE101 := GW101; replace HB := bS HB hb; clear hb hbox hg) | ((with_reducible refine gate_dst (N := 3) rfl ?_); refine bxe (cs := #[.int .i64 a1_0, .int .i64 a1_1, .slice A1_2 l1_2.length c1_2]) (t := 26) ?_; intro gb102 hg w5 hbox hb; have BK102 := aK (hbox); have GW102 := aK (gE hg (pS HB.out)); have GE102 := GW102; obtain ⟨NB101_102, NB102_101⟩ := nb hg (pB BK101.out); replace BK101 := bB BK101 hb; replace HB := bS HB hb; clear hb hbox hg; obtain ⟨hnb6, hnc6⟩ := nB NB101_102; obtain ⟨z7_0, z7_1, z7_2, y7_0, y7_1, y7_2⟩ := bc3 BK101.out; obtain ⟨z8_0, z8_1, z8_2, y8_0, y8_1, y8_2⟩ := bc3 BK102.out))
  go_ret
  exact ⟨er, pT HB.out⟩
 rw [if_neg c3] at H
 have c3b0 : (a0_0 == a1_0) = false := beq_eq_false_iff_ne.mpr c3
 have c3b1 : (a0_0 != a1_0) = true := bne_iff_ne.mpr c3
 obtain rfl := Option.some.inj H
 go_enter Try.func29, Try.ntmps29
 go_wp2_with (first | ((with_reducible refine gate_dst (N := 2) rfl ?_); refine bxe (cs := #[.int .i64 a0_0, .int .i64 a0_1, .slice A0_2 l0_2.length c0_2]) (t := 26) ?_; intro gb101 hg w9 hbox hb; have BK101 := aK (hbox); have GW101 := aK (gE hg (pS HB.out)); have GE101 := GW101; replace HB := bS HB hb; clear hb hbox hg) | ((with_reducible refine gate_dst (N := 3) rfl ?_); refine bxe (cs := #[.int .i64 a1_0, .int .i64 a1_1, .slice A1_2 l1_2.length c1_2]) (t := 26) ?_; intro gb102 hg w10 hbox hb; have BK102 := aK (hbox); have GW102 := aK (gE hg (pS HB.out)); have GE102 := GW102; obtain ⟨NB101_102, NB102_101⟩ := nb hg (pB BK101.out); replace BK101 := bB BK101 hb; replace HB := bS HB hb; clear hb hbox hg; obtain ⟨hnb11, hnc11⟩ := nB NB101_102; obtain ⟨z12_0, z12_1, z12_2, y12_0, y12_1, y12_2⟩ := bc3 BK101.out; obtain ⟨z13_0, z13_1, z13_2, y13_0, y13_1, y13_2⟩ := bc3 BK102.out))
 go_ret
 exact ⟨er, pT HB.out⟩
def impl_areAlike.l0 : Nat → List (S26) → List (S26) → Int → Int → Option (Bool)
 | 0, _, _, _, _ => none
 | k + 1, x0, x5, x6, x7 => if x7 < x6 then (if 0 ≤ x7 then (if x7 < (x5.length : Int) then ((impl_IsValidField.f ((rd_T26 x5 x7).f0) ((rd_T26 x5 x7).f1) ((rd_T26 x5 x7).f2)).bind fun t103 => (if t103 = true then (if 0 < (x0.length : Int) then ((impl_sameShape.f ((rd_T26 x5 x7).f0) ((rd_T26 x5 x7).f1) ((rd_T26 x5 x7).f2) ((rd_T26 x0 0).f0) ((rd_T26 x0 0).f1) ((rd_T26 x0 0).f2)).bind fun t105 => (if t105 = true then (impl_areAlike.l0 k x0 x5 x6 (wrap64 (x7 + 1))) else (some false))) else (none)) else (some false))) else (none)) else (none)) else (some true)
def impl_areAlike.f (k : Nat) (l0 : List (S26)) : Option (Bool) := impl_areAlike.l0 k l0 l0 (l0.length : Int) 0
def impl_areAlike.T4 : Bool × List (List Nat × List Nat) := (true, [([], []), ([0], [0]), ([1], [1]), ([2, 1], [2]), ([3], [3]), ([3], [3]), ([5, 3], [3, 5]), ([6, 3], [3, 6]), ([4, 7, 3, 3], [3, 4, 7]), ([8, 3], [3, 8]), ([3, 9], [3, 9])])
def impl_areAlike.B4 : List Nat := [0, 1, 3, 7, 15, 15, 47, 111, 255, 511, 1023]
theorem impl_areAlike.tab4 : rtab .any (opsOf Try.f14 4) = impl_areAlike.T4 := by kernel_rfl
theorem impl_areAlike.bits4 : waitsOk impl_areAlike.T4.2 impl_areAlike.B4 = true := by kernel_rfl
theorem impl_areAlike.calls (k : Nat) (A0 : Option Addr) (c0 : Nat) (l0 : List (S26)) (r : Bool) (w : World) (hr0 : Kd.C k26 w A0 l0.length l0) (hc0 : l0.length ≤ c0) (h : impl_areAlike.f k l0 = some r) :
  Calls Try.prog 14 #[.slice A0 l0.length c0] w fun e w' => e = .returned (.bool r) ∧ Below w.heap.size w w' := by
 have hu26 := Try.underlying26
 have HR0 := Aside0.mk hr0
 have HC0 := Aside0.mk hc0
 clear hr0 hc0
 have HB := aK (Below.refl w.heap.size w)
 have H : (impl_areAlike.l0 k l0 l0 (l0.length : Int) 0) = some r := h
 clear h
 have H' := Aside0.mk H
 clear H
 go_enter Try.func14, Try.ntmps14
 go_wp2
 go_loopg [7] k (fun kq v7 w' => ∃ (x7_1 : Int), v7 = .int .i64 x7_1 ∧ Aside0 (impl_areAlike.l0 kq l0 l0 (l0.length : Int) x7_1 = some r) ∧ Aside0 (kq ≤ k) ∧ Aside0 (Below w.heap.size w w'))
 case atStart => exact ⟨(0), (by first | rfl | (simp; done) | (simp [*]; done)), H', ⟨Nat.le_refl _⟩, ⟨pT HB.out⟩⟩
 case round =>
  clear H'
  try clear c1
  obtain ⟨x7_1, rfl, HA, HK1, HB⟩ := hrel
  cases gk with
  | zero => exact absurd HA.out (by simp [impl_areAlike.l0])
  | succ k1 =>
   have H := HA.out; clear HA
   simp only [impl_areAlike.l0] at H
   by_cases c2 : x7_1 < (l0.length : Int)
   rotate_left
   ·
    rw [if_neg c2] at H
    have c2b0 : decide (x7_1 < (l0.length : Int)) = false := decide_eq_false c2
    clear c2
    obtain rfl := Option.some.inj H
    go_wp2
    go_ret
    exact ⟨er, pT HB.out⟩
   rw [if_pos c2] at H
   have c2b0 : decide (x7_1 < (l0.length : Int)) = true := decide_eq_true c2
   clear c2
   by_cases c3 : 0 ≤ x7_1
   rotate_left
   ·
    rw [if_neg c3] at H
    exact absurd H (by simp)
   rw [if_pos c3] at H
   have c3b0 : decide (0 ≤ x7_1) = true := decide_eq_true c3
   clear c3
   by_cases c4 : x7_1 < (l0.length : Int)
   rotate_left
   ·
    rw [if_neg c4] at H
    exact absurd H (by simp)
   rw [if_pos c4] at H
   have c4b0 : decide (x7_1 < (l0.length : Int)) = true := decide_eq_true c4
   clear c4; replace H := Option.bind_eq_some_iff.mp H; obtain ⟨t103, A50, H⟩ := H
   replace H : (if t103 = true then (if 0 < (l0.length : Int) then ((impl_sameShape.f ((rd_T26 l0 x7_1).f0) ((rd_T26 l0 x7_1).f1) ((rd_T26 l0 x7_1).f2) ((rd_T26 l0 0).f0) ((rd_T26 l0 0).f1) ((rd_T26 l0 0).f2)).bind fun t105 => (if t105 = true then (impl_areAlike.l0 k1 l0 l0 (l0.length : Int) (wrap64 (x7_1 + 1))) else (some false))) else (none)) else (some false)) = some r := H
   have A5 := Aside0.mk A50; clear A50
   by_cases c6 : t103 = true
   rotate_left
   ·
    replace c6 := Bool.eq_false_iff.mpr c6; subst c6
    have H1 : (some false) = some r := by rw [if_neg (show ¬ (false = true) by decide)] at H; exact H
    clear H; have H := H1; clear H1
    obtain rfl := Option.some.inj H
    have p101 : 0 ≤ (x7_1 : Int) := of_decide_eq_true (by first | (with_reducible assumption) | assumption)
    have q101 : x7_1 < (l0.length : Int) := of_decide_eq_true (by first | (with_reducible assumption) | assumption)
    obtain ⟨ad101, A101_2, c101_2, e101, hx101_0, hx101_1, hx101_2, hl101_2, hi101_2⟩ := at_T26 HR0.out x7_1 p101 q101; cases e101; replace hx101_0 := (HB.out.cell (World.block_lt_of_cell? w _ hx101_0)).trans hx101_0; replace hx101_1 := (HB.out.cell (World.block_lt_of_cell? w _ hx101_1)).trans hx101_1; replace hx101_2 := (HB.out.cell (World.block_lt_of_cell? w _ hx101_2)).trans hx101_2; have HR101_2 := Aside0.mk hi101_2; have HC101_2 := Aside0.mk hl101_2; clear hi101_2 hl101_2; replace p101 := eq_true p101; replace q101 := eq_true q101
    try go_wp2_with (first | ((with_reducible refine gate_dst (N := 4) rfl ?_); refine bxe (cs := #[.int .i64 0, .int .i64 0, .slice none 0 0]) (t := 26) ?_; intro gb102 hg w22 hbox hb; have BK102 := aK (hbox); have GW102 := aK (gE hg (pS HB.out)); have GE102 := GW102; replace HB := bS HB hb; clear hb hbox hg; obtain ⟨z23_0, z23_1, z23_2, y23_0, y23_1, y23_2⟩ := bc3 BK102.out))
    have n0_ : Aside0 ((((w22.setCell ⟨gb102, 0, none⟩ (.int .i64 ((rd_T26 l0 x7_1).f0))).setCell ⟨gb102, 1, none⟩ (.int .i64 ((rd_T26 l0 x7_1).f1))).setCell ⟨gb102, 2, none⟩ (.slice A101_2 ((rd_T26 l0 x7_1).f2).length c101_2)).heap[gb102]? = some (.cells #[.int .i64 ((rd_T26 l0 x7_1).f0), .int .i64 ((rd_T26 l0 x7_1).f1), .slice A101_2 ((rd_T26 l0 x7_1).f2).length c101_2] 26 (0, 0))) := ⟨by refine bk ?_; refine blk_put (cs := #[.int .i64 ((rd_T26 l0 x7_1).f0), .int .i64 ((rd_T26 l0 x7_1).f1), .slice none 0 0]) ?_ 2 _ rfl; refine bk ?_; refine blk_put (cs := #[.int .i64 ((rd_T26 l0 x7_1).f0), .int .i64 0, .slice none 0 0]) ?_ 1 _ rfl; refine bk ?_; refine blk_put (cs := #[.int .i64 0, .int .i64 0, .slice none 0 0]) ?_ 0 _ rfl; refine bk ?_; exact BK102.out⟩
    have n1_ : Aside0 (Below w.heap.size w (((w22.setCell ⟨gb102, 0, none⟩ (.int .i64 ((rd_T26 l0 x7_1).f0))).setCell ⟨gb102, 1, none⟩ (.int .i64 ((rd_T26 l0 x7_1).f1))).setCell ⟨gb102, 2, none⟩ (.slice A101_2 ((rd_T26 l0 x7_1).f2).length c101_2))) := ⟨pT HB.out⟩
    (try clear BK102)
    (try clear HB)
    generalize (((w22.setCell ⟨gb102, 0, none⟩ (.int .i64 ((rd_T26 l0 x7_1).f0))).setCell ⟨gb102, 1, none⟩ (.int .i64 ((rd_T26 l0 x7_1).f1))).setCell ⟨gb102, 2, none⟩ (.slice A101_2 ((rd_T26 l0 x7_1).f2).length c101_2)) = w24 at n0_ n1_ ⊢
    have BK102 := n0_; have HB := n1_; clear n0_ n1_; replace BK102 := aK (blk_drew BK102.out); replace HB := aK (below_drew1 HB.out)
    refine start_ (n := 11) (S := fun w' => w'.cell? ⟨gb102, 0, none⟩ = some (.int .i64 ((rd_T26 l0 x7_1).f0)) ∧ w'.cell? ⟨gb102, 1, none⟩ = some (.int .i64 ((rd_T26 l0 x7_1).f1)) ∧ w'.cell? ⟨gb102, 2, none⟩ = some (.slice A101_2 ((rd_T26 l0 x7_1).f2).length c101_2)) (ds := []) (bz [0, 11]) (by kernel_rfl) rfl rfl (cz3 BK102.out) (fun hHeld => ?_); refine with_tabW impl_areAlike.tab4 impl_areAlike.bits4 (fun HT_ HW_ => ?_)
    generalize w24.drew = w25 at BK102 HB hHeld ⊢
    refine tk (i := 0) (N := some 11) (bz [1, 10]) rfl rfl HT_.out HW_.out (Or.inl ⟨by rfl, by rintro w' ⟨s0, s1, s2⟩; go_simp; with_reducible rfl⟩) hHeld ?_
    refine one_ (i := 1) (N := some 12) (bz [2, 9]) rfl rfl (one_of HT_.out (by kernel_rfl)) (by decide) (fun K hK => ?_)
    refine goes_ Try.func28 (by kernel_rfl) rfl #[.agg #[.int .i64 ((rd_T26 l0 x7_1).f0), .int .i64 ((rd_T26 l0 x7_1).f1), .slice A101_2 ((rd_T26 l0 x7_1).f2).length c101_2]] (by rfl) rfl rfl (by (try simp only [List.map_toArray, List.map_cons, List.map_nil]); first | done | rfl | (simp only [List.length_drop, List.length_take]; rfl)) ?_
    with_reducible refine (impl_IsValidField.calls ((rd_T26 l0 x7_1).f0) ((rd_T26 l0 x7_1).f1) _ _ ((rd_T26 l0 x7_1).f2) false _ ?side1 ?side2 A5.out).mono ?_
    (case side1 => exact pC (Kd.C_below HR101_2.out HB.out))
    (case side2 => exact HC101_2.out)
    rintro e w26 ⟨rfl, hb⟩
    refine ⟨_, rfl, ?_⟩
    replace BK102 := bB BK102 hb; replace HB := bS HB hb
    (try clear hb)
    (try clear hb2)
    (try clear hk)
    (try clear hi)
    refine hK.out _ _ (cz3 BK102.out) (fun hHeld => ?_)
    clear hK K
    refine norm_ (a' := ?_) ?_ ?_
    rotate_left
    ·
     show Act.put _ (some 12) _ = _
     simp only [sP]
     rfl
    refine pz 2 13 [3, 8] HT_.out ?_
    refine pz 3 14 [4, 7] HT_.out ?_
    refine pd 4 15 [5, 6] HT_.out ?_
    refine pd 5 16 [6, 5] HT_.out ?_
    refine pd 6 17 [7, 4] HT_.out ?_
    refine pd 7 18 [8, 3] HT_.out ?_
    refine pd 8 19 [9, 2] HT_.out ?_
    refine pd 9 20 [10, 1] HT_.out ?_
    refine pz 10 21 [11, 0] HT_.out ?_
    refine done_ (done_of HT_.out (by kernel_rfl)) ?_
    try go_wp2
    go_ret
    exact ⟨er, pT HB.out⟩
   subst c6
   have H1 : (if 0 < (l0.length : Int) then ((impl_sameShape.f ((rd_T26 l0 x7_1).f0) ((rd_T26 l0 x7_1).f1) ((rd_T26 l0 x7_1).f2) ((rd_T26 l0 0).f0) ((rd_T26 l0 0).f1) ((rd_T26 l0 0).f2)).bind fun t105 => (if t105 = true then (impl_areAlike.l0 k1 l0 l0 (l0.length : Int) (wrap64 (x7_1 + 1))) else (some false))) else (none)) = some r := by rw [if_pos rfl] at H; exact H
   clear H; have H := H1; clear H1
   by_cases c7 : 0 < (l0.length : Int)
   rotate_left
   ·
    rw [if_neg c7] at H
    exact absurd H (by simp)
   rw [if_pos c7] at H
   have c7b0 : decide (0 < (l0.length : Int)) = true := decide_eq_true c7
   have c7b1 : decide (0 < l0.length) = true := decide_eq_true (by omega)
   clear c7; replace H := Option.bind_eq_some_iff.mp H; obtain ⟨t105, A80, H⟩ := H
   replace H : (if t105 = true then (impl_areAlike.l0 k1 l0 l0 (l0.length : Int) (wrap64 (x7_1 + 1))) else (some false)) = some r := H
   have A8 := Aside0.mk A80; clear A80
   by_cases c9 : t105 = true
   ·
    subst c9
    have H1 : (impl_areAlike.l0 k1 l0 l0 (l0.length : Int) (wrap64 (x7_1 + 1))) = some r := by rw [if_pos rfl] at H; exact H
    clear H; have H := H1; clear H1; have H' := Aside0.mk H; clear H
    have p101 : 0 ≤ (x7_1 : Int) := of_decide_eq_true (by first | (with_reducible assumption) | assumption)
    have q101 : x7_1 < (l0.length : Int) := of_decide_eq_true (by first | (with_reducible assumption) | assumption)
    obtain ⟨ad101, A101_2, c101_2, e101, hx101_0, hx101_1, hx101_2, hl101_2, hi101_2⟩ := at_T26 HR0.out x7_1 p101 q101; cases e101; replace hx101_0 := (HB.out.cell (World.block_lt_of_cell? w _ hx101_0)).trans hx101_0; replace hx101_1 := (HB.out.cell (World.block_lt_of_cell? w _ hx101_1)).trans hx101_1; replace hx101_2 := (HB.out.cell (World.block_lt_of_cell? w _ hx101_2)).trans hx101_2; have HR101_2 := Aside0.mk hi101_2; have HC101_2 := Aside0.mk hl101_2; clear hi101_2 hl101_2; replace p101 := eq_true p101; replace q101 := eq_true q101
    try go_wp2_with (first | ((with_reducible refine gate_dst (N := 4) rfl ?_); refine bxe (cs := #[.int .i64 0, .int .i64 0, .slice none 0 0]) (t := 26) ?_; intro gb102 hg w10 hbox hb; have BK102 := aK (hbox); have GW102 := aK (gE hg (pS HB.out)); have GE102 := GW102; replace HB := bS HB hb; clear hb hbox hg; obtain ⟨z11_0, z11_1, z11_2, y11_0, y11_1, y11_2⟩ := bc3 BK102.out))
    have n0_ : Aside0 ((((w10.setCell ⟨gb102, 0, none⟩ (.int .i64 ((rd_T26 l0 x7_1).f0))).setCell ⟨gb102, 1, none⟩ (.int .i64 ((rd_T26 l0 x7_1).f1))).setCell ⟨gb102, 2, none⟩ (.slice A101_2 ((rd_T26 l0 x7_1).f2).length c101_2)).heap[gb102]? = some (.cells #[.int .i64 ((rd_T26 l0 x7_1).f0), .int .i64 ((rd_T26 l0 x7_1).f1), .slice A101_2 ((rd_T26 l0 x7_1).f2).length c101_2] 26 (0, 0))) := ⟨by refine bk ?_; refine blk_put (cs := #[.int .i64 ((rd_T26 l0 x7_1).f0), .int .i64 ((rd_T26 l0 x7_1).f1), .slice none 0 0]) ?_ 2 _ rfl; refine bk ?_; refine blk_put (cs := #[.int .i64 ((rd_T26 l0 x7_1).f0), .int .i64 0, .slice none 0 0]) ?_ 1 _ rfl; refine bk ?_; refine blk_put (cs := #[.int .i64 0, .int .i64 0, .slice none 0 0]) ?_ 0 _ rfl; refine bk ?_; exact BK102.out⟩
    have n1_ : Aside0 (Below w.heap.size w (((w10.setCell ⟨gb102, 0, none⟩ (.int .i64 ((rd_T26 l0 x7_1).f0))).setCell ⟨gb102, 1, none⟩ (.int .i64 ((rd_T26 l0 x7_1).f1))).setCell ⟨gb102, 2, none⟩ (.slice A101_2 ((rd_T26 l0 x7_1).f2).length c101_2))) := ⟨pT HB.out⟩
    (try clear BK102)
    (try clear HB)
    generalize (((w10.setCell ⟨gb102, 0, none⟩ (.int .i64 ((rd_T26 l0 x7_1).f0))).setCell ⟨gb102, 1, none⟩ (.int .i64 ((rd_T26 l0 x7_1).f1))).setCell ⟨gb102, 2, none⟩ (.slice A101_2 ((rd_T26 l0 x7_1).f2).length c101_2)) = w12 at n0_ n1_ ⊢
    have BK102 := n0_; have HB := n1_; clear n0_ n1_; replace BK102 := aK (blk_drew BK102.out); replace HB := aK (below_drew1 HB.out)
    have p104 : 0 ≤ (0 : Int) := (by omega)
    have q104 : 0 < (l0.length : Int) := of_decide_eq_true (by first | (with_reducible assumption) | assumption)
    obtain ⟨ad104, A104_2, c104_2, e104, hx104_0, hx104_1, hx104_2, hl104_2, hi104_2⟩ := at_T26 HR0.out 0 p104 q104; have hw104_2 := hx104_2
    (try rw [show ((0 : Int)).toNat = 0 from rfl] at hw104_2)
    (try rw [show 0 * 3 = 0 from rfl] at hw104_2)
    (try rw [Addr.add_zero'] at hw104_2)
    have hw104_1 := hx104_1
    (try rw [show ((0 : Int)).toNat = 0 from rfl] at hw104_1)
    (try rw [show 0 * 3 = 0 from rfl] at hw104_1)
    (try rw [Addr.add_zero'] at hw104_1)
    have hw104_0 := hx104_0
    (try rw [show ((0 : Int)).toNat = 0 from rfl] at hw104_0)
    (try rw [show 0 * 3 = 0 from rfl] at hw104_0)
    (try rw [Addr.add_zero'] at hw104_0)
    obtain rfl : ad101 = ad104 := (by injection e104)
    have qi104 : (0 < l0.length) = True := eq_true (by omega)
    (try rw [show ((0 : Int)).toNat = 0 from rfl] at hx104_0)
    (try rw [show 0 * 3 = 0 from rfl] at hx104_0)
    (try rw [Addr.add_zero'] at hx104_0)
    (try rw [show ((0 : Int)).toNat = 0 from rfl] at hx104_1)
    (try rw [show 0 * 3 = 0 from rfl] at hx104_1)
    (try rw [Addr.add_zero'] at hx104_1)
    (try rw [show ((0 : Int)).toNat = 0 from rfl] at hx104_2)
    (try rw [show 0 * 3 = 0 from rfl] at hx104_2)
    (try rw [Addr.add_zero'] at hx104_2)
    replace hx104_0 := (HB.out.cell (World.block_lt_of_cell? w _ hx104_0)).trans hx104_0; replace hx104_1 := (HB.out.cell (World.block_lt_of_cell? w _ hx104_1)).trans hx104_1; replace hx104_2 := (HB.out.cell (World.block_lt_of_cell? w _ hx104_2)).trans hx104_2; have HR104_2 := Aside0.mk hi104_2; have HC104_2 := Aside0.mk hl104_2; clear hi104_2 hl104_2; replace p104 := eq_true p104; replace q104 := eq_true q104
    refine start_ (n := 11) (S := fun w' => w'.cell? ⟨gb102, 0, none⟩ = some (.int .i64 ((rd_T26 l0 x7_1).f0)) ∧ w'.cell? ⟨gb102, 1, none⟩ = some (.int .i64 ((rd_T26 l0 x7_1).f1)) ∧ w'.cell? ⟨gb102, 2, none⟩ = some (.slice A101_2 ((rd_T26 l0 x7_1).f2).length c101_2) ∧ w'.cell? ad101 = some (.int .i64 ((rd_T26 l0 0).f0)) ∧ w'.cell? ⟨ad101.block, ad101.off + 1, none⟩ = some (.int .i64 ((rd_T26 l0 0).f1)) ∧ w'.cell? ⟨ad101.block, ad101.off + 2, none⟩ = some (.slice A104_2 ((rd_T26 l0 0).f2).length c104_2)) (ds := []) (bz [0, 11]) (by kernel_rfl) rfl rfl (cj3 BK102.out ⟨((HB.out.cell (World.block_lt_of_cell? w _ hw104_0)).trans hw104_0), ((HB.out.cell (World.block_lt_of_cell? w _ hw104_1)).trans hw104_1), ((HB.out.cell (World.block_lt_of_cell? w _ hw104_2)).trans hw104_2)⟩) (fun hHeld => ?_); refine with_tabW impl_areAlike.tab4 impl_areAlike.bits4 (fun HT_ HW_ => ?_)
    generalize w12.drew = w13 at BK102 HB HR104_2 hx104_0 hx104_1 hx104_2 hHeld ⊢
    refine tk (i := 0) (N := some 11) (bz [1, 10]) rfl rfl HT_.out HW_.out (Or.inl ⟨by rfl, by rintro w' ⟨s0, s1, s2, s3, s4, s5⟩; go_simp; with_reducible rfl⟩) hHeld ?_
    refine one_ (i := 1) (N := some 12) (bz [2, 9]) rfl rfl (one_of HT_.out (by kernel_rfl)) (by decide) (fun K hK => ?_)
    refine goes_ Try.func28 (by kernel_rfl) rfl #[.agg #[.int .i64 ((rd_T26 l0 x7_1).f0), .int .i64 ((rd_T26 l0 x7_1).f1), .slice A101_2 ((rd_T26 l0 x7_1).f2).length c101_2]] (by rfl) rfl rfl (by (try simp only [List.map_toArray, List.map_cons, List.map_nil]); first | done | rfl | (simp only [List.length_drop, List.length_take]; rfl)) ?_
    with_reducible refine (impl_IsValidField.calls ((rd_T26 l0 x7_1).f0) ((rd_T26 l0 x7_1).f1) _ _ ((rd_T26 l0 x7_1).f2) true _ ?side1 ?side2 A5.out).mono ?_
    (case side1 => exact pC (Kd.C_below HR101_2.out HB.out))
    (case side2 => exact HC101_2.out)
    rintro e w14 ⟨rfl, hb⟩
    refine ⟨_, rfl, ?_⟩
    replace BK102 := bB BK102 hb; replace HB := bS HB hb
    (try clear hb)
    (try clear hb2)
    (try clear hk)
    (try clear hi)
    refine hK.out _ _ (cj3 BK102.out ⟨((HB.out.cell (World.block_lt_of_cell? w _ hw104_0)).trans hw104_0), ((HB.out.cell (World.block_lt_of_cell? w _ hw104_1)).trans hw104_1), ((HB.out.cell (World.block_lt_of_cell? w _ hw104_2)).trans hw104_2)⟩) (fun hHeld => ?_)
    clear hK K
    refine norm_ (a' := ?_) ?_ ?_
    rotate_left
    ·
     show Act.put _ (some 12) _ = _
     simp only [sP]
     rfl
    refine pz 2 13 [3, 8] HT_.out ?_
    refine pz 3 14 [4, 7] HT_.out ?_
    refine pz 5 16 [4, 1, 1, 5] HT_.out ?_
    refine pz 6 17 [4, 1, 2, 4] HT_.out ?_
    refine tk (i := 4) (N := some 15) (bz [7, 4]) rfl rfl HT_.out HW_.out (Or.inl ⟨by rfl, by rintro w' ⟨s0, s1, s2, s3, s4, s5⟩; go_simp; with_reducible rfl⟩) hHeld ?_
    refine tk (i := 7) (N := some 18) (bz [8, 3]) rfl rfl HT_.out HW_.out (Or.inl ⟨by rfl, by rintro w' ⟨s0, s1, s2, s3, s4, s5⟩; go_simp; with_reducible rfl⟩) hHeld ?_
    refine one_ (i := 8) (N := some 19) (bz [9, 2]) rfl rfl (one_of HT_.out (by kernel_rfl)) (by decide) (fun K hK => ?_)
    refine goes_ Try.func29 (by kernel_rfl) rfl #[.agg #[.int .i64 ((rd_T26 l0 x7_1).f0), .int .i64 ((rd_T26 l0 x7_1).f1), .slice A101_2 ((rd_T26 l0 x7_1).f2).length c101_2], .agg #[.int .i64 ((rd_T26 l0 0).f0), .int .i64 ((rd_T26 l0 0).f1), .slice A104_2 ((rd_T26 l0 0).f2).length c104_2]] (by rfl) rfl rfl (by (try simp only [List.map_toArray, List.map_cons, List.map_nil]); first | done | rfl | (simp only [List.length_drop, List.length_take]; rfl)) ?_
    with_reducible refine (impl_sameShape.calls ((rd_T26 l0 x7_1).f0) ((rd_T26 l0 x7_1).f1) _ _ ((rd_T26 l0 x7_1).f2) ((rd_T26 l0 0).f0) ((rd_T26 l0 0).f1) _ _ ((rd_T26 l0 0).f2) true _ ?side1 ?side2 ?side3 ?side4 A8.out).mono ?_
    (case side1 => exact pC (Kd.C_below HR101_2.out HB.out))
    (case side2 => exact HC101_2.out)
    (case side3 => exact pC (Kd.C_below HR104_2.out HB.out))
    (case side4 => exact HC104_2.out)
    rintro e w15 ⟨rfl, hb⟩
    refine ⟨_, rfl, ?_⟩
    replace BK102 := bB BK102 hb; replace HB := bS HB hb
    (try clear hb)
    (try clear hb2)
    (try clear hk)
    (try clear hi)
    refine hK.out _ _ (cj3 BK102.out ⟨((HB.out.cell (World.block_lt_of_cell? w _ hw104_0)).trans hw104_0), ((HB.out.cell (World.block_lt_of_cell? w _ hw104_1)).trans hw104_1), ((HB.out.cell (World.block_lt_of_cell? w _ hw104_2)).trans hw104_2)⟩) (fun hHeld => ?_)
    clear hK K
    refine norm_ (a' := ?_) ?_ ?_
    rotate_left
    ·
     show Act.put _ (some 19) _ = _
     simp only [sP]
     rfl
    refine pz 9 20 [10, 1] HT_.out ?_
    refine pz 10 21 [11, 0] HT_.out ?_
    refine done_ (done_of HT_.out (by kernel_rfl)) ?_
    try go_wp2
    go_roundg k1
    case measure => have := HK1.out; omega
    case rel => exact ⟨(wrap64 (x7_1 + 1)), (by first | rfl | (simp; done) | (simp [*]; done)), H', ⟨by have := HK1.out; omega⟩, ⟨pT HB.out⟩⟩
   replace c9 := Bool.eq_false_iff.mpr c9; subst c9
   have H1 : (some false) = some r := by rw [if_neg (show ¬ (false = true) by decide)] at H; exact H
   clear H; have H := H1; clear H1
   obtain rfl := Option.some.inj H
   have p101 : 0 ≤ (x7_1 : Int) := of_decide_eq_true (by first | (with_reducible assumption) | assumption)
   have q101 : x7_1 < (l0.length : Int) := of_decide_eq_true (by first | (with_reducible assumption) | assumption)
   obtain ⟨ad101, A101_2, c101_2, e101, hx101_0, hx101_1, hx101_2, hl101_2, hi101_2⟩ := at_T26 HR0.out x7_1 p101 q101; cases e101; replace hx101_0 := (HB.out.cell (World.block_lt_of_cell? w _ hx101_0)).trans hx101_0; replace hx101_1 := (HB.out.cell (World.block_lt_of_cell? w _ hx101_1)).trans hx101_1; replace hx101_2 := (HB.out.cell (World.block_lt_of_cell? w _ hx101_2)).trans hx101_2; have HR101_2 := Aside0.mk hi101_2; have HC101_2 := Aside0.mk hl101_2; clear hi101_2 hl101_2; replace p101 := eq_true p101; replace q101 := eq_true q101
   try go_wp2_with (first | ((with_reducible refine gate_dst (N := 4) rfl ?_); refine bxe (cs := #[.int .i64 0, .int .i64 0, .slice none 0 0]) (t := 26) ?_; intro gb102 hg w16 hbox hb; have BK102 := aK (hbox); have GW102 := aK (gE hg (pS HB.out)); have GE102 := GW102; replace HB := bS HB hb; clear hb hbox hg; obtain ⟨z17_0, z17_1, z17_2, y17_0, y17_1, y17_2⟩ := bc3 BK102.out))
   have n0_ : Aside0 ((((w16.setCell ⟨gb102, 0, none⟩ (.int .i64 ((rd_T26 l0 x7_1).f0))).setCell ⟨gb102, 1, none⟩ (.int .i64 ((rd_T26 l0 x7_1).f1))).setCell ⟨gb102, 2, none⟩ (.slice A101_2 ((rd_T26 l0 x7_1).f2).length c101_2)).heap[gb102]? = some (.cells #[.int .i64 ((rd_T26 l0 x7_1).f0), .int .i64 ((rd_T26 l0 x7_1).f1), .slice A101_2 ((rd_T26 l0 x7_1).f2).length c101_2] 26 (0, 0))) := ⟨by refine bk ?_; refine blk_put (cs := #[.int .i64 ((rd_T26 l0 x7_1).f0), .int .i64 ((rd_T26 l0 x7_1).f1), .slice none 0 0]) ?_ 2 _ rfl; refine bk ?_; refine blk_put (cs := #[.int .i64 ((rd_T26 l0 x7_1).f0), .int .i64 0, .slice none 0 0]) ?_ 1 _ rfl; refine bk ?_; refine blk_put (cs := #[.int .i64 0, .int .i64 0, .slice none 0 0]) ?_ 0 _ rfl; refine bk ?_; exact BK102.out⟩
   have n1_ : Aside0 (Below w.heap.size w (((w16.setCell ⟨gb102, 0, none⟩ (.int .i64 ((rd_T26 l0 x7_1).f0))).setCell ⟨gb102, 1, none⟩ (.int .i64 ((rd_T26 l0 x7_1).f1))).setCell ⟨gb102, 2, none⟩ (.slice A101_2 ((rd_T26 l0 x7_1).f2).length c101_2))) := ⟨pT HB.out⟩
   (try clear BK102)
   (try clear HB)
   generalize (((w16.setCell ⟨gb102, 0, none⟩ (.int .i64 ((rd_T26 l0 x7_1).f0))).setCell ⟨gb102, 1, none⟩ (.int .i64 ((rd_T26 l0 x7_1).f1))).setCell ⟨gb102, 2, none⟩ (.slice A101_2 ((rd_T26 l0 x7_1).f2).length c101_2)) = w18 at n0_ n1_ ⊢
   have BK102 := n0_; have HB := n1_; clear n0_ n1_; replace BK102 := aK (blk_drew BK102.out); replace HB := aK (below_drew1 HB.out)
   have p104 : 0 ≤ (0 : Int) := (by omega)
   have q104 : 0 < (l0.length : Int) := of_decide_eq_true (by first | (with_reducible assumption) | assumption)
   obtain ⟨ad104, A104_2, c104_2, e104, hx104_0, hx104_1, hx104_2, hl104_2, hi104_2⟩ := at_T26 HR0.out 0 p104 q104; have hw104_2 := hx104_2
   (try rw [show ((0 : Int)).toNat = 0 from rfl] at hw104_2)
   (try rw [show 0 * 3 = 0 from rfl] at hw104_2)
   (try rw [Addr.add_zero'] at hw104_2)
   have hw104_1 := hx104_1
   (try rw [show ((0 : Int)).toNat = 0 from rfl] at hw104_1)
   (try rw [show 0 * 3 = 0 from rfl] at hw104_1)
   (try rw [Addr.add_zero'] at hw104_1)
   have hw104_0 := hx104_0
   (try rw [show ((0 : Int)).toNat = 0 from rfl] at hw104_0)
   (try rw [show 0 * 3 = 0 from rfl] at hw104_0)
   (try rw [Addr.add_zero'] at hw104_0)
   obtain rfl : ad101 = ad104 := (by injection e104)
   have qi104 : (0 < l0.length) = True := eq_true (by omega)
   (try rw [show ((0 : Int)).toNat = 0 from rfl] at hx104_0)
   (try rw [show 0 * 3 = 0 from rfl] at hx104_0)
   (try rw [Addr.add_zero'] at hx104_0)
   (try rw [show ((0 : Int)).toNat = 0 from rfl] at hx104_1)
   (try rw [show 0 * 3 = 0 from rfl] at hx104_1)
   (try rw [Addr.add_zero'] at hx104_1)
   (try rw [show ((0 : Int)).toNat = 0 from rfl] at hx104_2)
   (try rw [show 0 * 3 = 0 from rfl] at hx104_2)
   (try rw [Addr.add_zero'] at hx104_2)
   replace hx104_0 := (HB.out.cell (World.block_lt_of_cell? w _ hx104_0)).trans hx104_0; replace hx104_1 := (HB.out.cell (World.block_lt_of_cell? w _ hx104_1)).trans hx104_1; replace hx104_2 := (HB.out.cell (World.block_lt_of_cell? w _ hx104_2)).trans hx104_2; have HR104_2 := Aside0.mk hi104_2; have HC104_2 := Aside0.mk hl104_2; clear hi104_2 hl104_2; replace p104 := eq_true p104; replace q104 := eq_true q104
   refine start_ (n := 11) (S := fun w' => w'.cell? ⟨gb102, 0, none⟩ = some (.int .i64 ((rd_T26 l0 x7_1).f0)) ∧ w'.cell? ⟨gb102, 1, none⟩ = some (.int .i64 ((rd_T26 l0 x7_1).f1)) ∧ w'.cell? ⟨gb102, 2, none⟩ = some (.slice A101_2 ((rd_T26 l0 x7_1).f2).length c101_2) ∧ w'.cell? ad101 = some (.int .i64 ((rd_T26 l0 0).f0)) ∧ w'.cell? ⟨ad101.block, ad101.off + 1, none⟩ = some (.int .i64 ((rd_T26 l0 0).f1)) ∧ w'.cell? ⟨ad101.block, ad101.off + 2, none⟩ = some (.slice A104_2 ((rd_T26 l0 0).f2).length c104_2)) (ds := []) (bz [0, 11]) (by kernel_rfl) rfl rfl (cj3 BK102.out ⟨((HB.out.cell (World.block_lt_of_cell? w _ hw104_0)).trans hw104_0), ((HB.out.cell (World.block_lt_of_cell? w _ hw104_1)).trans hw104_1), ((HB.out.cell (World.block_lt_of_cell? w _ hw104_2)).trans hw104_2)⟩) (fun hHeld => ?_); refine with_tabW impl_areAlike.tab4 impl_areAlike.bits4 (fun HT_ HW_ => ?_)
   generalize w18.drew = w19 at BK102 HB HR104_2 hx104_0 hx104_1 hx104_2 hHeld ⊢
   refine tk (i := 0) (N := some 11) (bz [1, 10]) rfl rfl HT_.out HW_.out (Or.inl ⟨by rfl, by rintro w' ⟨s0, s1, s2, s3, s4, s5⟩; go_simp; with_reducible rfl⟩) hHeld ?_
   refine one_ (i := 1) (N := some 12) (bz [2, 9]) rfl rfl (one_of HT_.out (by kernel_rfl)) (by decide) (fun K hK => ?_)
   refine goes_ Try.func28 (by kernel_rfl) rfl #[.agg #[.int .i64 ((rd_T26 l0 x7_1).f0), .int .i64 ((rd_T26 l0 x7_1).f1), .slice A101_2 ((rd_T26 l0 x7_1).f2).length c101_2]] (by rfl) rfl rfl (by (try simp only [List.map_toArray, List.map_cons, List.map_nil]); first | done | rfl | (simp only [List.length_drop, List.length_take]; rfl)) ?_
   with_reducible refine (impl_IsValidField.calls ((rd_T26 l0 x7_1).f0) ((rd_T26 l0 x7_1).f1) _ _ ((rd_T26 l0 x7_1).f2) true _ ?side1 ?side2 A5.out).mono ?_
   (case side1 => exact pC (Kd.C_below HR101_2.out HB.out))
   (case side2 => exact HC101_2.out)
   rintro e w20 ⟨rfl, hb⟩
   refine ⟨_, rfl, ?_⟩
   replace BK102 := bB BK102 hb; replace HB := bS HB hb
   (try clear hb)
   (try clear hb2)
   (try clear hk)
   (try clear hi)
   refine hK.out _ _ (cj3 BK102.out ⟨((HB.out.cell (World.block_lt_of_cell? w _ hw104_0)).trans hw104_0), ((HB.out.cell (World.block_lt_of_cell? w _ hw104_1)).trans hw104_1), ((HB.out.cell (World.block_lt_of_cell? w _ hw104_2)).trans hw104_2)⟩) (fun hHeld => ?_)
   clear hK K
   refine norm_ (a' := ?_) ?_ ?_
   rotate_left
   ·
    show Act.put _ (some 12) _ = _
    simp only [sP]
    rfl
   refine pz 2 13 [3, 8] HT_.out ?_
   refine pz 3 14 [4, 7] HT_.out ?_
   refine pz 5 16 [4, 1, 1, 5] HT_.out ?_
   refine pz 6 17 [4, 1, 2, 4] HT_.out ?_
   refine tk (i := 4) (N := some 15) (bz [7, 4]) rfl rfl HT_.out HW_.out (Or.inl ⟨by rfl, by rintro w' ⟨s0, s1, s2, s3, s4, s5⟩; go_simp; with_reducible rfl⟩) hHeld ?_
   refine tk (i := 7) (N := some 18) (bz [8, 3]) rfl rfl HT_.out HW_.out (Or.inl ⟨by rfl, by rintro w' ⟨s0, s1, s2, s3, s4, s5⟩; go_simp; with_reducible rfl⟩) hHeld ?_
   refine one_ (i := 8) (N := some 19) (bz [9, 2]) rfl rfl (one_of HT_.out (by kernel_rfl)) (by decide) (fun K hK => ?_)
   refine goes_ Try.func29 (by kernel_rfl) rfl #[.agg #[.int .i64 ((rd_T26 l0 x7_1).f0), .int .i64 ((rd_T26 l0 x7_1).f1), .slice A101_2 ((rd_T26 l0 x7_1).f2).length c101_2], .agg #[.int .i64 ((rd_T26 l0 0).f0), .int .i64 ((rd_T26 l0 0).f1), .slice A104_2 ((rd_T26 l0 0).f2).length c104_2]] (by rfl) rfl rfl (by (try simp only [List.map_toArray, List.map_cons, List.map_nil]); first | done | rfl | (simp only [List.length_drop, List.length_take]; rfl)) ?_
   with_reducible refine (impl_sameShape.calls ((rd_T26 l0 x7_1).f0) ((rd_T26 l0 x7_1).f1) _ _ ((rd_T26 l0 x7_1).f2) ((rd_T26 l0 0).f0) ((rd_T26 l0 0).f1) _ _ ((rd_T26 l0 0).f2) false _ ?side1 ?side2 ?side3 ?side4 A8.out).mono ?_
   (case side1 => exact pC (Kd.C_below HR101_2.out HB.out))
   (case side2 => exact HC101_2.out)
   (case side3 => exact pC (Kd.C_below HR104_2.out HB.out))
   (case side4 => exact HC104_2.out)
   rintro e w21 ⟨rfl, hb⟩
   refine ⟨_, rfl, ?_⟩
   replace BK102 := bB BK102 hb; replace HB := bS HB hb
   (try clear hb)
   (try clear hb2)
   (try clear hk)
   (try clear hi)
   refine hK.out _ _ (cj3 BK102.out ⟨((HB.out.cell (World.block_lt_of_cell? w _ hw104_0)).trans hw104_0), ((HB.out.cell (World.block_lt_of_cell? w _ hw104_1)).trans hw104_1), ((HB.out.cell (World.block_lt_of_cell? w _ hw104_2)).trans hw104_2)⟩) (fun hHeld => ?_)
   clear hK K
   refine norm_ (a' := ?_) ?_ ?_
   rotate_left
   ·
    show Act.put _ (some 19) _ = _
    simp only [sP]
    rfl
   refine pz 9 20 [10, 1] HT_.out ?_
   refine pz 10 21 [11, 0] HT_.out ?_
   refine done_ (done_of HT_.out (by kernel_rfl)) ?_
   try go_wp2
   go_ret
   exact ⟨er, pT HB.out⟩
def impl_absOf.f (a0 : Int) : Option (Int) := if a0 < 0 then (some (wrap64 (-a0))) else (some a0)
theorem impl_absOf.calls (a0 : Int) (r : Int) (w : World) (h : impl_absOf.f a0 = some r) :
  Calls Try.prog 20 #[.int .i64 a0] w fun e w' => e = .returned (.int .i64 r) ∧ Drawn0 w w' := by
 have H : (if a0 < 0 then (some (wrap64 (-a0))) else (some a0)) = some r := h
 clear h
 by_cases c2 : a0 < 0
 ·
  rw [if_pos c2] at H
  have c2b0 : decide (a0 < 0) = true := decide_eq_true c2
  clear c2
  obtain rfl := Option.some.inj H
  go_enter Try.func20, Try.ntmps20
  go_wp2
  go_ret
  exact ⟨by first | rfl | (simp; done) | (simp [*]; done), by repeat (first | exact Drawn0.refl _ | apply Drawn0.step)⟩
 rw [if_neg c2] at H
 have c2b0 : decide (a0 < 0) = false := decide_eq_false c2
 clear c2
 obtain rfl := Option.some.inj H
 go_enter Try.func20, Try.ntmps20
 go_wp2
 go_ret
 exact ⟨by first | rfl | (simp; done) | (simp [*]; done), by repeat (first | exact Drawn0.refl _ | apply Drawn0.step)⟩
def impl_differences.l0 : Nat → Int → Int → List Int → Int → Int → Int → Int → List Int → Option (Int × Int)
 | 0, _, _, _, _, _, _, _, _ => none
 | k + 1, x6, x7, x12, x13, x14, x103000, x103001, x103002 => if x14 < x13 then (if 0 ≤ x14 then (if x14 < (x12.length : Int) then (if x14 < (x103002.length : Int) then (if (rd x12 x14) = (-9999) then (impl_differences.l0 k x6 x7 x12 x13 (wrap64 (x14 + 1)) x103000 x103001 x103002) else (if (rd x103002 x14) = (-9999) then (impl_differences.l0 k x6 x7 x12 x13 (wrap64 (x14 + 1)) x103000 x103001 x103002) else ((impl_absOf.f (wrap64 ((rd x12 x14) - (rd x103002 x14)))).bind fun t105 => (impl_differences.l0 k (wrap64 (x6 + t105)) (wrap64 (x7 + 1)) x12 x13 (wrap64 (x14 + 1)) x103000 x103001 x103002)))) else (none)) else (none)) else (none)) else (some (x6, x7))
def impl_differences.f (k : Nat) (a0_0 : Int) (a0_1 : Int) (l0_2 : List Int) (a1_0 : Int) (a1_1 : Int) (l1_2 : List Int) : Option (Int × Int) := impl_differences.l0 k 0 0 l0_2 (l0_2.length : Int) 0 a1_0 a1_1 l1_2
theorem impl_differences.calls (k : Nat) (a0_0 : Int) (a0_1 : Int) (A0_2 : Option Addr) (c0_2 : Nat) (l0_2 : List Int) (a1_0 : Int) (a1_1 : Int) (A1_2 : Option Addr) (c1_2 : Nat) (l1_2 : List Int) (r1 : Int) (r2 : Int) (w : World) (hr0_2 : Kd.C (Kd.int .i64) w A0_2 l0_2.length l0_2) (hc0_2 : l0_2.length ≤ c0_2) (hr1_2 : Kd.C (Kd.int .i64) w A1_2 l1_2.length l1_2) (hc1_2 : l1_2.length ≤ c1_2) (h : impl_differences.f k a0_0 a0_1 l0_2 a1_0 a1_1 l1_2 = some (r1, r2)) :
  Calls Try.prog 30 #[.agg #[.int .i64 a0_0, .int .i64 a0_1, .slice A0_2 l0_2.length c0_2], .agg #[.int .i64 a1_0, .int .i64 a1_1, .slice A1_2 l1_2.length c1_2]] w fun e w' => e = .returned (.tuple #[.int .i64 r1, .int .i64 r2]) ∧ Below w.heap.size w w' := by
 have hu26 := Try.underlying26
 have HR0_2 := Aside0.mk hr0_2
 have HC0_2 := Aside0.mk hc0_2
 clear hr0_2 hc0_2
 have HR1_2 := Aside0.mk hr1_2
 have HC1_2 := Aside0.mk hc1_2
 clear hr1_2 hc1_2
 have HB := aK (Below.refl w.heap.size w)
 have H : (impl_differences.l0 k 0 0 l0_2 (l0_2.length : Int) 0 a1_0 a1_1 l1_2) = some (r1, r2) := h
 clear h
 have H' := Aside0.mk H
 clear H
 go_enter Try.func30, Try.ntmps30
 go_wp2_with (first | ((with_reducible refine gate_dst (N := 2) rfl ?_); refine bxe (cs := #[.int .i64 a0_0, .int .i64 a0_1, .slice A0_2 l0_2.length c0_2]) (t := 26) ?_; intro gb101 hg w3 hbox hb; have BK101 := aK (hbox); have GW101 := aK (gE hg (pS HB.out)); have GE101 := GW101; replace HB := bS HB hb; clear hb hbox hg) | ((with_reducible refine gate_dst (N := 3) rfl ?_); refine bxe (cs := #[.int .i64 a1_0, .int .i64 a1_1, .slice A1_2 l1_2.length c1_2]) (t := 26) ?_; intro gb102 hg w4 hbox hb; have BK102 := aK (hbox); have GW102 := aK (gE hg (pS HB.out)); have GE102 := GW102; obtain ⟨NB101_102, NB102_101⟩ := nb hg (pB BK101.out); replace BK101 := bB BK101 hb; replace HB := bS HB hb; clear hb hbox hg; obtain ⟨hnb5, hnc5⟩ := nB NB101_102; obtain ⟨z6_0, z6_1, z6_2, y6_0, y6_1, y6_2⟩ := bc3 BK101.out))
 go_loopg [6, 7, 14] k (fun kq v6 v7 v14 w' => ∃ (x6_1 : Int) (x7_1 : Int) (x14_1 : Int), v6 = .int .i64 x6_1 ∧ v7 = .int .i64 x7_1 ∧ v14 = .int .i64 x14_1 ∧ Aside0 (impl_differences.l0 kq x6_1 x7_1 l0_2 (l0_2.length : Int) x14_1 a1_0 a1_1 l1_2 = some (r1, r2)) ∧ Aside0 (kq ≤ k) ∧ Aside0 (w'.heap[gb101]? = some (.cells #[.int .i64 a0_0, .int .i64 a0_1, (.slice A0_2 l0_2.length c0_2)] 26 (0, 0))) ∧ Aside0 (w'.heap[gb102]? = some (.cells #[.int .i64 a1_0, .int .i64 a1_1, (.slice A1_2 l1_2.length c1_2)] 26 (0, 0))) ∧ Aside0 (Below w.heap.size w w'))
 case atStart => exact ⟨(0), (0), (0), (by first | rfl | (simp; done) | (simp [*]; done)), (by first | rfl | (simp; done) | (simp [*]; done)), (by first | rfl | (simp; done) | (simp [*]; done)), H', ⟨Nat.le_refl _⟩, ⟨by refine bk ?_; exact BK101.out⟩, ⟨by refine bk ?_; exact BK102.out⟩, ⟨pT HB.out⟩⟩
 case round =>
  clear H'
  try clear c1
  try clear p2
  try clear c3
  try clear c5
  try clear z6_0
  try clear z6_1
  try clear z6_2
  try clear y6_0
  try clear y6_1
  try clear y6_2
  obtain ⟨x6_1, x7_1, x14_1, rfl, rfl, rfl, HA, HK1, BK101, BK102, HB⟩ := hrel
  cases gk with
  | zero => exact absurd HA.out (by simp [impl_differences.l0])
  | succ k1 =>
   have H := HA.out; clear HA
   simp only [impl_differences.l0] at H
   by_cases c7 : x14_1 < (l0_2.length : Int)
   rotate_left
   ·
    rw [if_neg c7] at H
    have c7b0 : decide (x14_1 < (l0_2.length : Int)) = false := decide_eq_false c7
    clear c7
    simp only [Option.some.injEq, Prod.mk.injEq] at H
    obtain ⟨rfl, rfl⟩ := H
    go_wp2
    go_ret2
    exact ⟨er, pT HB.out⟩
   rw [if_pos c7] at H
   have c7b0 : decide (x14_1 < (l0_2.length : Int)) = true := decide_eq_true c7
   clear c7
   by_cases c8 : 0 ≤ x14_1
   rotate_left
   ·
    rw [if_neg c8] at H
    exact absurd H (by simp)
   rw [if_pos c8] at H
   have c8b0 : decide (0 ≤ x14_1) = true := decide_eq_true c8
   clear c8
   by_cases c9 : x14_1 < (l0_2.length : Int)
   rotate_left
   ·
    rw [if_neg c9] at H
    exact absurd H (by simp)
   rw [if_pos c9] at H
   have c9b0 : decide (x14_1 < (l0_2.length : Int)) = true := decide_eq_true c9
   clear c9
   by_cases c10 : x14_1 < (l1_2.length : Int)
   rotate_left
   ·
    rw [if_neg c10] at H
    exact absurd H (by simp)
   rw [if_pos c10] at H
   have c10b0 : decide (x14_1 < (l1_2.length : Int)) = true := decide_eq_true c10
   clear c10
   by_cases c11 : (rd l0_2 x14_1) = (-9999)
   ·
    rw [if_pos c11] at H
    have c11b0 : ((rd l0_2 x14_1) == (-9999)) = true := beq_iff_eq.mpr c11
    have c11b1 : ((rd l0_2 x14_1) != (-9999)) = false := bne_eq_false_iff_eq.mpr c11
    clear c11; have H' := Aside0.mk H; clear H
    have p103 : 0 ≤ (x14_1 : Int) := of_decide_eq_true (by first | (with_reducible assumption) | assumption)
    have q103 : x14_1 < (l0_2.length : Int) := of_decide_eq_true (by first | (with_reducible assumption) | assumption)
    obtain ⟨ad103, e103, hx103_0⟩ := Kd.at_int HR0_2.out x14_1 p103 q103; cases e103; replace hx103_0 := (HB.out.cell (World.block_lt_of_cell? w _ hx103_0)).trans hx103_0; replace p103 := eq_true p103; replace q103 := eq_true q103; obtain ⟨hnb12, hnc12⟩ := nB NB102_101; obtain ⟨z13_0, z13_1, z13_2, y13_0, y13_1, y13_2⟩ := bc3 BK102.out
    have p104 : 0 ≤ (x14_1 : Int) := of_decide_eq_true (by first | (with_reducible assumption) | assumption)
    have q104 : x14_1 < (l1_2.length : Int) := of_decide_eq_true (by first | (with_reducible assumption) | assumption)
    obtain ⟨ad104, e104, hx104_0⟩ := Kd.at_int HR1_2.out x14_1 p104 q104; cases e104; replace hx104_0 := (HB.out.cell (World.block_lt_of_cell? w _ hx104_0)).trans hx104_0; replace p104 := eq_true p104; replace q104 := eq_true q104
    go_wp2
    go_roundg k1
    case measure => have := HK1.out; omega
    case rel => exact ⟨(x6_1), (x7_1), (wrap64 (x14_1 + 1)), (by first | rfl | (simp; done) | (simp [*]; done)), (by first | rfl | (simp; done) | (simp [*]; done)), (by first | rfl | (simp; done) | (simp [*]; done)), H', ⟨by have := HK1.out; omega⟩, ⟨by refine bk ?_; exact BK101.out⟩, ⟨by refine bk ?_; exact BK102.out⟩, ⟨pT HB.out⟩⟩
   rw [if_neg c11] at H
   have c11b0 : ((rd l0_2 x14_1) == (-9999)) = false := beq_eq_false_iff_ne.mpr c11
   have c11b1 : ((rd l0_2 x14_1) != (-9999)) = true := bne_iff_ne.mpr c11
   by_cases c14 : (rd l1_2 x14_1) = (-9999)
   ·
    rw [if_pos c14] at H
    have c14b0 : ((rd l1_2 x14_1) == (-9999)) = true := beq_iff_eq.mpr c14
    have c14b1 : ((rd l1_2 x14_1) != (-9999)) = false := bne_eq_false_iff_eq.mpr c14
    clear c14; have H' := Aside0.mk H; clear H
    have p103 : 0 ≤ (x14_1 : Int) := of_decide_eq_true (by first | (with_reducible assumption) | assumption)
    have q103 : x14_1 < (l0_2.length : Int) := of_decide_eq_true (by first | (with_reducible assumption) | assumption)
    obtain ⟨ad103, e103, hx103_0⟩ := Kd.at_int HR0_2.out x14_1 p103 q103; cases e103; replace hx103_0 := (HB.out.cell (World.block_lt_of_cell? w _ hx103_0)).trans hx103_0; replace p103 := eq_true p103; replace q103 := eq_true q103; obtain ⟨hnb15, hnc15⟩ := nB NB102_101; obtain ⟨z16_0, z16_1, z16_2, y16_0, y16_1, y16_2⟩ := bc3 BK102.out
    have p104 : 0 ≤ (x14_1 : Int) := of_decide_eq_true (by first | (with_reducible assumption) | assumption)
    have q104 : x14_1 < (l1_2.length : Int) := of_decide_eq_true (by first | (with_reducible assumption) | assumption)
    obtain ⟨ad104, e104, hx104_0⟩ := Kd.at_int HR1_2.out x14_1 p104 q104; cases e104; replace hx104_0 := (HB.out.cell (World.block_lt_of_cell? w _ hx104_0)).trans hx104_0; replace p104 := eq_true p104; replace q104 := eq_true q104
    go_wp2
    go_roundg k1
    case measure => have := HK1.out; omega
    case rel => exact ⟨(x6_1), (x7_1), (wrap64 (x14_1 + 1)), (by first | rfl | (simp; done) | (simp [*]; done)), (by first | rfl | (simp; done) | (simp [*]; done)), (by first | rfl | (simp; done) | (simp [*]; done)), H', ⟨by have := HK1.out; omega⟩, ⟨by refine bk ?_; exact BK101.out⟩, ⟨by refine bk ?_; exact BK102.out⟩, ⟨pT HB.out⟩⟩
   rw [if_neg c14] at H
   have c14b0 : ((rd l1_2 x14_1) == (-9999)) = false := beq_eq_false_iff_ne.mpr c14
   have c14b1 : ((rd l1_2 x14_1) != (-9999)) = true := bne_iff_ne.mpr c14
   replace H := Option.bind_eq_some_iff.mp H; obtain ⟨t105, A170, H⟩ := H
   replace H : (impl_differences.l0 k1 (wrap64 (x6_1 + t105)) (wrap64 (x7_1 + 1)) l0_2 (l0_2.length : Int) (wrap64 (x14_1 + 1)) a1_0 a1_1 l1_2) = some (r1, r2) := H
   have A17 := Aside0.mk A170; clear A170; have H' := Aside0.mk H; clear H
   have p103 : 0 ≤ (x14_1 : Int) := of_decide_eq_true (by first | (with_reducible assumption) | assumption)
   have q103 : x14_1 < (l0_2.length : Int) := of_decide_eq_true (by first | (with_reducible assumption) | assumption)
   obtain ⟨ad103, e103, hx103_0⟩ := Kd.at_int HR0_2.out x14_1 p103 q103; cases e103; replace hx103_0 := (HB.out.cell (World.block_lt_of_cell? w _ hx103_0)).trans hx103_0; replace p103 := eq_true p103; replace q103 := eq_true q103; obtain ⟨hnb18, hnc18⟩ := nB NB102_101; obtain ⟨z19_0, z19_1, z19_2, y19_0, y19_1, y19_2⟩ := bc3 BK102.out
   have p104 : 0 ≤ (x14_1 : Int) := of_decide_eq_true (by first | (with_reducible assumption) | assumption)
   have q104 : x14_1 < (l1_2.length : Int) := of_decide_eq_true (by first | (with_reducible assumption) | assumption)
   obtain ⟨ad104, e104, hx104_0⟩ := Kd.at_int HR1_2.out x14_1 p104 q104; cases e104; replace hx104_0 := (HB.out.cell (World.block_lt_of_cell? w _ hx104_0)).trans hx104_0; replace p104 := eq_true p104; replace q104 := eq_true q104
   go_wp2_with (first | ((with_reducible refine gate_callee (f := 20) rfl ?_); refine gl (some 34) Try.func20 #[.int .i64 (wrap64 ((rd l0_2 x14_1) - (rd l1_2 x14_1)))] ?_; (with_reducible refine (impl_absOf.calls (wrap64 ((rd l0_2 x14_1) - (rd l1_2 x14_1))) t105 _ A17.out).mono ?_); rintro e w' ⟨rfl, ⟨nd, rfl⟩⟩; refine ⟨_, rfl, ?_⟩))
   go_roundg k1
   case measure => have := HK1.out; omega
   case rel => exact ⟨(wrap64 (x6_1 + t105)), (wrap64 (x7_1 + 1)), (wrap64 (x14_1 + 1)), (by first | rfl | (simp; done) | (simp [*]; done)), (by first | rfl | (simp; done) | (simp [*]; done)), (by first | rfl | (simp; done) | (simp [*]; done)), H', ⟨by have := HK1.out; omega⟩, ⟨by refine bk ?_; exact BK101.out⟩, ⟨by refine bk ?_; exact BK102.out⟩, ⟨pT HB.out⟩⟩
end Go.Proofs.Ytmkdiliemiobeaa.P
namespace Go.Proofs.Ytmkdiliemiobeaa.P
open Go.RowKit Go.Proofs.YtmkdiliemiobeaaW.PrintWords Go.Proofs.YtmkdiliemiobeaaW.PrintLast Go.Proofs.YtmkdiliemiobeaaW.PrintMore
theorem mp_goesA {P : Program} {ops : Array Oper} {Q : Exit → Act → World → Prop} {oi : Oper} {N : Option Tmp} {a : Act} {w : World} {K : Act → World → Prop} {g : FuncId} {lb : Array Value} {c : Operand} {aa : Array Operand} {ts : Array TypeId}
    (eg : ∀ args w, (callFunc g args).run P w = .ok (.enter g args) w) (args : Array Value) (hw : Region.wanted oi (yielded ops a.tmps) = true) (hN : oi.dst = N) (hop : oi.op = .call { callee := .value c, args := aa, argTypes := ts })
    (hc : a.eval c = .func (.func g) #[] lb) (hargs : aa.map a.eval = args) (h : Calls P g (args ++ lb) w fun e w' => ∃ v, e = .returned v ∧ K (a.put N v) w') : if Region.wanted oi (yielded ops a.tmps) = true then Oper.wp P oi a w K Q else K (a.put N undef) w := by
  refine call_ g (args ++ lb) hw hN ?_ h
  unfold execOp
  simp [hop, hc, resolve, Deferred.ofValue, invoke, hargs, eg]
end Go.Proofs.Ytmkdiliemiobeaa.P
namespace Go.Proofs.Ytmkdiliemiobeaa.P
open Go.RowKit Go.Proofs.YtmkdiliemiobeaaW.PrintWords Go.Proofs.YtmkdiliemiobeaaW.PrintLast Go.Proofs.YtmkdiliemiobeaaW.PrintMore
attribute [local go_sem] max2_int min2_int max_two min_two max_three min_three max_four min_four
set_option linter.unusedVariables false
set_option linter.unusedSimpArgs false
set_option maxHeartbeats 8000000
set_option maxRecDepth 100000
def bits_Mul64.f (a0 : Int) (a1 : Int) : Option (Int × Int) := some (IntKind.u64.wrap ((IntKind.u64.wrap ((IntKind.u64.wrap ((a0 / 4294967296) * (a1 / 4294967296))) + ((IntKind.u64.wrap ((IntKind.u64.wrap ((a0 / 4294967296) * (Go.bits .and .u64 a1 4294967295))) + ((IntKind.u64.wrap ((Go.bits .and .u64 a0 4294967295) * (Go.bits .and .u64 a1 4294967295))) / 4294967296))) / 4294967296))) + ((IntKind.u64.wrap ((Go.bits .and .u64 (IntKind.u64.wrap ((IntKind.u64.wrap ((a0 / 4294967296) * (Go.bits .and .u64 a1 4294967295))) + ((IntKind.u64.wrap ((Go.bits .and .u64 a0 4294967295) * (Go.bits .and .u64 a1 4294967295))) / 4294967296))) 4294967295) + (IntKind.u64.wrap ((Go.bits .and .u64 a0 4294967295) * (a1 / 4294967296))))) / 4294967296)), IntKind.u64.wrap (a0 * a1))
theorem bits_Mul64.calls (a0 : Int) (a1 : Int) (r1 : Int) (r2 : Int) (w : World) (h : bits_Mul64.f a0 a1 = some (r1, r2)) :
  Calls Try.prog 84 #[.int .u64 a0, .int .u64 a1] w fun e w' => e = .returned (.tuple #[.int .u64 r1, .int .u64 r2]) ∧ Drawn0 w w' := by
 have H : (some (IntKind.u64.wrap ((IntKind.u64.wrap ((IntKind.u64.wrap ((a0 / 4294967296) * (a1 / 4294967296))) + ((IntKind.u64.wrap ((IntKind.u64.wrap ((a0 / 4294967296) * (Go.bits .and .u64 a1 4294967295))) + ((IntKind.u64.wrap ((Go.bits .and .u64 a0 4294967295) * (Go.bits .and .u64 a1 4294967295))) / 4294967296))) / 4294967296))) + ((IntKind.u64.wrap ((Go.bits .and .u64 (IntKind.u64.wrap ((IntKind.u64.wrap ((a0 / 4294967296) * (Go.bits .and .u64 a1 4294967295))) + ((IntKind.u64.wrap ((Go.bits .and .u64 a0 4294967295) * (Go.bits .and .u64 a1 4294967295))) / 4294967296))) 4294967295) + (IntKind.u64.wrap ((Go.bits .and .u64 a0 4294967295) * (a1 / 4294967296))))) / 4294967296)), IntKind.u64.wrap (a0 * a1))) = some (r1, r2) := h
 clear h
 simp only [Option.some.injEq, Prod.mk.injEq] at H
 obtain ⟨rfl, rfl⟩ := H
 go_enter Try.func84, Try.ntmps84
 go_wp2
 go_ret2
 exact ⟨by first | rfl | (simp; done) | (simp [*]; done), by repeat (first | exact Drawn0.refl _ | apply Drawn0.step)⟩
def bits_Mul.f (a0 : Int) (a1 : Int) : Option (Int × Int) := (bits_Mul64.f a0 a1).bind fun bt101 => (some (bt101.1, bt101.2))
theorem bits_Mul.calls (a0 : Int) (a1 : Int) (r1 : Int) (r2 : Int) (w : World) (h : bits_Mul.f a0 a1 = some (r1, r2)) :
  Calls Try.prog 82 #[.int .u64 a0, .int .u64 a1] w fun e w' => e = .returned (.tuple #[.int .u64 r1, .int .u64 r2]) ∧ Drawn0 w w' := by
 have H : ((bits_Mul64.f a0 a1).bind fun bt101 => (some (bt101.1, bt101.2))) = some (r1, r2) := h
 clear h
 replace H := Option.bind_eq_some_iff.mp H
 obtain ⟨⟨t101, t102⟩, A30, H⟩ := H
 replace H : (some (t101, t102)) = some (r1, r2) := H
 have A3 := Aside0.mk A30
 clear A30
 simp only [Option.some.injEq, Prod.mk.injEq] at H
 obtain ⟨rfl, rfl⟩ := H
 go_enter Try.func82, Try.ntmps82
 go_wp2_with (first | ((with_reducible refine gate_callee (f := 84) rfl ?_); refine gl (some 25) Try.func84 #[.int .u64 a0, .int .u64 a1] ?_; (with_reducible refine (bits_Mul64.calls a0 a1 t101 t102 _ A3.out).mono ?_); rintro e w' ⟨rfl, ⟨nd, rfl⟩⟩; refine ⟨_, rfl, ?_⟩))
 go_ret2
 exact ⟨by first | rfl | (simp; done) | (simp [*]; done), by repeat (first | exact Drawn0.refl _ | apply Drawn0.step)⟩
end Go.Proofs.Ytmkdiliemiobeaa.P
namespace Go.Proofs.Ytmkdiliemiobeaa.P
open Go.RowKit Go.Proofs.YtmkdiliemiobeaaW.PrintWords Go.Proofs.YtmkdiliemiobeaaW.PrintLast Go.Proofs.YtmkdiliemiobeaaW.PrintMore
attribute [local go_sem] max2_int min2_int max_two min_two max_three min_three max_four min_four
set_option linter.unusedVariables false
set_option linter.unusedSimpArgs false
def slices_Repeat_int_int.f (l0 : List Int) (a1 : Int) : Option (List Int) := if l0.length = 1 ∧ 0 ≤ a1 ∧ a1 ≤ 64 then some (List.replicate a1.toNat (rd l0 0)) else none
theorem repeat_mul : ∀ N : Fin 65, bits_Mul.f 1 (IntKind.u64.wrap ((N.val : Nat) : Int)) = some (0, ((N.val : Nat) : Int)) := by decide +kernel
def repRow (N m : Nat) (x : Int) : List Value := List.replicate m (.int .i64 x) ++ List.replicate (N - m) (.int .i64 0)
theorem repeat_first (N : Nat) (x : Int) : splice (List.replicate N (Value.int .i64 0)) 0 (List.replicate (min 1 N) (.int .i64 x)) = repRow N (min 1 N) x := by
 unfold splice repRow
 simp
theorem repeat_made (w : World) (N : Nat) : (w.alloc (.cells (madeCells #[Value.int .i64 0] N) 3)).heap[w.heap.size]? = some (.cells (List.replicate N (Value.int .i64 0)).toArray 3 (0, 0)) := by
 have e : madeCells #[Value.int .i64 0] N = (List.replicate N (Value.int .i64 0)).toArray := by
  apply Array.ext
  ·
   simp [madeCells]
  intro i h1 h2
  simp [madeCells, Nat.mod_one]
 rw [e]
 exact World.alloc_heap_new w _
theorem repeat_pos (w w1 : World) (N : Nat) (x : Int) (ad : Addr) (h : Kd.C (Kd.int .i64) w (some ad) 1 [x]) (hb : Below w.heap.size w w1) : 0 < (List.replicate (min 1 N) (Value.int .i64 x)).length →
    some (⟨w1.heap.size, 0, none⟩ : Addr) = some ⟨w1.heap.size, 0, none⟩ ∧ ∃ a, some ad = some a ∧ ∀ j v, (List.replicate (min 1 N) (Value.int .i64 x))[j]? = some v → (w1.alloc (.cells (madeCells #[Value.int .i64 0] N) 3)).cell? (a.add j) = some v := by
  intro _
  refine ⟨rfl, ad, rfl, fun j v hv => ?_⟩
  obtain ⟨hj, rfl⟩ := List.getElem?_eq_some_iff.1 hv
  have : j = 0 := by simp at hj; omega
  subst this
  rw [List.getElem_replicate]
  obtain ⟨ad2, e2, hcell⟩ := Kd.at_int (Kd.C_alloc (Kd.C_below h hb) (.cells (madeCells #[Value.int .i64 0] N) 3)) 0 (by omega) (by omega)
  cases e2
  exact hcell
theorem repeat_fit (N m : Nat) (x : Int) : m + (List.replicate (min m (N - m)) (Value.int .i64 x)).length ≤ (repRow N m x).length := by
 simp [repRow]; omega
theorem repeat_next (N m : Nat) (x : Int) (h : m < N) : splice (repRow N m x) m (List.replicate (min m (N - m)) (.int .i64 x)) = repRow N (m + min m (N - m)) x := by
 unfold splice repRow
 apply List.ext_getElem
 ·
  simp; omega
 intro i h1 h2
 simp [List.getElem_append, List.getElem_take, List.getElem_drop]
 split <;> split <;> (try split) <;> (try split) <;> first | rfl | omega
theorem repeat_pos2 (W : World) (g N m : Nat) (x : Int) (h : W.heap[g]? = some (.cells (repRow N m x).toArray 3 (0, 0))) : 0 < (List.replicate (min m (N - m)) (Value.int .i64 x)).length →
    some (⟨g, m, none⟩ : Addr) = some ⟨g, m, none⟩ ∧ ∃ a, some (⟨g, 0, none⟩ : Addr) = some a ∧ ∀ j v, (List.replicate (min m (N - m)) (Value.int .i64 x))[j]? = some v → W.cell? (a.add j) = some v := by
  intro _
  refine ⟨rfl, _, rfl, fun j v hv => ?_⟩
  obtain ⟨hj, rfl⟩ := List.getElem?_eq_some_iff.1 hv
  rw [List.getElem_replicate]
  have hjm : j < m := by simp at hj; omega
  have e : (⟨g, 0, none⟩ : Addr).add j = ⟨g, j, none⟩ := by rw [add_plain]
  rw [e, World.cell?, h]
  simp [repRow, List.getElem?_append, hjm]
theorem repeat_row (w wr : World) (g N : Nat) (x : Int) (h : wr.heap[g]? = some (.cells (repRow N N x).toArray 3 (0, 0))) (hs : w.heap.size ≤ g) (hN : N ≤ 64) :
    Kd.R (Kd.int .i64) 3 wr w.heap.size (fun _ => True) (.slice (some ⟨g, 0, none⟩) N N) (List.replicate N (rd [x] 0)) := by
  have e : rd [x] 0 = x := rfl
  rw [e]
  have es : (Kd.int .i64).sz = 1 := rfl
  refine ⟨fun _ _ => trivial, encs (Value.int .i64) (List.replicate N x), ⟨by rw [es]; simp [encs], .inr ⟨g, N, (repRow N N x).toArray, by rw [List.length_replicate], hs, h, by simp, by unfold maxLen; omega, by rw [es]; simp [repRow], by rw [es]; simp [repRow, encs]⟩⟩, Kd.reps_scalar _⟩
set_option maxHeartbeats 2000000 in
set_option maxRecDepth 100000 in
theorem slices_Repeat_int_int.calls (A0 : Option Addr) (c0 : Nat) (l0 : List Int) (a1 : Int) (r : List Int) (w : World) (hr0 : Kd.C (Kd.int .i64) w A0 l0.length l0) (hc0 : l0.length ≤ c0) (h : slices_Repeat_int_int.f l0 a1 = some r) :
    Calls Try.prog 80 #[.slice A0 l0.length c0, .int .i64 a1] w fun e w' => ∃ v0_ : Value, e = .returned (v0_) ∧ Kd.R (Kd.int .i64) 3 w' w.heap.size (fun _ => True) v0_ r ∧ Below w.heap.size w w' := by
 unfold slices_Repeat_int_int.f at h
 by_cases hg : l0.length = 1 ∧ 0 ≤ a1 ∧ a1 ≤ 64
 case neg => rw [if_neg hg] at h; exact absurd h (by simp)
 rw [if_pos hg] at h
 obtain rfl := Option.some.inj h
 obtain ⟨h1, h2, h3⟩ := hg
 obtain ⟨N, rfl⟩ := Int.eq_ofNat_of_zero_le h2
 obtain ⟨x, rfl⟩ : ∃ x, l0 = [x] := List.length_eq_one_iff.1 h1
 have hN : N ≤ 64 := by omega
 obtain ⟨ad, e0, hcell⟩ := Kd.at_int hr0 0 (by omega) (by simp)
 cases e0
 have HM : Aside0 (bits_Mul.f 1 (IntKind.u64.wrap (N : Int)) = some (0, (N : Int))) := ⟨repeat_mul ⟨N, by omega⟩⟩
 have HN := Aside0.mk hN
 have HC : Aside0 (Kd.C (Kd.int .i64) w (some ad) 1 [x]) := ⟨hr0⟩
 have HB := Aside0.mk (Below.refl w.heap.size w)
 obtain ⟨i0, hi0, hz0, hsz0, hb0⟩ := info_parts info3
 have t2 : decide (9223372036854775807 < (N : Int)) = false := decide_eq_false (by omega)
 have HW : Aside0 (wrap64 (N : Int) = (N : Int)) := ⟨by unfold wrap64; omega⟩
 have hszm : (Try.prog.info? 3).map (·.size) = some 1 := by rw [hi0]; simp [hsz0]
 have mixed : Try.prog.follows .mixedOrders = true := by kernel_rfl
 have t1 : decide ((N : Int) < 0) = false := by simp
 clear hr0 h1 h2 h3 h hcell hN
 go_enter Try.func80, Try.ntmps80
 go_wp2_with (first
  | (go_at_call 82; refine (bits_Mul.calls 1 (IntKind.u64.wrap (N : Int)) 0 (N : Int) _ HM.out).mono ?_; rintro e w1 ⟨rfl, hd⟩; have HD := Aside0.mk hd.below; clear hd)
  | ((with_reducible refine gate_dst (N := 30) rfl ?_); go_must (refine wpList_make_row _ rfl (.tmp 29) (.tmp 29) 24 rfl 3 i0 (.int .i64 0) Try.underlying24 hi0 hz0 hsz0 rfl .i64 .i64 N (congrArg (Value.int .i64) HW.out) (congrArg (Value.int .i64) HW.out) (by have := HN.out; rw [hb0]; omega) (by have := HN.out; omega) ?_))
  | ((with_reducible refine gate_builtin (b := .copy) (xs := #[.tmp 31, .tmp 32]) rfl ?_); go_must (refine wpList_copy_splice rfl (.tmp 31) (.tmp 32) 24 24 rfl 3 Try.underlying24 hszm (some ⟨w1.heap.size, 0, none⟩) (some ad) N N 1 c0 rfl rfl w1.heap.size 0 (List.replicate N (.int .i64 0)) 3 (repeat_made w1 N) (List.replicate (min 1 N) (.int .i64 x)) ?hn ?hpos ?hfit ?h1 w.heap.size w ?hb HD.out.size ?_; (case hn => simp); (case hfit => simp; omega); (case h1 => intro v hv; rw [List.eq_of_mem_replicate hv]; rfl); (case hb => exact below_alloc HD.out _); (case hpos => exact repeat_pos w w1 N x ad HC.out HD.out)); intro w3 hg3 hb3; rw [repeat_first] at hg3; have HG := Aside0.mk hg3; have HB3 := Aside0.mk hb3; clear hg3 hb3))
 have HS : Aside0 (w.heap.size ≤ w1.heap.size) := ⟨HD.out.size⟩
 generalize w1.heap.size = g at *
 go_loopg [8] N (fun gg s8 wr => ∃ m : Nat, s8 = .int .i64 (m : Int) ∧ Aside0 (min 1 N ≤ m ∧ m ≤ N ∧ N - m ≤ gg) ∧ Aside0 (wr.heap[g]? = some (.cells (repRow N m x).toArray 3 (0, 0))) ∧ Below w.heap.size w wr)
 case atStart => exact ⟨min 1 N, rfl, ⟨Nat.le_refl _, Nat.min_le_right _ _, by omega⟩, ⟨HG.out⟩, HB3.out⟩
 case round =>
  obtain ⟨m, rfl, AA, HG2, hb⟩ := hrel; have HB := Aside0.mk hb; clear hb
  by_cases hlt : (m : Int) < (N : Int)
  rotate_left
  ·
   have c4b0 : (m < N) = False := eq_false (by omega)
   have HE : Aside0 (m = N) := ⟨by have := AA.out; omega⟩
   clear hlt
   go_wp2_with fail
   go_ret
   refine ⟨_, rfl, ?_, HB.out⟩
   obtain rfl := HE.out
   exact repeat_row _ _ _ _ _ HG2.out HS.out HN.out
  have c4b0 : (m < N) = True := eq_true (by omega)
  have hm := AA.out
  have hmN : m < N := by omega
  have hcut1 : ∀ W : World, (Instr.slice 24 (.slice (some ⟨g, 0, none⟩) N N) (some (.int .i64 (m : Int))) none none).run Try.prog W = .ok (.slice (some ⟨g, m, none⟩) (N - m) (N - m)) W := by
   intro W
   have h := cut_from (P := Try.prog) 24 3 .i64 Try.underlying24 hi0 1 hsz0 (some ⟨g, 0, none⟩) N N (m : Int) (by omega) (by omega) W
   rw [Int.toNat_natCast, if_neg (by omega)] at h
   have ea : (⟨g, 0, none⟩ : Addr).add (m * 1) = ⟨g, m, none⟩ := by rw [add_plain]; simp
   rw [Option.map_some, ea] at h
   exact h
  have hcut2 : ∀ W : World, (Instr.slice 24 (.slice (some ⟨g, 0, none⟩) N N) none (some (.int .i64 (m : Int))) none).run Try.prog W = .ok (.slice (some ⟨g, 0, none⟩) m N) W := by
   intro W
   have h := cut_to (P := Try.prog) 24 3 .i64 Try.underlying24 hi0 (some ⟨g, 0, none⟩) N N (m : Int) (by omega) (by omega) (Nat.le_refl _) W
   rw [Int.toNat_natCast] at h
   exact h
  have HMN := Aside0.mk hmN; clear hm hmN hlt
  go_wp2_with fail
  go_region_law_o (refine step_copy_splice rfl (.tmp 41) (.tmp 44) 24 24 rfl 3 Try.underlying24 hszm (some ⟨g, m, none⟩) (some ⟨g, 0, none⟩) (N - m) (N - m) m N (by simp [Act.eval, Act.put]) (by simp [Act.eval, Act.put]) g m (repRow N m x) 3 HG2.out (List.replicate (min m (N - m)) (.int .i64 x)) ?hn ?hpos ?hfit ?h1 w.heap.size w ?hb HS.out ?_; (case hn => simp; done); (case hfit => exact repeat_fit N m x); (case h1 => intro v hv; rw [List.eq_of_mem_replicate hv]; rfl); (case hb => exact below_drew1 HB.out); (case hpos => exact repeat_pos2 _ g N m x HG2.out); intro w4 hg4 hb4; rw [repeat_next N m x HMN.out] at hg4; have HG4 := Aside0.mk hg4; have HB4 := Aside0.mk hb4; clear hg4 hb4)
  go_wp2_with fail
  go_roundg (N - (m + min m (N - m)))
  case measure => have h1 := AA.out; have h2 := HMN.out; omega
  case rel =>
   have h1 := AA.out; have h2 := HMN.out; have h3 := HN.out
   refine ⟨m + min m (N - m), ?_, ⟨by omega, by omega, by omega⟩, ⟨HG4.out⟩, HB4.out⟩
   rw [show ((m : Int) + ((min m (N - m) : Nat) : Int)) = ((m + min m (N - m) : Nat) : Int) by omega, IntWalk.i64_in _ ⟨by omega, by omega⟩]
end Go.Proofs.Ytmkdiliemiobeaa.P
namespace Go.Proofs.Ytmkdiliemiobeaa.P
open Go.RowKit Go.Proofs.YtmkdiliemiobeaaW.PrintWords Go.Proofs.YtmkdiliemiobeaaW.PrintLast Go.Proofs.YtmkdiliemiobeaaW.PrintMore
attribute [local go_sem] max2_int min2_int max_two min_two max_three min_three max_four min_four
set_option linter.unusedVariables false
set_option linter.unusedSimpArgs false
set_option maxHeartbeats 8000000
set_option maxRecDepth 100000
def impl_filled.f (a0 : Int) (a1 : Int) (a2 : Int) : Option (Int × Int × List Int) := (slices_Repeat_int_int.f (([a2] : List Int)) (wrap64 (a0 * a1))).bind fun t105 => (some (a0, a1, t105))
theorem impl_filled.calls (a0 : Int) (a1 : Int) (a2 : Int) (r1 : Int) (r2 : Int) (r3 : List Int) (w : World) (h : impl_filled.f a0 a1 a2 = some (r1, r2, r3)) :
  Calls Try.prog 73 #[.int .i64 a0, .int .i64 a1, .int .i64 a2] w fun e w' => ∃ v2_ : Value, e = .returned (.agg #[.int .i64 r1, .int .i64 r2, v2_]) ∧ Kd.R (Kd.int .i64) 3 w' w.heap.size (fun _ => True) v2_ r3 ∧ Below w.heap.size w w' := by
 have hu26 := Try.underlying26
 have HB := aK (Below.refl w.heap.size w)
 have H : ((slices_Repeat_int_int.f (([a2] : List Int)) (wrap64 (a0 * a1))).bind fun t105 => (some (a0, a1, t105))) = some (r1, r2, r3) := h
 clear h
 obtain ⟨y102, hy102⟩ : ∃ y_ : List Int, y_ = (([a2] : List Int)) := ⟨_, rfl⟩
 replace H : ((slices_Repeat_int_int.f y102 (wrap64 (a0 * a1))).bind fun t105 => (some (a0, a1, t105))) = some (r1, r2, r3) := by first | (rw [hy102]; with_reducible exact H) | (have H2_ := (Option.bind_some _ _).symm.trans H; rw [hy102]; with_reducible exact H2_) | (have H2_ := (Option.bind_some _ _).symm.trans H; with_reducible exact H2_) | with_reducible exact H | (rw [hy102]; exact H) | exact H
 have Ny102 := Aside0.mk hy102
 clear hy102
 replace H := Option.bind_eq_some_iff.mp H
 obtain ⟨t105, A40, H⟩ := H
 replace H : (some (a0, a1, t105)) = some (r1, r2, r3) := H
 have A4 := Aside0.mk A40
 clear A40
 simp only [Option.some.injEq, Prod.mk.injEq] at H
 obtain ⟨rfl, rfl, rfl⟩ := H
 go_enter Try.func73, Try.ntmps73
 go_wp2_with (first | ((with_reducible refine gate_dst (N := 6) rfl ?_); refine bxe (cs := #[.int .i64 0, .int .i64 0, .slice none 0 0]) (t := 26) ?_; intro gb101 hg w5 hbox hb; have BK101 := aK (hbox); have GW101 := aK (gE hg (pS HB.out)); have GE101 := GW101; replace HB := bS HB hb; clear hb hbox hg) | ((with_reducible refine gate_dst (N := 10) rfl ?_); refine Kd.R_lit (Kd.int .i64) _ 3 ?hg (N := 10) ?hd (xs := ([a2] : List Int)) (inner := [.int .i64 a2]) (ok := fun _ => True) (okp := fun _ => True) ?hr ?hp (fun _ hk => hk) trivial (Below.refl _ _) (Nat.le_refl _) (by simp) ?_; (case hd => rfl); (case hg => rfl); (case hr => first | (go_simp; done) | (go_simp; rfl)); (case hp => exact (Reps.one (show Kd.M (Kd.int .i64) _ _ _ a2 [.int .i64 a2] from rfl) (Reps.none _ _))); intro v103 w6 ho7 hb hg_ hnew_; clear hg_ hnew_; (first | rw [← Ny102.out] at ho7 | (simp only [Int.reduceToNat] at ho7; rw [← Ny102.out] at ho7)); have HO104 := aK (Kd.R_lower ho7 (below_size (pS HB.out))); replace BK101 := bB BK101 hb; replace HB := bS HB hb; clear hb ho7; obtain ⟨Ao8, co8, eo8⟩ := Kd.R_slice HO104.out; subst eo8) | ((with_reducible refine gate_callee (f := 80) rfl ?_); refine gl (some 14) Try.func80 #[.slice Ao8 y102.length co8, .int .i64 (wrap64 (a0 * a1))] ?_; (with_reducible refine (slices_Repeat_int_int.calls _ _ y102 (wrap64 (a0 * a1)) t105 _ ?side1 ?side2 A4.out).mono ?_); (case side1 => exact pC (Kd.R_reads' HO104.out).2.2); (case side2 => exact (Kd.R_reads' HO104.out).2.1); rintro e w9 ⟨v106, rfl, ho0, hb⟩; refine ⟨_, rfl, ?_⟩; have n0_ := aK (Kd.R_elder' (pR HO104.out) (Kd.R_base ho0) hb); have HO107 := aK (Kd.R_lower (nw1 ho0 (pR HO104.out)) (below_size (pS HB.out))); replace BK101 := bB BK101 hb; replace HB := bS HB hb; clear HO104; have HO104 := n0_; clear n0_; (try clear hb); (try clear hb2); (try clear hk); (try clear hi); (try clear ho0); obtain ⟨Ao10, co10, eo10⟩ := Kd.R_slice HO107.out; subst eo10; obtain ⟨z11_0, z11_1, z11_2, y11_0, y11_1, y11_2⟩ := bc3 BK101.out))
 refine bodyPost_ret (results_cell_row rfl _ _ gb101 26 #[.int .i64 a0, .int .i64 a1, .slice Ao10 t105.length co10] (0, 0) _ rfl (by refine bk ?_; refine blk_put (cs := #[.int .i64 a0, .int .i64 a1, .slice none 0 0]) ?_ 2 _ rfl; refine bk ?_; refine blk_put (cs := #[.int .i64 a0, .int .i64 0, .slice none 0 0]) ?_ 1 _ rfl; refine bk ?_; refine blk_put (cs := #[.int .i64 0, .int .i64 0, .slice none 0 0]) ?_ 0 _ rfl; refine bk ?_; exact BK101.out) Try.underlying26 rfl (by kernel_rfl)) rfl ?_
 exact ⟨_, er, by (with_reducible repeat (first | apply Kd.R_alloc | apply Kd.R_drewN | apply Kd.R_drew)); exact Kd.R_mono (rF3 HO107.out BK101.out (.int .i64 a0) (.int .i64 a1) (.slice Ao10 t105.length co10)) (fun _ h => trivial), pT HB.out⟩
def impl_fieldBy_at_mp_mpGi64_i64_i64.l0 (p : Int → Int → Option (Int)) : Nat → Int → Int → Int → Int → Int → List Int → Option (Int × Int × List Int)
 | 0, _, _, _, _, _, _ => none
 | k + 1, x0, x14, x15, x108000, x108001, x108002 => if x15 < x14 then (if x0 = 0 then (none) else ((p (Int.tmod x15 x0) (wrap64 (Int.tdiv x15 x0))).bind fun t108 => (if 0 ≤ x15 then (if x15 < (x108002.length : Int) then (impl_fieldBy_at_mp_mpGi64_i64_i64.l0 p k x0 x14 (wrap64 (x15 + 1)) x108000 x108001 (x108002.set (x15 : Int).toNat t108)) else (none)) else (none)))) else (some (x108000, x108001, x108002))
def impl_fieldBy_at_mp_mpGi64_i64_i64.f (k : Nat) (p : Int → Int → Option (Int)) (a0 : Int) (a1 : Int)  : Option (Int × Int × List Int) := (impl_filled.f a0 a1 0).bind fun bt102 => (impl_fieldBy_at_mp_mpGi64_i64_i64.l0 p k a0 (bt102.2.2.length : Int) 0 bt102.1 bt102.2.1 bt102.2.2)
def impl_fieldBy_at_mp_mpGi64_i64_i64.T5 : Bool × List (List Nat × List Nat) := (true, [([], []), ([0], [0]), ([], []), ([], []), ([], []), ([], []), ([4, 5], [4, 5]), ([], []), ([], []), ([7, 8], [7, 8]), ([3, 6, 9], [3, 6, 9]), ([1, 2, 0, 1, 2, 3, 4, 5, 6, 7, 8, 9, 10], [1, 2]), ([11, 10, 10, 0, 1, 2, 3, 4, 5, 6, 7, 8, 9, 10], [10, 11])])
def impl_fieldBy_at_mp_mpGi64_i64_i64.B5 : List Nat := [0, 1, 0, 0, 0, 0, 48, 0, 0, 384, 1016, 2047, 4095]
theorem impl_fieldBy_at_mp_mpGi64_i64_i64.tab5 : rtab .any (opsOf Try.f53 5) = impl_fieldBy_at_mp_mpGi64_i64_i64.T5 := by kernel_rfl
theorem impl_fieldBy_at_mp_mpGi64_i64_i64.bits5 : waitsOk impl_fieldBy_at_mp_mpGi64_i64_i64.T5.2 impl_fieldBy_at_mp_mpGi64_i64_i64.B5 = true := by kernel_rfl
theorem impl_fieldBy_at_mp_mpGi64_i64_i64.calls (p : Int → Int → Option (Int)) (g : Nat) (lb : Array Value) (k : Nat) (a0 : Int) (a1 : Int)  (r1 : Int) (r2 : Int) (r3 : List Int) (w : World) (eg : ∀ args w, (callFunc g args).run Try.prog w = .ok (.enter g args) w) (hp : ∀ (a0 : Int) (a1 : Int) (r : Int) (W : World), p a0 a1 = some r → Below w.heap.size w W → Calls Try.prog g (#[.int .i64 a0, .int .i64 a1] ++ lb) W fun e W' => e = .returned (.int .i64 r) ∧ Below W.heap.size W W') (h : impl_fieldBy_at_mp_mpGi64_i64_i64.f k p a0 a1 = some (r1, r2, r3)) :
  Calls Try.prog 53 #[.int .i64 a0, .int .i64 a1, .func (.func g) #[] lb] w fun e w' => ∃ v2_ : Value, e = .returned (.agg #[.int .i64 r1, .int .i64 r2, v2_]) ∧ Kd.R (Kd.int .i64) 3 w' w.heap.size (fun _ => True) v2_ r3 ∧ Below w.heap.size w w' := by
 have hu26 := Try.underlying26
 have HB := aK (Below.refl w.heap.size w)
 have H : ((impl_filled.f a0 a1 0).bind fun bt102 => (impl_fieldBy_at_mp_mpGi64_i64_i64.l0 p k a0 (bt102.2.2.length : Int) 0 bt102.1 bt102.2.1 bt102.2.2)) = some (r1, r2, r3) := h
 clear h
 replace H := Option.bind_eq_some_iff.mp H
 obtain ⟨⟨t102, t103, t104⟩, A40, H⟩ := H
 replace H : (impl_fieldBy_at_mp_mpGi64_i64_i64.l0 p k a0 (t104.length : Int) 0 t102 t103 t104) = some (r1, r2, r3) := H
 have A4 := Aside0.mk A40
 clear A40
 have H' := Aside0.mk H
 clear H
 go_enter Try.func53, Try.ntmps53
 go_wp2_with (first | ((with_reducible refine gate_dst (N := 6) rfl ?_); refine bxe (cs := #[.int .i64 0, .int .i64 0, .slice none 0 0]) (t := 26) ?_; intro gb101 hg w5 hbox hb; have BK101 := aK (hbox); have GW101 := aK (gE hg (pS HB.out)); have GE101 := GW101; replace HB := bS HB hb; clear hb hbox hg) | ((with_reducible refine gate_callee (f := 73) rfl ?_); refine gl (some 11) Try.func73 #[.int .i64 a0, .int .i64 a1, .int .i64 0] ?_; (with_reducible refine (impl_filled.calls a0 a1 0 t102 t103 t104 _ A4.out).mono ?_); rintro e w6 ⟨v105, rfl, ho0, hb⟩; refine ⟨_, rfl, ?_⟩; have HO106 := aK (Kd.R_lower ho0 (below_size (pS HB.out))); replace BK101 := bB BK101 hb; replace HB := bS HB hb; (try clear hb); (try clear hb2); (try clear hk); (try clear hi); (try clear ho0)) | ((with_reducible refine gate_dst (N := 7) rfl ?_); refine bxe (cs := #[.int .i64 0, .int .i64 0, .slice none 0 0]) (t := 26) ?_; intro gb107 hg w7 hbox hb; replace HO106 := aK (Kd.R_below (pR HO106.out) hb); have BK107 := aK (hbox); have GW107 := aK (gE hg (pS HB.out)); have GE107 := GW107; obtain ⟨NB101_107, NB107_101⟩ := nb hg (pB BK101.out); replace BK101 := bB BK101 hb; replace HB := bS HB hb; clear hb hbox hg; obtain ⟨hnb8, hnc8⟩ := nB NB107_101; obtain ⟨z9_0, z9_1, z9_2, y9_0, y9_1, y9_2⟩ := bc3 BK107.out; obtain ⟨Ao10, co10, eo10⟩ := Kd.R_slice HO106.out; subst eo10))
 go_loopg [15] k (fun kq v15 w' => ∃ (x15_1 : Int) (x108002_1 : List Int) (u108002 : Value), v15 = .int .i64 x15_1 ∧ Aside0 (impl_fieldBy_at_mp_mpGi64_i64_i64.l0 p kq a0 (t104.length : Int) x15_1 t102 t103 x108002_1 = some (r1, r2, r3)) ∧ Aside0 (kq ≤ k) ∧ Aside0 (Kd.R (Kd.int .i64) 3 w' w.heap.size (fun _ => True) u108002 x108002_1) ∧ Aside0 (w'.heap[gb101]? = some (.cells #[.int .i64 0, .int .i64 0, (.slice none 0 0)] 26 (0, 0))) ∧ Aside0 (w'.heap[gb107]? = some (.cells #[.int .i64 t102, .int .i64 t103, u108002] 26 (0, 0))) ∧ Aside0 (Below w.heap.size w w'))
 case atStart => exact ⟨(0), (t104), (.slice Ao10 t104.length co10), (by first | rfl | (simp; done) | (simp [*]; done)), H', ⟨Nat.le_refl _⟩, ⟨pR (Kd.R_mono (rF3 HO106.out BK107.out (.int .i64 t102) (.int .i64 t103) (.slice Ao10 t104.length co10)) (fun _ h => trivial))⟩, ⟨by refine bk ?_; refine blk_far ?_ NB101_107.out _; refine bk ?_; refine blk_far ?_ NB101_107.out _; refine bk ?_; refine blk_far ?_ NB101_107.out _; refine bk ?_; exact BK101.out⟩, ⟨by refine bk ?_; refine blk_put (cs := #[.int .i64 t102, .int .i64 t103, .slice none 0 0]) ?_ 2 _ rfl; refine bk ?_; refine blk_put (cs := #[.int .i64 t102, .int .i64 0, .slice none 0 0]) ?_ 1 _ rfl; refine bk ?_; refine blk_put (cs := #[.int .i64 0, .int .i64 0, .slice none 0 0]) ?_ 0 _ rfl; refine bk ?_; exact BK107.out⟩, ⟨pT HB.out⟩⟩
 case round =>
  clear H'
  try clear p2
  try clear c7
  try clear c8
  try clear c9
  try clear z9_0
  try clear z9_1
  try clear z9_2
  try clear y9_0
  try clear y9_1
  try clear y9_2
  obtain ⟨x15_1, x108002_1, u108002, rfl, HA, HK1, HO_108002, BK101, BK107, HB⟩ := hrel
  cases gk with
  | zero => exact absurd HA.out (by simp [impl_fieldBy_at_mp_mpGi64_i64_i64.l0])
  | succ k1 =>
   have H := HA.out; clear HA
   simp only [impl_fieldBy_at_mp_mpGi64_i64_i64.l0] at H
   by_cases c11 : x15_1 < (t104.length : Int)
   rotate_left
   ·
    rw [if_neg c11] at H
    have c11b0 : decide (x15_1 < (t104.length : Int)) = false := decide_eq_false c11
    clear c11
    simp only [Option.some.injEq, Prod.mk.injEq] at H
    obtain ⟨rfl, rfl, rfl⟩ := H; obtain ⟨hnb20, hnc20⟩ := nB NB107_101; obtain ⟨z21_0, z21_1, z21_2, y21_0, y21_1, y21_2⟩ := bc3 BK107.out; obtain ⟨z22_0, z22_1, z22_2, y22_0, y22_1, y22_2⟩ := bc3 BK101.out; obtain ⟨Ao23, co23, eo23⟩ := Kd.R_slice HO_108002.out; subst eo23
    go_wp2
    refine bodyPost_ret (results_cell_row rfl _ _ gb101 26 #[.int .i64 t102, .int .i64 t103, .slice Ao23 x108002_1.length co23] (0, 0) _ rfl (by refine bk ?_; refine blk_put (cs := #[.int .i64 t102, .int .i64 t103, .slice none 0 0]) ?_ 2 _ rfl; refine bk ?_; refine blk_put (cs := #[.int .i64 t102, .int .i64 0, .slice none 0 0]) ?_ 1 _ rfl; refine bk ?_; refine blk_put (cs := #[.int .i64 0, .int .i64 0, .slice none 0 0]) ?_ 0 _ rfl; refine bk ?_; exact BK101.out) Try.underlying26 rfl (by kernel_rfl)) rfl ?_
    exact ⟨_, er, by (with_reducible repeat (first | apply Kd.R_alloc | apply Kd.R_drewN | apply Kd.R_drew)); exact Kd.R_mono (rF3 HO_108002.out BK101.out (.int .i64 t102) (.int .i64 t103) (.slice Ao23 x108002_1.length co23)) (fun _ h => trivial), pT HB.out⟩
   rw [if_pos c11] at H
   have c11b0 : decide (x15_1 < (t104.length : Int)) = true := decide_eq_true c11
   clear c11
   by_cases c12 : a0 = 0
   ·
    rw [if_pos c12] at H
    exact absurd H (by simp)
   rw [if_neg c12] at H
   have c12b0 : (a0 == 0) = false := beq_eq_false_iff_ne.mpr c12
   have c12b1 : (a0 != 0) = true := bne_iff_ne.mpr c12
   replace H := Option.bind_eq_some_iff.mp H; obtain ⟨t108, A130, H⟩ := H
   replace H : (if 0 ≤ x15_1 then (if x15_1 < (x108002_1.length : Int) then (impl_fieldBy_at_mp_mpGi64_i64_i64.l0 p k1 a0 (t104.length : Int) (wrap64 (x15_1 + 1)) t102 t103 (x108002_1.set (x15_1 : Int).toNat t108)) else (none)) else (none)) = some (r1, r2, r3) := H
   have A13 := Aside0.mk A130; clear A130
   by_cases c14 : 0 ≤ x15_1
   rotate_left
   ·
    rw [if_neg c14] at H
    exact absurd H (by simp)
   rw [if_pos c14] at H
   have c14b0 : decide (0 ≤ x15_1) = true := decide_eq_true c14
   clear c14
   by_cases c15 : x15_1 < (x108002_1.length : Int)
   rotate_left
   ·
    rw [if_neg c15] at H
    exact absurd H (by simp)
   rw [if_pos c15] at H
   have c15b0 : decide (x15_1 < (x108002_1.length : Int)) = true := decide_eq_true c15
   clear c15
   obtain ⟨y109, hy109⟩ : ∃ y_ : List Int, y_ = (x108002_1.set (x15_1 : Int).toNat t108) := ⟨_, rfl⟩
   replace H : (impl_fieldBy_at_mp_mpGi64_i64_i64.l0 p k1 a0 (t104.length : Int) (wrap64 (x15_1 + 1)) t102 t103 y109) = some (r1, r2, r3) := by first | (rw [hy109]; with_reducible exact H) | (have H2_ := (Option.bind_some _ _).symm.trans H; rw [hy109]; with_reducible exact H2_) | (have H2_ := (Option.bind_some _ _).symm.trans H; with_reducible exact H2_) | with_reducible exact H | (rw [hy109]; exact H) | exact H
   have Ny109 := Aside0.mk hy109; clear hy109; have H' := Aside0.mk H; clear H
   try go_wp2
   replace HO_108002 := aK (Kd.R_drew HO_108002.out); replace BK101 := aK (blk_drew BK101.out); replace BK107 := aK (blk_drew BK107.out); replace HB := aK (below_drew1 HB.out)
   refine start_ (n := 13) (S := fun w' => w'.cell? ⟨gb107, 0, none⟩ = some (.int .i64 t102) ∧ w'.cell? ⟨gb107, 1, none⟩ = some (.int .i64 t103) ∧ w'.cell? ⟨gb107, 2, none⟩ = some (u108002)) (ds := [12]) (bz [0, 13]) (by kernel_rfl) rfl rfl (cz3 BK107.out) (fun hHeld => ?_); refine with_tabW impl_fieldBy_at_mp_mpGi64_i64_i64.tab5 impl_fieldBy_at_mp_mpGi64_i64_i64.bits5 (fun HT_ HW_ => ?_)
   generalize wr.drew = w17 at HO_108002 BK101 BK107 HB hHeld ⊢
   refine pz 0 18 [1, 12] HT_.out ?_
   refine pz 2 20 [1, 1, 1, 10] HT_.out ?_
   refine pz 3 21 [1, 1, 2, 9] HT_.out ?_
   refine pz 4 22 [1, 1, 3, 8] HT_.out ?_
   refine pz 5 23 [1, 1, 4, 7] HT_.out ?_
   refine pz 6 24 [1, 1, 5, 6] HT_.out ?_
   refine pz 7 25 [1, 1, 6, 5] HT_.out ?_
   refine pz 8 26 [1, 1, 7, 4] HT_.out ?_
   refine pz 9 27 [1, 1, 8, 3] HT_.out ?_
   refine tk (i := 1) (N := some 19) (bz [10, 3]) rfl rfl HT_.out HW_.out (Or.inl ⟨by rfl, by rintro w' ⟨s0, s1, s2⟩; go_simp; with_reducible rfl⟩) hHeld ?_
   refine one_ (i := 10) (N := some 28) (bz [11, 2]) rfl rfl (one_of HT_.out (by kernel_rfl)) (by decide) (fun K hK => ?_)
   refine mp_goesA (lb := lb) eg #[.int .i64 (Int.tmod x15_1 a0), .int .i64 (wrap64 (Int.tdiv x15_1 a0))] (by rfl) rfl rfl rfl (by (try simp only [List.map_toArray, List.map_cons, List.map_nil]); first | done | rfl | (simp only [List.length_drop, List.length_take]; rfl)) ?_
   refine (hp (Int.tmod x15_1 a0) (wrap64 (Int.tdiv x15_1 a0)) t108 _ A13.out (pS HB.out)).mono ?_
   rintro e w18 ⟨rfl, hb⟩
   refine ⟨_, rfl, ?_⟩
   replace HO_108002 := aK (Kd.R_below (pR HO_108002.out) hb); replace BK101 := bB BK101 hb; replace BK107 := bB BK107 hb; replace HB := bS HB hb
   (try clear hb)
   (try clear hb2)
   (try clear hk)
   (try clear hi)
   have p16 : 0 ≤ (x15_1 : Int) := of_decide_eq_true (by first | (with_reducible assumption) | assumption)
   have q16 : (x15_1 : Int) < ((x108002_1.length : Int) : Int) := of_decide_eq_true (by first | (with_reducible assumption) | assumption)
   obtain ⟨go16, co16, eo16, gb16, gl16, cl16, HG16⟩ := Kd.R_form HO_108002.out (by omega)
   (first | cases eo16 | (injection eo16 with ea_ en_ ec_; (first | subst ea_ | (injection ea_ with ea_; subst ea_)); subst ec_; clear en_))
   have GB16 := Aside0.mk gb16; have GG16 := Aside0.mk HG16; clear gb16 gl16 HG16; obtain ⟨hx16_0, hf16_0⟩ := Kd.R_celln 0 HO_108002.out (x15_1 : Int) p16 q16; replace p16 := eq_true p16; replace q16 := eq_true q16; have HP19 := Kd.R_putn HO_108002.out (x15_1 : Int) t108; rw [← Ny109.out] at HP19; have HQ19 := Aside0.mk HP19; clear HP19
   refine hK.out _ _ (cz3 BK107.out) (fun hHeld => ?_)
   clear hK K
   refine norm_ (a' := ?_) ?_ ?_
   rotate_left
   ·
    show Act.put _ (some 28) _ = _
    simp only [sP]
    rfl
   refine pz 11 29 [12, 1] HT_.out ?_
   refine last_ (i := 12) (N := none) (bz [13, 0]) rfl rfl (one_of HT_.out (by kernel_rfl)) (by decide) (fun K hK => ?_)
   refine skip_ (w1 := ?_) (by rfl) rfl ?_ ?_
   rotate_left
   ·
    go_simp
    rfl
   refine hK.out _ _ ?_
   clear hK K
   refine done_ (done_of HT_.out (by kernel_rfl)) ?_
   try go_wp2
   go_roundg k1
   case measure => have := HK1.out; omega
   case rel => exact ⟨(wrap64 (x15_1 + 1)), (y109), (.slice (some ⟨go16, 0, none⟩) x108002_1.length co16), (by first | rfl | (simp; done) | (simp [*]; done)), H', ⟨by have := HK1.out; omega⟩, ⟨pR HQ19.out⟩, ⟨by refine bk ?_; refine blk_far ?_ (by have h_ := Kd.R_ne HO_108002.out BK101.out (by decide); intro e_; exact h_ (by rw [e_]; rfl)) _; refine bk ?_; exact BK101.out⟩, ⟨by refine bk ?_; refine blk_far ?_ (by have h_ := Kd.R_ne HO_108002.out BK107.out (by decide); intro e_; exact h_ (by rw [e_]; rfl)) _; refine bk ?_; exact BK107.out⟩, ⟨by repeat (first | (with_reducible first | exact HB.out | apply below_alloc | apply pw_below_drewN | apply below_drew1 | refine below_set ?_ GB16.out | refine below_set ?_ GE101.out | refine below_set ?_ GE107.out) | exact HB.out)⟩⟩
def impl_hasCell.f (a0_0 : Int) (a0_1 : Int) (l0_2 : List Int) (a1 : Int) (a2 : Int) : Option (Bool) := (impl_within.f a1 0 (wrap64 (a0_0 - 1))).bind fun t102 => (if t102 = true then ((impl_within.f a2 0 (wrap64 (a0_1 - 1))).bind fun t103 => (some t103)) else (some false))
theorem impl_hasCell.calls (a0_0 : Int) (a0_1 : Int) (A0_2 : Option Addr) (c0_2 : Nat) (l0_2 : List Int) (a1 : Int) (a2 : Int) (r : Bool) (w : World) (hr0_2 : Kd.C (Kd.int .i64) w A0_2 l0_2.length l0_2) (hc0_2 : l0_2.length ≤ c0_2) (h : impl_hasCell.f a0_0 a0_1 l0_2 a1 a2 = some r) :
  Calls Try.prog 55 #[.agg #[.int .i64 a0_0, .int .i64 a0_1, .slice A0_2 l0_2.length c0_2], .int .i64 a1, .int .i64 a2] w fun e w' => e = .returned (.bool r) ∧ Below w.heap.size w w' := by
 have hu26 := Try.underlying26
 have HR0_2 := Aside0.mk hr0_2
 have HC0_2 := Aside0.mk hc0_2
 clear hr0_2 hc0_2
 have HB := aK (Below.refl w.heap.size w)
 have H : ((impl_within.f a1 0 (wrap64 (a0_0 - 1))).bind fun t102 => (if t102 = true then ((impl_within.f a2 0 (wrap64 (a0_1 - 1))).bind fun t103 => (some t103)) else (some false))) = some r := h
 clear h
 replace H := Option.bind_eq_some_iff.mp H
 obtain ⟨t102, A40, H⟩ := H
 replace H : (if t102 = true then ((impl_within.f a2 0 (wrap64 (a0_1 - 1))).bind fun t103 => (some t103)) else (some false)) = some r := H
 have A4 := Aside0.mk A40
 clear A40
 by_cases c5 : t102 = true
 ·
  subst c5
  have H1 : ((impl_within.f a2 0 (wrap64 (a0_1 - 1))).bind fun t103 => (some t103)) = some r := by rw [if_pos rfl] at H; exact H
  clear H; have H := H1; clear H1; replace H := Option.bind_eq_some_iff.mp H; obtain ⟨t103, A60, H⟩ := H
  replace H : (some t103) = some r := H
  have A6 := Aside0.mk A60; clear A60
  obtain rfl := Option.some.inj H
  go_enter Try.func55, Try.ntmps55
  go_wp2_with (first | ((with_reducible refine gate_dst (N := 3) rfl ?_); refine bxe (cs := #[.int .i64 a0_0, .int .i64 a0_1, .slice A0_2 l0_2.length c0_2]) (t := 26) ?_; intro gb101 hg w7 hbox hb; have BK101 := aK (hbox); have GW101 := aK (gE hg (pS HB.out)); have GE101 := GW101; replace HB := bS HB hb; clear hb hbox hg; obtain ⟨z8_0, z8_1, z8_2, y8_0, y8_1, y8_2⟩ := bc3 BK101.out) | ((with_reducible refine gate_callee (f := 38) rfl ?_); refine gl (some 11) Try.func38 #[.int .i64 a1, .int .i64 0, .int .i64 (wrap64 (a0_0 - 1))] ?_; (with_reducible refine (impl_within.calls a1 0 (wrap64 (a0_0 - 1)) true _ A4.out).mono ?_); rintro e w' ⟨rfl, ⟨nd, rfl⟩⟩; refine ⟨_, rfl, ?_⟩) | (go_at_call 38; (with_reducible refine (impl_within.calls a2 0 (wrap64 (a0_1 - 1)) t103 _ A6.out).mono ?_); rintro e w' ⟨rfl, ⟨nd, rfl⟩⟩))
  go_ret
  exact ⟨er, pT HB.out⟩
 replace c5 := Bool.eq_false_iff.mpr c5
 subst c5
 have H1 : (some false) = some r := by rw [if_neg (show ¬ (false = true) by decide)] at H; exact H
 clear H
 have H := H1
 clear H1
 obtain rfl := Option.some.inj H
 go_enter Try.func55, Try.ntmps55
 go_wp2_with (first | ((with_reducible refine gate_dst (N := 3) rfl ?_); refine bxe (cs := #[.int .i64 a0_0, .int .i64 a0_1, .slice A0_2 l0_2.length c0_2]) (t := 26) ?_; intro gb101 hg w9 hbox hb; have BK101 := aK (hbox); have GW101 := aK (gE hg (pS HB.out)); have GE101 := GW101; replace HB := bS HB hb; clear hb hbox hg; obtain ⟨z10_0, z10_1, z10_2, y10_0, y10_1, y10_2⟩ := bc3 BK101.out) | ((with_reducible refine gate_callee (f := 38) rfl ?_); refine gl (some 11) Try.func38 #[.int .i64 a1, .int .i64 0, .int .i64 (wrap64 (a0_0 - 1))] ?_; (with_reducible refine (impl_within.calls a1 0 (wrap64 (a0_0 - 1)) false _ A4.out).mono ?_); rintro e w' ⟨rfl, ⟨nd, rfl⟩⟩; refine ⟨_, rfl, ?_⟩))
 go_ret
 exact ⟨er, pT HB.out⟩
def impl_moveField_1.f (a0 : Int) (a1 : Int) (a2_0 : Int) (a2_1 : Int) (l2_2 : List Int) (a3_0 : Int) (a3_1 : Int) : Option (Int) := (impl_hasCell.f a2_0 a2_1 l2_2 (wrap64 (a0 - a3_0)) (wrap64 (a1 - a3_1))).bind fun t103 => (if t103 = true then (if 0 ≤ (wrap64 ((wrap64 ((wrap64 ((wrap64 (a1 - a3_1)) * a2_0)) + a0)) - a3_0)) then (if (wrap64 ((wrap64 ((wrap64 ((wrap64 (a1 - a3_1)) * a2_0)) + a0)) - a3_0)) < (l2_2.length : Int) then (some (rd l2_2 (wrap64 ((wrap64 ((wrap64 ((wrap64 (a1 - a3_1)) * a2_0)) + a0)) - a3_0)))) else (none)) else (none)) else (some (-9999)))
theorem impl_moveField_1.calls (a0 : Int) (a1 : Int) (cb2 : Nat) (a2_0 : Int) (a2_1 : Int) (A2_2 : Option Addr) (c2_2 : Nat) (l2_2 : List Int) (cb3 : Nat) (a3_0 : Int) (a3_1 : Int) (r : Int) (w : World) (hk2 : w.heap[cb2]? = some (.cells #[.int .i64 a2_0, .int .i64 a2_1, .slice A2_2 l2_2.length c2_2] 26 (0, 0))) (hr2_2 : Kd.C (Kd.int .i64) w A2_2 l2_2.length l2_2) (hc2_2 : l2_2.length ≤ c2_2) (hk3 : w.heap[cb3]? = some (.cells #[.int .i64 a3_0, .int .i64 a3_1] 33 (0, 0))) (hn2_3 : cb2 ≠ cb3) (h : impl_moveField_1.f a0 a1 a2_0 a2_1 l2_2 a3_0 a3_1 = some r) :
  Calls Try.prog 54 #[.int .i64 a0, .int .i64 a1, .pointer (some ⟨cb2, 0, none⟩), .pointer (some ⟨cb3, 0, none⟩)] w fun e w' => e = .returned (.int .i64 r) ∧ Below w.heap.size w w' := by
 have hu26 := Try.underlying26
 have HR2_2 := Aside0.mk hr2_2
 have HC2_2 := Aside0.mk hc2_2
 clear hr2_2 hc2_2
 have BK101 := Aside0.mk hk2
 clear hk2
 have BK102 := Aside0.mk hk3
 clear hk3
 have NB101_102 := Aside0.mk hn2_3
 have NB102_101 := aK (Ne.symm hn2_3)
 clear hn2_3
 have HB := aK (Below.refl w.heap.size w)
 have H : ((impl_hasCell.f a2_0 a2_1 l2_2 (wrap64 (a0 - a3_0)) (wrap64 (a1 - a3_1))).bind fun t103 => (if t103 = true then (if 0 ≤ (wrap64 ((wrap64 ((wrap64 ((wrap64 (a1 - a3_1)) * a2_0)) + a0)) - a3_0)) then (if (wrap64 ((wrap64 ((wrap64 ((wrap64 (a1 - a3_1)) * a2_0)) + a0)) - a3_0)) < (l2_2.length : Int) then (some (rd l2_2 (wrap64 ((wrap64 ((wrap64 ((wrap64 (a1 - a3_1)) * a2_0)) + a0)) - a3_0)))) else (none)) else (none)) else (some (-9999)))) = some r := h
 clear h
 replace H := Option.bind_eq_some_iff.mp H
 obtain ⟨t103, A50, H⟩ := H
 replace H : (if t103 = true then (if 0 ≤ (wrap64 ((wrap64 ((wrap64 ((wrap64 (a1 - a3_1)) * a2_0)) + a0)) - a3_0)) then (if (wrap64 ((wrap64 ((wrap64 ((wrap64 (a1 - a3_1)) * a2_0)) + a0)) - a3_0)) < (l2_2.length : Int) then (some (rd l2_2 (wrap64 ((wrap64 ((wrap64 ((wrap64 (a1 - a3_1)) * a2_0)) + a0)) - a3_0)))) else (none)) else (none)) else (some (-9999))) = some r := H
 have A5 := Aside0.mk A50
 clear A50
 by_cases c6 : t103 = true
 rotate_left
 ·
  replace c6 := Bool.eq_false_iff.mpr c6; subst c6
  have H1 : (some (-9999)) = some r := by rw [if_neg (show ¬ (false = true) by decide)] at H; exact H
  clear H; have H := H1; clear H1
  obtain rfl := Option.some.inj H
  obtain ⟨hnb16, hnc16⟩ := nB NB101_102; obtain ⟨z17_0, z17_1, z17_2, y17_0, y17_1, y17_2⟩ := bc3 BK101.out; obtain ⟨z18_0, z18_1, y18_0, y18_1⟩ := bc2 BK102.out
  go_enter Try.func54, Try.ntmps54
  go_wp2_with (first | ((with_reducible refine gate_callee (f := 55) rfl ?_); refine gl (some 16) Try.func55 #[.agg #[.int .i64 a2_0, .int .i64 a2_1, .slice A2_2 l2_2.length c2_2], .int .i64 (wrap64 (a0 - a3_0)), .int .i64 (wrap64 (a1 - a3_1))] ?_; (with_reducible refine (impl_hasCell.calls a2_0 a2_1 _ _ l2_2 (wrap64 (a0 - a3_0)) (wrap64 (a1 - a3_1)) false _ ?side1 ?side2 A5.out).mono ?_); (case side1 => exact pC HR2_2.out); (case side2 => exact HC2_2.out); rintro e w19 ⟨rfl, hb⟩; refine ⟨_, rfl, ?_⟩; replace BK101 := bB BK101 hb; replace BK102 := bB BK102 hb; replace HB := bS HB hb; (try clear hb); (try clear hb2); (try clear hk); (try clear hi)))
  go_ret
  exact ⟨er, pT HB.out⟩
 subst c6
 have H1 : (if 0 ≤ (wrap64 ((wrap64 ((wrap64 ((wrap64 (a1 - a3_1)) * a2_0)) + a0)) - a3_0)) then (if (wrap64 ((wrap64 ((wrap64 ((wrap64 (a1 - a3_1)) * a2_0)) + a0)) - a3_0)) < (l2_2.length : Int) then (some (rd l2_2 (wrap64 ((wrap64 ((wrap64 ((wrap64 (a1 - a3_1)) * a2_0)) + a0)) - a3_0)))) else (none)) else (none)) = some r := by rw [if_pos rfl] at H; exact H
 clear H
 have H := H1
 clear H1
 obtain ⟨ji7, hji7⟩ : ∃ j_ : Int, (wrap64 ((wrap64 ((wrap64 ((wrap64 (a1 - a3_1)) * a2_0)) + a0)) - a3_0)) = j_ := ⟨_, rfl⟩
 replace H : (if 0 ≤ (ji7) then (if (ji7) < (l2_2.length : Int) then (some (rd l2_2 (ji7))) else (none)) else (none)) = some r := by first | (rw [hji7] at H; exact H) | (simp only [hji7] at H ⊢; exact H)
 (try rw [hji7] at A5)
 have hji7v : (IntKind.i64.wrap ((IntKind.i64.wrap ((IntKind.i64.wrap ((IntKind.i64.wrap (a1 - a3_1)) * a2_0)) + a0)) - a3_0)) = ji7 := by simp only [i64_w]; exact hji7
 have hji7w : (IntKind.i64.wrap ((wrap64 ((wrap64 ((wrap64 (a1 - a3_1)) * a2_0)) + a0)) - a3_0)) = ji7 := (i64_w _).trans hji7
 by_cases c8 : 0 ≤ (ji7)
 rotate_left
 ·
  rw [if_neg c8] at H
  exact absurd H (by simp)
 rw [if_pos c8] at H
 have c8b0 : decide (0 ≤ (ji7)) = true := decide_eq_true c8
 clear c8
 by_cases c9 : (ji7) < (l2_2.length : Int)
 rotate_left
 ·
  rw [if_neg c9] at H
  exact absurd H (by simp)
 rw [if_pos c9] at H
 have c9b0 : decide ((ji7) < (l2_2.length : Int)) = true := decide_eq_true c9
 clear c9
 obtain rfl := Option.some.inj H
 obtain ⟨hnb10, hnc10⟩ := nB NB101_102
 obtain ⟨z11_0, z11_1, z11_2, y11_0, y11_1, y11_2⟩ := bc3 BK101.out
 obtain ⟨z12_0, z12_1, y12_0, y12_1⟩ := bc2 BK102.out
 go_enter Try.func54, Try.ntmps54
 go_wp2_with (first | ((with_reducible refine gate_callee (f := 55) rfl ?_); refine gl (some 16) Try.func55 #[.agg #[.int .i64 a2_0, .int .i64 a2_1, .slice A2_2 l2_2.length c2_2], .int .i64 (wrap64 (a0 - a3_0)), .int .i64 (wrap64 (a1 - a3_1))] ?_; (with_reducible refine (impl_hasCell.calls a2_0 a2_1 _ _ l2_2 (wrap64 (a0 - a3_0)) (wrap64 (a1 - a3_1)) true _ ?side1 ?side2 A5.out).mono ?_); (case side1 => exact pC HR2_2.out); (case side2 => exact HC2_2.out); rintro e w13 ⟨rfl, hb⟩; refine ⟨_, rfl, ?_⟩; replace BK101 := bB BK101 hb; replace BK102 := bB BK102 hb; replace HB := bS HB hb; (try clear hb); (try clear hb2); (try clear hk); (try clear hi); obtain ⟨z14_0, z14_1, z14_2, y14_0, y14_1, y14_2⟩ := bc3 BK101.out; obtain ⟨z15_0, z15_1, y15_0, y15_1⟩ := bc2 BK102.out; have p104 : 0 ≤ ((ji7) : Int) := of_decide_eq_true (by first | (with_reducible assumption) | assumption); have q104 : (ji7) < (l2_2.length : Int) := of_decide_eq_true (by first | (with_reducible assumption) | assumption); obtain ⟨ad104, e104, hx104_0⟩ := Kd.at_int HR2_2.out (ji7) p104 q104; cases e104; replace hx104_0 := (HB.out.cell (World.block_lt_of_cell? w _ hx104_0)).trans hx104_0; replace p104 := eq_true p104; replace q104 := eq_true q104))
 go_ret
 exact ⟨by first | rfl | (simp [errW_none, errW_some] <;> rfl) | (simp only [← hji7]; first | rfl | (simp [errW_none, errW_some] <;> rfl)) | (simp [*, errW_none, errW_some] <;> rfl), pT HB.out⟩
def impl_moveField.f (k : Nat) (a0_0 : Int) (a0_1 : Int) (l0_2 : List Int) (a1_0 : Int) (a1_1 : Int) : Option (Int × Int × List Int) := (impl_fieldBy_at_mp_mpGi64_i64_i64.f k (fun z0_ z1_ => impl_moveField_1.f z0_ z1_ a0_0 a0_1 l0_2 a1_0 a1_1) a0_0 a0_1).bind fun bt104 => (some (bt104.1, bt104.2.1, bt104.2.2))
theorem impl_moveField.calls (k : Nat) (a0_0 : Int) (a0_1 : Int) (A0_2 : Option Addr) (c0_2 : Nat) (l0_2 : List Int) (a1_0 : Int) (a1_1 : Int) (r1 : Int) (r2 : Int) (r3 : List Int) (w : World) (hr0_2 : Kd.C (Kd.int .i64) w A0_2 l0_2.length l0_2) (hc0_2 : l0_2.length ≤ c0_2) (h : impl_moveField.f k a0_0 a0_1 l0_2 a1_0 a1_1 = some (r1, r2, r3)) :
  Calls Try.prog 31 #[.agg #[.int .i64 a0_0, .int .i64 a0_1, .slice A0_2 l0_2.length c0_2], .agg #[.int .i64 a1_0, .int .i64 a1_1]] w fun e w' => ∃ v2_ : Value, e = .returned (.agg #[.int .i64 r1, .int .i64 r2, v2_]) ∧ Kd.R (Kd.int .i64) 3 w' w.heap.size (fun _ => True) v2_ r3 ∧ Below w.heap.size w w' := by
 have hu26 := Try.underlying26
 have hu33 := Try.underlying33
 have HR0_2 := Aside0.mk hr0_2
 have HC0_2 := Aside0.mk hc0_2
 clear hr0_2 hc0_2
 have HB := aK (Below.refl w.heap.size w)
 have H : ((impl_fieldBy_at_mp_mpGi64_i64_i64.f k (fun z0_ z1_ => impl_moveField_1.f z0_ z1_ a0_0 a0_1 l0_2 a1_0 a1_1) a0_0 a0_1).bind fun bt104 => (some (bt104.1, bt104.2.1, bt104.2.2))) = some (r1, r2, r3) := h
 clear h
 replace H := Option.bind_eq_some_iff.mp H
 obtain ⟨⟨t104, t105, t106⟩, A30, H⟩ := H
 replace H : (some (t104, t105, t106)) = some (r1, r2, r3) := H
 have A3 := Aside0.mk A30
 clear A30
 simp only [Option.some.injEq, Prod.mk.injEq] at H
 obtain ⟨rfl, rfl, rfl⟩ := H
 go_enter Try.func31, Try.ntmps31
 go_wp2_with (first | ((with_reducible refine gate_dst (N := 2) rfl ?_); refine bxe (cs := #[.int .i64 a0_0, .int .i64 a0_1, .slice A0_2 l0_2.length c0_2]) (t := 26) ?_; intro gb101 hg w4 hbox hb; have BK101 := aK (hbox); have GW101 := aK (gE hg (pS HB.out)); have GE101 := GW101; replace HB := bS HB hb; clear hb hbox hg) | ((with_reducible refine gate_dst (N := 3) rfl ?_); refine bxe (cs := #[.int .i64 a1_0, .int .i64 a1_1]) (t := 33) ?_; intro gb102 hg w5 hbox hb; have BK102 := aK (hbox); have GW102 := aK (gE hg (pS HB.out)); have GE102 := GW102; obtain ⟨NB101_102, NB102_101⟩ := nb hg (pB BK101.out); replace BK101 := bB BK101 hb; replace HB := bS HB hb; clear hb hbox hg) | ((with_reducible refine gate_dst (N := 4) rfl ?_); refine bxe (cs := #[.int .i64 0, .int .i64 0, .slice none 0 0]) (t := 26) ?_; intro gb103 hg w6 hbox hb; have BK103 := aK (hbox); have GW103 := aK (gE hg (pS HB.out)); have GE103 := GW103; obtain ⟨NB101_103, NB103_101⟩ := nb hg (pB BK101.out); obtain ⟨NB102_103, NB103_102⟩ := nb hg (pB BK102.out); replace BK101 := bB BK101 hb; replace BK102 := bB BK102 hb; replace HB := bS HB hb; clear hb hbox hg; obtain ⟨hnb7, hnc7⟩ := nB NB101_102; obtain ⟨hnb8, hnc8⟩ := nB NB101_103; obtain ⟨z9_0, z9_1, z9_2, y9_0, y9_1, y9_2⟩ := bc3 BK101.out) | ((with_reducible refine gate_callee (f := 53) rfl ?_); refine gl (some 10) Try.func53 #[.int .i64 a0_0, .int .i64 a0_1, .func (.func 54) #[] #[.pointer (some ⟨gb101, 0, none⟩), .pointer (some ⟨gb102, 0, none⟩)]] ?_; (with_reducible refine (impl_fieldBy_at_mp_mpGi64_i64_i64.calls (fun z0_ z1_ => impl_moveField_1.f z0_ z1_ a0_0 a0_1 l0_2 a1_0 a1_1) 54 #[.pointer (some ⟨gb101, 0, none⟩), .pointer (some ⟨gb102, 0, none⟩)] k a0_0 a0_1  t104 t105 t106 _ ?side1 ?side2 A3.out).mono ?_); (case side1 => exact fun args_ w_ => enters_ Try.func54 (by kernel_rfl) rfl args_ w_); (case side2 => intro z0_ z1_ r_ W_ hz_ hB_; refine (impl_moveField_1.calls z0_ z1_ gb101 a0_0 a0_1 _ _ l0_2 gb102 a1_0 a1_1 r_ W_ (blk_below (pB BK101.out) hB_) (Kd.C_below (by exact pC (Kd.C_below HR0_2.out HB.out)) hB_) (by exact HC0_2.out) (blk_below (pB BK102.out) hB_) NB101_102.out hz_).mono ?_; rintro e_ w_ ⟨rfl, hd_⟩; exact ⟨rfl, hd_⟩); rintro e w10 ⟨v107, rfl, ho0, hb⟩; refine ⟨_, rfl, ?_⟩; have HO108 := aK (Kd.R_lower ho0 (below_size (pS HB.out))); replace BK101 := bB BK101 hb; replace BK102 := bB BK102 hb; replace BK103 := bB BK103 hb; replace HB := bS HB hb; (try clear hb); (try clear hb2); (try clear hk); (try clear hi); (try clear ho0); obtain ⟨hnb11, hnc11⟩ := nB NB103_102; obtain ⟨z12_0, z12_1, z12_2, y12_0, y12_1, y12_2⟩ := bc3 BK103.out; obtain ⟨Ao13, co13, eo13⟩ := Kd.R_slice HO108.out; subst eo13))
 refine bodyPost_ret (results_cell_row rfl _ _ gb103 26 #[.int .i64 t104, .int .i64 t105, .slice Ao13 t106.length co13] (0, 0) _ rfl (by refine bk ?_; refine blk_put (cs := #[.int .i64 t104, .int .i64 t105, .slice none 0 0]) ?_ 2 _ rfl; refine bk ?_; refine blk_put (cs := #[.int .i64 t104, .int .i64 0, .slice none 0 0]) ?_ 1 _ rfl; refine bk ?_; refine blk_put (cs := #[.int .i64 0, .int .i64 0, .slice none 0 0]) ?_ 0 _ rfl; refine bk ?_; exact BK103.out) Try.underlying26 rfl (by kernel_rfl)) rfl ?_
 exact ⟨_, er, by (with_reducible repeat (first | apply Kd.R_alloc | apply Kd.R_drewN | apply Kd.R_drew)); exact Kd.R_mono (rF3 HO108.out BK103.out (.int .i64 t104) (.int .i64 t105) (.slice Ao13 t106.length co13)) (fun _ h => trivial), pT HB.out⟩
def impl_matchOf.f (k : Nat) (a0_0 : Int) (a0_1 : Int) (l0_2 : List Int) (a1_0 : Int) (a1_1 : Int) (l1_2 : List Int) (a2_0 : Int) (a2_1 : Int) : Option (Int × Int) := (impl_moveField.f k a0_0 a0_1 l0_2 a2_0 a2_1).bind fun bt104 => ((impl_differences.f k bt104.1 bt104.2.1 bt104.2.2 a1_0 a1_1 l1_2).bind fun bt109 => (some (bt109.1, bt109.2)))
def impl_matchOf.T1 : Bool × List (List Nat × List Nat) := (true, [([], []), ([], []), ([0, 1], [0, 1]), ([], []), ([2, 3, 2], [2, 3]), ([4], [4]), ([4], [4]), ([5, 4, 0, 1, 2, 3, 4, 5, 6], [5]), ([6, 7, 0, 1, 2, 3, 4, 5, 6, 7], [6])])
def impl_matchOf.B1 : List Nat := [0, 0, 3, 0, 15, 31, 31, 127, 255]
theorem impl_matchOf.tab1 : rtab .any (opsOf Try.f15 1) = impl_matchOf.T1 := by kernel_rfl
theorem impl_matchOf.bits1 : waitsOk impl_matchOf.T1.2 impl_matchOf.B1 = true := by kernel_rfl
theorem impl_matchOf.calls (k : Nat) (a0_0 : Int) (a0_1 : Int) (A0_2 : Option Addr) (c0_2 : Nat) (l0_2 : List Int) (a1_0 : Int) (a1_1 : Int) (A1_2 : Option Addr) (c1_2 : Nat) (l1_2 : List Int) (a2_0 : Int) (a2_1 : Int) (r1 : Int) (r2 : Int) (w : World) (hr0_2 : Kd.C (Kd.int .i64) w A0_2 l0_2.length l0_2) (hc0_2 : l0_2.length ≤ c0_2) (hr1_2 : Kd.C (Kd.int .i64) w A1_2 l1_2.length l1_2) (hc1_2 : l1_2.length ≤ c1_2) (h : impl_matchOf.f k a0_0 a0_1 l0_2 a1_0 a1_1 l1_2 a2_0 a2_1 = some (r1, r2)) :
  Calls Try.prog 15 #[.agg #[.int .i64 a0_0, .int .i64 a0_1, .slice A0_2 l0_2.length c0_2], .agg #[.int .i64 a1_0, .int .i64 a1_1, .slice A1_2 l1_2.length c1_2], .agg #[.int .i64 a2_0, .int .i64 a2_1]] w fun e w' => e = .returned (.tuple #[.int .i64 r1, .int .i64 r2]) ∧ Below w.heap.size w w' := by
 have hu26 := Try.underlying26
 have hu33 := Try.underlying33
 have HR0_2 := Aside0.mk hr0_2
 have HC0_2 := Aside0.mk hc0_2
 clear hr0_2 hc0_2
 have HR1_2 := Aside0.mk hr1_2
 have HC1_2 := Aside0.mk hc1_2
 clear hr1_2 hc1_2
 have HB := aK (Below.refl w.heap.size w)
 have H : ((impl_moveField.f k a0_0 a0_1 l0_2 a2_0 a2_1).bind fun bt104 => ((impl_differences.f k bt104.1 bt104.2.1 bt104.2.2 a1_0 a1_1 l1_2).bind fun bt109 => (some (bt109.1, bt109.2)))) = some (r1, r2) := h
 clear h
 replace H := Option.bind_eq_some_iff.mp H
 obtain ⟨⟨t104, t105, t106⟩, A40, H⟩ := H
 replace H : ((impl_differences.f k t104 t105 t106 a1_0 a1_1 l1_2).bind fun bt109 => (some (bt109.1, bt109.2))) = some (r1, r2) := H
 have A4 := Aside0.mk A40
 clear A40
 replace H := Option.bind_eq_some_iff.mp H
 obtain ⟨⟨t109, t110⟩, A50, H⟩ := H
 replace H : (some (t109, t110)) = some (r1, r2) := H
 have A5 := Aside0.mk A50
 clear A50
 simp only [Option.some.injEq, Prod.mk.injEq] at H
 obtain ⟨rfl, rfl⟩ := H
 go_enter Try.func15, Try.ntmps15
 try go_wp2_with (first | ((with_reducible refine gate_dst (N := 3) rfl ?_); refine bxe (cs := #[.int .i64 a0_0, .int .i64 a0_1, .slice A0_2 l0_2.length c0_2]) (t := 26) ?_; intro gb101 hg w6 hbox hb; have BK101 := aK (hbox); have GW101 := aK (gE hg (pS HB.out)); have GE101 := GW101; replace HB := bS HB hb; clear hb hbox hg) | ((with_reducible refine gate_dst (N := 4) rfl ?_); refine bxe (cs := #[.int .i64 a1_0, .int .i64 a1_1, .slice A1_2 l1_2.length c1_2]) (t := 26) ?_; intro gb102 hg w7 hbox hb; have BK102 := aK (hbox); have GW102 := aK (gE hg (pS HB.out)); have GE102 := GW102; obtain ⟨NB101_102, NB102_101⟩ := nb hg (pB BK101.out); replace BK101 := bB BK101 hb; replace HB := bS HB hb; clear hb hbox hg) | ((with_reducible refine gate_dst (N := 5) rfl ?_); refine bxe (cs := #[.int .i64 a2_0, .int .i64 a2_1]) (t := 33) ?_; intro gb103 hg w8 hbox hb; have BK103 := aK (hbox); have GW103 := aK (gE hg (pS HB.out)); have GE103 := GW103; obtain ⟨NB101_103, NB103_101⟩ := nb hg (pB BK101.out); obtain ⟨NB102_103, NB103_102⟩ := nb hg (pB BK102.out); replace BK101 := bB BK101 hb; replace BK102 := bB BK102 hb; replace HB := bS HB hb; clear hb hbox hg))
 replace BK101 := aK (blk_drew BK101.out)
 replace BK102 := aK (blk_drew BK102.out)
 replace BK103 := aK (blk_drew BK103.out)
 replace HB := aK (below_drew1 HB.out)
 refine start_ (n := 9) (S := fun w' => w'.cell? ⟨gb101, 0, none⟩ = some (.int .i64 a0_0) ∧ w'.cell? ⟨gb101, 1, none⟩ = some (.int .i64 a0_1) ∧ w'.cell? ⟨gb101, 2, none⟩ = some (.slice A0_2 l0_2.length c0_2) ∧ w'.cell? ⟨gb103, 0, none⟩ = some (.int .i64 a2_0) ∧ w'.cell? ⟨gb103, 1, none⟩ = some (.int .i64 a2_1) ∧ w'.cell? ⟨gb102, 0, none⟩ = some (.int .i64 a1_0) ∧ w'.cell? ⟨gb102, 1, none⟩ = some (.int .i64 a1_1) ∧ w'.cell? ⟨gb102, 2, none⟩ = some (.slice A1_2 l1_2.length c1_2)) (ds := []) (bz [0, 9]) (by kernel_rfl) rfl rfl (cj3 BK101.out (cj2 BK103.out (cz3 BK102.out))) (fun hHeld => ?_); refine with_tabW impl_matchOf.tab1 impl_matchOf.bits1 (fun HT_ HW_ => ?_)
 generalize w8.drew = w9 at BK101 BK102 BK103 HB hHeld ⊢
 refine tk (i := 0) (N := some 8) (bz [1, 8]) rfl rfl HT_.out HW_.out (Or.inl ⟨by rfl, by rintro w' ⟨s0, s1, s2, s3, s4, s5, s6, s7⟩; go_simp; with_reducible rfl⟩) hHeld ?_
 refine tk (i := 1) (N := some 9) (bz [2, 7]) rfl rfl HT_.out HW_.out (Or.inl ⟨by rfl, by rintro w' ⟨s0, s1, s2, s3, s4, s5, s6, s7⟩; go_simp; with_reducible rfl⟩) hHeld ?_
 refine tk (i := 3) (N := some 11) (bz [2, 1, 1, 5]) rfl rfl HT_.out HW_.out (Or.inl ⟨by rfl, by rintro w' ⟨s0, s1, s2, s3, s4, s5, s6, s7⟩; go_simp; with_reducible rfl⟩) hHeld ?_
 refine one_ (i := 2) (N := some 10) (bz [4, 5]) rfl rfl (one_of HT_.out (by kernel_rfl)) (by decide) (fun K hK => ?_)
 refine goes_ Try.func31 (by kernel_rfl) rfl #[.agg #[.int .i64 a0_0, .int .i64 a0_1, .slice A0_2 l0_2.length c0_2], .agg #[.int .i64 a2_0, .int .i64 a2_1]] (by rfl) rfl rfl (by (try simp only [List.map_toArray, List.map_cons, List.map_nil]); first | done | rfl | (simp only [List.length_drop, List.length_take]; rfl)) ?_
 with_reducible refine (impl_moveField.calls k a0_0 a0_1 _ _ l0_2 a2_0 a2_1 t104 t105 t106 _ ?side1 ?side2 A4.out).mono ?_
 (case side1 => exact pC (Kd.C_below HR0_2.out HB.out))
 (case side2 => exact HC0_2.out)
 rintro e w10 ⟨v107, rfl, ho0, hb⟩
 refine ⟨_, rfl, ?_⟩
 have HO108 := aK (Kd.R_lower ho0 (below_size (pS HB.out)))
 replace BK101 := bB BK101 hb
 replace BK102 := bB BK102 hb
 replace BK103 := bB BK103 hb
 replace HB := bS HB hb
 (try clear hb)
 (try clear hb2)
 (try clear hk)
 (try clear hi)
 (try clear ho0)
 obtain ⟨Ao11, co11, eo11⟩ := Kd.R_slice HO108.out
 (first | subst eo11 | (obtain ⟨f4_, f5_⟩ := sI eo11; subst f4_; subst f5_))
 refine hK.out _ _ (cj3 BK101.out (cj2 BK103.out (cz3 BK102.out))) (fun hHeld => ?_)
 clear hK K
 refine norm_ (a' := ?_) ?_ ?_
 rotate_left
 ·
  show Act.put _ (some 10) _ = _
  simp only [sP]
  rfl
 refine one_ (i := 4) (N := some 12) (bz [5, 4]) rfl rfl (one_of HT_.out (by kernel_rfl)) (by decide) (fun K hK => ?_)
 refine goes_ Try.func30 (by kernel_rfl) rfl #[.agg #[.int .i64 t104, .int .i64 t105, .slice Ao11 t106.length co11], .agg #[.int .i64 a1_0, .int .i64 a1_1, .slice A1_2 l1_2.length c1_2]] (by rfl) rfl rfl (by (try simp only [List.map_toArray, List.map_cons, List.map_nil]); first | done | rfl | (simp only [List.length_drop, List.length_take]; rfl)) ?_
 with_reducible refine (impl_differences.calls k t104 t105 _ _ t106 a1_0 a1_1 _ _ l1_2 t109 t110 _ ?side1 ?side2 ?side3 ?side4 A5.out).mono ?_
 (case side1 => exact pC (Kd.R_reads' HO108.out).2.2)
 (case side2 => exact (Kd.R_reads' HO108.out).2.1)
 (case side3 => exact pC (Kd.C_below HR1_2.out HB.out))
 (case side4 => exact HC1_2.out)
 rintro e w12 ⟨rfl, hb⟩
 refine ⟨_, rfl, ?_⟩
 replace HO108 := aK (Kd.R_below (pR HO108.out) hb)
 replace BK101 := bB BK101 hb
 replace BK102 := bB BK102 hb
 replace BK103 := bB BK103 hb
 replace HB := bS HB hb
 (try clear hb)
 (try clear hb2)
 (try clear hk)
 (try clear hi)
 refine hK.out _ _ (cj3 BK101.out (cj2 BK103.out (cz3 BK102.out))) (fun hHeld => ?_)
 clear hK K
 refine norm_ (a' := ?_) ?_ ?_
 rotate_left
 ·
  show Act.put _ (some 12) _ = _
  simp only [sP]
  rfl
 refine pz 5 13 [6, 3] HT_.out ?_
 refine pz 6 14 [7, 2] HT_.out ?_
 refine pz 7 6 [8, 1] HT_.out ?_
 refine pz 8 7 [9, 0] HT_.out ?_
 refine done_ (done_of HT_.out (by kernel_rfl)) ?_
 try go_wp2
 go_ret2
 exact ⟨er, pT HB.out⟩
end Go.Proofs.Ytmkdiliemiobeaa.P
namespace Go.Proofs
open Go.Shelf
def Try.sortf6_ren : Go.Shelf.Ren := ⟨fun | 6 => 16 | 15 => 33 | 14 => 32 | 28 => 64 | 29 => 65 | 20 => 56 | 21 => 57 | 22 => 58 | 23 => 59 | 24 => 60 | 25 => 61 | 26 => 62 | 27 => 63 | 46 => 74 | 47 => 75 | 48 => 76 | 49 => 77 | 50 => 78 | 57 => 81 | n => n, fun | 22 => 42 | 24 => 46 | 25 => 51 | 3 => 3 | 39 => 67 | 0 => 0 | 53 => 88 | 55 => 56 | 4 => 4 | 46 => 81 | 45 => 80 | 50 => 85 | 5 => 5 | 9 => 9 | 66 => 94 | 70 => 98 | 76 => 102 | 77 => 43 | n => n, fun | n => n⟩
theorem Try.sortf6 : Go.Proofs.SlLaysF0.n6 Try.prog Try.sortf6_ren := {
  mixed := by kernel_rfl
  f6 := ⟨Try.f16.name, by decide, Try.func16.trans (congrArg some (by kernel_rfl))⟩
  f14 := ⟨Try.f32.name, by decide, Try.func32.trans (congrArg some (by kernel_rfl))⟩
  f15 := Try.func33.trans (congrArg some (by kernel_rfl))
  f20 := ⟨Try.f56.name, by decide, Try.func56.trans (congrArg some (by kernel_rfl))⟩
  f21 := ⟨Try.f57.name, by decide, Try.func57.trans (congrArg some (by kernel_rfl))⟩
  f22 := ⟨Try.f58.name, by decide, Try.func58.trans (congrArg some (by kernel_rfl))⟩
  f23 := ⟨Try.f59.name, by decide, Try.func59.trans (congrArg some (by kernel_rfl))⟩
  f24 := ⟨Try.f60.name, by decide, Try.func60.trans (congrArg some (by kernel_rfl))⟩
  f25 := ⟨Try.f61.name, by decide, Try.func61.trans (congrArg some (by kernel_rfl))⟩
  f26 := ⟨Try.f62.name, by decide, Try.func62.trans (congrArg some (by kernel_rfl))⟩
  f27 := ⟨Try.f63.name, by decide, Try.func63.trans (congrArg some (by kernel_rfl))⟩
  f28 := Try.func64.trans (congrArg some (by kernel_rfl))
  f29 := Try.func65.trans (congrArg some (by kernel_rfl))
  f46 := ⟨Try.f74.name, by decide, Try.func74.trans (congrArg some (by kernel_rfl))⟩
  f47 := Try.func75.trans (congrArg some (by kernel_rfl))
  f48 := Try.func76.trans (congrArg some (by kernel_rfl))
  f49 := ⟨Try.f77.name, by decide, Try.func77.trans (congrArg some (by kernel_rfl))⟩
  f50 := ⟨Try.f78.name, by decide, Try.func78.trans (congrArg some (by kernel_rfl))⟩
  f57 := ⟨Try.f81.name, by decide, Try.func81.trans (congrArg some (by kernel_rfl))⟩
  t0 := Try.underlying0
  a0 := Try.isAgg0
  z0 := Try.sizeOf0
  v0 := Try.zeroValue0
  t3 := Try.underlying3
  a3 := Try.isAgg3
  z3 := Try.sizeOf3
  v3 := Try.zeroValue3
  t4 := Try.underlying4
  a4 := Try.isAgg4
  z4 := Try.sizeOf4
  v4 := Try.zeroValue4
  t5 := Try.underlying5
  a5 := Try.isAgg5
  z5 := Try.sizeOf5
  v5 := Try.zeroValue5
  t9 := Try.underlying9
  a9 := Try.isAgg9
  z9 := Try.sizeOf9
  v9 := Try.zeroValue9
  t22 := Try.underlying42
  a22 := Try.isAgg42
  z22 := Try.sizeOf42
  v22 := Try.zeroValue42
  t25 := Try.underlying51
  a25 := Try.isAgg51
  z25 := Try.sizeOf51
  v25 := Try.zeroValue51
  t39 := Try.underlying67
  a39 := Try.isAgg67
  z39 := Try.sizeOf67
  v39 := Try.zeroValue67
  t45 := Try.underlying80
  a45 := Try.isAgg80
  z45 := Try.sizeOf80
  v45 := Try.zeroValue80
  t46 := Try.underlying81
  a46 := Try.isAgg81
  z46 := Try.sizeOf81
  v46 := Try.zeroValue81
  t50 := Try.underlying85
  a50 := Try.isAgg85
  z50 := Try.sizeOf85
  v50 := Try.zeroValue85
  t53 := Try.underlying88
  a53 := Try.isAgg88
  z53 := Try.sizeOf88
  v53 := Try.zeroValue88
  t55 := Try.underlying56
  a55 := Try.isAgg56
  z55 := Try.sizeOf56
  v55 := Try.zeroValue56
  t66 := Try.underlying94
  a66 := Try.isAgg94
  z66 := Try.sizeOf94
  v66 := Try.zeroValue94
  t70 := Try.underlying98
  a70 := Try.isAgg98
  z70 := Try.sizeOf98
  v70 := Try.zeroValue98
  t76 := Try.underlying102
  a76 := Try.isAgg102
  z76 := Try.sizeOf102
  v76 := Try.zeroValue102
  t77 := Try.underlying43
  a77 := Try.isAgg43
  z77 := Try.sizeOf43
  v77 := Try.zeroValue43 }
open Go.Sort Go.RowKit Go.Lib in
theorem Try.slices_SortFunc_rk {α : Type} [Inhabited α] (enc : α → List Value) (hk : ∀ x, (enc x).length = 4) (h1 : ∀ x, ∀ v ∈ enc x, v.oneCell' = true) (cf : α → α → Int) (hO : SWO (ltOf cf)) (g : Nat) (cb : Array Value) (blk off cap : Nat) (d : Array α) (w : World)
    (eg : ∀ args w, (callFunc g args).run Try.prog w = .ok (.enter g args) w) (hcmp : CmpLays Try.prog g cb enc 4 cf blk off d.size w) (hH : HoldsK enc 4 w blk off d) (hblk : blk < w.heap.size) (hsz : d.size < 4611686018427387904) :
    Calls Try.prog 16 #[.slice (some ⟨blk, off, none⟩) d.size cap, .func (.func g) #[] cb] w fun e w' =>
      e = .returned (.tuple #[]) ∧ ∃ n os, w' = sortWorldK enc 4 w blk off n (pdq (ltOf cf) d 0 d.size (Lib.bitLen d.size) true true) os := AnyQ.slices_SortFunc_eq Try.sortf6 4 Try.isAgg46 Try.sizeOf46 enc hk h1 cf hO g cb blk off cap d w eg hcmp hH hblk hsz
open Go.Sort Go.RowKit Go.Lib in
theorem Try.slices_SortFunc_none (p : Option Addr) (cap : Nat) (fv : Value) (w : World) :
    Calls Try.prog 16 #[.slice p 0 cap, fv] w fun e w' => e = .returned (.tuple #[]) ∧ w' = w := AnyF.slices_SortFunc_none Try.sortf6 p cap fv w
end Go.Proofs
namespace Go.Proofs.Ytmkdiliemiobeaa.P
open Go.RowKit Go.Proofs.YtmkdiliemiobeaaW.PrintWords Go.Proofs.YtmkdiliemiobeaaW.PrintLast Go.Proofs.YtmkdiliemiobeaaW.PrintMore
attribute [local go_sem] max2_int min2_int max_two min_two max_three min_three max_four min_four
set_option linter.unusedVariables false
set_option linter.unusedSimpArgs false
set_option maxHeartbeats 8000000
set_option maxRecDepth 100000
def cmp_Or_int.l0 : Nat → Int → List Int → Int → Int → Option (Int)
 | 0, _, _, _, _ => none
 | k + 1, x3, x6, x7, x8 => if x8 < x7 then (if 0 ≤ x8 then (if x8 < (x6.length : Int) then (if (rd x6 x8) = x3 then (cmp_Or_int.l0 k x3 x6 x7 (wrap64 (x8 + 1))) else (some (rd x6 x8))) else (none)) else (none)) else (some x3)
def cmp_Or_int.f (k : Nat) (l0 : List Int) : Option (Int) := cmp_Or_int.l0 k 0 l0 (l0.length : Int) 0
theorem cmp_Or_int.calls (k : Nat) (A0 : Option Addr) (c0 : Nat) (l0 : List Int) (r : Int) (w : World) (hr0 : Kd.C (Kd.int .i64) w A0 l0.length l0) (hc0 : l0.length ≤ c0) (h : cmp_Or_int.f k l0 = some r) :
  Calls Try.prog 18 #[.slice A0 l0.length c0] w fun e w' => e = .returned (.int .i64 r) ∧ Drawn0 w w' := by
 have HR0 := Aside0.mk hr0
 have HC0 := Aside0.mk hc0
 clear hr0 hc0
 have H : (cmp_Or_int.l0 k 0 l0 (l0.length : Int) 0) = some r := h
 clear h
 have H' := Aside0.mk H
 clear H
 go_enter Try.func18, Try.ntmps18
 go_wp2
 go_loopg [8] k (fun kq v8 w' => ∃ (x8_1 : Int), v8 = .int .i64 x8_1 ∧ Aside0 (cmp_Or_int.l0 kq 0 l0 (l0.length : Int) x8_1 = some r) ∧ Aside0 (kq ≤ k) ∧ Drawn0 w w')
 case atStart => exact ⟨(0), (by first | rfl | (simp; done) | (simp [*]; done)), H', ⟨Nat.le_refl _⟩, by repeat (first | exact Drawn0.refl _ | apply Drawn0.step)⟩
 case round =>
  clear H'
  try clear c1
  obtain ⟨x8_1, rfl, HA, HK1, ⟨m1, rfl⟩⟩ := hrel
  cases gk with
  | zero => exact absurd HA.out (by simp [cmp_Or_int.l0])
  | succ k1 =>
   have H := HA.out; clear HA
   simp only [cmp_Or_int.l0] at H
   by_cases c2 : x8_1 < (l0.length : Int)
   rotate_left
   ·
    rw [if_neg c2] at H
    have c2b0 : decide (x8_1 < (l0.length : Int)) = false := decide_eq_false c2
    clear c2
    obtain rfl := Option.some.inj H
    go_wp2
    go_ret
    exact ⟨by first | rfl | (simp; done) | (simp [*]; done), by repeat (first | exact Drawn0.refl _ | apply Drawn0.step)⟩
   rw [if_pos c2] at H
   have c2b0 : decide (x8_1 < (l0.length : Int)) = true := decide_eq_true c2
   clear c2
   by_cases c3 : 0 ≤ x8_1
   rotate_left
   ·
    rw [if_neg c3] at H
    exact absurd H (by simp)
   rw [if_pos c3] at H
   have c3b0 : decide (0 ≤ x8_1) = true := decide_eq_true c3
   clear c3
   by_cases c4 : x8_1 < (l0.length : Int)
   rotate_left
   ·
    rw [if_neg c4] at H
    exact absurd H (by simp)
   rw [if_pos c4] at H
   have c4b0 : decide (x8_1 < (l0.length : Int)) = true := decide_eq_true c4
   clear c4
   by_cases c5 : (rd l0 x8_1) = 0
   ·
    rw [if_pos c5] at H
    have c5b0 : ((rd l0 x8_1) == 0) = true := beq_iff_eq.mpr c5
    have c5b1 : ((rd l0 x8_1) != 0) = false := bne_eq_false_iff_eq.mpr c5
    clear c5; have H' := Aside0.mk H; clear H
    have p101 : 0 ≤ (x8_1 : Int) := of_decide_eq_true (by first | (with_reducible assumption) | assumption)
    have q101 : x8_1 < (l0.length : Int) := of_decide_eq_true (by first | (with_reducible assumption) | assumption)
    obtain ⟨ad101, e101, hx101_0⟩ := Kd.at_int HR0.out x8_1 p101 q101; cases e101; replace p101 := eq_true p101; replace q101 := eq_true q101
    go_wp2
    go_roundg k1
    case measure => have := HK1.out; omega
    case rel => exact ⟨(wrap64 (x8_1 + 1)), (by first | rfl | (simp; done) | (simp [*]; done)), H', ⟨by have := HK1.out; omega⟩, by repeat (first | exact Drawn0.refl _ | apply Drawn0.step)⟩
   rw [if_neg c5] at H
   have c5b0 : ((rd l0 x8_1) == 0) = false := beq_eq_false_iff_ne.mpr c5
   have c5b1 : ((rd l0 x8_1) != 0) = true := bne_iff_ne.mpr c5
   obtain rfl := Option.some.inj H
   have p101 : 0 ≤ (x8_1 : Int) := of_decide_eq_true (by first | (with_reducible assumption) | assumption)
   have q101 : x8_1 < (l0.length : Int) := of_decide_eq_true (by first | (with_reducible assumption) | assumption)
   obtain ⟨ad101, e101, hx101_0⟩ := Kd.at_int HR0.out x8_1 p101 q101; cases e101; replace p101 := eq_true p101; replace q101 := eq_true q101
   go_wp2
   go_ret
   exact ⟨by first | rfl | (simp; done) | (simp [*]; done), by repeat (first | exact Drawn0.refl _ | apply Drawn0.step)⟩
def cmp_isNaN_int.f (a0 : Int) : Option (Bool) := some (a0 != a0)
theorem cmp_isNaN_int.calls (a0 : Int) (r : Bool) (w : World) (h : cmp_isNaN_int.f a0 = some r) :
  Calls Try.prog 34 #[.int .i64 a0] w fun e w' => e = .returned (.bool r) ∧ Drawn0 w w' := by
 have H : (some (a0 != a0)) = some r := h
 clear h
 obtain rfl := Option.some.inj H
 go_enter Try.func34, Try.ntmps34
 go_wp2
 go_ret
 exact ⟨by first | rfl | (simp; done) | (simp [*]; done), by repeat (first | exact Drawn0.refl _ | apply Drawn0.step)⟩
def cmp_Compare_int.f (a0 : Int) (a1 : Int) : Option (Int) := (cmp_isNaN_int.f a0).bind fun t101 => ((cmp_isNaN_int.f a1).bind fun t102 => (if t101 = true then (if t102 = true then (some 0) else (some (-1))) else (if t102 = true then (some 1) else (if a0 < a1 then (some (-1)) else (if a0 > a1 then (some 1) else (some 0))))))
theorem cmp_Compare_int.calls (a0 : Int) (a1 : Int) (r : Int) (w : World) (h : cmp_Compare_int.f a0 a1 = some r) :
  Calls Try.prog 19 #[.int .i64 a0, .int .i64 a1] w fun e w' => e = .returned (.int .i64 r) ∧ Drawn0 w w' := by
 have H : ((cmp_isNaN_int.f a0).bind fun t101 => ((cmp_isNaN_int.f a1).bind fun t102 => (if t101 = true then (if t102 = true then (some 0) else (some (-1))) else (if t102 = true then (some 1) else (if a0 < a1 then (some (-1)) else (if a0 > a1 then (some 1) else (some 0))))))) = some r := h
 clear h
 replace H := Option.bind_eq_some_iff.mp H
 obtain ⟨t101, A30, H⟩ := H
 replace H : ((cmp_isNaN_int.f a1).bind fun t102 => (if t101 = true then (if t102 = true then (some 0) else (some (-1))) else (if t102 = true then (some 1) else (if a0 < a1 then (some (-1)) else (if a0 > a1 then (some 1) else (some 0)))))) = some r := H
 have A3 := Aside0.mk A30
 clear A30
 replace H := Option.bind_eq_some_iff.mp H
 obtain ⟨t102, A40, H⟩ := H
 replace H : (if t101 = true then (if t102 = true then (some 0) else (some (-1))) else (if t102 = true then (some 1) else (if a0 < a1 then (some (-1)) else (if a0 > a1 then (some 1) else (some 0))))) = some r := H
 have A4 := Aside0.mk A40
 clear A40
 by_cases c5 : t101 = true
 ·
  subst c5
  have H1 : (if t102 = true then (some 0) else (some (-1))) = some r := by rw [if_pos rfl] at H; exact H
  clear H; have H := H1; clear H1
  by_cases c6 : t102 = true
  ·
   subst c6
   have H1 : (some 0) = some r := by rw [if_pos rfl] at H; exact H
   clear H; have H := H1; clear H1
   obtain rfl := Option.some.inj H
   go_enter Try.func19, Try.ntmps19
   go_wp2_with (first | ((with_reducible refine gate_callee (f := 34) rfl ?_); refine gl (some 8) Try.func34 #[.int .i64 a0] ?_; (with_reducible refine (cmp_isNaN_int.calls a0 true _ A3.out).mono ?_); rintro e w' ⟨rfl, ⟨nd, rfl⟩⟩; refine ⟨_, rfl, ?_⟩) | ((with_reducible refine gate_callee (f := 34) rfl ?_); refine gl (some 10) Try.func34 #[.int .i64 a1] ?_; (with_reducible refine (cmp_isNaN_int.calls a1 true _ A4.out).mono ?_); rintro e w' ⟨rfl, ⟨nd, rfl⟩⟩; refine ⟨_, rfl, ?_⟩))
   go_ret
   exact ⟨by first | rfl | (simp; done) | (simp [*]; done), by repeat (first | exact Drawn0.refl _ | apply Drawn0.step)⟩
  replace c6 := Bool.eq_false_iff.mpr c6; subst c6
  have H1 : (some (-1)) = some r := by rw [if_neg (show ¬ (false = true) by decide)] at H; exact H
  clear H; have H := H1; clear H1
  obtain rfl := Option.some.inj H
  go_enter Try.func19, Try.ntmps19
  go_wp2_with (first | ((with_reducible refine gate_callee (f := 34) rfl ?_); refine gl (some 8) Try.func34 #[.int .i64 a0] ?_; (with_reducible refine (cmp_isNaN_int.calls a0 true _ A3.out).mono ?_); rintro e w' ⟨rfl, ⟨nd, rfl⟩⟩; refine ⟨_, rfl, ?_⟩) | ((with_reducible refine gate_callee (f := 34) rfl ?_); refine gl (some 10) Try.func34 #[.int .i64 a1] ?_; (with_reducible refine (cmp_isNaN_int.calls a1 false _ A4.out).mono ?_); rintro e w' ⟨rfl, ⟨nd, rfl⟩⟩; refine ⟨_, rfl, ?_⟩))
  go_ret
  exact ⟨by first | rfl | (simp; done) | (simp [*]; done), by repeat (first | exact Drawn0.refl _ | apply Drawn0.step)⟩
 replace c5 := Bool.eq_false_iff.mpr c5
 subst c5
 have H1 : (if t102 = true then (some 1) else (if a0 < a1 then (some (-1)) else (if a0 > a1 then (some 1) else (some 0)))) = some r := by rw [if_neg (show ¬ (false = true) by decide)] at H; exact H
 clear H
 have H := H1
 clear H1
 by_cases c7 : t102 = true
 ·
  subst c7
  have H1 : (some 1) = some r := by rw [if_pos rfl] at H; exact H
  clear H; have H := H1; clear H1
  obtain rfl := Option.some.inj H
  go_enter Try.func19, Try.ntmps19
  go_wp2_with (first | ((with_reducible refine gate_callee (f := 34) rfl ?_); refine gl (some 8) Try.func34 #[.int .i64 a0] ?_; (with_reducible refine (cmp_isNaN_int.calls a0 false _ A3.out).mono ?_); rintro e w' ⟨rfl, ⟨nd, rfl⟩⟩; refine ⟨_, rfl, ?_⟩) | ((with_reducible refine gate_callee (f := 34) rfl ?_); refine gl (some 10) Try.func34 #[.int .i64 a1] ?_; (with_reducible refine (cmp_isNaN_int.calls a1 true _ A4.out).mono ?_); rintro e w' ⟨rfl, ⟨nd, rfl⟩⟩; refine ⟨_, rfl, ?_⟩))
  go_ret
  exact ⟨by first | rfl | (simp; done) | (simp [*]; done), by repeat (first | exact Drawn0.refl _ | apply Drawn0.step)⟩
 replace c7 := Bool.eq_false_iff.mpr c7
 subst c7
 have H1 : (if a0 < a1 then (some (-1)) else (if a0 > a1 then (some 1) else (some 0))) = some r := by rw [if_neg (show ¬ (false = true) by decide)] at H; exact H
 clear H
 have H := H1
 clear H1
 by_cases c8 : a0 < a1
 ·
  rw [if_pos c8] at H
  have c8b0 : decide (a0 < a1) = true := decide_eq_true c8
  clear c8
  obtain rfl := Option.some.inj H
  go_enter Try.func19, Try.ntmps19
  go_wp2_with (first | ((with_reducible refine gate_callee (f := 34) rfl ?_); refine gl (some 8) Try.func34 #[.int .i64 a0] ?_; (with_reducible refine (cmp_isNaN_int.calls a0 false _ A3.out).mono ?_); rintro e w' ⟨rfl, ⟨nd, rfl⟩⟩; refine ⟨_, rfl, ?_⟩) | ((with_reducible refine gate_callee (f := 34) rfl ?_); refine gl (some 10) Try.func34 #[.int .i64 a1] ?_; (with_reducible refine (cmp_isNaN_int.calls a1 false _ A4.out).mono ?_); rintro e w' ⟨rfl, ⟨nd, rfl⟩⟩; refine ⟨_, rfl, ?_⟩))
  go_ret
  exact ⟨by first | rfl | (simp; done) | (simp [*]; done), by repeat (first | exact Drawn0.refl _ | apply Drawn0.step)⟩
 rw [if_neg c8] at H
 have c8b0 : decide (a0 < a1) = false := decide_eq_false c8
 clear c8
 by_cases c9 : a0 > a1
 ·
  rw [if_pos c9] at H
  have c9b0 : decide (a1 < a0) = true := decide_eq_true c9
  clear c9
  obtain rfl := Option.some.inj H
  go_enter Try.func19, Try.ntmps19
  go_wp2_with (first | ((with_reducible refine gate_callee (f := 34) rfl ?_); refine gl (some 8) Try.func34 #[.int .i64 a0] ?_; (with_reducible refine (cmp_isNaN_int.calls a0 false _ A3.out).mono ?_); rintro e w' ⟨rfl, ⟨nd, rfl⟩⟩; refine ⟨_, rfl, ?_⟩) | ((with_reducible refine gate_callee (f := 34) rfl ?_); refine gl (some 10) Try.func34 #[.int .i64 a1] ?_; (with_reducible refine (cmp_isNaN_int.calls a1 false _ A4.out).mono ?_); rintro e w' ⟨rfl, ⟨nd, rfl⟩⟩; refine ⟨_, rfl, ?_⟩))
  go_ret
  exact ⟨by first | rfl | (simp; done) | (simp [*]; done), by repeat (first | exact Drawn0.refl _ | apply Drawn0.step)⟩
 rw [if_neg c9] at H
 have c9b0 : decide (a1 < a0) = false := decide_eq_false c9
 clear c9
 obtain rfl := Option.some.inj H
 go_enter Try.func19, Try.ntmps19
 go_wp2_with (first | ((with_reducible refine gate_callee (f := 34) rfl ?_); refine gl (some 8) Try.func34 #[.int .i64 a0] ?_; (with_reducible refine (cmp_isNaN_int.calls a0 false _ A3.out).mono ?_); rintro e w' ⟨rfl, ⟨nd, rfl⟩⟩; refine ⟨_, rfl, ?_⟩) | ((with_reducible refine gate_callee (f := 34) rfl ?_); refine gl (some 10) Try.func34 #[.int .i64 a1] ?_; (with_reducible refine (cmp_isNaN_int.calls a1 false _ A4.out).mono ?_); rintro e w' ⟨rfl, ⟨nd, rfl⟩⟩; refine ⟨_, rfl, ?_⟩))
 go_ret
 exact ⟨by first | rfl | (simp; done) | (simp [*]; done), by repeat (first | exact Drawn0.refl _ | apply Drawn0.step)⟩
def impl_RankMotions_1.f (k : Nat) (a0_0 : Int) (a0_1 : Int) (a0_2 : Int) (a0_3 : Int) (a1_0 : Int) (a1_1 : Int) (a1_2 : Int) (a1_3 : Int) : Option (Int) := (cmp_Compare_int.f (wrap64 (a0_2 * a1_3)) (wrap64 (a1_2 * a0_3))).bind fun t105 => ((impl_absOf.f a0_0).bind fun t106 => ((impl_absOf.f a0_1).bind fun t107 => ((impl_absOf.f a1_0).bind fun t108 => ((impl_absOf.f a1_1).bind fun t109 => ((cmp_Compare_int.f (wrap64 (t106 + t107)) (wrap64 (t108 + t109))).bind fun t110 => ((cmp_Compare_int.f a0_1 a1_1).bind fun t111 => ((cmp_Compare_int.f a0_0 a1_0).bind fun t112 => ((cmp_Or_int.f k (([t105, t110, t111, t112] : List Int))).bind fun t116 => (some t116)))))))))
def impl_RankMotions_1.T1 : Bool × List (List Nat × List Nat) := (true, [([], []), ([0], [0]), ([], []), ([2], [2]), ([], []), ([], []), ([4, 1, 0, 1, 4, 5], [1, 4]), ([5, 3, 6, 0, 1, 2, 3, 4, 5, 6], [3, 5])])
def impl_RankMotions_1.B1 : List Nat := [0, 1, 0, 4, 0, 0, 51, 127]
theorem impl_RankMotions_1.tab1 : rtab .any (opsOf Try.f17 1) = impl_RankMotions_1.T1 := by kernel_rfl
theorem impl_RankMotions_1.bits1 : waitsOk impl_RankMotions_1.T1.2 impl_RankMotions_1.B1 = true := by kernel_rfl
def impl_RankMotions_1.T2 : Bool × List (List Nat × List Nat) := (true, [([], []), ([0], [0]), ([], []), ([2], [2]), ([1, 3], [1, 3]), ([], []), ([5], [5]), ([], []), ([7], [7]), ([6, 8], [6, 8]), ([4, 9], [4, 9]), ([], []), ([11], [11]), ([12, 10], [12]), ([], []), ([14], [14]), ([15, 13], [15]), ([13, 16], [13, 16]), ([], []), ([18], [18]), ([19, 16], [19]), ([], []), ([21], [21]), ([22, 20], [22]), ([20, 23], [20, 23]), ([17, 24, 23], [17, 24]), ([], []), ([26], [26]), ([], []), ([28], [28]), ([27, 29, 25], [27, 29]), ([], []), ([31], [31]), ([], []), ([33], [33]), ([32, 34, 30], [32, 34]), ([10, 25, 30, 35], [10, 25, 30, 35]), ([36, 35], [36]), ([37, 37, 0, 1, 2, 3, 4, 5, 6, 7, 8, 9, 10, 11, 12, 13, 14, 15, 16, 17, 18, 19, 20, 21, 22, 23, 24, 25, 26, 27, 28, 29, 30, 31, 32, 33, 34, 35, 36, 37], [37])])
def impl_RankMotions_1.B2 : List Nat := [0, 1, 0, 4, 15, 0, 32, 0, 128, 480, 1023, 0, 2048, 8191, 0, 16384, 65535, 131071, 0, 262144, 917503, 0, 2097152, 8257535, 16646143, 33554431, 0, 67108864, 0, 268435456, 1073741823, 0, 2147483648, 0, 8589934592, 34359738367, 68719476735, 137438953471, 274877906943]
theorem impl_RankMotions_1.tab2 : rtab .any (opsOf Try.f17 2) = impl_RankMotions_1.T2 := by kernel_rfl
theorem impl_RankMotions_1.bits2 : waitsOk impl_RankMotions_1.T2.2 impl_RankMotions_1.B2 = true := by kernel_rfl
end Go.Proofs.Ytmkdiliemiobeaa.P
