/- Texts of the claim FnExactNowcast, merged: part 10 of 11: the program's and the reference's functions as Lean functions, the walks that show it, and plain lemmas; no conditions. -/
import Derived.Test.YtilffhaghabdgaaKFnExactNowcast3
import Derived.Test.YtilffhaghabdgaaKFnExactNowcast6
import Derived.Test.YtilffhaghabdgaaKFnExactNowcast9
namespace Go.Proofs.Ytilffhaghabdgaa.P
open Go.RowKit Go.Proofs.YtilffhaghabdgaaW.PrintWords Go.Proofs.YtilffhaghabdgaaW.PrintLast Go.Proofs.YtilffhaghabdgaaW.PrintMore
attribute [local go_sem] max2_int min2_int max_two min_two max_three min_three max_four min_four
set_option linter.unusedVariables false
set_option linter.unusedSimpArgs false
set_option maxHeartbeats 8000000
set_option maxRecDepth 100000
mutual
def laws_FnExactNowcast.j0 : Nat → Int → List (S29) → Bool → List (S29) → Bool → Bool → Int → Int → List Int → Int → Int → List Int → Int → Int → List Int → Int → Int → List Int → Option (Bool)
 | 0, _, _, _, _, _, _, _, _, _, _, _, _, _, _, _, _, _, _ => none
 | k + 1, x2, x8, x9, x12, x13, x57, x102000, x102001, x102002, x103000, x103001, x103002, x125000, x125001, x125002, x131000, x131001, x131002 => if x57 = true then (some false) else ((laws_toField.f k x102000 x102001 x102002).bind fun bt136 => ((laws_eqField.f k x125000 x125001 x125002 bt136.1 bt136.2.1 bt136.2.2).bind fun t141 => (if t141 = true then ((laws_toField.f k x103000 x103001 x103002).bind fun bt142 => ((laws_eqField.f k x131000 x131001 x131002 bt142.1 bt142.2.1 bt142.2.2).bind fun t147 => (if t147 = true then ((laws_markField.f k x125000 x125001 x125002 1).bind fun bt148 => ((laws_markField.f k x131000 x131001 x131002 bt148.1).bind fun bt150 => (if bt150.1 < 0 then (laws_FnExactNowcast.j1 k x2 x8 x9 x12 true x102000 x102001 x102002 x103000 x103001 x103002) else ((laws_eqFieldS.f k x12 x8).bind fun t152 => (if t152 = true then (laws_FnExactNowcast.j1 k x2 x8 x9 x12 (x13 != x9) x102000 x102001 x102002 x103000 x103001 x103002) else (laws_FnExactNowcast.j1 k x2 x8 x9 x12 true x102000 x102001 x102002 x103000 x103001 x103002)))))) else (some false)))) else (some false))))
def laws_FnExactNowcast.j1 : Nat → Int → List (S29) → Bool → List (S29) → Bool → Int → Int → List Int → Int → Int → List Int → Option (Bool)
 | 0, _, _, _, _, _, _, _, _, _, _, _ => none
 | k + 1, x2, x8, x9, x12, x86, x102000, x102001, x102002, x103000, x103001, x103002 => if x86 = true then (some false) else ((laws_markFieldS.f k x12 1).bind fun bt153 => ((laws_heldFieldS.f k bt153.2 1).bind fun t155 => (if t155 < 0 then (some false) else (if t155 = bt153.1 then ((laws_toField.f k x102000 x102001 x102002).bind fun bt156 => ((laws_toField.f k x103000 x103001 x103002).bind fun bt161 => ((impl_Nowcast.f k bt156.1 bt156.2.1 bt156.2.2 bt161.1 bt161.2.1 bt161.2.2 x2).bind fun bt166 => ((laws_eqFieldS.f k bt166.1 x8).bind fun t170 => (if t170 = true then (laws_FnExactNowcast.j2 k bt153.2 bt153.1 (bt166.2 != x9)) else (laws_FnExactNowcast.j2 k bt153.2 bt153.1 true)))))) else (some false)))))
def laws_FnExactNowcast.j2 : Nat → List (S29) → Int → Bool → Option (Bool)
 | 0, _, _, _ => none
 | k + 1, x12, x15, x115 => if x115 = true then (some false) else ((laws_heldFieldS.f k x12 1).bind fun t171 => (if t171 < 0 then (some false) else (if t171 = x15 then (some true) else (some false))))
end
def laws_FnExactNowcast.f (k : Nat) (a0_0 : Int) (a0_1 : Int) (l0_2 : List Int) (a1_0 : Int) (a1_1 : Int) (l1_2 : List Int) (a2 : Int) : Option (Bool) := (laws_szField.f a0_0 a0_1 l0_2 1048576).bind fun t103 => (if t103 < 0 then (some true) else ((laws_szField.f a1_0 a1_1 l1_2 t103).bind fun t104 => (if t104 < 0 then (some true) else ((laws_toField.f k a0_0 a0_1 l0_2).bind fun bt105 => ((laws_toField.f k a1_0 a1_1 l1_2).bind fun bt110 => ((spec_Nowcast.f k bt105.1 bt105.2.1 bt105.2.2 bt110.1 bt110.2.1 bt110.2.2 a2).bind fun bt115 => ((laws_toField.f k a0_0 a0_1 l0_2).bind fun bt119 => ((laws_toField.f k a1_0 a1_1 l1_2).bind fun bt125 => ((impl_Nowcast.f k bt119.1 bt119.2.1 bt119.2.2 bt125.1 bt125.2.1 bt125.2.2 a2).bind fun bt131 => ((laws_eqFieldS.f k bt131.1 bt115.1).bind fun t135 => (if t135 = true then (laws_FnExactNowcast.j0 k a2 bt115.1 bt115.2 bt131.1 bt131.2 (bt131.2 != bt115.2) a0_0 a0_1 l0_2 a1_0 a1_1 l1_2 bt119.1 bt119.2.1 bt119.2.2 bt125.1 bt125.2.1 bt125.2.2) else (laws_FnExactNowcast.j0 k a2 bt115.1 bt115.2 bt131.1 bt131.2 true a0_0 a0_1 l0_2 a1_0 a1_1 l1_2 bt119.1 bt119.2.1 bt119.2.2 bt125.1 bt125.2.1 bt125.2.2))))))))))))
def laws_FnExactNowcast.T8 : Bool × List (List Nat × List Nat) := (true, [([], []), ([0], [0]), ([], []), ([2, 1], [2]), ([], []), ([1, 3, 4, 3], [1, 3, 4]), ([5], [5]), ([6], [6]), ([6], [6]), ([7, 5, 0, 1, 2, 3, 4, 5, 6, 7], [7]), ([8, 9, 0, 1, 2, 3, 4, 5, 6, 7, 8, 9], [8])])
def laws_FnExactNowcast.B8 : List Nat := [0, 1, 0, 7, 0, 31, 63, 127, 127, 255, 1023]
theorem laws_FnExactNowcast.tab8 : rtab .any (opsOf Try.f6 8) = laws_FnExactNowcast.T8 := by kernel_rfl
theorem laws_FnExactNowcast.bits8 : waitsOk laws_FnExactNowcast.T8.2 laws_FnExactNowcast.B8 = true := by kernel_rfl
def laws_FnExactNowcast.T31 : Bool × List (List Nat × List Nat) := (true, [([], []), ([0], [0]), ([], []), ([2, 1], [2]), ([], []), ([1, 3, 4, 3], [1, 3, 4]), ([5], [5]), ([6], [6]), ([6], [6]), ([7, 5, 0, 1, 2, 3, 4, 5, 6, 7], [7]), ([8, 9, 0, 1, 2, 3, 4, 5, 6, 7, 8, 9], [8])])
def laws_FnExactNowcast.B31 : List Nat := [0, 1, 0, 7, 0, 31, 63, 127, 127, 255, 1023]
theorem laws_FnExactNowcast.tab31 : rtab .any (opsOf Try.f6 31) = laws_FnExactNowcast.T31 := by kernel_rfl
theorem laws_FnExactNowcast.bits31 : waitsOk laws_FnExactNowcast.T31.2 laws_FnExactNowcast.B31 = true := by kernel_rfl
theorem laws_FnExactNowcast.calls (k : Nat) (a0_0 : Int) (a0_1 : Int) (A0_2 : Option Addr) (c0_2 : Nat) (l0_2 : List Int) (a1_0 : Int) (a1_1 : Int) (A1_2 : Option Addr) (c1_2 : Nat) (l1_2 : List Int) (a2 : Int) (r : Bool) (w : World) (hr0_2 : Kd.C (Kd.int .i64) w A0_2 l0_2.length l0_2) (hc0_2 : l0_2.length ≤ c0_2) (hr1_2 : Kd.C (Kd.int .i64) w A1_2 l1_2.length l1_2) (hc1_2 : l1_2.length ≤ c1_2) (h : laws_FnExactNowcast.f k a0_0 a0_1 l0_2 a1_0 a1_1 l1_2 a2 = some r) :
  Calls Try.prog 6 #[.agg #[.int .i64 a0_0, .int .i64 a0_1, .slice A0_2 l0_2.length c0_2], .agg #[.int .i64 a1_0, .int .i64 a1_1, .slice A1_2 l1_2.length c1_2], .int .i64 a2] w fun e w' => e = .returned (.bool r) ∧ Below w.heap.size w w' := by
 have hu24 := Try.underlying24
 have hu29 := Try.underlying29
 have HR0_2 := Aside0.mk hr0_2
 have HC0_2 := Aside0.mk hc0_2
 clear hr0_2 hc0_2
 have HR1_2 := Aside0.mk hr1_2
 have HC1_2 := Aside0.mk hc1_2
 clear hr1_2 hc1_2
 have HB := aK (Below.refl w.heap.size w)
 have H : ((laws_szField.f a0_0 a0_1 l0_2 1048576).bind fun t103 => (if t103 < 0 then (some true) else ((laws_szField.f a1_0 a1_1 l1_2 t103).bind fun t104 => (if t104 < 0 then (some true) else ((laws_toField.f k a0_0 a0_1 l0_2).bind fun bt105 => ((laws_toField.f k a1_0 a1_1 l1_2).bind fun bt110 => ((spec_Nowcast.f k bt105.1 bt105.2.1 bt105.2.2 bt110.1 bt110.2.1 bt110.2.2 a2).bind fun bt115 => ((laws_toField.f k a0_0 a0_1 l0_2).bind fun bt119 => ((laws_toField.f k a1_0 a1_1 l1_2).bind fun bt125 => ((impl_Nowcast.f k bt119.1 bt119.2.1 bt119.2.2 bt125.1 bt125.2.1 bt125.2.2 a2).bind fun bt131 => ((laws_eqFieldS.f k bt131.1 bt115.1).bind fun t135 => (if t135 = true then (laws_FnExactNowcast.j0 k a2 bt115.1 bt115.2 bt131.1 bt131.2 (bt131.2 != bt115.2) a0_0 a0_1 l0_2 a1_0 a1_1 l1_2 bt119.1 bt119.2.1 bt119.2.2 bt125.1 bt125.2.1 bt125.2.2) else (laws_FnExactNowcast.j0 k a2 bt115.1 bt115.2 bt131.1 bt131.2 true a0_0 a0_1 l0_2 a1_0 a1_1 l1_2 bt119.1 bt119.2.1 bt119.2.2 bt125.1 bt125.2.1 bt125.2.2))))))))))))) = some r := h
 clear h
 replace H := Option.bind_eq_some_iff.mp H
 obtain ⟨t103, A40, H⟩ := H
 replace H : (if t103 < 0 then (some true) else ((laws_szField.f a1_0 a1_1 l1_2 t103).bind fun t104 => (if t104 < 0 then (some true) else ((laws_toField.f k a0_0 a0_1 l0_2).bind fun bt105 => ((laws_toField.f k a1_0 a1_1 l1_2).bind fun bt110 => ((spec_Nowcast.f k bt105.1 bt105.2.1 bt105.2.2 bt110.1 bt110.2.1 bt110.2.2 a2).bind fun bt115 => ((laws_toField.f k a0_0 a0_1 l0_2).bind fun bt119 => ((laws_toField.f k a1_0 a1_1 l1_2).bind fun bt125 => ((impl_Nowcast.f k bt119.1 bt119.2.1 bt119.2.2 bt125.1 bt125.2.1 bt125.2.2 a2).bind fun bt131 => ((laws_eqFieldS.f k bt131.1 bt115.1).bind fun t135 => (if t135 = true then (laws_FnExactNowcast.j0 k a2 bt115.1 bt115.2 bt131.1 bt131.2 (bt131.2 != bt115.2) a0_0 a0_1 l0_2 a1_0 a1_1 l1_2 bt119.1 bt119.2.1 bt119.2.2 bt125.1 bt125.2.1 bt125.2.2) else (laws_FnExactNowcast.j0 k a2 bt115.1 bt115.2 bt131.1 bt131.2 true a0_0 a0_1 l0_2 a1_0 a1_1 l1_2 bt119.1 bt119.2.1 bt119.2.2 bt125.1 bt125.2.1 bt125.2.2)))))))))))) = some r := H
 have A4 := Aside0.mk A40
 clear A40
 by_cases c5 : t103 < 0
 ·
  rw [if_pos c5] at H
  have c5b0 : decide (t103 < 0) = true := decide_eq_true c5
  clear c5
  obtain rfl := Option.some.inj H
  go_enter Try.func6, Try.ntmps6
  go_wp2_with (first | ((with_reducible refine gate_dst (N := 3) rfl ?_); refine bxe (cs := #[.int .i64 a0_0, .int .i64 a0_1, .slice A0_2 l0_2.length c0_2]) (t := 24) ?_; intro gb101 hg w6 hbox hb; have BK101 := aK (hbox); have GW101 := aK (gE hg (pS HB.out)); have GE101 := GW101; replace HB := bS HB hb; clear hb hbox hg) | ((with_reducible refine gate_dst (N := 4) rfl ?_); refine bxe (cs := #[.int .i64 a1_0, .int .i64 a1_1, .slice A1_2 l1_2.length c1_2]) (t := 24) ?_; intro gb102 hg w7 hbox hb; have BK102 := aK (hbox); have GW102 := aK (gE hg (pS HB.out)); have GE102 := GW102; obtain ⟨NB101_102, NB102_101⟩ := nb hg (pB BK101.out); replace BK101 := bB BK101 hb; replace HB := bS HB hb; clear hb hbox hg; obtain ⟨hcz8_0, hcz8_1, hcz8_2, hfz8_0, hfz8_1, hfz8_2⟩ := bc3 BK101.out) | ((with_reducible refine gate_callee (f := 13) rfl ?_); refine gl (some 21) Try.func13 #[.agg #[.int .i64 a0_0, .int .i64 a0_1, .slice A0_2 l0_2.length c0_2], .int .i64 1048576] ?_; (with_reducible refine (laws_szField.calls a0_0 a0_1 _ _ l0_2 1048576 t103 _ ?side1 ?side2 A4.out).mono ?_); (case side1 => exact pC (Kd.C_below HR0_2.out HB.out)); (case side2 => exact HC0_2.out); rintro e w9 ⟨rfl, hb⟩; refine ⟨_, rfl, ?_⟩; replace HB := bS HB hb; (try clear hb); (try clear hb2); (try clear hk); (try clear hi)))
  go_ret
  exact ⟨er, pT HB.out⟩
 rw [if_neg c5] at H
 have c5b0 : decide (t103 < 0) = false := decide_eq_false c5
 clear c5
 replace H := Option.bind_eq_some_iff.mp H
 obtain ⟨t104, A100, H⟩ := H
 replace H : (if t104 < 0 then (some true) else ((laws_toField.f k a0_0 a0_1 l0_2).bind fun bt105 => ((laws_toField.f k a1_0 a1_1 l1_2).bind fun bt110 => ((spec_Nowcast.f k bt105.1 bt105.2.1 bt105.2.2 bt110.1 bt110.2.1 bt110.2.2 a2).bind fun bt115 => ((laws_toField.f k a0_0 a0_1 l0_2).bind fun bt119 => ((laws_toField.f k a1_0 a1_1 l1_2).bind fun bt125 => ((impl_Nowcast.f k bt119.1 bt119.2.1 bt119.2.2 bt125.1 bt125.2.1 bt125.2.2 a2).bind fun bt131 => ((laws_eqFieldS.f k bt131.1 bt115.1).bind fun t135 => (if t135 = true then (laws_FnExactNowcast.j0 k a2 bt115.1 bt115.2 bt131.1 bt131.2 (bt131.2 != bt115.2) a0_0 a0_1 l0_2 a1_0 a1_1 l1_2 bt119.1 bt119.2.1 bt119.2.2 bt125.1 bt125.2.1 bt125.2.2) else (laws_FnExactNowcast.j0 k a2 bt115.1 bt115.2 bt131.1 bt131.2 true a0_0 a0_1 l0_2 a1_0 a1_1 l1_2 bt119.1 bt119.2.1 bt119.2.2 bt125.1 bt125.2.1 bt125.2.2)))))))))) = some r := H
 have A10 := Aside0.mk A100
 clear A100
 by_cases c11 : t104 < 0
 ·
  rw [if_pos c11] at H
  have c11b0 : decide (t104 < 0) = true := decide_eq_true c11
  clear c11
  obtain rfl := Option.some.inj H
  go_enter Try.func6, Try.ntmps6
  go_wp2_with (first | ((with_reducible refine gate_dst (N := 3) rfl ?_); refine bxe (cs := #[.int .i64 a0_0, .int .i64 a0_1, .slice A0_2 l0_2.length c0_2]) (t := 24) ?_; intro gb101 hg w12 hbox hb; have BK101 := aK (hbox); have GW101 := aK (gE hg (pS HB.out)); have GE101 := GW101; replace HB := bS HB hb; clear hb hbox hg) | ((with_reducible refine gate_dst (N := 4) rfl ?_); refine bxe (cs := #[.int .i64 a1_0, .int .i64 a1_1, .slice A1_2 l1_2.length c1_2]) (t := 24) ?_; intro gb102 hg w13 hbox hb; have BK102 := aK (hbox); have GW102 := aK (gE hg (pS HB.out)); have GE102 := GW102; obtain ⟨NB101_102, NB102_101⟩ := nb hg (pB BK101.out); replace BK101 := bB BK101 hb; replace HB := bS HB hb; clear hb hbox hg; have hnb14 := NB101_102.out; have hnc14 := NB102_101.out; obtain ⟨hcz15_0, hcz15_1, hcz15_2, hfz15_0, hfz15_1, hfz15_2⟩ := bc3 BK101.out) | ((with_reducible refine gate_callee (f := 13) rfl ?_); refine gl (some 21) Try.func13 #[.agg #[.int .i64 a0_0, .int .i64 a0_1, .slice A0_2 l0_2.length c0_2], .int .i64 1048576] ?_; (with_reducible refine (laws_szField.calls a0_0 a0_1 _ _ l0_2 1048576 t103 _ ?side1 ?side2 A4.out).mono ?_); (case side1 => exact pC (Kd.C_below HR0_2.out HB.out)); (case side2 => exact HC0_2.out); rintro e w16 ⟨rfl, hb⟩; refine ⟨_, rfl, ?_⟩; replace BK102 := bB BK102 hb; replace HB := bS HB hb; (try clear hb); (try clear hb2); (try clear hk); (try clear hi); obtain ⟨hcz17_0, hcz17_1, hcz17_2, hfz17_0, hfz17_1, hfz17_2⟩ := bc3 BK102.out) | ((with_reducible refine gate_callee (f := 13) rfl ?_); refine gl (some 26) Try.func13 #[.agg #[.int .i64 a1_0, .int .i64 a1_1, .slice A1_2 l1_2.length c1_2], .int .i64 t103] ?_; (with_reducible refine (laws_szField.calls a1_0 a1_1 _ _ l1_2 t103 t104 _ ?side1 ?side2 A10.out).mono ?_); (case side1 => exact pC (Kd.C_below HR1_2.out HB.out)); (case side2 => exact HC1_2.out); rintro e w18 ⟨rfl, hb⟩; refine ⟨_, rfl, ?_⟩; replace HB := bS HB hb; (try clear hb); (try clear hb2); (try clear hk); (try clear hi)))
  go_ret
  exact ⟨er, pT HB.out⟩
 rw [if_neg c11] at H
 have c11b0 : decide (t104 < 0) = false := decide_eq_false c11
 clear c11
 replace H := Option.bind_eq_some_iff.mp H
 obtain ⟨⟨t105, t106, t107⟩, A190, H⟩ := H
 replace H : ((laws_toField.f k a1_0 a1_1 l1_2).bind fun bt110 => ((spec_Nowcast.f k t105 t106 t107 bt110.1 bt110.2.1 bt110.2.2 a2).bind fun bt115 => ((laws_toField.f k a0_0 a0_1 l0_2).bind fun bt119 => ((laws_toField.f k a1_0 a1_1 l1_2).bind fun bt125 => ((impl_Nowcast.f k bt119.1 bt119.2.1 bt119.2.2 bt125.1 bt125.2.1 bt125.2.2 a2).bind fun bt131 => ((laws_eqFieldS.f k bt131.1 bt115.1).bind fun t135 => (if t135 = true then (laws_FnExactNowcast.j0 k a2 bt115.1 bt115.2 bt131.1 bt131.2 (bt131.2 != bt115.2) a0_0 a0_1 l0_2 a1_0 a1_1 l1_2 bt119.1 bt119.2.1 bt119.2.2 bt125.1 bt125.2.1 bt125.2.2) else (laws_FnExactNowcast.j0 k a2 bt115.1 bt115.2 bt131.1 bt131.2 true a0_0 a0_1 l0_2 a1_0 a1_1 l1_2 bt119.1 bt119.2.1 bt119.2.2 bt125.1 bt125.2.1 bt125.2.2)))))))) = some r := H
 have A19 := Aside0.mk A190
 clear A190
 replace H := Option.bind_eq_some_iff.mp H
 obtain ⟨⟨t110, t111, t112⟩, A200, H⟩ := H
 replace H : ((spec_Nowcast.f k t105 t106 t107 t110 t111 t112 a2).bind fun bt115 => ((laws_toField.f k a0_0 a0_1 l0_2).bind fun bt119 => ((laws_toField.f k a1_0 a1_1 l1_2).bind fun bt125 => ((impl_Nowcast.f k bt119.1 bt119.2.1 bt119.2.2 bt125.1 bt125.2.1 bt125.2.2 a2).bind fun bt131 => ((laws_eqFieldS.f k bt131.1 bt115.1).bind fun t135 => (if t135 = true then (laws_FnExactNowcast.j0 k a2 bt115.1 bt115.2 bt131.1 bt131.2 (bt131.2 != bt115.2) a0_0 a0_1 l0_2 a1_0 a1_1 l1_2 bt119.1 bt119.2.1 bt119.2.2 bt125.1 bt125.2.1 bt125.2.2) else (laws_FnExactNowcast.j0 k a2 bt115.1 bt115.2 bt131.1 bt131.2 true a0_0 a0_1 l0_2 a1_0 a1_1 l1_2 bt119.1 bt119.2.1 bt119.2.2 bt125.1 bt125.2.1 bt125.2.2))))))) = some r := H
 have A20 := Aside0.mk A200
 clear A200
 replace H := Option.bind_eq_some_iff.mp H
 obtain ⟨⟨t115, t118⟩, A210, H⟩ := H
 replace H : ((laws_toField.f k a0_0 a0_1 l0_2).bind fun bt119 => ((laws_toField.f k a1_0 a1_1 l1_2).bind fun bt125 => ((impl_Nowcast.f k bt119.1 bt119.2.1 bt119.2.2 bt125.1 bt125.2.1 bt125.2.2 a2).bind fun bt131 => ((laws_eqFieldS.f k bt131.1 t115).bind fun t135 => (if t135 = true then (laws_FnExactNowcast.j0 k a2 t115 t118 bt131.1 bt131.2 (bt131.2 != t118) a0_0 a0_1 l0_2 a1_0 a1_1 l1_2 bt119.1 bt119.2.1 bt119.2.2 bt125.1 bt125.2.1 bt125.2.2) else (laws_FnExactNowcast.j0 k a2 t115 t118 bt131.1 bt131.2 true a0_0 a0_1 l0_2 a1_0 a1_1 l1_2 bt119.1 bt119.2.1 bt119.2.2 bt125.1 bt125.2.1 bt125.2.2)))))) = some r := H
 have A21 := Aside0.mk A210
 clear A210
 replace H := Option.bind_eq_some_iff.mp H
 obtain ⟨⟨t119, t120, t121⟩, A220, H⟩ := H
 replace H : ((laws_toField.f k a1_0 a1_1 l1_2).bind fun bt125 => ((impl_Nowcast.f k t119 t120 t121 bt125.1 bt125.2.1 bt125.2.2 a2).bind fun bt131 => ((laws_eqFieldS.f k bt131.1 t115).bind fun t135 => (if t135 = true then (laws_FnExactNowcast.j0 k a2 t115 t118 bt131.1 bt131.2 (bt131.2 != t118) a0_0 a0_1 l0_2 a1_0 a1_1 l1_2 t119 t120 t121 bt125.1 bt125.2.1 bt125.2.2) else (laws_FnExactNowcast.j0 k a2 t115 t118 bt131.1 bt131.2 true a0_0 a0_1 l0_2 a1_0 a1_1 l1_2 t119 t120 t121 bt125.1 bt125.2.1 bt125.2.2))))) = some r := H
 have A22 := Aside0.mk A220
 clear A220
 replace H := Option.bind_eq_some_iff.mp H
 obtain ⟨⟨t125, t126, t127⟩, A230, H⟩ := H
 replace H : ((impl_Nowcast.f k t119 t120 t121 t125 t126 t127 a2).bind fun bt131 => ((laws_eqFieldS.f k bt131.1 t115).bind fun t135 => (if t135 = true then (laws_FnExactNowcast.j0 k a2 t115 t118 bt131.1 bt131.2 (bt131.2 != t118) a0_0 a0_1 l0_2 a1_0 a1_1 l1_2 t119 t120 t121 t125 t126 t127) else (laws_FnExactNowcast.j0 k a2 t115 t118 bt131.1 bt131.2 true a0_0 a0_1 l0_2 a1_0 a1_1 l1_2 t119 t120 t121 t125 t126 t127)))) = some r := H
 have A23 := Aside0.mk A230
 clear A230
 replace H := Option.bind_eq_some_iff.mp H
 obtain ⟨⟨t131, t134⟩, A240, H⟩ := H
 replace H : ((laws_eqFieldS.f k t131 t115).bind fun t135 => (if t135 = true then (laws_FnExactNowcast.j0 k a2 t115 t118 t131 t134 (t134 != t118) a0_0 a0_1 l0_2 a1_0 a1_1 l1_2 t119 t120 t121 t125 t126 t127) else (laws_FnExactNowcast.j0 k a2 t115 t118 t131 t134 true a0_0 a0_1 l0_2 a1_0 a1_1 l1_2 t119 t120 t121 t125 t126 t127))) = some r := H
 have A24 := Aside0.mk A240
 clear A240
 have HC25 := Aside0.mk H
 clear H
 go_enter Try.func6, Try.ntmps6
 try go_wp2_with (first | ((with_reducible refine gate_dst (N := 3) rfl ?_); refine bxe (cs := #[.int .i64 a0_0, .int .i64 a0_1, .slice A0_2 l0_2.length c0_2]) (t := 24) ?_; intro gb101 hg w26 hbox hb; have BK101 := aK (hbox); have GW101 := aK (gE hg (pS HB.out)); have GE101 := GW101; replace HB := bS HB hb; clear hb hbox hg) | ((with_reducible refine gate_dst (N := 4) rfl ?_); refine bxe (cs := #[.int .i64 a1_0, .int .i64 a1_1, .slice A1_2 l1_2.length c1_2]) (t := 24) ?_; intro gb102 hg w27 hbox hb; have BK102 := aK (hbox); have GW102 := aK (gE hg (pS HB.out)); have GE102 := GW102; obtain ⟨NB101_102, NB102_101⟩ := nb hg (pB BK101.out); replace BK101 := bB BK101 hb; replace HB := bS HB hb; clear hb hbox hg; have hnb28 := NB101_102.out; have hnc28 := NB102_101.out; obtain ⟨hcz29_0, hcz29_1, hcz29_2, hfz29_0, hfz29_1, hfz29_2⟩ := bc3 BK101.out) | ((with_reducible refine gate_callee (f := 13) rfl ?_); refine gl (some 21) Try.func13 #[.agg #[.int .i64 a0_0, .int .i64 a0_1, .slice A0_2 l0_2.length c0_2], .int .i64 1048576] ?_; (with_reducible refine (laws_szField.calls a0_0 a0_1 _ _ l0_2 1048576 t103 _ ?side1 ?side2 A4.out).mono ?_); (case side1 => exact pC (Kd.C_below HR0_2.out HB.out)); (case side2 => exact HC0_2.out); rintro e w30 ⟨rfl, hb⟩; refine ⟨_, rfl, ?_⟩; replace BK101 := bB BK101 hb; replace BK102 := bB BK102 hb; replace HB := bS HB hb; (try clear hb); (try clear hb2); (try clear hk); (try clear hi); obtain ⟨hcz31_0, hcz31_1, hcz31_2, hfz31_0, hfz31_1, hfz31_2⟩ := bc3 BK102.out) | ((with_reducible refine gate_callee (f := 13) rfl ?_); refine gl (some 26) Try.func13 #[.agg #[.int .i64 a1_0, .int .i64 a1_1, .slice A1_2 l1_2.length c1_2], .int .i64 t103] ?_; (with_reducible refine (laws_szField.calls a1_0 a1_1 _ _ l1_2 t103 t104 _ ?side1 ?side2 A10.out).mono ?_); (case side1 => exact pC (Kd.C_below HR1_2.out HB.out)); (case side2 => exact HC1_2.out); rintro e w32 ⟨rfl, hb⟩; refine ⟨_, rfl, ?_⟩; replace BK101 := bB BK101 hb; replace BK102 := bB BK102 hb; replace HB := bS HB hb; (try clear hb); (try clear hb2); (try clear hk); (try clear hi)))
 have n0_ := aK (blk_drew BK101.out)
 have n1_ := aK (blk_drew BK102.out)
 have n2_ := aK (below_drew1 HB.out)
 clear BK101 BK102 HB
 have BK101 := n0_
 have BK102 := n1_
 have HB := n2_
 clear n0_ n1_ n2_
 refine start_ (n := 11) (S := fun w' => w'.cell? ⟨gb101, 0, none⟩ = some (.int .i64 a0_0) ∧ w'.cell? ⟨gb101, 1, none⟩ = some (.int .i64 a0_1) ∧ w'.cell? ⟨gb101, 2, none⟩ = some (.slice A0_2 l0_2.length c0_2) ∧ w'.cell? ⟨gb102, 0, none⟩ = some (.int .i64 a1_0) ∧ w'.cell? ⟨gb102, 1, none⟩ = some (.int .i64 a1_1) ∧ w'.cell? ⟨gb102, 2, none⟩ = some (.slice A1_2 l1_2.length c1_2)) (ds := []) #[false, false, false, false, false, false, false, false, false, false, false] (by kernel_rfl) rfl rfl (cj3 BK101.out (cz3 BK102.out)) (fun hHeld => ?_); refine with_tabW laws_FnExactNowcast.tab8 laws_FnExactNowcast.bits8 (fun HT_ HW_ => ?_)
 generalize w32.drew = w33 at BK101 BK102 HB hHeld ⊢
 refine pu (i := 4) (N := some 34) #[false, false, false, false, true, false, false, false, false, false, false] rfl rfl HT_.out ?_
 refine tk (i := 0) (N := some 30) #[true, false, false, false, true, false, false, false, false, false, false] rfl rfl HT_.out HW_.out (Or.inl ⟨by rfl, by rintro w' ⟨s0, s1, s2, s3, s4, s5⟩; go_simp; with_reducible rfl⟩) hHeld ?_
 refine tk (i := 2) (N := some 32) #[true, false, true, false, true, false, false, false, false, false, false] rfl rfl HT_.out HW_.out (Or.inl ⟨by rfl, by rintro w' ⟨s0, s1, s2, s3, s4, s5⟩; go_simp; with_reducible rfl⟩) hHeld ?_
 refine one_ (i := 1) (N := some 31) #[true, true, true, false, true, false, false, false, false, false, false] rfl rfl (one_of HT_.out (by kernel_rfl)) (by decide) (fun K hK => ?_)
 refine goes_ Try.func15 (by kernel_rfl) rfl #[.agg #[.int .i64 a0_0, .int .i64 a0_1, .slice A0_2 l0_2.length c0_2]] (by rfl) rfl rfl (by (try simp only [List.map_toArray, List.map_cons, List.map_nil]); first | done | rfl | (simp only [List.length_drop, List.length_take]; rfl)) ?_
 with_reducible refine (laws_toField.calls k a0_0 a0_1 _ _ l0_2 t105 t106 t107 _ ?side1 ?side2 A19.out).mono ?_
 (case side1 => exact pC (Kd.C_below HR0_2.out HB.out))
 (case side2 => exact HC0_2.out)
 rintro e w34 ⟨v108, rfl, ho0, hb⟩
 refine ⟨_, rfl, ?_⟩
 have HO109 := aK (Kd.R_lower ho0 (below_size (pS HB.out)))
 replace BK101 := bB BK101 hb
 replace BK102 := bB BK102 hb
 replace HB := bS HB hb
 (try clear hb)
 (try clear hb2)
 (try clear hk)
 (try clear hi)
 (try clear ho0)
 refine hK.out _ _ (cj3 BK101.out (cz3 BK102.out)) (fun hHeld => ?_)
 clear hK K
 refine norm_ (a' := ?_) ?_ ?_
 rotate_left
 ·
  show Act.put _ (some 31) _ = _
  simp only [sP]
  rfl
 refine one_ (i := 3) (N := some 33) #[true, true, true, true, true, false, false, false, false, false, false] rfl rfl (one_of HT_.out (by kernel_rfl)) (by decide) (fun K hK => ?_)
 refine goes_ Try.func15 (by kernel_rfl) rfl #[.agg #[.int .i64 a1_0, .int .i64 a1_1, .slice A1_2 l1_2.length c1_2]] (by rfl) rfl rfl (by (try simp only [List.map_toArray, List.map_cons, List.map_nil]); first | done | rfl | (simp only [List.length_drop, List.length_take]; rfl)) ?_
 with_reducible refine (laws_toField.calls k a1_0 a1_1 _ _ l1_2 t110 t111 t112 _ ?side1 ?side2 A20.out).mono ?_
 (case side1 => exact pC (Kd.C_below HR1_2.out HB.out))
 (case side2 => exact HC1_2.out)
 rintro e w35 ⟨v113, rfl, ho0, hb⟩
 refine ⟨_, rfl, ?_⟩
 have n0_ := aK (Kd.R_elder' (pR HO109.out) (Kd.R_base ho0) hb)
 have HO114 := aK (Kd.R_lower (nw1 ho0 (pR HO109.out)) (below_size (pS HB.out)))
 replace BK101 := bB BK101 hb
 replace BK102 := bB BK102 hb
 replace HB := bS HB hb
 clear HO109
 have HO109 := n0_
 clear n0_
 (try clear hb)
 (try clear hb2)
 (try clear hk)
 (try clear hi)
 (try clear ho0)
 obtain ⟨Ao36, co36, eo36⟩ := Kd.R_slice HO109.out
 (first | subst eo36 | (obtain ⟨f4_, f5_⟩ := sI eo36; subst f4_; subst f5_))
 obtain ⟨Ao37, co37, eo37⟩ := Kd.R_slice HO114.out
 (first | subst eo37 | (obtain ⟨f4_, f5_⟩ := sI eo37; subst f4_; subst f5_))
 refine hK.out _ _ (cj3 BK101.out (cz3 BK102.out)) (fun hHeld => ?_)
 clear hK K
 refine norm_ (a' := ?_) ?_ ?_
 rotate_left
 ·
  show Act.put _ (some 33) _ = _
  simp only [sP]
  rfl
 refine one_ (i := 5) (N := some 35) #[true, true, true, true, true, true, false, false, false, false, false] rfl rfl (one_of HT_.out (by kernel_rfl)) (by decide) (fun K hK => ?_)
 refine goes_ Try.func31 (by kernel_rfl) rfl #[.agg #[.int .i64 t105, .int .i64 t106, .slice Ao36 t107.length co36], .agg #[.int .i64 t110, .int .i64 t111, .slice Ao37 t112.length co37], .int .i64 a2] (by rfl) rfl rfl (by (try simp only [List.map_toArray, List.map_cons, List.map_nil]); first | done | rfl | (simp only [List.length_drop, List.length_take]; rfl)) ?_
 with_reducible refine (spec_Nowcast.calls k t105 t106 _ _ t107 t110 t111 (fun k_ => some k_ = (.slice Ao37 t112.length co37 : Value).ownBlock) _ _ t112 a2 t115 t118 _ ?side1 ?side2 ?side3 A21.out).mono ?_
 (case side1 => exact pC (Kd.R_reads' HO109.out).2.2)
 (case side2 => exact (Kd.R_reads' HO109.out).2.1)
 (case side3 => exact Kd.R_V (Kd.R_tight rfl (Kd.R_types (Kd.R_types (HO114.out) BK101.out (by decide)) BK102.out (by decide))))
 rintro e w38 ⟨v116, rfl, ho0, hb⟩
 refine ⟨_, rfl, ?_⟩
 obtain ⟨sz1, hsz1⟩ := mpM hb
 have n0_ := aK (Kd.R_below (pR HO109.out) hb)
 have n1_ := aK (Kd.R_below (pR HO114.out) hb)
 have HO117 := aK (Kd.S_lower (Kd.S_new' (Kd.S_new' (mpN ho0 hsz1) (Kd.R_lt (pR HO109.out))) (Kd.R_lt (pR HO114.out))) (below_size (pS HB.out)))
 replace BK101 := bB BK101 hb
 replace BK102 := bB BK102 hb
 replace HB := bS HB hb
 clear HO109 HO114
 have HO109 := n0_
 have HO114 := n1_
 clear n0_ n1_
 (try clear hb)
 (try clear hb2)
 (try clear hk)
 (try clear hi)
 (try clear ho0)
 refine hK.out _ _ (cj3 BK101.out (cz3 BK102.out)) (fun hHeld => ?_)
 clear hK K
 refine norm_ (a' := ?_) ?_ ?_
 rotate_left
 ·
  show Act.put _ (some 35) _ = _
  simp only [sP]
  rfl
 refine pu (i := 6) (N := some 29) #[true, true, true, true, true, true, true, false, false, false, false] rfl rfl HT_.out ?_
 refine pu (i := 7) (N := some 36) #[true, true, true, true, true, true, true, true, false, false, false] rfl rfl HT_.out ?_
 refine pu (i := 8) (N := some 37) #[true, true, true, true, true, true, true, true, true, false, false] rfl rfl HT_.out ?_
 refine pu (i := 9) (N := some 8) #[true, true, true, true, true, true, true, true, true, true, false] rfl rfl HT_.out ?_
 refine pu (i := 10) (N := some 9) #[true, true, true, true, true, true, true, true, true, true, true] rfl rfl HT_.out ?_
 refine done_ (done_of HT_.out (by kernel_rfl)) ?_
 obtain ⟨hcz39_0, hcz39_1, hcz39_2, hfz39_0, hfz39_1, hfz39_2⟩ := bc3 BK101.out
 go_upto_region 12 with (first | ((with_reducible refine gate_callee (f := 15) rfl ?_); refine gl (some 39) Try.func15 #[.agg #[.int .i64 a0_0, .int .i64 a0_1, .slice A0_2 l0_2.length c0_2]] ?_; (with_reducible refine (laws_toField.calls k a0_0 a0_1 _ _ l0_2 t119 t120 t121 _ ?side1 ?side2 A22.out).mono ?_); (case side1 => exact pC (Kd.C_below HR0_2.out HB.out)); (case side2 => exact HC0_2.out); rintro e w40 ⟨v122, rfl, ho0, hb⟩; refine ⟨_, rfl, ?_⟩; have n0_ := aK (Kd.R_elder' (pR HO109.out) (Kd.R_base ho0) hb); have n1_ := aK (Kd.R_elder' (pR HO114.out) (Kd.R_base ho0) hb); have n2_ := aK (Kd.S_elder' (by (with_reducible repeat (first | apply Kd.S_alloc | apply Kd.S_drewN | apply Kd.S_drew)); exact HO117.out) (Kd.R_base ho0) hb); have HO123 := aK (Kd.R_lower (nw2 ho0 (pR HO109.out) (pR HO114.out)) (below_size (pS HB.out))); replace BK101 := bB BK101 hb; replace BK102 := bB BK102 hb; replace HB := bS HB hb; clear HO109 HO114 HO117; have HO109 := n0_; have HO114 := n1_; have HO117 := n2_; clear n0_ n1_ n2_; (try clear hb); (try clear hb2); (try clear hk); (try clear hi); (try clear ho0)) | ((with_reducible refine gate_dst (N := 10) rfl ?_); refine bxe (cs := #[.int .i64 0, .int .i64 0, .slice none 0 0]) (t := 29) ?_; intro gb124 hg w41 hbox hb; have n0_ := aK (Kd.R_below (pR HO109.out) hb); have n1_ := aK (Kd.R_below (pR HO114.out) hb); have n2_ := aK (Kd.S_below (Kd.S_elderB (by (with_reducible repeat (first | apply Kd.S_alloc | apply Kd.S_drewN | apply Kd.S_drew)); exact HO117.out) gb124 (Nat.le_of_eq hg.symm)) hb); have n3_ := aK (Kd.R_below (pR HO123.out) hb); have BK124 := aK (hbox); have GW124 := aK (gE hg (pS HB.out)); have GE124 := GW124; obtain ⟨NB101_124, NB124_101⟩ := nb hg (pB BK101.out); obtain ⟨NB102_124, NB124_102⟩ := nb hg (pB BK102.out); replace BK101 := bB BK101 hb; replace BK102 := bB BK102 hb; replace HB := bS HB hb; clear HO109 HO114 HO117 HO123; have HO109 := n0_; have HO114 := n1_; have HO117 := n2_; have HO123 := n3_; clear n0_ n1_ n2_ n3_ hb hbox hg; have hnb42 := NB124_101.out; have hnc42 := NB101_124.out; have hnb43 := NB124_102.out; have hnc43 := NB102_124.out; obtain ⟨hcz44_0, hcz44_1, hcz44_2, hfz44_0, hfz44_1, hfz44_2⟩ := bc3 BK124.out; obtain ⟨Ao45, co45, eo45⟩ := Kd.R_slice HO123.out; subst eo45; obtain ⟨hcz46_0, hcz46_1, hcz46_2, hfz46_0, hfz46_1, hfz46_2⟩ := bc3 BK102.out) | ((with_reducible refine gate_callee (f := 15) rfl ?_); refine gl (some 41) Try.func15 #[.agg #[.int .i64 a1_0, .int .i64 a1_1, .slice A1_2 l1_2.length c1_2]] ?_; (with_reducible refine (laws_toField.calls k a1_0 a1_1 _ _ l1_2 t125 t126 t127 _ ?side1 ?side2 A23.out).mono ?_); (case side1 => exact Kd.C_below HR1_2.out (pS HB.out)); (case side2 => exact HC1_2.out); rintro e w47 ⟨v128, rfl, ho0, hb⟩; refine ⟨_, rfl, ?_⟩; have e3_ := aR hb (pR (rF3 HO109.out BK124.out (.int .i64 t119) (.int .i64 t120) (.slice Ao45 t121.length co45))); have n0_ := aK (Kd.R_elder' e3_.out (Kd.R_base ho0) hb); have e2_ := aR hb (pR (rF3 HO114.out BK124.out (.int .i64 t119) (.int .i64 t120) (.slice Ao45 t121.length co45))); have n1_ := aK (Kd.R_elder' e2_.out (Kd.R_base ho0) hb); have n2_ := aK (Kd.S_elder' (by (with_reducible repeat (first | apply Kd.S_alloc | apply Kd.S_drewN | apply Kd.S_drew)); exact (Kd.S_mono (Kd.S_far (p := ⟨gb124, 2, none⟩) (Kd.S_far (p := ⟨gb124, 1, none⟩) (Kd.S_far (p := ⟨gb124, 0, none⟩) (Kd.S_mono HO117.out (fun k_ hk => (⟨hk, hk.2⟩ : _ ∧ k_ ≠ gb124))) (fun _ hk => hk.2) (.int .i64 t119)) (fun _ hk => hk.2) (.int .i64 t120)) (fun _ hk => hk.2) (.slice Ao45 t121.length co45)) (fun _ h_ => h_.1))) (Kd.R_base ho0) hb); have e1_ := aR hb (pR (rF3 HO123.out BK124.out (.int .i64 t119) (.int .i64 t120) (.slice Ao45 t121.length co45))); have n3_ := aK (Kd.R_elder' e1_.out (Kd.R_base ho0) hb); have HO129 := aK (Kd.R_lower (nw1 (nw2 ho0 e3_.out e2_.out) e1_.out) (below_size (pS HB.out))); clear e3_; clear e2_; clear e1_; have n5_ := aK (blk_below (g := gb101) (o := .cells #[.int .i64 a0_0, .int .i64 a0_1, .slice A0_2 l0_2.length c0_2] 24 (0, 0)) (by refine bk ?_; refine blk_far ?_ NB101_124.out _; refine bk ?_; refine blk_far ?_ NB101_124.out _; refine bk ?_; refine blk_far ?_ NB101_124.out _; refine bk ?_; exact BK101.out) hb); have n6_ := aK (blk_below (g := gb102) (o := .cells #[.int .i64 a1_0, .int .i64 a1_1, .slice A1_2 l1_2.length c1_2] 24 (0, 0)) (by refine bk ?_; refine blk_far ?_ NB102_124.out _; refine bk ?_; refine blk_far ?_ NB102_124.out _; refine bk ?_; refine blk_far ?_ NB102_124.out _; refine bk ?_; exact BK102.out) hb); have n7_ := aK (blk_below (g := gb124) (o := .cells #[.int .i64 t119, .int .i64 t120, .slice Ao45 t121.length co45] 29 (0, 0)) (by refine bk ?_; refine blk_put (cs := #[.int .i64 t119, .int .i64 t120, .slice none 0 0]) ?_ 2 _ rfl; refine bk ?_; refine blk_put (cs := #[.int .i64 t119, .int .i64 0, .slice none 0 0]) ?_ 1 _ rfl; refine bk ?_; refine blk_put (cs := #[.int .i64 0, .int .i64 0, .slice none 0 0]) ?_ 0 _ rfl; refine bk ?_; exact BK124.out) hb); replace HB := bS HB hb; clear HO109 HO114 HO117 HO123 BK101 BK102 BK124; have HO109 := n0_; have HO114 := n1_; have HO117 := n2_; have HO123 := n3_; have BK101 := n5_; have BK102 := n6_; have BK124 := n7_; clear n0_ n1_ n2_ n3_ n5_ n6_ n7_; (try clear hb); (try clear hb2); (try clear hk); (try clear hi); (try clear ho0)) | ((with_reducible refine gate_dst (N := 11) rfl ?_); refine bxe (cs := #[.int .i64 0, .int .i64 0, .slice none 0 0]) (t := 29) ?_; intro gb130 hg w48 hbox hb; have n0_ := aK (Kd.R_below (pR HO109.out) hb); have n1_ := aK (Kd.R_below (pR HO114.out) hb); have n2_ := aK (Kd.S_below (Kd.S_elderB (by (with_reducible repeat (first | apply Kd.S_alloc | apply Kd.S_drewN | apply Kd.S_drew)); exact HO117.out) gb130 (Nat.le_of_eq hg.symm)) hb); have n3_ := aK (Kd.R_below (pR HO123.out) hb); have n4_ := aK (Kd.R_below (pR HO129.out) hb); have BK130 := aK (hbox); have GW130 := aK (gE hg (pS HB.out)); have GE130 := GW130; obtain ⟨NB101_130, NB130_101⟩ := nb hg (pB BK101.out); obtain ⟨NB102_130, NB130_102⟩ := nb hg (pB BK102.out); obtain ⟨NB124_130, NB130_124⟩ := nb hg (pB BK124.out); replace BK101 := bB BK101 hb; replace BK102 := bB BK102 hb; replace BK124 := bB BK124 hb; replace HB := bS HB hb; clear HO109 HO114 HO117 HO123 HO129; have HO109 := n0_; have HO114 := n1_; have HO117 := n2_; have HO123 := n3_; have HO129 := n4_; clear n0_ n1_ n2_ n3_ n4_ hb hbox hg; have hnb49 := NB130_101.out; have hnc49 := NB101_130.out; have hnb50 := NB130_102.out; have hnc50 := NB102_130.out; have hnb51 := NB130_124.out; have hnc51 := NB124_130.out; obtain ⟨hcz52_0, hcz52_1, hcz52_2, hfz52_0, hfz52_1, hfz52_2⟩ := bc3 BK130.out; obtain ⟨Ao53, co53, eo53⟩ := Kd.R_slice HO129.out; subst eo53) | ((with_reducible refine gate_store (t := 29) (p := 11) rfl ?_); refine store_event (t := 29) (p := 11) (v := ?vo_w54) (w1 := (((w48.setCell ⟨gb130, 0, none⟩ (.int .i64 t125)).setCell ⟨gb130, 1, none⟩ (.int .i64 t126)).setCell ⟨gb130, 2, none⟩ (.slice Ao53 t127.length co53))) ?hg ?ho ?hn ?hr ?_; (case ho => rfl); (case hg => rfl); (case hn => rfl); (case hr => first | (go_simp; done) | (go_simp; rfl)); intro w54 hw; have n0_ : Aside0 (Kd.R (Kd.int .i64) 3 w54 w.heap.size (fun k_ => some k_ ≠ (.slice Ao37 t112.length co37 : Value).ownBlock ∧ some k_ ≠ (.slice Ao45 t121.length co45 : Value).ownBlock ∧ some k_ ≠ (.slice Ao53 t127.length co53 : Value).ownBlock) (.slice Ao36 t107.length co36) t107) := ⟨(by rw [hw]; exact (pR (Kd.R_mono (rF3 HO109.out BK130.out (.int .i64 t125) (.int .i64 t126) (.slice Ao53 t127.length co53)) (fun _ h => ⟨h.1.1.2, ⟨h.1.2, h.2⟩⟩))))⟩; have n1_ : Aside0 (Kd.R (Kd.int .i64) 3 w54 w.heap.size (fun k_ => some k_ ≠ (.slice Ao36 t107.length co36 : Value).ownBlock ∧ some k_ ≠ (.slice Ao45 t121.length co45 : Value).ownBlock ∧ some k_ ≠ (.slice Ao53 t127.length co53 : Value).ownBlock) (.slice Ao37 t112.length co37) t112) := ⟨(by rw [hw]; exact (pR (Kd.R_mono (rF3 HO114.out BK130.out (.int .i64 t125) (.int .i64 t126) (.slice Ao53 t127.length co53)) (fun _ h => ⟨h.1.1.2, ⟨h.1.2, h.2⟩⟩))))⟩; have n2_ : Aside0 (Kd.S k29 29 w54 w.heap.size (fun k_ => some k_ ≠ (.slice Ao36 t107.length co36 : Value).ownBlock ∧ some k_ ≠ (.slice Ao37 t112.length co37 : Value).ownBlock ∧ some k_ ≠ (.slice Ao45 t121.length co45 : Value).ownBlock ∧ some k_ ≠ (.slice Ao53 t127.length co53 : Value).ownBlock ∧ sz1 ≤ k_ ∧ k_ ≠ gb124 ∧ k_ ≠ gb130) v116 t115) := ⟨(by rw [hw]; exact (by (with_reducible repeat (first | apply Kd.S_alloc | apply Kd.S_drewN | apply Kd.S_drew)); exact Kd.S_mono (Kd.S_far (p := ⟨gb130, 2, none⟩) (Kd.S_far (p := ⟨gb130, 1, none⟩) (Kd.S_far (p := ⟨gb130, 0, none⟩) (Kd.S_mono HO117.out (fun k_ hk => (⟨hk, hk.2⟩ : _ ∧ k_ ≠ gb130))) (fun _ hk => hk.2) (.int .i64 t125)) (fun _ hk => hk.2) (.int .i64 t126)) (fun _ hk => hk.2) (.slice Ao53 t127.length co53)) (fun _ hk => ⟨hk.1.1.1.1.1.1.2, ⟨hk.1.1.1.1.1.2, ⟨hk.1.1.1.1.2, ⟨hk.1.1.2, ⟨hk.1.1.1.1.1.1.1, ⟨hk.1.1.1.2, hk.1.2⟩⟩⟩⟩⟩⟩)))⟩; have n3_ : Aside0 (Kd.R (Kd.int .i64) 3 w54 w.heap.size (fun k_ => some k_ ≠ (.slice Ao36 t107.length co36 : Value).ownBlock ∧ some k_ ≠ (.slice Ao37 t112.length co37 : Value).ownBlock ∧ some k_ ≠ (.slice Ao53 t127.length co53 : Value).ownBlock) (.slice Ao45 t121.length co45) t121) := ⟨(by rw [hw]; exact (pR (Kd.R_mono (rF3 HO123.out BK130.out (.int .i64 t125) (.int .i64 t126) (.slice Ao53 t127.length co53)) (fun _ h => ⟨h.1.1.2, ⟨h.1.2, h.2⟩⟩))))⟩; have n4_ : Aside0 (Kd.R (Kd.int .i64) 3 w54 w.heap.size (fun k_ => some k_ ≠ (.slice Ao36 t107.length co36 : Value).ownBlock ∧ some k_ ≠ (.slice Ao37 t112.length co37 : Value).ownBlock ∧ some k_ ≠ (.slice Ao45 t121.length co45 : Value).ownBlock) (.slice Ao53 t127.length co53) t127) := ⟨(by rw [hw]; exact (pR (Kd.R_mono (rF3 HO129.out BK130.out (.int .i64 t125) (.int .i64 t126) (.slice Ao53 t127.length co53)) (fun _ h => ⟨h.1.1.2, ⟨h.1.2, h.2⟩⟩))))⟩; have n5_ : Aside0 (w54.heap[gb101]? = some (.cells #[.int .i64 a0_0, .int .i64 a0_1, .slice A0_2 l0_2.length c0_2] 24 (0, 0))) := ⟨(by rw [hw]; exact (by refine bk ?_; refine blk_far ?_ NB101_130.out _; refine bk ?_; refine blk_far ?_ NB101_130.out _; refine bk ?_; refine blk_far ?_ NB101_130.out _; refine bk ?_; exact BK101.out))⟩; have n6_ : Aside0 (w54.heap[gb102]? = some (.cells #[.int .i64 a1_0, .int .i64 a1_1, .slice A1_2 l1_2.length c1_2] 24 (0, 0))) := ⟨(by rw [hw]; exact (by refine bk ?_; refine blk_far ?_ NB102_130.out _; refine bk ?_; refine blk_far ?_ NB102_130.out _; refine bk ?_; refine blk_far ?_ NB102_130.out _; refine bk ?_; exact BK102.out))⟩; have n7_ : Aside0 (w54.heap[gb124]? = some (.cells #[.int .i64 t119, .int .i64 t120, .slice Ao45 t121.length co45] 29 (0, 0))) := ⟨(by rw [hw]; exact (by refine bk ?_; refine blk_far ?_ NB124_130.out _; refine bk ?_; refine blk_far ?_ NB124_130.out _; refine bk ?_; refine blk_far ?_ NB124_130.out _; refine bk ?_; exact BK124.out))⟩; have n8_ : Aside0 (w54.heap[gb130]? = some (.cells #[.int .i64 t125, .int .i64 t126, .slice Ao53 t127.length co53] 29 (0, 0))) := ⟨(by rw [hw]; exact (by refine bk ?_; refine blk_put (cs := #[.int .i64 t125, .int .i64 t126, .slice none 0 0]) ?_ 2 _ rfl; refine bk ?_; refine blk_put (cs := #[.int .i64 t125, .int .i64 0, .slice none 0 0]) ?_ 1 _ rfl; refine bk ?_; refine blk_put (cs := #[.int .i64 0, .int .i64 0, .slice none 0 0]) ?_ 0 _ rfl; refine bk ?_; exact BK130.out))⟩; have n9_ : Aside0 (Below w.heap.size w w54) := ⟨(by rw [hw]; exact (pS HB.out))⟩; clear hw HO109 HO114 HO117 HO123 HO129 BK101 BK102 BK124 BK130 HB; have HO109 := n0_; have HO114 := n1_; have HO117 := n2_; have HO123 := n3_; have HO129 := n4_; have BK101 := n5_; have BK102 := n6_; have BK124 := n7_; have BK130 := n8_; have HB := n9_; clear n0_ n1_ n2_ n3_ n4_ n5_ n6_ n7_ n8_ n9_; obtain ⟨hcz55_0, hcz55_1, hcz55_2, hfz55_0, hfz55_1, hfz55_2⟩ := bc3 BK124.out; obtain ⟨hcz56_0, hcz56_1, hcz56_2, hfz56_0, hfz56_1, hfz56_2⟩ := bc3 BK130.out) | ((with_reducible refine gate_callee (f := 32) rfl ?_); refine gl (some 46) Try.func32 #[.agg #[.int .i64 t119, .int .i64 t120, .slice Ao45 t121.length co45], .agg #[.int .i64 t125, .int .i64 t126, .slice Ao53 t127.length co53], .int .i64 a2] ?_; (with_reducible refine (impl_Nowcast.calls k t119 t120 _ _ t121 t125 t126 (fun k_ => some k_ = (.slice Ao53 t127.length co53 : Value).ownBlock) _ _ t127 a2 t131 t134 _ ?side1 ?side2 ?side3 A24.out).mono ?_); (case side1 => exact pC (Kd.R_reads' HO123.out).2.2); (case side2 => exact (Kd.R_reads' HO123.out).2.1); (case side3 => exact Kd.R_V (Kd.R_tight rfl (Kd.R_types (Kd.R_types (Kd.R_types (Kd.R_types (Kd.R_apart' (HO129.out) (Kd.S_typed HO117.out) (by decide)) BK101.out (by decide)) BK102.out (by decide)) BK124.out (by decide)) BK130.out (by decide)))); rintro e w57 ⟨v132, rfl, ho0, hb⟩; refine ⟨_, rfl, ?_⟩; obtain ⟨sz2, hsz2⟩ := mpM hb; have n0_ := aK (Kd.R_below (pR HO109.out) hb); have n1_ := aK (Kd.R_below (pR HO114.out) hb); have n2_ := aK (mpE2 (by (with_reducible repeat (first | apply Kd.S_alloc | apply Kd.S_drewN | apply Kd.S_drew)); exact HO117.out) hb hsz2 (Kd.S_base ho0)); have n3_ := aK (Kd.R_below (pR HO123.out) hb); have n4_ := aK (Kd.R_below (pR HO129.out) hb); have HO133 := aK (Kd.S_lower (Kd.S_newB (Kd.S_newB (Kd.S_new' (Kd.S_new' (Kd.S_new' (Kd.S_new' (Kd.S_new' (mpN ho0 hsz2) (Kd.R_lt (pR HO109.out))) (Kd.R_lt (pR HO114.out))) (Kd.S_lt (by (with_reducible repeat (first | apply Kd.S_alloc | apply Kd.S_drewN | apply Kd.S_drew)); exact HO117.out))) (Kd.R_lt (pR HO123.out))) (Kd.R_lt (pR HO129.out))) (g := gb124) (o := .cells #[.int .i64 t119, .int .i64 t120, .slice Ao45 t121.length co45] 29 (0, 0)) (pB BK124.out)) (g := gb130) (o := .cells #[.int .i64 t125, .int .i64 t126, .slice Ao53 t127.length co53] 29 (0, 0)) (pB BK130.out)) (below_size (pS HB.out))); replace BK101 := bB BK101 hb; replace BK102 := bB BK102 hb; replace BK124 := bB BK124 hb; replace BK130 := bB BK130 hb; replace HB := bS HB hb; clear HO109 HO114 HO117 HO123 HO129; have HO109 := n0_; have HO114 := n1_; have HO117 := n2_; have HO123 := n3_; have HO129 := n4_; clear n0_ n1_ n2_ n3_ n4_; (try clear hb); (try clear hb2); (try clear hk); (try clear hi); (try clear ho0)))
 (try simp only [Act.put, List.setIfInBounds_toArray, List.set_cons_zero, List.set_cons_succ])
 go_cut [57] (fun v57 wc => ∃ (kq : Nat) (x57_24 : Bool), v57 = .bool x57_24 ∧ Aside0 (laws_FnExactNowcast.j0 kq a2 t115 t118 t131 t134 x57_24 a0_0 a0_1 l0_2 a1_0 a1_1 l1_2 t119 t120 t121 t125 t126 t127 = some r) ∧ Aside0 (kq ≤ k) ∧ Aside0 (Kd.S k29 29 wc w.heap.size (fun k_ => some k_ ≠ (v132 : Value).ownBlock ∧ some k_ ≠ ((.slice Ao45 t121.length co45) : Value).ownBlock ∧ some k_ ≠ ((.slice Ao53 t127.length co53) : Value).ownBlock ∧ k_ ≠ gb124 ∧ k_ ≠ gb130 ∧ k_ < sz2 ∧ sz1 ≤ k_) v116 t115) ∧ Aside0 (Kd.S k29 29 wc w.heap.size (fun k_ => some k_ ≠ (v116 : Value).ownBlock ∧ some k_ ≠ ((.slice Ao45 t121.length co45) : Value).ownBlock ∧ some k_ ≠ ((.slice Ao53 t127.length co53) : Value).ownBlock ∧ k_ ≠ gb124 ∧ k_ ≠ gb130 ∧ sz2 ≤ k_) v132 t131) ∧ Aside0 (Kd.R (Kd.int .i64) 3 wc w.heap.size (fun k_ => some k_ ≠ ((.slice Ao53 t127.length co53) : Value).ownBlock) (.slice Ao45 t121.length co45) t121) ∧ Aside0 (Kd.R (Kd.int .i64) 3 wc w.heap.size (fun k_ => some k_ ≠ ((.slice Ao45 t121.length co45) : Value).ownBlock) (.slice Ao53 t127.length co53) t127) ∧ Aside0 (wc.heap[gb101]? = some (.cells #[.int .i64 a0_0, .int .i64 a0_1, (.slice A0_2 l0_2.length c0_2)] 24 (0, 0))) ∧ Aside0 (wc.heap[gb102]? = some (.cells #[.int .i64 a1_0, .int .i64 a1_1, (.slice A1_2 l1_2.length c1_2)] 24 (0, 0))) ∧ Aside0 (wc.heap[gb124]? = some (.cells #[.int .i64 t119, .int .i64 t120, (.slice Ao45 t121.length co45)] 29 (0, 0))) ∧ Aside0 (wc.heap[gb130]? = some (.cells #[.int .i64 t125, .int .i64 t126, (.slice Ao53 t127.length co53)] 29 (0, 0))) ∧ Aside0 (Below w.heap.size w wc))
 case first => as_aux_lemma =>
  have H := HC25.out
  clear HC25
  replace H := Option.bind_eq_some_iff.mp H
  obtain ⟨t135, A580, H⟩ := H
  replace H : (if t135 = true then (laws_FnExactNowcast.j0 k a2 t115 t118 t131 t134 (t134 != t118) a0_0 a0_1 l0_2 a1_0 a1_1 l1_2 t119 t120 t121 t125 t126 t127) else (laws_FnExactNowcast.j0 k a2 t115 t118 t131 t134 true a0_0 a0_1 l0_2 a1_0 a1_1 l1_2 t119 t120 t121 t125 t126 t127)) = some r := H
  have A58 := Aside0.mk A580
  clear A580
  by_cases c59 : t135 = true
  ·
   subst c59
   have H1 : (laws_FnExactNowcast.j0 k a2 t115 t118 t131 t134 (t134 != t118) a0_0 a0_1 l0_2 a1_0 a1_1 l1_2 t119 t120 t121 t125 t126 t127) = some r := by rw [if_pos rfl] at H; exact H
   clear H
   have H := H1
   clear H1
   have H' := Aside0.mk H
   clear H
   obtain ⟨Ao60, co60, eo60⟩ := Kd.S_slice HO133.out
   subst eo60
   obtain ⟨Ao61, co61, eo61⟩ := Kd.S_slice HO117.out
   subst eo61
   go_wp2_with (first | ((with_reducible refine gate_callee (f := 33) rfl ?_); refine gl (some 51) Try.func33 #[.slice Ao60 t131.length co60, .slice Ao61 t115.length co61] ?_; (with_reducible refine (laws_eqFieldS.calls k _ _ t131 _ _ t115 true _ ?side1 ?side2 ?side3 ?side4 A58.out).mono ?_); (case side1 => exact pC (Kd.S_reads' HO133.out).2.2); (case side2 => exact (Kd.S_reads' HO133.out).2.1); (case side3 => exact pC (Kd.S_reads' HO117.out).2.2); (case side4 => exact (Kd.S_reads' HO117.out).2.1); rintro e w62 ⟨rfl, hb⟩; refine ⟨_, rfl, ?_⟩; have n0_ := aK (Kd.R_below (pR HO109.out) hb); have n1_ := aK (Kd.R_below (pR HO114.out) hb); have n2_ := aK (Kd.S_below (by (with_reducible repeat (first | apply Kd.S_alloc | apply Kd.S_drewN | apply Kd.S_drew)); exact HO117.out) hb); have n3_ := aK (Kd.R_below (pR HO123.out) hb); have n4_ := aK (Kd.R_below (pR HO129.out) hb); have n5_ := aK (Kd.S_below (by (with_reducible repeat (first | apply Kd.S_alloc | apply Kd.S_drewN | apply Kd.S_drew)); exact HO133.out) hb); replace BK101 := bB BK101 hb; replace BK102 := bB BK102 hb; replace BK124 := bB BK124 hb; replace BK130 := bB BK130 hb; replace HB := bS HB hb; clear HO109 HO114 HO117 HO123 HO129 HO133; have HO109 := n0_; have HO114 := n1_; have HO117 := n2_; have HO123 := n3_; have HO129 := n4_; have HO133 := n5_; clear n0_ n1_ n2_ n3_ n4_ n5_; (try clear hb); (try clear hb2); (try clear hk); (try clear hi)))
   go_meet
   case rel => exact ⟨_, ((t134 != t118)), (by first | rfl | (simp; done) | (simp [*]; done)), H', ⟨by first | omega | exact Nat.le_refl _⟩, ⟨by (with_reducible repeat (first | apply Kd.S_alloc | apply Kd.S_drewN | apply Kd.S_drew)); exact Kd.S_mono HO117.out (fun _ hk => ⟨hk.2, ⟨hk.1.1.2.2.1, ⟨hk.1.1.2.2.2.1, ⟨hk.1.1.2.2.2.2.2.1, ⟨hk.1.1.2.2.2.2.2.2, ⟨hk.1.2, hk.1.1.2.2.2.2.1⟩⟩⟩⟩⟩⟩)⟩, ⟨by (with_reducible repeat (first | apply Kd.S_alloc | apply Kd.S_drewN | apply Kd.S_drew)); exact Kd.S_mono HO133.out (fun _ hk => ⟨hk.1.1.1.1.2, ⟨hk.1.1.1.2, ⟨hk.1.1.2, ⟨hk.1.2, ⟨hk.2, hk.1.1.1.1.1.1.1⟩⟩⟩⟩⟩)⟩, ⟨pR (Kd.R_mono HO123.out (fun _ hk => hk.2.2))⟩, ⟨pR (Kd.R_mono HO129.out (fun _ hk => hk.2.2))⟩, ⟨by refine bk ?_; exact BK101.out⟩, ⟨by refine bk ?_; exact BK102.out⟩, ⟨by refine bk ?_; exact BK124.out⟩, ⟨by refine bk ?_; exact BK130.out⟩, ⟨pT HB.out⟩⟩
  replace c59 := Bool.eq_false_iff.mpr c59
  subst c59
  have H1 : (laws_FnExactNowcast.j0 k a2 t115 t118 t131 t134 true a0_0 a0_1 l0_2 a1_0 a1_1 l1_2 t119 t120 t121 t125 t126 t127) = some r := by rw [if_neg (show ¬ (false = true) by decide)] at H; exact H
  clear H
  have H := H1
  clear H1
  have H' := Aside0.mk H
  clear H
  obtain ⟨Ao63, co63, eo63⟩ := Kd.S_slice HO133.out
  subst eo63
  obtain ⟨Ao64, co64, eo64⟩ := Kd.S_slice HO117.out
  subst eo64
  go_wp2_with (first | ((with_reducible refine gate_callee (f := 33) rfl ?_); refine gl (some 51) Try.func33 #[.slice Ao63 t131.length co63, .slice Ao64 t115.length co64] ?_; (with_reducible refine (laws_eqFieldS.calls k _ _ t131 _ _ t115 false _ ?side1 ?side2 ?side3 ?side4 A58.out).mono ?_); (case side1 => exact pC (Kd.S_reads' HO133.out).2.2); (case side2 => exact (Kd.S_reads' HO133.out).2.1); (case side3 => exact pC (Kd.S_reads' HO117.out).2.2); (case side4 => exact (Kd.S_reads' HO117.out).2.1); rintro e w65 ⟨rfl, hb⟩; refine ⟨_, rfl, ?_⟩; have n0_ := aK (Kd.R_below (pR HO109.out) hb); have n1_ := aK (Kd.R_below (pR HO114.out) hb); have n2_ := aK (Kd.S_below (by (with_reducible repeat (first | apply Kd.S_alloc | apply Kd.S_drewN | apply Kd.S_drew)); exact HO117.out) hb); have n3_ := aK (Kd.R_below (pR HO123.out) hb); have n4_ := aK (Kd.R_below (pR HO129.out) hb); have n5_ := aK (Kd.S_below (by (with_reducible repeat (first | apply Kd.S_alloc | apply Kd.S_drewN | apply Kd.S_drew)); exact HO133.out) hb); replace BK101 := bB BK101 hb; replace BK102 := bB BK102 hb; replace BK124 := bB BK124 hb; replace BK130 := bB BK130 hb; replace HB := bS HB hb; clear HO109 HO114 HO117 HO123 HO129 HO133; have HO109 := n0_; have HO114 := n1_; have HO117 := n2_; have HO123 := n3_; have HO129 := n4_; have HO133 := n5_; clear n0_ n1_ n2_ n3_ n4_ n5_; (try clear hb); (try clear hb2); (try clear hk); (try clear hi)))
  go_meet
  case rel => exact ⟨_, (true), (by first | rfl | (simp; done) | (simp [*]; done)), H', ⟨by first | omega | exact Nat.le_refl _⟩, ⟨by (with_reducible repeat (first | apply Kd.S_alloc | apply Kd.S_drewN | apply Kd.S_drew)); exact Kd.S_mono HO117.out (fun _ hk => ⟨hk.2, ⟨hk.1.1.2.2.1, ⟨hk.1.1.2.2.2.1, ⟨hk.1.1.2.2.2.2.2.1, ⟨hk.1.1.2.2.2.2.2.2, ⟨hk.1.2, hk.1.1.2.2.2.2.1⟩⟩⟩⟩⟩⟩)⟩, ⟨by (with_reducible repeat (first | apply Kd.S_alloc | apply Kd.S_drewN | apply Kd.S_drew)); exact Kd.S_mono HO133.out (fun _ hk => ⟨hk.1.1.1.1.2, ⟨hk.1.1.1.2, ⟨hk.1.1.2, ⟨hk.1.2, ⟨hk.2, hk.1.1.1.1.1.1.1⟩⟩⟩⟩⟩)⟩, ⟨pR (Kd.R_mono HO123.out (fun _ hk => hk.2.2))⟩, ⟨pR (Kd.R_mono HO129.out (fun _ hk => hk.2.2))⟩, ⟨by refine bk ?_; exact BK101.out⟩, ⟨by refine bk ?_; exact BK102.out⟩, ⟨by refine bk ?_; exact BK124.out⟩, ⟨by refine bk ?_; exact BK130.out⟩, ⟨pT HB.out⟩⟩
 case rest => as_aux_lemma =>
  clear HC25
  try clear c1
  try clear c2
  try clear p2
  try clear c3
  try clear c4
  try clear c5
  try clear c5b0
  try clear c6
  try clear c11
  try clear c11b0
  try clear c13
  try clear c14
  try clear c15
  try clear c28
  try clear c31
  try clear c32
  try clear c33
  try clear c42
  try clear c43
  try clear c49
  try clear c50
  try clear c51
  try clear c59
  try clear hcz15_0
  try clear hcz15_1
  try clear hcz15_2
  try clear hcz17_0
  try clear hcz17_1
  try clear hcz17_2
  try clear hcz29_0
  try clear hcz29_1
  try clear hcz29_2
  try clear hcz31_0
  try clear hcz31_1
  try clear hcz31_2
  try clear hcz39_0
  try clear hcz39_1
  try clear hcz39_2
  try clear hcz44_0
  try clear hcz44_1
  try clear hcz44_2
  try clear hcz46_0
  try clear hcz46_1
  try clear hcz46_2
  try clear hcz52_0
  try clear hcz52_1
  try clear hcz52_2
  try clear hcz55_0
  try clear hcz55_1
  try clear hcz55_2
  try clear hcz56_0
  try clear hcz56_1
  try clear hcz56_2
  try clear hcz8_0
  try clear hcz8_1
  try clear hcz8_2
  try clear hfz15_0
  try clear hfz15_1
  try clear hfz15_2
  try clear hfz17_0
  try clear hfz17_1
  try clear hfz17_2
  try clear hfz29_0
  try clear hfz29_1
  try clear hfz29_2
  try clear hfz31_0
  try clear hfz31_1
  try clear hfz31_2
  try clear hfz39_0
  try clear hfz39_1
  try clear hfz39_2
  try clear hfz44_0
  try clear hfz44_1
  try clear hfz44_2
  try clear hfz46_0
  try clear hfz46_1
  try clear hfz46_2
  try clear hfz52_0
  try clear hfz52_1
  try clear hfz52_2
  try clear hfz55_0
  try clear hfz55_1
  try clear hfz55_2
  try clear hfz56_0
  try clear hfz56_1
  try clear hfz56_2
  try clear hfz8_0
  try clear hfz8_1
  try clear hfz8_2
  obtain ⟨kq, x57_24, rfl, HA, HJ24, HO_8, HO_12, HO_125002, HO_131002, BK101, BK102, BK124, BK130, HB⟩ := hcut
  cases kq with
  | zero => exact absurd HA.out (by simp [laws_FnExactNowcast.j0])
  | succ kj24 =>
   have H := HA.out
   clear HA
   simp only [laws_FnExactNowcast.j0] at H
   by_cases c66 : x57_24 = true
   ·
    subst c66
    have H1 : (some false) = some r := by rw [if_pos rfl] at H; exact H
    clear H
    have H := H1
    clear H1
    obtain rfl := Option.some.inj H
    go_wp2
    go_ret
    exact ⟨er, pT HB.out⟩
   replace c66 := Bool.eq_false_iff.mpr c66
   subst c66
   have H1 : ((laws_toField.f kj24 a0_0 a0_1 l0_2).bind fun bt136 => ((laws_eqField.f kj24 t119 t120 t121 bt136.1 bt136.2.1 bt136.2.2).bind fun t141 => (if t141 = true then ((laws_toField.f kj24 a1_0 a1_1 l1_2).bind fun bt142 => ((laws_eqField.f kj24 t125 t126 t127 bt142.1 bt142.2.1 bt142.2.2).bind fun t147 => (if t147 = true then ((laws_markField.f kj24 t119 t120 t121 1).bind fun bt148 => ((laws_markField.f kj24 t125 t126 t127 bt148.1).bind fun bt150 => (if bt150.1 < 0 then (laws_FnExactNowcast.j1 kj24 a2 t115 t118 t131 true a0_0 a0_1 l0_2 a1_0 a1_1 l1_2) else ((laws_eqFieldS.f kj24 t131 t115).bind fun t152 => (if t152 = true then (laws_FnExactNowcast.j1 kj24 a2 t115 t118 t131 (t134 != t118) a0_0 a0_1 l0_2 a1_0 a1_1 l1_2) else (laws_FnExactNowcast.j1 kj24 a2 t115 t118 t131 true a0_0 a0_1 l0_2 a1_0 a1_1 l1_2)))))) else (some false)))) else (some false)))) = some r := by rw [if_neg (show ¬ (false = true) by decide)] at H; exact H
   clear H
   have H := H1
   clear H1
   replace H := Option.bind_eq_some_iff.mp H
   obtain ⟨⟨t136, t137, t138⟩, A670, H⟩ := H
   replace H : ((laws_eqField.f kj24 t119 t120 t121 t136 t137 t138).bind fun t141 => (if t141 = true then ((laws_toField.f kj24 a1_0 a1_1 l1_2).bind fun bt142 => ((laws_eqField.f kj24 t125 t126 t127 bt142.1 bt142.2.1 bt142.2.2).bind fun t147 => (if t147 = true then ((laws_markField.f kj24 t119 t120 t121 1).bind fun bt148 => ((laws_markField.f kj24 t125 t126 t127 bt148.1).bind fun bt150 => (if bt150.1 < 0 then (laws_FnExactNowcast.j1 kj24 a2 t115 t118 t131 true a0_0 a0_1 l0_2 a1_0 a1_1 l1_2) else ((laws_eqFieldS.f kj24 t131 t115).bind fun t152 => (if t152 = true then (laws_FnExactNowcast.j1 kj24 a2 t115 t118 t131 (t134 != t118) a0_0 a0_1 l0_2 a1_0 a1_1 l1_2) else (laws_FnExactNowcast.j1 kj24 a2 t115 t118 t131 true a0_0 a0_1 l0_2 a1_0 a1_1 l1_2)))))) else (some false)))) else (some false))) = some r := H
   have A67 := Aside0.mk A670
   clear A670
   replace H := Option.bind_eq_some_iff.mp H
   obtain ⟨t141, A680, H⟩ := H
   replace H : (if t141 = true then ((laws_toField.f kj24 a1_0 a1_1 l1_2).bind fun bt142 => ((laws_eqField.f kj24 t125 t126 t127 bt142.1 bt142.2.1 bt142.2.2).bind fun t147 => (if t147 = true then ((laws_markField.f kj24 t119 t120 t121 1).bind fun bt148 => ((laws_markField.f kj24 t125 t126 t127 bt148.1).bind fun bt150 => (if bt150.1 < 0 then (laws_FnExactNowcast.j1 kj24 a2 t115 t118 t131 true a0_0 a0_1 l0_2 a1_0 a1_1 l1_2) else ((laws_eqFieldS.f kj24 t131 t115).bind fun t152 => (if t152 = true then (laws_FnExactNowcast.j1 kj24 a2 t115 t118 t131 (t134 != t118) a0_0 a0_1 l0_2 a1_0 a1_1 l1_2) else (laws_FnExactNowcast.j1 kj24 a2 t115 t118 t131 true a0_0 a0_1 l0_2 a1_0 a1_1 l1_2)))))) else (some false)))) else (some false)) = some r := H
   have A68 := Aside0.mk A680
   clear A680
   by_cases c69 : t141 = true
   ·
    subst c69
    have H1 : ((laws_toField.f kj24 a1_0 a1_1 l1_2).bind fun bt142 => ((laws_eqField.f kj24 t125 t126 t127 bt142.1 bt142.2.1 bt142.2.2).bind fun t147 => (if t147 = true then ((laws_markField.f kj24 t119 t120 t121 1).bind fun bt148 => ((laws_markField.f kj24 t125 t126 t127 bt148.1).bind fun bt150 => (if bt150.1 < 0 then (laws_FnExactNowcast.j1 kj24 a2 t115 t118 t131 true a0_0 a0_1 l0_2 a1_0 a1_1 l1_2) else ((laws_eqFieldS.f kj24 t131 t115).bind fun t152 => (if t152 = true then (laws_FnExactNowcast.j1 kj24 a2 t115 t118 t131 (t134 != t118) a0_0 a0_1 l0_2 a1_0 a1_1 l1_2) else (laws_FnExactNowcast.j1 kj24 a2 t115 t118 t131 true a0_0 a0_1 l0_2 a1_0 a1_1 l1_2)))))) else (some false)))) = some r := by rw [if_pos rfl] at H; exact H
    clear H
    have H := H1
    clear H1
    replace H := Option.bind_eq_some_iff.mp H
    obtain ⟨⟨t142, t143, t144⟩, A700, H⟩ := H
    replace H : ((laws_eqField.f kj24 t125 t126 t127 t142 t143 t144).bind fun t147 => (if t147 = true then ((laws_markField.f kj24 t119 t120 t121 1).bind fun bt148 => ((laws_markField.f kj24 t125 t126 t127 bt148.1).bind fun bt150 => (if bt150.1 < 0 then (laws_FnExactNowcast.j1 kj24 a2 t115 t118 t131 true a0_0 a0_1 l0_2 a1_0 a1_1 l1_2) else ((laws_eqFieldS.f kj24 t131 t115).bind fun t152 => (if t152 = true then (laws_FnExactNowcast.j1 kj24 a2 t115 t118 t131 (t134 != t118) a0_0 a0_1 l0_2 a1_0 a1_1 l1_2) else (laws_FnExactNowcast.j1 kj24 a2 t115 t118 t131 true a0_0 a0_1 l0_2 a1_0 a1_1 l1_2)))))) else (some false))) = some r := H
    have A70 := Aside0.mk A700
    clear A700
    replace H := Option.bind_eq_some_iff.mp H
    obtain ⟨t147, A710, H⟩ := H
    replace H : (if t147 = true then ((laws_markField.f kj24 t119 t120 t121 1).bind fun bt148 => ((laws_markField.f kj24 t125 t126 t127 bt148.1).bind fun bt150 => (if bt150.1 < 0 then (laws_FnExactNowcast.j1 kj24 a2 t115 t118 t131 true a0_0 a0_1 l0_2 a1_0 a1_1 l1_2) else ((laws_eqFieldS.f kj24 t131 t115).bind fun t152 => (if t152 = true then (laws_FnExactNowcast.j1 kj24 a2 t115 t118 t131 (t134 != t118) a0_0 a0_1 l0_2 a1_0 a1_1 l1_2) else (laws_FnExactNowcast.j1 kj24 a2 t115 t118 t131 true a0_0 a0_1 l0_2 a1_0 a1_1 l1_2)))))) else (some false)) = some r := H
    have A71 := Aside0.mk A710
    clear A710
    by_cases c72 : t147 = true
    ·
     subst c72
     have H1 : ((laws_markField.f kj24 t119 t120 t121 1).bind fun bt148 => ((laws_markField.f kj24 t125 t126 t127 bt148.1).bind fun bt150 => (if bt150.1 < 0 then (laws_FnExactNowcast.j1 kj24 a2 t115 t118 t131 true a0_0 a0_1 l0_2 a1_0 a1_1 l1_2) else ((laws_eqFieldS.f kj24 t131 t115).bind fun t152 => (if t152 = true then (laws_FnExactNowcast.j1 kj24 a2 t115 t118 t131 (t134 != t118) a0_0 a0_1 l0_2 a1_0 a1_1 l1_2) else (laws_FnExactNowcast.j1 kj24 a2 t115 t118 t131 true a0_0 a0_1 l0_2 a1_0 a1_1 l1_2)))))) = some r := by rw [if_pos rfl] at H; exact H
     clear H
     have H := H1
     clear H1
     replace H := Option.bind_eq_some_iff.mp H
     obtain ⟨⟨t148, t149⟩, A730, H⟩ := H
     replace H : ((laws_markField.f kj24 t125 t126 t127 t148).bind fun bt150 => (if bt150.1 < 0 then (laws_FnExactNowcast.j1 kj24 a2 t115 t118 t131 true a0_0 a0_1 l0_2 a1_0 a1_1 l1_2) else ((laws_eqFieldS.f kj24 t131 t115).bind fun t152 => (if t152 = true then (laws_FnExactNowcast.j1 kj24 a2 t115 t118 t131 (t134 != t118) a0_0 a0_1 l0_2 a1_0 a1_1 l1_2) else (laws_FnExactNowcast.j1 kj24 a2 t115 t118 t131 true a0_0 a0_1 l0_2 a1_0 a1_1 l1_2))))) = some r := H
     have A73 := Aside0.mk A730
     clear A730
     replace H := Option.bind_eq_some_iff.mp H
     obtain ⟨⟨t150, t151⟩, A740, H⟩ := H
     replace H : (if t150 < 0 then (laws_FnExactNowcast.j1 kj24 a2 t115 t118 t131 true a0_0 a0_1 l0_2 a1_0 a1_1 l1_2) else ((laws_eqFieldS.f kj24 t131 t115).bind fun t152 => (if t152 = true then (laws_FnExactNowcast.j1 kj24 a2 t115 t118 t131 (t134 != t118) a0_0 a0_1 l0_2 a1_0 a1_1 l1_2) else (laws_FnExactNowcast.j1 kj24 a2 t115 t118 t131 true a0_0 a0_1 l0_2 a1_0 a1_1 l1_2)))) = some r := H
     have A74 := Aside0.mk A740
     clear A740
     have HC75 := Aside0.mk H
     clear H
     try go_wp2
     have n0_ := aK (Kd.S_drew HO_8.out)
     have n1_ := aK (Kd.S_drew HO_12.out)
     have n2_ := aK (Kd.R_drew HO_125002.out)
     have n3_ := aK (Kd.R_drew HO_131002.out)
     have n4_ := aK (blk_drew BK101.out)
     have n5_ := aK (blk_drew BK102.out)
     have n6_ := aK (blk_drew BK124.out)
     have n7_ := aK (blk_drew BK130.out)
     have n8_ := aK (below_drew1 HB.out)
     clear HO_8 HO_12 HO_125002 HO_131002 BK101 BK102 BK124 BK130 HB
     have HO_8 := n0_
     have HO_12 := n1_
     have HO_125002 := n2_
     have HO_131002 := n3_
     have BK101 := n4_
     have BK102 := n5_
     have BK124 := n6_
     have BK130 := n7_
     have HB := n8_
     clear n0_ n1_ n2_ n3_ n4_ n5_ n6_ n7_ n8_
     refine start_ (n := 5) (S := fun w' => w'.cell? ⟨gb124, 0, none⟩ = some (.int .i64 t119) ∧ w'.cell? ⟨gb124, 1, none⟩ = some (.int .i64 t120) ∧ w'.cell? ⟨gb124, 2, none⟩ = some (.slice Ao45 t121.length co45) ∧ w'.cell? ⟨gb101, 0, none⟩ = some (.int .i64 a0_0) ∧ w'.cell? ⟨gb101, 1, none⟩ = some (.int .i64 a0_1) ∧ w'.cell? ⟨gb101, 2, none⟩ = some (.slice A0_2 l0_2.length c0_2)) (ds := []) #[false, false, false, false, false] (by kernel_rfl) rfl rfl (cj3 BK124.out (cz3 BK101.out)) (fun hHeld => ?_)
     generalize wc.drew = w76 at HO_8 HO_12 HO_125002 HO_131002 BK101 BK102 BK124 BK130 HB hHeld ⊢
     refine take_ (i := 0) (N := some 58) (v := ?_) (a' := ?_) #[true, false, false, false, false] rfl rfl (by kernel_rfl) (fun _ _ _ h => h) (Or.inl ⟨by rfl, ?_⟩) hHeld ?_ ?_
     rotate_left
     ·
      rintro w' ⟨s0, s1, s2, s3, s4, s5⟩
      go_simp
      with_reducible rfl
     rotate_left
     ·
      simp only [sP]
      rfl
     refine take_ (i := 1) (N := some 59) (v := ?_) (a' := ?_) #[true, true, false, false, false] rfl rfl (by kernel_rfl) (fun _ _ _ h => h) (Or.inl ⟨by rfl, ?_⟩) hHeld ?_ ?_
     rotate_left
     ·
      rintro w' ⟨s0, s1, s2, s3, s4, s5⟩
      go_simp
      with_reducible rfl
     rotate_left
     ·
      simp only [sP]
      rfl
     refine one_ (i := 2) (N := some 60) #[true, true, true, false, false] rfl rfl (by kernel_rfl) (by decide) (fun K hK => ?_)
     refine goes_ Try.func15 (by kernel_rfl) rfl #[.agg #[.int .i64 a0_0, .int .i64 a0_1, .slice A0_2 l0_2.length c0_2]] (by rfl) rfl rfl (by (try simp only [List.map_toArray, List.map_cons, List.map_nil]); first | done | rfl | (simp only [List.length_drop, List.length_take]; rfl)) ?_
     with_reducible refine (laws_toField.calls kj24 a0_0 a0_1 _ _ l0_2 t136 t137 t138 _ ?side1 ?side2 A67.out).mono ?_
     (case side1 => exact pC (Kd.C_below HR0_2.out HB.out))
     (case side2 => exact HC0_2.out)
     rintro e w77 ⟨v139, rfl, ho0, hb⟩
     refine ⟨_, rfl, ?_⟩
     have n0_ := aK (Kd.S_elder' (by (with_reducible repeat (first | apply Kd.S_alloc | apply Kd.S_drewN | apply Kd.S_drew)); exact HO_8.out) (Kd.R_base ho0) hb)
     have n1_ := aK (Kd.S_elder' (by (with_reducible repeat (first | apply Kd.S_alloc | apply Kd.S_drewN | apply Kd.S_drew)); exact HO_12.out) (Kd.R_base ho0) hb)
     have n2_ := aK (Kd.R_elder' (pR HO_125002.out) (Kd.R_base ho0) hb)
     have n3_ := aK (Kd.R_elder' (pR HO_131002.out) (Kd.R_base ho0) hb)
     have HO140 := aK (Kd.R_lower (nw2 ho0 (pR HO_125002.out) (pR HO_131002.out)) (below_size (pS HB.out)))
     replace BK101 := bB BK101 hb
     replace BK102 := bB BK102 hb
     replace BK124 := bB BK124 hb
     replace BK130 := bB BK130 hb
     replace HB := bS HB hb
     clear HO_8 HO_12 HO_125002 HO_131002
     have HO_8 := n0_
     have HO_12 := n1_
     have HO_125002 := n2_
     have HO_131002 := n3_
     clear n0_ n1_ n2_ n3_
     (try clear hb)
     (try clear hb2)
     (try clear hk)
     (try clear hi)
     (try clear ho0)
     obtain ⟨Ao78, co78, eo78⟩ := Kd.R_slice HO140.out
     (first | subst eo78 | (obtain ⟨f4_, f5_⟩ := sI eo78; subst f4_; subst f5_))
     refine hK.out _ _ (cj3 BK124.out (cz3 BK101.out)) (fun hHeld => ?_)
     clear hK K
     refine norm_ (a' := ?_) ?_ ?_
     rotate_left
     ·
      show Act.put _ (some 60) _ = _
      simp only [sP]
      rfl
     refine one_ (i := 3) (N := some 61) #[true, true, true, true, false] rfl rfl (by kernel_rfl) (by decide) (fun K hK => ?_)
     refine goes_ Try.func18 (by kernel_rfl) rfl #[.agg #[.int .i64 t119, .int .i64 t120, .slice Ao45 t121.length co45], .agg #[.int .i64 t136, .int .i64 t137, .slice Ao78 t138.length co78]] (by rfl) rfl rfl (by (try simp only [List.map_toArray, List.map_cons, List.map_nil]); first | done | rfl | (simp only [List.length_drop, List.length_take]; rfl)) ?_
     with_reducible refine (laws_eqField.calls kj24 t119 t120 _ _ t121 t136 t137 _ _ t138 true _ ?side1 ?side2 ?side3 ?side4 A68.out).mono ?_
     (case side1 => exact pC (Kd.R_reads' HO_125002.out).2.2)
     (case side2 => exact (Kd.R_reads' HO_125002.out).2.1)
     (case side3 => exact pC (Kd.R_reads' HO140.out).2.2)
     (case side4 => exact (Kd.R_reads' HO140.out).2.1)
     rintro e w79 ⟨rfl, hb⟩
     refine ⟨_, rfl, ?_⟩
     have n0_ := aK (Kd.S_below (by (with_reducible repeat (first | apply Kd.S_alloc | apply Kd.S_drewN | apply Kd.S_drew)); exact HO_8.out) hb)
     have n1_ := aK (Kd.S_below (by (with_reducible repeat (first | apply Kd.S_alloc | apply Kd.S_drewN | apply Kd.S_drew)); exact HO_12.out) hb)
     have n2_ := aK (Kd.R_below (pR HO_125002.out) hb)
     have n3_ := aK (Kd.R_below (pR HO_131002.out) hb)
     have n4_ := aK (Kd.R_below (pR HO140.out) hb)
     replace BK101 := bB BK101 hb
     replace BK102 := bB BK102 hb
     replace BK124 := bB BK124 hb
     replace BK130 := bB BK130 hb
     replace HB := bS HB hb
     clear HO_8 HO_12 HO_125002 HO_131002 HO140
     have HO_8 := n0_
     have HO_12 := n1_
     have HO_125002 := n2_
     have HO_131002 := n3_
     have HO140 := n4_
     clear n0_ n1_ n2_ n3_ n4_
     (try clear hb)
     (try clear hb2)
     (try clear hk)
     (try clear hi)
     refine hK.out _ _ (cj3 BK124.out (cz3 BK101.out)) (fun hHeld => ?_)
     clear hK K
     refine norm_ (a' := ?_) ?_ ?_
     rotate_left
     ·
      show Act.put _ (some 61) _ = _
      simp only [sP]
      rfl
     refine pure_ (i := 4) (N := some 62) (v := ?_) (a' := ?_) #[true, true, true, true, true] rfl rfl (by kernel_rfl) (fun _ _ _ h => h) (Or.inl ⟨by rfl, ?_⟩) ?_ ?_
     rotate_left
     ·
      intro w'
      go_simp
      with_reducible rfl
     rotate_left
     ·
      simp only [sP]
      rfl
     refine done_ (by kernel_rfl) ?_
     try go_wp2
     have n0_ := aK (Kd.S_drew HO_8.out)
     have n1_ := aK (Kd.S_drew HO_12.out)
     have n2_ := aK (Kd.R_drew HO_125002.out)
     have n3_ := aK (Kd.R_drew HO_131002.out)
     have n4_ := aK (Kd.R_drew HO140.out)
     have n5_ := aK (blk_drew BK101.out)
     have n6_ := aK (blk_drew BK102.out)
     have n7_ := aK (blk_drew BK124.out)
     have n8_ := aK (blk_drew BK130.out)
     have n9_ := aK (below_drew1 HB.out)
     clear HO_8 HO_12 HO_125002 HO_131002 HO140 BK101 BK102 BK124 BK130 HB
     have HO_8 := n0_
     have HO_12 := n1_
     have HO_125002 := n2_
     have HO_131002 := n3_
     have HO140 := n4_
     have BK101 := n5_
     have BK102 := n6_
     have BK124 := n7_
     have BK130 := n8_
     have HB := n9_
     clear n0_ n1_ n2_ n3_ n4_ n5_ n6_ n7_ n8_ n9_
     refine start_ (n := 5) (S := fun w' => w'.cell? ⟨gb130, 0, none⟩ = some (.int .i64 t125) ∧ w'.cell? ⟨gb130, 1, none⟩ = some (.int .i64 t126) ∧ w'.cell? ⟨gb130, 2, none⟩ = some (.slice Ao53 t127.length co53) ∧ w'.cell? ⟨gb102, 0, none⟩ = some (.int .i64 a1_0) ∧ w'.cell? ⟨gb102, 1, none⟩ = some (.int .i64 a1_1) ∧ w'.cell? ⟨gb102, 2, none⟩ = some (.slice A1_2 l1_2.length c1_2)) (ds := []) #[false, false, false, false, false] (by kernel_rfl) rfl rfl (cj3 BK130.out (cz3 BK102.out)) (fun hHeld => ?_)
     generalize w79.drew = w80 at HO_8 HO_12 HO_125002 HO_131002 HO140 BK101 BK102 BK124 BK130 HB hHeld ⊢
     refine take_ (i := 0) (N := some 63) (v := ?_) (a' := ?_) #[true, false, false, false, false] rfl rfl (by kernel_rfl) (fun _ _ _ h => h) (Or.inl ⟨by rfl, ?_⟩) hHeld ?_ ?_
     rotate_left
     ·
      rintro w' ⟨s0, s1, s2, s3, s4, s5⟩
      go_simp
      with_reducible rfl
     rotate_left
     ·
      simp only [sP]
      rfl
     refine take_ (i := 1) (N := some 64) (v := ?_) (a' := ?_) #[true, true, false, false, false] rfl rfl (by kernel_rfl) (fun _ _ _ h => h) (Or.inl ⟨by rfl, ?_⟩) hHeld ?_ ?_
     rotate_left
     ·
      rintro w' ⟨s0, s1, s2, s3, s4, s5⟩
      go_simp
      with_reducible rfl
     rotate_left
     ·
      simp only [sP]
      rfl
     refine one_ (i := 2) (N := some 65) #[true, true, true, false, false] rfl rfl (by kernel_rfl) (by decide) (fun K hK => ?_)
     refine goes_ Try.func15 (by kernel_rfl) rfl #[.agg #[.int .i64 a1_0, .int .i64 a1_1, .slice A1_2 l1_2.length c1_2]] (by rfl) rfl rfl (by (try simp only [List.map_toArray, List.map_cons, List.map_nil]); first | done | rfl | (simp only [List.length_drop, List.length_take]; rfl)) ?_
     with_reducible refine (laws_toField.calls kj24 a1_0 a1_1 _ _ l1_2 t142 t143 t144 _ ?side1 ?side2 A70.out).mono ?_
     (case side1 => exact pC (Kd.C_below HR1_2.out HB.out))
     (case side2 => exact HC1_2.out)
     rintro e w81 ⟨v145, rfl, ho0, hb⟩
     refine ⟨_, rfl, ?_⟩
     have n0_ := aK (Kd.S_elder' (by (with_reducible repeat (first | apply Kd.S_alloc | apply Kd.S_drewN | apply Kd.S_drew)); exact HO_8.out) (Kd.R_base ho0) hb)
     have n1_ := aK (Kd.S_elder' (by (with_reducible repeat (first | apply Kd.S_alloc | apply Kd.S_drewN | apply Kd.S_drew)); exact HO_12.out) (Kd.R_base ho0) hb)
     have n2_ := aK (Kd.R_elder' (pR HO_125002.out) (Kd.R_base ho0) hb)
     have n3_ := aK (Kd.R_elder' (pR HO_131002.out) (Kd.R_base ho0) hb)
     have n4_ := aK (Kd.R_elder' (pR HO140.out) (Kd.R_base ho0) hb)
     have HO146 := aK (Kd.R_lower (nw1 (nw2 ho0 (pR HO_125002.out) (pR HO_131002.out)) (pR HO140.out)) (below_size (pS HB.out)))
     replace BK101 := bB BK101 hb
     replace BK102 := bB BK102 hb
     replace BK124 := bB BK124 hb
     replace BK130 := bB BK130 hb
     replace HB := bS HB hb
     clear HO_8 HO_12 HO_125002 HO_131002 HO140
     have HO_8 := n0_
     have HO_12 := n1_
     have HO_125002 := n2_
     have HO_131002 := n3_
     have HO140 := n4_
     clear n0_ n1_ n2_ n3_ n4_
     (try clear hb)
     (try clear hb2)
     (try clear hk)
     (try clear hi)
     (try clear ho0)
     obtain ⟨Ao82, co82, eo82⟩ := Kd.R_slice HO146.out
     (first | subst eo82 | (obtain ⟨f4_, f5_⟩ := sI eo82; subst f4_; subst f5_))
     refine hK.out _ _ (cj3 BK130.out (cz3 BK102.out)) (fun hHeld => ?_)
     clear hK K
     refine norm_ (a' := ?_) ?_ ?_
     rotate_left
     ·
      show Act.put _ (some 65) _ = _
      simp only [sP]
      rfl
     refine one_ (i := 3) (N := some 66) #[true, true, true, true, false] rfl rfl (by kernel_rfl) (by decide) (fun K hK => ?_)
     refine goes_ Try.func18 (by kernel_rfl) rfl #[.agg #[.int .i64 t125, .int .i64 t126, .slice Ao53 t127.length co53], .agg #[.int .i64 t142, .int .i64 t143, .slice Ao82 t144.length co82]] (by rfl) rfl rfl (by (try simp only [List.map_toArray, List.map_cons, List.map_nil]); first | done | rfl | (simp only [List.length_drop, List.length_take]; rfl)) ?_
     with_reducible refine (laws_eqField.calls kj24 t125 t126 _ _ t127 t142 t143 _ _ t144 true _ ?side1 ?side2 ?side3 ?side4 A71.out).mono ?_
     (case side1 => exact pC (Kd.R_reads' HO_131002.out).2.2)
     (case side2 => exact (Kd.R_reads' HO_131002.out).2.1)
     (case side3 => exact pC (Kd.R_reads' HO146.out).2.2)
     (case side4 => exact (Kd.R_reads' HO146.out).2.1)
     rintro e w83 ⟨rfl, hb⟩
     refine ⟨_, rfl, ?_⟩
     have n0_ := aK (Kd.S_below (by (with_reducible repeat (first | apply Kd.S_alloc | apply Kd.S_drewN | apply Kd.S_drew)); exact HO_8.out) hb)
     have n1_ := aK (Kd.S_below (by (with_reducible repeat (first | apply Kd.S_alloc | apply Kd.S_drewN | apply Kd.S_drew)); exact HO_12.out) hb)
     have n2_ := aK (Kd.R_below (pR HO_125002.out) hb)
     have n3_ := aK (Kd.R_below (pR HO_131002.out) hb)
     have n4_ := aK (Kd.R_below (pR HO140.out) hb)
     have n5_ := aK (Kd.R_below (pR HO146.out) hb)
     replace BK101 := bB BK101 hb
     replace BK102 := bB BK102 hb
     replace BK124 := bB BK124 hb
     replace BK130 := bB BK130 hb
     replace HB := bS HB hb
     clear HO_8 HO_12 HO_125002 HO_131002 HO140 HO146
     have HO_8 := n0_
     have HO_12 := n1_
     have HO_125002 := n2_
     have HO_131002 := n3_
     have HO140 := n4_
     have HO146 := n5_
     clear n0_ n1_ n2_ n3_ n4_ n5_
     (try clear hb)
     (try clear hb2)
     (try clear hk)
     (try clear hi)
     refine hK.out _ _ (cj3 BK130.out (cz3 BK102.out)) (fun hHeld => ?_)
     clear hK K
     refine norm_ (a' := ?_) ?_ ?_
     rotate_left
     ·
      show Act.put _ (some 66) _ = _
      simp only [sP]
      rfl
     refine pure_ (i := 4) (N := some 67) (v := ?_) (a' := ?_) #[true, true, true, true, true] rfl rfl (by kernel_rfl) (fun _ _ _ h => h) (Or.inl ⟨by rfl, ?_⟩) ?_ ?_
     rotate_left
     ·
      intro w'
      go_simp
      with_reducible rfl
     rotate_left
     ·
      simp only [sP]
      rfl
     refine done_ (by kernel_rfl) ?_
     have hnb84 := NB124_101.out
     have hnc84 := NB101_124.out
     have hnb85 := NB124_102.out
     have hnc85 := NB102_124.out
     have hnb86 := NB124_130.out
     have hnc86 := NB130_124.out
     obtain ⟨hcz87_0, hcz87_1, hcz87_2, hfz87_0, hfz87_1, hfz87_2⟩ := bc3 BK124.out
     go_upto_region 21 with (first | ((with_reducible refine gate_callee (f := 19) rfl ?_); refine gl (some 70) Try.func19 #[.agg #[.int .i64 t119, .int .i64 t120, .slice Ao45 t121.length co45], .int .i64 1] ?_; (with_reducible refine (laws_markField.calls kj24 t119 t120 (fun k_ => some k_ = (.slice Ao45 t121.length co45 : Value).ownBlock) (.slice Ao45 t121.length co45) t121 1 t148 t149 w _ ?side1 ?side2 A73.out).mono ?_); (case side1 => exact pT HB.out); (case side2 => exact Kd.R_tight rfl HO_125002.out); rintro e w88 ⟨rfl, hy0, hb, hkp⟩; refine ⟨_, rfl, ?_⟩; have n0_ := aK (Kd.S_mono (ok' := fun k_ => some k_ ≠ (v132 : Value).ownBlock ∧ some k_ ≠ (.slice Ao45 t121.length co45 : Value).ownBlock ∧ some k_ ≠ (.slice Ao53 t127.length co53 : Value).ownBlock ∧ some k_ ≠ (.slice Ao78 t138.length co78 : Value).ownBlock ∧ some k_ ≠ (.slice Ao82 t144.length co82 : Value).ownBlock ∧ k_ ≠ gb124 ∧ k_ ≠ gb130 ∧ k_ < sz2 ∧ sz1 ≤ k_) (Kd.S_keptB (HO_8.out) hkp (fun k_ hk_ hs_ => (hk_.1.1.2.1) hs_)) (fun k_ hk_ => ⟨hk_.1.1.1.1, hk_.1.1.1.2.1, hk_.1.1.1.2.2.1, hk_.1.1.2, hk_.1.2, hk_.1.1.1.2.2.2.1, hk_.1.1.1.2.2.2.2.1, hk_.1.1.1.2.2.2.2.2.1, hk_.1.1.1.2.2.2.2.2.2⟩)); have n1_ := aK (Kd.S_mono (ok' := fun k_ => some k_ ≠ (v116 : Value).ownBlock ∧ some k_ ≠ (.slice Ao45 t121.length co45 : Value).ownBlock ∧ some k_ ≠ (.slice Ao53 t127.length co53 : Value).ownBlock ∧ some k_ ≠ (.slice Ao78 t138.length co78 : Value).ownBlock ∧ some k_ ≠ (.slice Ao82 t144.length co82 : Value).ownBlock ∧ k_ ≠ gb124 ∧ k_ ≠ gb130 ∧ sz2 ≤ k_) (Kd.S_keptB (HO_12.out) hkp (fun k_ hk_ hs_ => (hk_.1.1.2.1) hs_)) (fun k_ hk_ => ⟨hk_.1.1.1.1, hk_.1.1.1.2.1, hk_.1.1.1.2.2.1, hk_.1.1.2, hk_.1.2, hk_.1.1.1.2.2.2.1, hk_.1.1.1.2.2.2.2.1, hk_.1.1.1.2.2.2.2.2⟩)); have n2_ := aK (Kd.R_reok rfl hy0 (fun k_ e_ => HO_125002.out.1 k_ e_)); have n3_ := aK (Kd.R_mono (ok' := fun k_ => some k_ ≠ (.slice Ao45 t121.length co45 : Value).ownBlock ∧ some k_ ≠ (.slice Ao78 t138.length co78 : Value).ownBlock ∧ some k_ ≠ (.slice Ao82 t144.length co82 : Value).ownBlock) (Kd.R_keptB (HO_131002.out) hkp (fun k_ hk_ hs_ => (hk_.1.1) hs_)) (fun k_ hk_ => ⟨hk_.1.1.1, hk_.1.1.2, hk_.1.2⟩)); have n4_ := aK (blk_kept (pB BK101.out) hkp (fun hs_ => (fun e_ => (Kd.R_ne HO_125002.out BK101.out (by decide)) e_) hs_)); have n5_ := aK (blk_kept (pB BK102.out) hkp (fun hs_ => (fun e_ => (Kd.R_ne HO_125002.out BK102.out (by decide)) e_) hs_)); have n6_ := aK (blk_kept (pB BK124.out) hkp (fun hs_ => (fun e_ => (Kd.R_ne HO_125002.out BK124.out (by decide)) e_) hs_)); have n7_ := aK (blk_kept (pB BK130.out) hkp (fun hs_ => (fun e_ => (Kd.R_ne HO_125002.out BK130.out (by decide)) e_) hs_)); have n8_ := aK (Kd.R_mono (ok' := fun k_ => some k_ ≠ (.slice Ao45 t121.length co45 : Value).ownBlock ∧ some k_ ≠ (.slice Ao53 t127.length co53 : Value).ownBlock ∧ some k_ ≠ (.slice Ao82 t144.length co82 : Value).ownBlock) (Kd.R_keptB (HO140.out) hkp (fun k_ hk_ hs_ => (hk_.1.1.2) hs_)) (fun k_ hk_ => ⟨hk_.1.1.1.2, hk_.1.1.2, hk_.1.2⟩)); have n9_ := aK (Kd.R_mono (ok' := fun k_ => some k_ ≠ (.slice Ao45 t121.length co45 : Value).ownBlock ∧ some k_ ≠ (.slice Ao53 t127.length co53 : Value).ownBlock ∧ some k_ ≠ (.slice Ao78 t138.length co78 : Value).ownBlock) (Kd.R_keptB (HO146.out) hkp (fun k_ hk_ hs_ => (hk_.1.1.2) hs_)) (fun k_ hk_ => ⟨hk_.1.1.1.2, hk_.1.1.2, hk_.1.2⟩)); have n10_ := aK (hb); clear HO_8 HO_12 HO_125002 HO_131002 BK101 BK102 BK124 BK130 HO140 HO146 HB; have HO_8 := n0_; have HO_12 := n1_; have HO_125002 := n2_; have HO_131002 := n3_; have BK101 := n4_; have BK102 := n5_; have BK124 := n6_; have BK130 := n7_; have HO140 := n8_; have HO146 := n9_; have HB := n10_; clear n0_ n1_ n2_ n3_ n4_ n5_ n6_ n7_ n8_ n9_ n10_; (try clear hb); (try clear hkp); (try clear hy0); have hnb89 := NB130_101.out; have hnc89 := NB101_130.out; have hnb90 := NB130_102.out; have hnc90 := NB102_130.out; obtain ⟨hcz91_0, hcz91_1, hcz91_2, hfz91_0, hfz91_1, hfz91_2⟩ := bc3 BK130.out) | ((with_reducible refine gate_callee (f := 19) rfl ?_); refine gl (some 73) Try.func19 #[.agg #[.int .i64 t125, .int .i64 t126, .slice Ao53 t127.length co53], .int .i64 t148] ?_; (with_reducible refine (laws_markField.calls kj24 t125 t126 (fun k_ => some k_ = (.slice Ao53 t127.length co53 : Value).ownBlock) (.slice Ao53 t127.length co53) t127 t148 t150 t151 w _ ?side1 ?side2 A74.out).mono ?_); (case side1 => exact pT HB.out); (case side2 => exact Kd.R_tight rfl HO_131002.out); rintro e w92 ⟨rfl, hy0, hb, hkp⟩; refine ⟨_, rfl, ?_⟩; have n0_ := aK (Kd.S_mono (ok' := fun k_ => some k_ ≠ (v132 : Value).ownBlock ∧ some k_ ≠ (.slice Ao45 t121.length co45 : Value).ownBlock ∧ some k_ ≠ (.slice Ao53 t127.length co53 : Value).ownBlock ∧ some k_ ≠ (.slice Ao78 t138.length co78 : Value).ownBlock ∧ some k_ ≠ (.slice Ao82 t144.length co82 : Value).ownBlock ∧ k_ ≠ gb124 ∧ k_ ≠ gb130 ∧ k_ < sz2 ∧ sz1 ≤ k_) (Kd.S_keptB (HO_8.out) hkp (fun k_ hk_ hs_ => (hk_.2.2.1) hs_)) (fun k_ hk_ => ⟨hk_.1.1, hk_.1.2.1, hk_.1.2.2.1, hk_.1.2.2.2.1, hk_.1.2.2.2.2.1, hk_.1.2.2.2.2.2.1, hk_.1.2.2.2.2.2.2.1, hk_.1.2.2.2.2.2.2.2.1, hk_.1.2.2.2.2.2.2.2.2⟩)); have n1_ := aK (Kd.S_mono (ok' := fun k_ => some k_ ≠ (v116 : Value).ownBlock ∧ some k_ ≠ (.slice Ao45 t121.length co45 : Value).ownBlock ∧ some k_ ≠ (.slice Ao53 t127.length co53 : Value).ownBlock ∧ some k_ ≠ (.slice Ao78 t138.length co78 : Value).ownBlock ∧ some k_ ≠ (.slice Ao82 t144.length co82 : Value).ownBlock ∧ k_ ≠ gb124 ∧ k_ ≠ gb130 ∧ sz2 ≤ k_) (Kd.S_keptB (HO_12.out) hkp (fun k_ hk_ hs_ => (hk_.2.2.1) hs_)) (fun k_ hk_ => ⟨hk_.1.1, hk_.1.2.1, hk_.1.2.2.1, hk_.1.2.2.2.1, hk_.1.2.2.2.2.1, hk_.1.2.2.2.2.2.1, hk_.1.2.2.2.2.2.2.1, hk_.1.2.2.2.2.2.2.2⟩)); have n2_ := aK (Kd.R_mono (ok' := fun k_ => some k_ ≠ (.slice Ao53 t127.length co53 : Value).ownBlock ∧ some k_ ≠ (.slice Ao78 t138.length co78 : Value).ownBlock ∧ some k_ ≠ (.slice Ao82 t144.length co82 : Value).ownBlock) (Kd.R_keptB (HO_125002.out) hkp (fun k_ hk_ hs_ => (hk_.1.1) hs_)) (fun k_ hk_ => ⟨hk_.1.1.1, hk_.1.1.2, hk_.1.2⟩)); have n3_ := aK (Kd.R_reok rfl hy0 (fun k_ e_ => HO_131002.out.1 k_ e_)); have n4_ := aK (blk_kept (pB BK101.out) hkp (fun hs_ => (fun e_ => (Kd.R_ne HO_131002.out BK101.out (by decide)) e_) hs_)); have n5_ := aK (blk_kept (pB BK102.out) hkp (fun hs_ => (fun e_ => (Kd.R_ne HO_131002.out BK102.out (by decide)) e_) hs_)); have n6_ := aK (blk_kept (pB BK124.out) hkp (fun hs_ => (fun e_ => (Kd.R_ne HO_131002.out BK124.out (by decide)) e_) hs_)); have n7_ := aK (blk_kept (pB BK130.out) hkp (fun hs_ => (fun e_ => (Kd.R_ne HO_131002.out BK130.out (by decide)) e_) hs_)); have n8_ := aK (Kd.R_mono (ok' := fun k_ => some k_ ≠ (.slice Ao45 t121.length co45 : Value).ownBlock ∧ some k_ ≠ (.slice Ao53 t127.length co53 : Value).ownBlock ∧ some k_ ≠ (.slice Ao82 t144.length co82 : Value).ownBlock) (Kd.R_keptB (HO140.out) hkp (fun k_ hk_ hs_ => (hk_.2.1) hs_)) (fun k_ hk_ => ⟨hk_.1.1, hk_.1.2.1, hk_.1.2.2⟩)); have n9_ := aK (Kd.R_mono (ok' := fun k_ => some k_ ≠ (.slice Ao45 t121.length co45 : Value).ownBlock ∧ some k_ ≠ (.slice Ao53 t127.length co53 : Value).ownBlock ∧ some k_ ≠ (.slice Ao78 t138.length co78 : Value).ownBlock) (Kd.R_keptB (HO146.out) hkp (fun k_ hk_ hs_ => (hk_.2.1) hs_)) (fun k_ hk_ => ⟨hk_.1.1, hk_.1.2.1, hk_.1.2.2⟩)); have n10_ := aK (hb); clear HO_8 HO_12 HO_125002 HO_131002 BK101 BK102 BK124 BK130 HO140 HO146 HB; have HO_8 := n0_; have HO_12 := n1_; have HO_125002 := n2_; have HO_131002 := n3_; have BK101 := n4_; have BK102 := n5_; have BK124 := n6_; have BK130 := n7_; have HO140 := n8_; have HO146 := n9_; have HB := n10_; clear n0_ n1_ n2_ n3_ n4_ n5_ n6_ n7_ n8_ n9_ n10_; (try clear hb); (try clear hkp); (try clear hy0)))
     (try simp only [Act.put, List.setIfInBounds_toArray, List.set_cons_zero, List.set_cons_succ])
     go_cut [86] (fun v86 wc => ∃ (kq : Nat) (x86_74 : Bool), v86 = .bool x86_74 ∧ Aside0 (laws_FnExactNowcast.j1 kq a2 t115 t118 t131 x86_74 a0_0 a0_1 l0_2 a1_0 a1_1 l1_2 = some r) ∧ Aside0 (kq ≤ kj24) ∧ Aside0 (Kd.S k29 29 wc w.heap.size (fun k_ => some k_ ≠ (v132 : Value).ownBlock ∧ some k_ ≠ ((.slice Ao45 t121.length co45) : Value).ownBlock ∧ some k_ ≠ ((.slice Ao53 t127.length co53) : Value).ownBlock ∧ k_ ≠ gb124 ∧ k_ ≠ gb130 ∧ k_ < sz2 ∧ sz1 ≤ k_) v116 t115) ∧ Aside0 (Kd.S k29 29 wc w.heap.size (fun k_ => some k_ ≠ (v116 : Value).ownBlock ∧ some k_ ≠ ((.slice Ao45 t121.length co45) : Value).ownBlock ∧ some k_ ≠ ((.slice Ao53 t127.length co53) : Value).ownBlock ∧ k_ ≠ gb124 ∧ k_ ≠ gb130 ∧ sz2 ≤ k_) v132 t131) ∧ Aside0 (Kd.R (Kd.int .i64) 3 wc w.heap.size (fun k_ => some k_ ≠ ((.slice Ao53 t127.length co53) : Value).ownBlock) (.slice Ao45 t121.length co45) t149) ∧ Aside0 (Kd.R (Kd.int .i64) 3 wc w.heap.size (fun k_ => some k_ ≠ ((.slice Ao45 t121.length co45) : Value).ownBlock) (.slice Ao53 t127.length co53) t151) ∧ Aside0 (wc.heap[gb101]? = some (.cells #[.int .i64 a0_0, .int .i64 a0_1, (.slice A0_2 l0_2.length c0_2)] 24 (0, 0))) ∧ Aside0 (wc.heap[gb102]? = some (.cells #[.int .i64 a1_0, .int .i64 a1_1, (.slice A1_2 l1_2.length c1_2)] 24 (0, 0))) ∧ Aside0 (wc.heap[gb124]? = some (.cells #[.int .i64 t119, .int .i64 t120, (.slice Ao45 t121.length co45)] 29 (0, 0))) ∧ Aside0 (wc.heap[gb130]? = some (.cells #[.int .i64 t125, .int .i64 t126, (.slice Ao53 t127.length co53)] 29 (0, 0))) ∧ Aside0 (Below w.heap.size w wc))
     case first => as_aux_lemma =>
      have H := HC75.out
      clear HC75
      by_cases c93 : t150 < 0
      ·
       rw [if_pos c93] at H
       have c93b0 : decide (t150 < 0) = true := decide_eq_true c93
       clear c93
       (first | rw [c93b0] | (simp only [i64_w, i32_w]; rw [c93b0]) | skip)
       have H' := Aside0.mk H
       clear H
       go_wp2
       go_meet
       case rel => exact ⟨_, (true), (by first | rfl | (simp; done) | (simp [*]; done)), H', ⟨by have := HJ24.out; first | omega | exact Nat.le_refl _⟩, ⟨by (with_reducible repeat (first | apply Kd.S_alloc | apply Kd.S_drewN | apply Kd.S_drew)); exact Kd.S_mono HO_8.out (fun _ hk => ⟨hk.1, ⟨hk.2.1, ⟨hk.2.2.1, ⟨hk.2.2.2.2.2.1, ⟨hk.2.2.2.2.2.2.1, ⟨hk.2.2.2.2.2.2.2.1, hk.2.2.2.2.2.2.2.2⟩⟩⟩⟩⟩⟩)⟩, ⟨by (with_reducible repeat (first | apply Kd.S_alloc | apply Kd.S_drewN | apply Kd.S_drew)); exact Kd.S_mono HO_12.out (fun _ hk => ⟨hk.1, ⟨hk.2.1, ⟨hk.2.2.1, ⟨hk.2.2.2.2.2.1, ⟨hk.2.2.2.2.2.2.1, hk.2.2.2.2.2.2.2⟩⟩⟩⟩⟩)⟩, ⟨pR (Kd.R_mono HO_125002.out (fun _ hk => hk.1))⟩, ⟨pR (Kd.R_mono HO_131002.out (fun _ hk => hk.1))⟩, ⟨by refine bk ?_; exact BK101.out⟩, ⟨by refine bk ?_; exact BK102.out⟩, ⟨by refine bk ?_; exact BK124.out⟩, ⟨by refine bk ?_; exact BK130.out⟩, ⟨pT HB.out⟩⟩
      rw [if_neg c93] at H
      have c93b0 : decide (t150 < 0) = false := decide_eq_false c93
      clear c93
      (first | rw [c93b0] | (simp only [i64_w, i32_w]; rw [c93b0]) | skip)
      replace H := Option.bind_eq_some_iff.mp H
      obtain ⟨t152, A940, H⟩ := H
      replace H : (if t152 = true then (laws_FnExactNowcast.j1 kj24 a2 t115 t118 t131 (t134 != t118) a0_0 a0_1 l0_2 a1_0 a1_1 l1_2) else (laws_FnExactNowcast.j1 kj24 a2 t115 t118 t131 true a0_0 a0_1 l0_2 a1_0 a1_1 l1_2)) = some r := H
      have A94 := Aside0.mk A940
      clear A940
      by_cases c95 : t152 = true
      ·
       subst c95
       have H1 : (laws_FnExactNowcast.j1 kj24 a2 t115 t118 t131 (t134 != t118) a0_0 a0_1 l0_2 a1_0 a1_1 l1_2) = some r := by rw [if_pos rfl] at H; exact H
       clear H
       have H := H1
       clear H1
       have H' := Aside0.mk H
       clear H
       obtain ⟨Ao96, co96, eo96⟩ := Kd.S_slice HO_12.out
       subst eo96
       obtain ⟨Ao97, co97, eo97⟩ := Kd.S_slice HO_8.out
       subst eo97
       go_wp2_with (first | (go_at_call 33; (with_reducible refine (laws_eqFieldS.calls kj24 _ _ t131 _ _ t115 true _ ?side1 ?side2 ?side3 ?side4 A94.out).mono ?_); (case side1 => exact pC (Kd.S_reads' HO_12.out).2.2); (case side2 => exact (Kd.S_reads' HO_12.out).2.1); (case side3 => exact pC (Kd.S_reads' HO_8.out).2.2); (case side4 => exact (Kd.S_reads' HO_8.out).2.1); rintro e w98 ⟨rfl, hb⟩; have n0_ := aK (Kd.S_below (by (with_reducible repeat (first | apply Kd.S_alloc | apply Kd.S_drewN | apply Kd.S_drew)); exact HO_8.out) hb); have n1_ := aK (Kd.S_below (by (with_reducible repeat (first | apply Kd.S_alloc | apply Kd.S_drewN | apply Kd.S_drew)); exact HO_12.out) hb); have n2_ := aK (Kd.R_below (pR HO_125002.out) hb); have n3_ := aK (Kd.R_below (pR HO_131002.out) hb); have n4_ := aK (Kd.R_below (pR HO140.out) hb); have n5_ := aK (Kd.R_below (pR HO146.out) hb); replace BK101 := bB BK101 hb; replace BK102 := bB BK102 hb; replace BK124 := bB BK124 hb; replace BK130 := bB BK130 hb; replace HB := bS HB hb; clear HO_8 HO_12 HO_125002 HO_131002 HO140 HO146; have HO_8 := n0_; have HO_12 := n1_; have HO_125002 := n2_; have HO_131002 := n3_; have HO140 := n4_; have HO146 := n5_; clear n0_ n1_ n2_ n3_ n4_ n5_; (try clear hb); (try clear hb2); (try clear hk); (try clear hi)))
       go_meet
       case rel => exact ⟨_, ((t134 != t118)), (by first | rfl | (simp; done) | (simp [*]; done)), H', ⟨by have := HJ24.out; first | omega | exact Nat.le_refl _⟩, ⟨by (with_reducible repeat (first | apply Kd.S_alloc | apply Kd.S_drewN | apply Kd.S_drew)); exact Kd.S_mono HO_8.out (fun _ hk => ⟨hk.1, ⟨hk.2.1, ⟨hk.2.2.1, ⟨hk.2.2.2.2.2.1, ⟨hk.2.2.2.2.2.2.1, ⟨hk.2.2.2.2.2.2.2.1, hk.2.2.2.2.2.2.2.2⟩⟩⟩⟩⟩⟩)⟩, ⟨by (with_reducible repeat (first | apply Kd.S_alloc | apply Kd.S_drewN | apply Kd.S_drew)); exact Kd.S_mono HO_12.out (fun _ hk => ⟨hk.1, ⟨hk.2.1, ⟨hk.2.2.1, ⟨hk.2.2.2.2.2.1, ⟨hk.2.2.2.2.2.2.1, hk.2.2.2.2.2.2.2⟩⟩⟩⟩⟩)⟩, ⟨pR (Kd.R_mono HO_125002.out (fun _ hk => hk.1))⟩, ⟨pR (Kd.R_mono HO_131002.out (fun _ hk => hk.1))⟩, ⟨by refine bk ?_; exact BK101.out⟩, ⟨by refine bk ?_; exact BK102.out⟩, ⟨by refine bk ?_; exact BK124.out⟩, ⟨by refine bk ?_; exact BK130.out⟩, ⟨pT HB.out⟩⟩
      replace c95 := Bool.eq_false_iff.mpr c95
      subst c95
      have H1 : (laws_FnExactNowcast.j1 kj24 a2 t115 t118 t131 true a0_0 a0_1 l0_2 a1_0 a1_1 l1_2) = some r := by rw [if_neg (show ¬ (false = true) by decide)] at H; exact H
      clear H
      have H := H1
      clear H1
      have H' := Aside0.mk H
      clear H
      obtain ⟨Ao99, co99, eo99⟩ := Kd.S_slice HO_12.out
      subst eo99
      obtain ⟨Ao100, co100, eo100⟩ := Kd.S_slice HO_8.out
      subst eo100
      go_wp2_with (first | (go_at_call 33; (with_reducible refine (laws_eqFieldS.calls kj24 _ _ t131 _ _ t115 false _ ?side1 ?side2 ?side3 ?side4 A94.out).mono ?_); (case side1 => exact pC (Kd.S_reads' HO_12.out).2.2); (case side2 => exact (Kd.S_reads' HO_12.out).2.1); (case side3 => exact pC (Kd.S_reads' HO_8.out).2.2); (case side4 => exact (Kd.S_reads' HO_8.out).2.1); rintro e w101 ⟨rfl, hb⟩; have n0_ := aK (Kd.S_below (by (with_reducible repeat (first | apply Kd.S_alloc | apply Kd.S_drewN | apply Kd.S_drew)); exact HO_8.out) hb); have n1_ := aK (Kd.S_below (by (with_reducible repeat (first | apply Kd.S_alloc | apply Kd.S_drewN | apply Kd.S_drew)); exact HO_12.out) hb); have n2_ := aK (Kd.R_below (pR HO_125002.out) hb); have n3_ := aK (Kd.R_below (pR HO_131002.out) hb); have n4_ := aK (Kd.R_below (pR HO140.out) hb); have n5_ := aK (Kd.R_below (pR HO146.out) hb); replace BK101 := bB BK101 hb; replace BK102 := bB BK102 hb; replace BK124 := bB BK124 hb; replace BK130 := bB BK130 hb; replace HB := bS HB hb; clear HO_8 HO_12 HO_125002 HO_131002 HO140 HO146; have HO_8 := n0_; have HO_12 := n1_; have HO_125002 := n2_; have HO_131002 := n3_; have HO140 := n4_; have HO146 := n5_; clear n0_ n1_ n2_ n3_ n4_ n5_; (try clear hb); (try clear hb2); (try clear hk); (try clear hi)))
      go_meet
      case rel => exact ⟨_, (true), (by first | rfl | (simp; done) | (simp [*]; done)), H', ⟨by have := HJ24.out; first | omega | exact Nat.le_refl _⟩, ⟨by (with_reducible repeat (first | apply Kd.S_alloc | apply Kd.S_drewN | apply Kd.S_drew)); exact Kd.S_mono HO_8.out (fun _ hk => ⟨hk.1, ⟨hk.2.1, ⟨hk.2.2.1, ⟨hk.2.2.2.2.2.1, ⟨hk.2.2.2.2.2.2.1, ⟨hk.2.2.2.2.2.2.2.1, hk.2.2.2.2.2.2.2.2⟩⟩⟩⟩⟩⟩)⟩, ⟨by (with_reducible repeat (first | apply Kd.S_alloc | apply Kd.S_drewN | apply Kd.S_drew)); exact Kd.S_mono HO_12.out (fun _ hk => ⟨hk.1, ⟨hk.2.1, ⟨hk.2.2.1, ⟨hk.2.2.2.2.2.1, ⟨hk.2.2.2.2.2.2.1, hk.2.2.2.2.2.2.2⟩⟩⟩⟩⟩)⟩, ⟨pR (Kd.R_mono HO_125002.out (fun _ hk => hk.1))⟩, ⟨pR (Kd.R_mono HO_131002.out (fun _ hk => hk.1))⟩, ⟨by refine bk ?_; exact BK101.out⟩, ⟨by refine bk ?_; exact BK102.out⟩, ⟨by refine bk ?_; exact BK124.out⟩, ⟨by refine bk ?_; exact BK130.out⟩, ⟨pT HB.out⟩⟩
     case rest => as_aux_lemma =>
      clear HC75
      try clear c1
      try clear c2
      try clear p2
      try clear c3
      try clear c4
      try clear c5
      try clear c5b0
      try clear c6
      try clear c7
      try clear c8
      try clear c9
      try clear c11
      try clear c11b0
      try clear c13
      try clear c14
      try clear c15
      try clear c18
      try clear c19
      try clear c28
      try clear c31
      try clear c32
      try clear c33
      try clear c42
      try clear c43
      try clear c49
      try clear c50
      try clear c51
      try clear c59
      try clear c66
      try clear c69
      try clear c72
      try clear c84
      try clear c85
      try clear c86
      try clear c89
      try clear c90
      try clear c93
      try clear c93b0
      try clear c95
      try clear hcz15_0
      try clear hcz15_1
      try clear hcz15_2
      try clear hcz17_0
      try clear hcz17_1
      try clear hcz17_2
      try clear hcz29_0
      try clear hcz29_1
      try clear hcz29_2
      try clear hcz31_0
      try clear hcz31_1
      try clear hcz31_2
      try clear hcz39_0
      try clear hcz39_1
      try clear hcz39_2
      try clear hcz44_0
      try clear hcz44_1
      try clear hcz44_2
      try clear hcz46_0
      try clear hcz46_1
      try clear hcz46_2
      try clear hcz52_0
      try clear hcz52_1
      try clear hcz52_2
      try clear hcz55_0
      try clear hcz55_1
      try clear hcz55_2
      try clear hcz56_0
      try clear hcz56_1
      try clear hcz56_2
      try clear hcz87_0
      try clear hcz87_1
      try clear hcz87_2
      try clear hcz8_0
      try clear hcz8_1
      try clear hcz8_2
      try clear hcz91_0
      try clear hcz91_1
      try clear hcz91_2
      try clear hfz15_0
      try clear hfz15_1
      try clear hfz15_2
      try clear hfz17_0
      try clear hfz17_1
      try clear hfz17_2
      try clear hfz29_0
      try clear hfz29_1
      try clear hfz29_2
      try clear hfz31_0
      try clear hfz31_1
      try clear hfz31_2
      try clear hfz39_0
      try clear hfz39_1
      try clear hfz39_2
      try clear hfz44_0
      try clear hfz44_1
      try clear hfz44_2
      try clear hfz46_0
      try clear hfz46_1
      try clear hfz46_2
      try clear hfz52_0
      try clear hfz52_1
      try clear hfz52_2
      try clear hfz55_0
      try clear hfz55_1
      try clear hfz55_2
      try clear hfz56_0
      try clear hfz56_1
      try clear hfz56_2
      try clear hfz87_0
      try clear hfz87_1
      try clear hfz87_2
      try clear hfz8_0
      try clear hfz8_1
      try clear hfz8_2
      try clear hfz91_0
      try clear hfz91_1
      try clear hfz91_2
      try clear p2
      obtain ⟨kq, x86_74, rfl, HA, HJ74, HO_8, HO_12, HO_125002, HO_131002, BK101, BK102, BK124, BK130, HB⟩ := hcut
      have hl125002_74 := (Kd.R_reads' HO_125002.out).1
      rw [hl125002_74] at HO_125002
      (try simp only [hl125002_74])
      (try simp only [hl125002_74] at BK101)
      (try simp only [hl125002_74] at BK102)
      (try simp only [hl125002_74] at BK124)
      (try simp only [hl125002_74] at BK130)
      (try simp only [hl125002_74] at HO_8)
      (try simp only [hl125002_74] at HO_12)
      (try simp only [hl125002_74] at HO_131002)
      have hl131002_74 := (Kd.R_reads' HO_131002.out).1
      rw [hl131002_74] at HO_131002
      (try simp only [hl131002_74])
      (try simp only [hl131002_74] at BK101)
      (try simp only [hl131002_74] at BK102)
      (try simp only [hl131002_74] at BK124)
      (try simp only [hl131002_74] at BK130)
      (try simp only [hl131002_74] at HO_8)
      (try simp only [hl131002_74] at HO_12)
      (try simp only [hl131002_74] at HO_125002)
      cases kq with
      | zero => exact absurd HA.out (by simp [laws_FnExactNowcast.j1])
      | succ kj74 =>
       have H := HA.out
       clear HA
       simp only [laws_FnExactNowcast.j1] at H
       by_cases c102 : x86_74 = true
       ·
        subst c102
        have H1 : (some false) = some r := by rw [if_pos rfl] at H; exact H
        clear H
        have H := H1
        clear H1
        obtain rfl := Option.some.inj H
        go_wp2
        go_ret
        exact ⟨er, pT HB.out⟩
       replace c102 := Bool.eq_false_iff.mpr c102
       subst c102
       have H1 : ((laws_markFieldS.f kj74 t131 1).bind fun bt153 => ((laws_heldFieldS.f kj74 bt153.2 1).bind fun t155 => (if t155 < 0 then (some false) else (if t155 = bt153.1 then ((laws_toField.f kj74 a0_0 a0_1 l0_2).bind fun bt156 => ((laws_toField.f kj74 a1_0 a1_1 l1_2).bind fun bt161 => ((impl_Nowcast.f kj74 bt156.1 bt156.2.1 bt156.2.2 bt161.1 bt161.2.1 bt161.2.2 a2).bind fun bt166 => ((laws_eqFieldS.f kj74 bt166.1 t115).bind fun t170 => (if t170 = true then (laws_FnExactNowcast.j2 kj74 bt153.2 bt153.1 (bt166.2 != t118)) else (laws_FnExactNowcast.j2 kj74 bt153.2 bt153.1 true)))))) else (some false))))) = some r := by rw [if_neg (show ¬ (false = true) by decide)] at H; exact H
       clear H
       have H := H1
       clear H1
       replace H := Option.bind_eq_some_iff.mp H
       obtain ⟨⟨t153, t154⟩, A1030, H⟩ := H
       replace H : ((laws_heldFieldS.f kj74 t154 1).bind fun t155 => (if t155 < 0 then (some false) else (if t155 = t153 then ((laws_toField.f kj74 a0_0 a0_1 l0_2).bind fun bt156 => ((laws_toField.f kj74 a1_0 a1_1 l1_2).bind fun bt161 => ((impl_Nowcast.f kj74 bt156.1 bt156.2.1 bt156.2.2 bt161.1 bt161.2.1 bt161.2.2 a2).bind fun bt166 => ((laws_eqFieldS.f kj74 bt166.1 t115).bind fun t170 => (if t170 = true then (laws_FnExactNowcast.j2 kj74 t154 t153 (bt166.2 != t118)) else (laws_FnExactNowcast.j2 kj74 t154 t153 true)))))) else (some false)))) = some r := H
       have A103 := Aside0.mk A1030
       clear A1030
       replace H := Option.bind_eq_some_iff.mp H
       obtain ⟨t155, A1040, H⟩ := H
       replace H : (if t155 < 0 then (some false) else (if t155 = t153 then ((laws_toField.f kj74 a0_0 a0_1 l0_2).bind fun bt156 => ((laws_toField.f kj74 a1_0 a1_1 l1_2).bind fun bt161 => ((impl_Nowcast.f kj74 bt156.1 bt156.2.1 bt156.2.2 bt161.1 bt161.2.1 bt161.2.2 a2).bind fun bt166 => ((laws_eqFieldS.f kj74 bt166.1 t115).bind fun t170 => (if t170 = true then (laws_FnExactNowcast.j2 kj74 t154 t153 (bt166.2 != t118)) else (laws_FnExactNowcast.j2 kj74 t154 t153 true)))))) else (some false))) = some r := H
       have A104 := Aside0.mk A1040
       clear A1040
       by_cases c105 : t155 < 0
       ·
        rw [if_pos c105] at H
        have c105b0 : decide (t155 < 0) = true := decide_eq_true c105
        clear c105
        obtain rfl := Option.some.inj H
        obtain ⟨Ao106, co106, eo106⟩ := Kd.S_slice HO_12.out
        subst eo106
        go_wp2_with (first | ((with_reducible refine gate_callee (f := 34) rfl ?_); refine gl (some 89) Try.func34 #[.slice Ao106 t131.length co106, .int .i64 1] ?_; (with_reducible refine (laws_markFieldS.calls kj74 (fun k_ => ((some k_ ≠ (v116 : Value).ownBlock ∧ (some k_ ≠ (.slice Ao45 t149.length co45 : Value).ownBlock ∧ (some k_ ≠ (.slice Ao53 t151.length co53 : Value).ownBlock ∧ (k_ ≠ gb124 ∧ (k_ ≠ gb130 ∧ sz2 ≤ k_))))) ∧ w.heap.size ≤ k_)) (.slice Ao106 t131.length co106) t131 1 t153 t154 w _ ?side1 ?side2 A103.out).mono ?_); (case side1 => exact pT HB.out); (case side2 => exact Kd.S_mono (Kd.S_bound (HO_12.out)) (fun k_ hk_ => ⟨hk_.1, hk_.2.1⟩)); rintro e w107 ⟨rfl, hy0, hb, hkp⟩; refine ⟨_, rfl, ?_⟩; have n0_ := aK (Kd.S_mono (ok' := fun k_ => some k_ ≠ (.slice Ao106 t131.length co106 : Value).ownBlock ∧ some k_ ≠ (.slice Ao45 t149.length co45 : Value).ownBlock ∧ some k_ ≠ (.slice Ao53 t151.length co53 : Value).ownBlock ∧ k_ ≠ gb124 ∧ k_ ≠ gb130 ∧ k_ < sz2 ∧ sz1 ≤ k_) (Kd.S_keptB ((Kd.S_mono (ok' := fun k_ => (some k_ ≠ (.slice Ao106 t131.length co106 : Value).ownBlock ∧ (some k_ ≠ (.slice Ao45 t149.length co45 : Value).ownBlock ∧ (some k_ ≠ (.slice Ao53 t151.length co53 : Value).ownBlock ∧ (k_ ≠ gb124 ∧ (k_ ≠ gb130 ∧ (k_ < sz2 ∧ sz1 ≤ k_)))))) ∧ ¬ ((some k_ ≠ (v116 : Value).ownBlock ∧ (some k_ ≠ (.slice Ao45 t149.length co45 : Value).ownBlock ∧ (some k_ ≠ (.slice Ao53 t151.length co53 : Value).ownBlock ∧ (k_ ≠ gb124 ∧ (k_ ≠ gb130 ∧ sz2 ≤ k_))))) ∧ w.heap.size ≤ k_)) HO_8.out (fun k_ hk => ⟨hk, fun hs_ => Nat.lt_irrefl _ (Nat.lt_of_lt_of_le (hk.2.2.2.2.2.1) (hs_.1.2.2.2.2.2))⟩))) hkp (fun k_ hk_ hs_ => (hk_.2) hs_)) (fun k_ hk_ => ⟨hk_.1.1.1, hk_.1.1.2.1, hk_.1.1.2.2.1, hk_.1.1.2.2.2.1, hk_.1.1.2.2.2.2.1, hk_.1.1.2.2.2.2.2.1, hk_.1.1.2.2.2.2.2.2⟩)); have n1_ := aK (Kd.S_mono (ok' := fun k_ => (some k_ ≠ (v116 : Value).ownBlock ∧ (some k_ ≠ (.slice Ao45 t149.length co45 : Value).ownBlock ∧ (some k_ ≠ (.slice Ao53 t151.length co53 : Value).ownBlock ∧ (k_ ≠ gb124 ∧ k_ ≠ gb130))))) hy0 (fun k_ hk_ => Or.elim hk_ (fun h_ => ⟨h_.1.1, ⟨h_.1.2.1, ⟨h_.1.2.2.1, ⟨h_.1.2.2.2.1, h_.1.2.2.2.2.1⟩⟩⟩⟩) (fun h_ => ⟨(fun e_ => Nat.not_le.2 (Kd.S_lt HO_8.out k_ e_.symm) h_), ⟨(fun e_ => Nat.not_le.2 (Kd.R_lt HO_125002.out k_ e_.symm) h_), ⟨(fun e_ => Nat.not_le.2 (Kd.R_lt HO_131002.out k_ e_.symm) h_), ⟨(fun e_ => Nat.not_le.2 (by rw [e_]; exact blk_lt BK124.out) h_), (fun e_ => Nat.not_le.2 (by rw [e_]; exact blk_lt BK130.out) h_)⟩⟩⟩⟩))); have n2_ := aK (Kd.R_mono (ok' := fun k_ => some k_ ≠ (.slice Ao53 t151.length co53 : Value).ownBlock) (Kd.R_keptB ((Kd.R_mono (ok' := fun k_ => some k_ ≠ (.slice Ao53 t151.length co53 : Value).ownBlock ∧ ¬ ((some k_ ≠ (v116 : Value).ownBlock ∧ (some k_ ≠ (.slice Ao45 t149.length co45 : Value).ownBlock ∧ (some k_ ≠ (.slice Ao53 t151.length co53 : Value).ownBlock ∧ (k_ ≠ gb124 ∧ (k_ ≠ gb130 ∧ sz2 ≤ k_))))) ∧ w.heap.size ≤ k_)) (Kd.R_tight2 rfl HO_125002.out) (fun k_ hk => ⟨hk.2, fun hs_ => (hs_.1.2.1) hk.1⟩))) hkp (fun k_ hk_ hs_ => (hk_.2) hs_)) (fun k_ hk_ => hk_.1.1)); have n3_ := aK (Kd.R_mono (ok' := fun k_ => some k_ ≠ (.slice Ao45 t149.length co45 : Value).ownBlock) (Kd.R_keptB ((Kd.R_mono (ok' := fun k_ => some k_ ≠ (.slice Ao45 t149.length co45 : Value).ownBlock ∧ ¬ ((some k_ ≠ (v116 : Value).ownBlock ∧ (some k_ ≠ (.slice Ao45 t149.length co45 : Value).ownBlock ∧ (some k_ ≠ (.slice Ao53 t151.length co53 : Value).ownBlock ∧ (k_ ≠ gb124 ∧ (k_ ≠ gb130 ∧ sz2 ≤ k_))))) ∧ w.heap.size ≤ k_)) (Kd.R_tight2 rfl HO_131002.out) (fun k_ hk => ⟨hk.2, fun hs_ => (hs_.1.2.2.1) hk.1⟩))) hkp (fun k_ hk_ hs_ => (hk_.2) hs_)) (fun k_ hk_ => hk_.1.1)); have n4_ := aK (blk_kept (pB BK124.out) hkp (fun hs_ => (fun e_ => (e_.1.2.2.2.1) rfl) hs_)); have n5_ := aK (blk_kept (pB BK130.out) hkp (fun hs_ => (fun e_ => (e_.1.2.2.2.2.1) rfl) hs_)); have n6_ := aK (hb); clear HO_8 HO_12 HO_125002 HO_131002 BK124 BK130 HB; have HO_8 := n0_; have HO_12 := n1_; have HO_125002 := n2_; have HO_131002 := n3_; have BK124 := n4_; have BK130 := n5_; have HB := n6_; clear n0_ n1_ n2_ n3_ n4_ n5_ n6_; (try clear hb); (try clear hkp); (try clear hy0)) | ((with_reducible refine gate_callee (f := 35) rfl ?_); refine goesL_ (some 92) rfl rfl Try.func35 (by kernel_rfl) rfl #[.slice Ao106 t154.length co106, .int .i64 1] rfl (by (try simp only [List.map_toArray, List.map_cons, List.map_nil]); first | done | (rw [show t154.length = t131.length from (Kd.S_reads' HO_12.out).1.symm] <;> rfl) | rfl | (simp only [List.length_drop, List.length_take]; rfl)) ?_; (with_reducible refine (laws_heldFieldS.calls kj74 _ _ t154 1 t155 _ ?side1 ?side2 A104.out).mono ?_); (case side1 => exact pC (Kd.S_reads' HO_12.out).2.2); (case side2 => rw [show t154.length = t131.length from (Kd.S_reads' HO_12.out).1.symm]; exact (Kd.S_reads' HO_12.out).2.1); rintro e w' ⟨rfl, ⟨nd, rfl⟩⟩; refine ⟨_, rfl, ?_⟩))
        go_ret
        exact ⟨er, pT HB.out⟩
       rw [if_neg c105] at H
       have c105b0 : decide (t155 < 0) = false := decide_eq_false c105
       clear c105
       by_cases c108 : t155 = t153
       ·
        rw [if_pos c108] at H
        have c108b0 : (t155 == t153) = true := beq_iff_eq.mpr c108
        have c108b1 : (t155 != t153) = false := bne_eq_false_iff_eq.mpr c108
        clear c108
        replace H := Option.bind_eq_some_iff.mp H
        obtain ⟨⟨t156, t157, t158⟩, A1090, H⟩ := H
        replace H : ((laws_toField.f kj74 a1_0 a1_1 l1_2).bind fun bt161 => ((impl_Nowcast.f kj74 t156 t157 t158 bt161.1 bt161.2.1 bt161.2.2 a2).bind fun bt166 => ((laws_eqFieldS.f kj74 bt166.1 t115).bind fun t170 => (if t170 = true then (laws_FnExactNowcast.j2 kj74 t154 t153 (bt166.2 != t118)) else (laws_FnExactNowcast.j2 kj74 t154 t153 true))))) = some r := H
        have A109 := Aside0.mk A1090
        clear A1090
        replace H := Option.bind_eq_some_iff.mp H
        obtain ⟨⟨t161, t162, t163⟩, A1100, H⟩ := H
        replace H : ((impl_Nowcast.f kj74 t156 t157 t158 t161 t162 t163 a2).bind fun bt166 => ((laws_eqFieldS.f kj74 bt166.1 t115).bind fun t170 => (if t170 = true then (laws_FnExactNowcast.j2 kj74 t154 t153 (bt166.2 != t118)) else (laws_FnExactNowcast.j2 kj74 t154 t153 true)))) = some r := H
        have A110 := Aside0.mk A1100
        clear A1100
        replace H := Option.bind_eq_some_iff.mp H
        obtain ⟨⟨t166, t169⟩, A1110, H⟩ := H
        replace H : ((laws_eqFieldS.f kj74 t166 t115).bind fun t170 => (if t170 = true then (laws_FnExactNowcast.j2 kj74 t154 t153 (t169 != t118)) else (laws_FnExactNowcast.j2 kj74 t154 t153 true))) = some r := H
        have A111 := Aside0.mk A1110
        clear A1110
        have HC112 := Aside0.mk H
        clear H
        obtain ⟨Ao113, co113, eo113⟩ := Kd.S_slice HO_12.out
        subst eo113
        try go_wp2_with (first | ((with_reducible refine gate_callee (f := 34) rfl ?_); refine gl (some 89) Try.func34 #[.slice Ao113 t131.length co113, .int .i64 1] ?_; (with_reducible refine (laws_markFieldS.calls kj74 (fun k_ => ((((some k_ ≠ (v116 : Value).ownBlock ∧ (some k_ ≠ (.slice Ao45 t149.length co45 : Value).ownBlock ∧ (some k_ ≠ (.slice Ao53 t151.length co53 : Value).ownBlock ∧ (k_ ≠ gb124 ∧ (k_ ≠ gb130 ∧ sz2 ≤ k_))))) ∧ k_ ≠ gb101) ∧ k_ ≠ gb102) ∧ w.heap.size ≤ k_)) (.slice Ao113 t131.length co113) t131 1 t153 t154 w _ ?side1 ?side2 A103.out).mono ?_); (case side1 => exact pT HB.out); (case side2 => exact Kd.S_mono (Kd.S_bound ((Kd.S_types ((Kd.S_types (HO_12.out) BK101.out (by decide))) BK102.out (by decide)))) (fun k_ hk_ => ⟨hk_.1, hk_.2.1⟩)); rintro e w114 ⟨rfl, hy0, hb, hkp⟩; refine ⟨_, rfl, ?_⟩; have n0_ := aK (Kd.S_mono (ok' := fun k_ => some k_ ≠ (.slice Ao113 t131.length co113 : Value).ownBlock ∧ some k_ ≠ (.slice Ao45 t149.length co45 : Value).ownBlock ∧ some k_ ≠ (.slice Ao53 t151.length co53 : Value).ownBlock ∧ k_ ≠ gb124 ∧ k_ ≠ gb130 ∧ k_ < sz2 ∧ sz1 ≤ k_) (Kd.S_keptB ((Kd.S_mono (ok' := fun k_ => (some k_ ≠ (.slice Ao113 t131.length co113 : Value).ownBlock ∧ (some k_ ≠ (.slice Ao45 t149.length co45 : Value).ownBlock ∧ (some k_ ≠ (.slice Ao53 t151.length co53 : Value).ownBlock ∧ (k_ ≠ gb124 ∧ (k_ ≠ gb130 ∧ (k_ < sz2 ∧ sz1 ≤ k_)))))) ∧ ¬ ((((some k_ ≠ (v116 : Value).ownBlock ∧ (some k_ ≠ (.slice Ao45 t149.length co45 : Value).ownBlock ∧ (some k_ ≠ (.slice Ao53 t151.length co53 : Value).ownBlock ∧ (k_ ≠ gb124 ∧ (k_ ≠ gb130 ∧ sz2 ≤ k_))))) ∧ k_ ≠ gb101) ∧ k_ ≠ gb102) ∧ w.heap.size ≤ k_)) HO_8.out (fun k_ hk => ⟨hk, fun hs_ => Nat.lt_irrefl _ (Nat.lt_of_lt_of_le (hk.2.2.2.2.2.1) (hs_.1.1.1.2.2.2.2.2))⟩))) hkp (fun k_ hk_ hs_ => (hk_.2) hs_)) (fun k_ hk_ => ⟨hk_.1.1.1, hk_.1.1.2.1, hk_.1.1.2.2.1, hk_.1.1.2.2.2.1, hk_.1.1.2.2.2.2.1, hk_.1.1.2.2.2.2.2.1, hk_.1.1.2.2.2.2.2.2⟩)); have n1_ := aK (Kd.S_mono (ok' := fun k_ => (some k_ ≠ (v116 : Value).ownBlock ∧ (some k_ ≠ (.slice Ao45 t149.length co45 : Value).ownBlock ∧ (some k_ ≠ (.slice Ao53 t151.length co53 : Value).ownBlock ∧ (k_ ≠ gb124 ∧ k_ ≠ gb130))))) hy0 (fun k_ hk_ => Or.elim hk_ (fun h_ => ⟨h_.1.1.1.1, ⟨h_.1.1.1.2.1, ⟨h_.1.1.1.2.2.1, ⟨h_.1.1.1.2.2.2.1, h_.1.1.1.2.2.2.2.1⟩⟩⟩⟩) (fun h_ => ⟨(fun e_ => Nat.not_le.2 (Kd.S_lt HO_8.out k_ e_.symm) h_), ⟨(fun e_ => Nat.not_le.2 (Kd.R_lt HO_125002.out k_ e_.symm) h_), ⟨(fun e_ => Nat.not_le.2 (Kd.R_lt HO_131002.out k_ e_.symm) h_), ⟨(fun e_ => Nat.not_le.2 (by rw [e_]; exact blk_lt BK124.out) h_), (fun e_ => Nat.not_le.2 (by rw [e_]; exact blk_lt BK130.out) h_)⟩⟩⟩⟩))); have n2_ := aK (Kd.R_mono (ok' := fun k_ => some k_ ≠ (.slice Ao53 t151.length co53 : Value).ownBlock) (Kd.R_keptB ((Kd.R_mono (ok' := fun k_ => some k_ ≠ (.slice Ao53 t151.length co53 : Value).ownBlock ∧ ¬ ((((some k_ ≠ (v116 : Value).ownBlock ∧ (some k_ ≠ (.slice Ao45 t149.length co45 : Value).ownBlock ∧ (some k_ ≠ (.slice Ao53 t151.length co53 : Value).ownBlock ∧ (k_ ≠ gb124 ∧ (k_ ≠ gb130 ∧ sz2 ≤ k_))))) ∧ k_ ≠ gb101) ∧ k_ ≠ gb102) ∧ w.heap.size ≤ k_)) (Kd.R_tight2 rfl HO_125002.out) (fun k_ hk => ⟨hk.2, fun hs_ => (hs_.1.1.1.2.1) hk.1⟩))) hkp (fun k_ hk_ hs_ => (hk_.2) hs_)) (fun k_ hk_ => hk_.1.1)); have n3_ := aK (Kd.R_mono (ok' := fun k_ => some k_ ≠ (.slice Ao45 t149.length co45 : Value).ownBlock) (Kd.R_keptB ((Kd.R_mono (ok' := fun k_ => some k_ ≠ (.slice Ao45 t149.length co45 : Value).ownBlock ∧ ¬ ((((some k_ ≠ (v116 : Value).ownBlock ∧ (some k_ ≠ (.slice Ao45 t149.length co45 : Value).ownBlock ∧ (some k_ ≠ (.slice Ao53 t151.length co53 : Value).ownBlock ∧ (k_ ≠ gb124 ∧ (k_ ≠ gb130 ∧ sz2 ≤ k_))))) ∧ k_ ≠ gb101) ∧ k_ ≠ gb102) ∧ w.heap.size ≤ k_)) (Kd.R_tight2 rfl HO_131002.out) (fun k_ hk => ⟨hk.2, fun hs_ => (hs_.1.1.1.2.2.1) hk.1⟩))) hkp (fun k_ hk_ hs_ => (hk_.2) hs_)) (fun k_ hk_ => hk_.1.1)); have n4_ := aK (blk_kept (pB BK101.out) hkp (fun hs_ => (fun e_ => (e_.1.1.2) rfl) hs_)); have n5_ := aK (blk_kept (pB BK102.out) hkp (fun hs_ => (fun e_ => (e_.1.2) rfl) hs_)); have n6_ := aK (blk_kept (pB BK124.out) hkp (fun hs_ => (fun e_ => (e_.1.1.1.2.2.2.1) rfl) hs_)); have n7_ := aK (blk_kept (pB BK130.out) hkp (fun hs_ => (fun e_ => (e_.1.1.1.2.2.2.2.1) rfl) hs_)); have n8_ := aK (hb); clear HO_8 HO_12 HO_125002 HO_131002 BK101 BK102 BK124 BK130 HB; have HO_8 := n0_; have HO_12 := n1_; have HO_125002 := n2_; have HO_131002 := n3_; have BK101 := n4_; have BK102 := n5_; have BK124 := n6_; have BK130 := n7_; have HB := n8_; clear n0_ n1_ n2_ n3_ n4_ n5_ n6_ n7_ n8_; (try clear hb); (try clear hkp); (try clear hy0)) | ((with_reducible refine gate_callee (f := 35) rfl ?_); refine goesL_ (some 92) rfl rfl Try.func35 (by kernel_rfl) rfl #[.slice Ao113 t154.length co113, .int .i64 1] rfl (by (try simp only [List.map_toArray, List.map_cons, List.map_nil]); first | done | (rw [show t154.length = t131.length from (Kd.S_reads' HO_12.out).1.symm] <;> rfl) | rfl | (simp only [List.length_drop, List.length_take]; rfl)) ?_; (with_reducible refine (laws_heldFieldS.calls kj74 _ _ t154 1 t155 _ ?side1 ?side2 A104.out).mono ?_); (case side1 => exact pC (Kd.S_reads' HO_12.out).2.2); (case side2 => rw [show t154.length = t131.length from (Kd.S_reads' HO_12.out).1.symm]; exact (Kd.S_reads' HO_12.out).2.1); rintro e w' ⟨rfl, ⟨nd, rfl⟩⟩; refine ⟨_, rfl, ?_⟩))
        (try (rw [drewN_self w114]; generalize hq_ : World.drewN w114 _ = w114; have n0_ : Aside0 (Kd.S k29 29 w114 w.heap.size (fun k_ => some k_ ≠ (.slice Ao45 t149.length co45 : Value).ownBlock ∧ some k_ ≠ (.slice Ao53 t151.length co53 : Value).ownBlock ∧ some k_ ≠ (v116 : Value).ownBlock ∧ k_ ≠ gb124 ∧ k_ ≠ gb130) (.slice Ao113 t131.length co113) t154) := ⟨by rw [← hq_]; exact (by (with_reducible repeat (first | apply Kd.S_alloc | apply Kd.S_drewN | apply Kd.S_drew)); exact Kd.S_mono HO_12.out (fun _ hk => ⟨hk.2.1, ⟨hk.2.2.1, ⟨hk.1, ⟨hk.2.2.2.1, hk.2.2.2.2⟩⟩⟩⟩))⟩; have n1_ : Aside0 (Kd.R (Kd.int .i64) 3 w114 w.heap.size (fun k_ => some k_ ≠ (.slice Ao53 t151.length co53 : Value).ownBlock) (.slice Ao45 t149.length co45) t149) := ⟨by rw [← hq_]; exact (pR HO_125002.out)⟩; have n2_ : Aside0 (Kd.R (Kd.int .i64) 3 w114 w.heap.size (fun k_ => some k_ ≠ (.slice Ao45 t149.length co45 : Value).ownBlock) (.slice Ao53 t151.length co53) t151) := ⟨by rw [← hq_]; exact (pR HO_131002.out)⟩; have n3_ : Aside0 (Kd.S k29 29 w114 w.heap.size (fun k_ => some k_ ≠ (.slice Ao113 t131.length co113 : Value).ownBlock ∧ some k_ ≠ (.slice Ao45 t149.length co45 : Value).ownBlock ∧ some k_ ≠ (.slice Ao53 t151.length co53 : Value).ownBlock ∧ k_ ≠ gb124 ∧ k_ ≠ gb130 ∧ k_ < sz2 ∧ sz1 ≤ k_) v116 t115) := ⟨by rw [← hq_]; exact (by (with_reducible repeat (first | apply Kd.S_alloc | apply Kd.S_drewN | apply Kd.S_drew)); exact HO_8.out)⟩; have n4_ : Aside0 (w114.heap[gb101]? = some (.cells #[.int .i64 a0_0, .int .i64 a0_1, .slice A0_2 l0_2.length c0_2] 24 (0, 0))) := ⟨by rw [← hq_]; exact (pB BK101.out)⟩; have n5_ : Aside0 (w114.heap[gb102]? = some (.cells #[.int .i64 a1_0, .int .i64 a1_1, .slice A1_2 l1_2.length c1_2] 24 (0, 0))) := ⟨by rw [← hq_]; exact (pB BK102.out)⟩; have n6_ : Aside0 (w114.heap[gb124]? = some (.cells #[.int .i64 t119, .int .i64 t120, .slice Ao45 t149.length co45] 29 (0, 0))) := ⟨by rw [← hq_]; exact (pB BK124.out)⟩; have n7_ : Aside0 (w114.heap[gb130]? = some (.cells #[.int .i64 t125, .int .i64 t126, .slice Ao53 t151.length co53] 29 (0, 0))) := ⟨by rw [← hq_]; exact (pB BK130.out)⟩; have n8_ : Aside0 (Below w.heap.size w w114) := ⟨by rw [← hq_]; exact (pS HB.out)⟩; clear HO_12 HO_125002 HO_131002 HO_8 BK101 BK102 BK124 BK130 HB hq_; have HO_12 := n0_; have HO_125002 := n1_; have HO_131002 := n2_; have HO_8 := n3_; have BK101 := n4_; have BK102 := n5_; have BK124 := n6_; have BK130 := n7_; have HB := n8_; clear n0_ n1_ n2_ n3_ n4_ n5_ n6_ n7_ n8_))
        have n0_ := aK (Kd.S_drew HO_8.out)
        have n1_ := aK (Kd.S_drew HO_12.out)
        have n2_ := aK (Kd.R_drew HO_125002.out)
        have n3_ := aK (Kd.R_drew HO_131002.out)
        have n4_ := aK (blk_drew BK101.out)
        have n5_ := aK (blk_drew BK102.out)
        have n6_ := aK (blk_drew BK124.out)
        have n7_ := aK (blk_drew BK130.out)
        have n8_ := aK (below_drew1 HB.out)
        clear HO_8 HO_12 HO_125002 HO_131002 BK101 BK102 BK124 BK130 HB
        have HO_8 := n0_
        have HO_12 := n1_
        have HO_125002 := n2_
        have HO_131002 := n3_
        have BK101 := n4_
        have BK102 := n5_
        have BK124 := n6_
        have BK130 := n7_
        have HB := n8_
        clear n0_ n1_ n2_ n3_ n4_ n5_ n6_ n7_ n8_
        refine start_ (n := 11) (S := fun w' => w'.cell? ⟨gb101, 0, none⟩ = some (.int .i64 a0_0) ∧ w'.cell? ⟨gb101, 1, none⟩ = some (.int .i64 a0_1) ∧ w'.cell? ⟨gb101, 2, none⟩ = some (.slice A0_2 l0_2.length c0_2) ∧ w'.cell? ⟨gb102, 0, none⟩ = some (.int .i64 a1_0) ∧ w'.cell? ⟨gb102, 1, none⟩ = some (.int .i64 a1_1) ∧ w'.cell? ⟨gb102, 2, none⟩ = some (.slice A1_2 l1_2.length c1_2)) (ds := []) #[false, false, false, false, false, false, false, false, false, false, false] (by kernel_rfl) rfl rfl (cj3 BK101.out (cz3 BK102.out)) (fun hHeld => ?_); refine with_tabW laws_FnExactNowcast.tab31 laws_FnExactNowcast.bits31 (fun HT_ HW_ => ?_)
        generalize w114.drew = w115 at HO_8 HO_12 HO_125002 HO_131002 BK101 BK102 BK124 BK130 HB hHeld ⊢
        refine pu (i := 4) (N := some 103) #[false, false, false, false, true, false, false, false, false, false, false] rfl rfl HT_.out ?_
        refine tk (i := 0) (N := some 99) #[true, false, false, false, true, false, false, false, false, false, false] rfl rfl HT_.out HW_.out (Or.inl ⟨by rfl, by rintro w' ⟨s0, s1, s2, s3, s4, s5⟩; go_simp; with_reducible rfl⟩) hHeld ?_
        refine tk (i := 2) (N := some 101) #[true, false, true, false, true, false, false, false, false, false, false] rfl rfl HT_.out HW_.out (Or.inl ⟨by rfl, by rintro w' ⟨s0, s1, s2, s3, s4, s5⟩; go_simp; with_reducible rfl⟩) hHeld ?_
        refine one_ (i := 1) (N := some 100) #[true, true, true, false, true, false, false, false, false, false, false] rfl rfl (one_of HT_.out (by kernel_rfl)) (by decide) (fun K hK => ?_)
        refine goes_ Try.func15 (by kernel_rfl) rfl #[.agg #[.int .i64 a0_0, .int .i64 a0_1, .slice A0_2 l0_2.length c0_2]] (by rfl) rfl rfl (by (try simp only [List.map_toArray, List.map_cons, List.map_nil]); first | done | rfl | (simp only [List.length_drop, List.length_take]; rfl)) ?_
        with_reducible refine (laws_toField.calls kj74 a0_0 a0_1 _ _ l0_2 t156 t157 t158 _ ?side1 ?side2 A109.out).mono ?_
        (case side1 => exact pC (Kd.C_below HR0_2.out HB.out))
        (case side2 => exact HC0_2.out)
        rintro e w116 ⟨v159, rfl, ho0, hb⟩
        refine ⟨_, rfl, ?_⟩
        have n0_ := aK (Kd.S_elder' (by (with_reducible repeat (first | apply Kd.S_alloc | apply Kd.S_drewN | apply Kd.S_drew)); exact HO_8.out) (Kd.R_base ho0) hb)
        have n1_ := aK (Kd.S_elder' (by (with_reducible repeat (first | apply Kd.S_alloc | apply Kd.S_drewN | apply Kd.S_drew)); exact HO_12.out) (Kd.R_base ho0) hb)
        have n2_ := aK (Kd.R_elder' (pR HO_125002.out) (Kd.R_base ho0) hb)
        have n3_ := aK (Kd.R_elder' (pR HO_131002.out) (Kd.R_base ho0) hb)
        have HO160 := aK (Kd.R_lower (nw2 ho0 (pR HO_125002.out) (pR HO_131002.out)) (below_size (pS HB.out)))
        replace BK101 := bB BK101 hb
        replace BK102 := bB BK102 hb
        replace BK124 := bB BK124 hb
        replace BK130 := bB BK130 hb
        replace HB := bS HB hb
        clear HO_8 HO_12 HO_125002 HO_131002
        have HO_8 := n0_
        have HO_12 := n1_
        have HO_125002 := n2_
        have HO_131002 := n3_
        clear n0_ n1_ n2_ n3_
        (try clear hb)
        (try clear hb2)
        (try clear hk)
        (try clear hi)
        (try clear ho0)
        refine hK.out _ _ (cj3 BK101.out (cz3 BK102.out)) (fun hHeld => ?_)
        clear hK K
        refine norm_ (a' := ?_) ?_ ?_
        rotate_left
        ·
         show Act.put _ (some 100) _ = _
         simp only [sP]
         rfl
        refine one_ (i := 3) (N := some 102) #[true, true, true, true, true, false, false, false, false, false, false] rfl rfl (one_of HT_.out (by kernel_rfl)) (by decide) (fun K hK => ?_)
        refine goes_ Try.func15 (by kernel_rfl) rfl #[.agg #[.int .i64 a1_0, .int .i64 a1_1, .slice A1_2 l1_2.length c1_2]] (by rfl) rfl rfl (by (try simp only [List.map_toArray, List.map_cons, List.map_nil]); first | done | rfl | (simp only [List.length_drop, List.length_take]; rfl)) ?_
        with_reducible refine (laws_toField.calls kj74 a1_0 a1_1 _ _ l1_2 t161 t162 t163 _ ?side1 ?side2 A110.out).mono ?_
        (case side1 => exact pC (Kd.C_below HR1_2.out HB.out))
        (case side2 => exact HC1_2.out)
        rintro e w117 ⟨v164, rfl, ho0, hb⟩
        refine ⟨_, rfl, ?_⟩
        have n0_ := aK (Kd.S_elder' (by (with_reducible repeat (first | apply Kd.S_alloc | apply Kd.S_drewN | apply Kd.S_drew)); exact HO_8.out) (Kd.R_base ho0) hb)
        have n1_ := aK (Kd.S_elder' (by (with_reducible repeat (first | apply Kd.S_alloc | apply Kd.S_drewN | apply Kd.S_drew)); exact HO_12.out) (Kd.R_base ho0) hb)
        have n2_ := aK (Kd.R_elder' (pR HO_125002.out) (Kd.R_base ho0) hb)
        have n3_ := aK (Kd.R_elder' (pR HO_131002.out) (Kd.R_base ho0) hb)
        have n4_ := aK (Kd.R_elder' (pR HO160.out) (Kd.R_base ho0) hb)
        have HO165 := aK (Kd.R_lower (nw1 (nw2 ho0 (pR HO_125002.out) (pR HO_131002.out)) (pR HO160.out)) (below_size (pS HB.out)))
        replace BK101 := bB BK101 hb
        replace BK102 := bB BK102 hb
        replace BK124 := bB BK124 hb
        replace BK130 := bB BK130 hb
        replace HB := bS HB hb
        clear HO_8 HO_12 HO_125002 HO_131002 HO160
        have HO_8 := n0_
        have HO_12 := n1_
        have HO_125002 := n2_
        have HO_131002 := n3_
        have HO160 := n4_
        clear n0_ n1_ n2_ n3_ n4_
        (try clear hb)
        (try clear hb2)
        (try clear hk)
        (try clear hi)
        (try clear ho0)
        obtain ⟨Ao118, co118, eo118⟩ := Kd.R_slice HO160.out
        (first | subst eo118 | (obtain ⟨f4_, f5_⟩ := sI eo118; subst f4_; subst f5_))
        obtain ⟨Ao119, co119, eo119⟩ := Kd.R_slice HO165.out
        (first | subst eo119 | (obtain ⟨f4_, f5_⟩ := sI eo119; subst f4_; subst f5_))
        refine hK.out _ _ (cj3 BK101.out (cz3 BK102.out)) (fun hHeld => ?_)
        clear hK K
        refine norm_ (a' := ?_) ?_ ?_
        rotate_left
        ·
         show Act.put _ (some 102) _ = _
         simp only [sP]
         rfl
        refine one_ (i := 5) (N := some 104) #[true, true, true, true, true, true, false, false, false, false, false] rfl rfl (one_of HT_.out (by kernel_rfl)) (by decide) (fun K hK => ?_)
        refine goes_ Try.func32 (by kernel_rfl) rfl #[.agg #[.int .i64 t156, .int .i64 t157, .slice Ao118 t158.length co118], .agg #[.int .i64 t161, .int .i64 t162, .slice Ao119 t163.length co119], .int .i64 a2] (by rfl) rfl rfl (by (try simp only [List.map_toArray, List.map_cons, List.map_nil]); first | done | rfl | (simp only [List.length_drop, List.length_take]; rfl)) ?_
        with_reducible refine (impl_Nowcast.calls kj74 t156 t157 _ _ t158 t161 t162 (fun k_ => some k_ = (.slice Ao119 t163.length co119 : Value).ownBlock) _ _ t163 a2 t166 t169 _ ?side1 ?side2 ?side3 A111.out).mono ?_
        (case side1 => exact pC (Kd.R_reads' HO160.out).2.2)
        (case side2 => exact (Kd.R_reads' HO160.out).2.1)
        (case side3 => exact Kd.R_V (Kd.R_tight rfl (Kd.R_types (Kd.R_types (Kd.R_types (Kd.R_types (Kd.R_apart' (Kd.R_apart' (HO165.out) (Kd.S_typed HO_8.out) (by decide)) (Kd.S_typed HO_12.out) (by decide)) BK101.out (by decide)) BK102.out (by decide)) BK124.out (by decide)) BK130.out (by decide))))
        rintro e w120 ⟨v167, rfl, ho0, hb⟩
        refine ⟨_, rfl, ?_⟩
        obtain ⟨sz3, hsz3⟩ := mpM hb
        have n0_ := aK (mpE2 (by (with_reducible repeat (first | apply Kd.S_alloc | apply Kd.S_drewN | apply Kd.S_drew)); exact HO_8.out) hb hsz3 (Kd.S_base ho0))
        have n1_ := aK (mpE2 (by (with_reducible repeat (first | apply Kd.S_alloc | apply Kd.S_drewN | apply Kd.S_drew)); exact HO_12.out) hb hsz3 (Kd.S_base ho0))
        have n2_ := aK (Kd.R_below (pR HO_125002.out) hb)
        have n3_ := aK (Kd.R_below (pR HO_131002.out) hb)
        have n4_ := aK (Kd.R_below (pR HO160.out) hb)
        have n5_ := aK (Kd.R_below (pR HO165.out) hb)
        have HO168 := aK (Kd.S_lower (Kd.S_newB (Kd.S_newB (Kd.S_new' (Kd.S_new' (Kd.S_new' (Kd.S_new' (Kd.S_new' (Kd.S_new' (mpN ho0 hsz3) (Kd.S_lt (by (with_reducible repeat (first | apply Kd.S_alloc | apply Kd.S_drewN | apply Kd.S_drew)); exact HO_8.out))) (Kd.S_lt (by (with_reducible repeat (first | apply Kd.S_alloc | apply Kd.S_drewN | apply Kd.S_drew)); exact HO_12.out))) (Kd.R_lt (pR HO_125002.out))) (Kd.R_lt (pR HO_131002.out))) (Kd.R_lt (pR HO160.out))) (Kd.R_lt (pR HO165.out))) (g := gb124) (o := .cells #[.int .i64 t119, .int .i64 t120, .slice Ao45 t149.length co45] 29 (0, 0)) (pB BK124.out)) (g := gb130) (o := .cells #[.int .i64 t125, .int .i64 t126, .slice Ao53 t151.length co53] 29 (0, 0)) (pB BK130.out)) (below_size (pS HB.out)))
        replace BK101 := bB BK101 hb
        replace BK102 := bB BK102 hb
        replace BK124 := bB BK124 hb
        replace BK130 := bB BK130 hb
        replace HB := bS HB hb
        clear HO_8 HO_12 HO_125002 HO_131002 HO160 HO165
        have HO_8 := n0_
        have HO_12 := n1_
        have HO_125002 := n2_
        have HO_131002 := n3_
        have HO160 := n4_
        have HO165 := n5_
        clear n0_ n1_ n2_ n3_ n4_ n5_
        (try clear hb)
        (try clear hb2)
        (try clear hk)
        (try clear hi)
        (try clear ho0)
        refine hK.out _ _ (cj3 BK101.out (cz3 BK102.out)) (fun hHeld => ?_)
        clear hK K
        refine norm_ (a' := ?_) ?_ ?_
        rotate_left
        ·
         show Act.put _ (some 104) _ = _
         simp only [sP]
         rfl
        refine pu (i := 6) (N := some 98) #[true, true, true, true, true, true, true, false, false, false, false] rfl rfl HT_.out ?_
        refine pu (i := 7) (N := some 105) #[true, true, true, true, true, true, true, true, false, false, false] rfl rfl HT_.out ?_
        refine pu (i := 8) (N := some 106) #[true, true, true, true, true, true, true, true, true, false, false] rfl rfl HT_.out ?_
        refine pu (i := 9) (N := some 17) #[true, true, true, true, true, true, true, true, true, true, false] rfl rfl HT_.out ?_
        refine pu (i := 10) (N := some 18) #[true, true, true, true, true, true, true, true, true, true, true] rfl rfl HT_.out ?_
        refine done_ (done_of HT_.out (by kernel_rfl)) ?_
        go_upto_region 32 with (fail)
        go_cut [115] (fun v115 wc => ∃ (kq : Nat) (x115_111 : Bool), v115 = .bool x115_111 ∧ Aside0 (laws_FnExactNowcast.j2 kq t154 t153 x115_111 = some r) ∧ Aside0 (kq ≤ kj74) ∧ Aside0 (Kd.S k29 29 wc w.heap.size (fun k_ => k_ < sz3) (.slice Ao113 t131.length co113) t154) ∧ Aside0 (Below w.heap.size w wc))
        case first => as_aux_lemma =>
         have H := HC112.out
         clear HC112
         replace H := Option.bind_eq_some_iff.mp H
         obtain ⟨t170, A1210, H⟩ := H
         replace H : (if t170 = true then (laws_FnExactNowcast.j2 kj74 t154 t153 (t169 != t118)) else (laws_FnExactNowcast.j2 kj74 t154 t153 true)) = some r := H
         have A121 := Aside0.mk A1210
         clear A1210
         by_cases c122 : t170 = true
         ·
          subst c122
          have H1 : (laws_FnExactNowcast.j2 kj74 t154 t153 (t169 != t118)) = some r := by rw [if_pos rfl] at H; exact H
          clear H
          have H := H1
          clear H1
          have H' := Aside0.mk H
          clear H
          obtain ⟨Ao123, co123, eo123⟩ := Kd.S_slice HO168.out
          subst eo123
          obtain ⟨Ao124, co124, eo124⟩ := Kd.S_slice HO_8.out
          subst eo124
          go_wp2_with (first | ((with_reducible refine gate_callee (f := 33) rfl ?_); refine gl (some 109) Try.func33 #[.slice Ao123 t166.length co123, .slice Ao124 t115.length co124] ?_; (with_reducible refine (laws_eqFieldS.calls kj74 _ _ t166 _ _ t115 true _ ?side1 ?side2 ?side3 ?side4 A121.out).mono ?_); (case side1 => exact pC (Kd.S_reads' HO168.out).2.2); (case side2 => exact (Kd.S_reads' HO168.out).2.1); (case side3 => exact pC (Kd.S_reads' HO_8.out).2.2); (case side4 => exact (Kd.S_reads' HO_8.out).2.1); rintro e w125 ⟨rfl, hb⟩; refine ⟨_, rfl, ?_⟩; have n0_ := aK (Kd.S_below (by (with_reducible repeat (first | apply Kd.S_alloc | apply Kd.S_drewN | apply Kd.S_drew)); exact HO_8.out) hb); have n1_ := aK (Kd.S_below (by (with_reducible repeat (first | apply Kd.S_alloc | apply Kd.S_drewN | apply Kd.S_drew)); exact HO_12.out) hb); have n2_ := aK (Kd.R_below (pR HO_125002.out) hb); have n3_ := aK (Kd.R_below (pR HO_131002.out) hb); have n4_ := aK (Kd.R_below (pR HO160.out) hb); have n5_ := aK (Kd.R_below (pR HO165.out) hb); have n6_ := aK (Kd.S_below (by (with_reducible repeat (first | apply Kd.S_alloc | apply Kd.S_drewN | apply Kd.S_drew)); exact HO168.out) hb); replace BK124 := bB BK124 hb; replace BK130 := bB BK130 hb; replace HB := bS HB hb; clear HO_8 HO_12 HO_125002 HO_131002 HO160 HO165 HO168; have HO_8 := n0_; have HO_12 := n1_; have HO_125002 := n2_; have HO_131002 := n3_; have HO160 := n4_; have HO165 := n5_; have HO168 := n6_; clear n0_ n1_ n2_ n3_ n4_ n5_ n6_; (try clear hb); (try clear hb2); (try clear hk); (try clear hi)))
          go_meet
          case rel => exact ⟨_, ((t169 != t118)), (by first | rfl | (simp; done) | (simp [*]; done)), H', ⟨by have := HJ24.out; have := HJ74.out; first | omega | exact Nat.le_refl _⟩, ⟨by (try simp only [hl125002_74]); (try simp only [hl131002_74]); (with_reducible repeat (first | apply Kd.S_alloc | apply Kd.S_drewN | apply Kd.S_drew)); exact Kd.S_mono HO_12.out (fun _ hk => hk.1.2)⟩, ⟨pT HB.out⟩⟩
         replace c122 := Bool.eq_false_iff.mpr c122
         subst c122
         have H1 : (laws_FnExactNowcast.j2 kj74 t154 t153 true) = some r := by rw [if_neg (show ¬ (false = true) by decide)] at H; exact H
         clear H
         have H := H1
         clear H1
         have H' := Aside0.mk H
         clear H
         obtain ⟨Ao126, co126, eo126⟩ := Kd.S_slice HO168.out
         subst eo126
         obtain ⟨Ao127, co127, eo127⟩ := Kd.S_slice HO_8.out
         subst eo127
         go_wp2_with (first | ((with_reducible refine gate_callee (f := 33) rfl ?_); refine gl (some 109) Try.func33 #[.slice Ao126 t166.length co126, .slice Ao127 t115.length co127] ?_; (with_reducible refine (laws_eqFieldS.calls kj74 _ _ t166 _ _ t115 false _ ?side1 ?side2 ?side3 ?side4 A121.out).mono ?_); (case side1 => exact pC (Kd.S_reads' HO168.out).2.2); (case side2 => exact (Kd.S_reads' HO168.out).2.1); (case side3 => exact pC (Kd.S_reads' HO_8.out).2.2); (case side4 => exact (Kd.S_reads' HO_8.out).2.1); rintro e w128 ⟨rfl, hb⟩; refine ⟨_, rfl, ?_⟩; have n0_ := aK (Kd.S_below (by (with_reducible repeat (first | apply Kd.S_alloc | apply Kd.S_drewN | apply Kd.S_drew)); exact HO_8.out) hb); have n1_ := aK (Kd.S_below (by (with_reducible repeat (first | apply Kd.S_alloc | apply Kd.S_drewN | apply Kd.S_drew)); exact HO_12.out) hb); have n2_ := aK (Kd.R_below (pR HO_125002.out) hb); have n3_ := aK (Kd.R_below (pR HO_131002.out) hb); have n4_ := aK (Kd.R_below (pR HO160.out) hb); have n5_ := aK (Kd.R_below (pR HO165.out) hb); have n6_ := aK (Kd.S_below (by (with_reducible repeat (first | apply Kd.S_alloc | apply Kd.S_drewN | apply Kd.S_drew)); exact HO168.out) hb); replace BK124 := bB BK124 hb; replace BK130 := bB BK130 hb; replace HB := bS HB hb; clear HO_8 HO_12 HO_125002 HO_131002 HO160 HO165 HO168; have HO_8 := n0_; have HO_12 := n1_; have HO_125002 := n2_; have HO_131002 := n3_; have HO160 := n4_; have HO165 := n5_; have HO168 := n6_; clear n0_ n1_ n2_ n3_ n4_ n5_ n6_; (try clear hb); (try clear hb2); (try clear hk); (try clear hi)))
         go_meet
         case rel => exact ⟨_, (true), (by first | rfl | (simp; done) | (simp [*]; done)), H', ⟨by have := HJ24.out; have := HJ74.out; first | omega | exact Nat.le_refl _⟩, ⟨by (try simp only [hl125002_74]); (try simp only [hl131002_74]); (with_reducible repeat (first | apply Kd.S_alloc | apply Kd.S_drewN | apply Kd.S_drew)); exact Kd.S_mono HO_12.out (fun _ hk => hk.1.2)⟩, ⟨pT HB.out⟩⟩
        case rest => as_aux_lemma =>
         clear HC112
         try clear c1
         try clear c2
         try clear p2
         try clear c3
         try clear c4
         try clear c5
         try clear c5b0
         try clear c6
         try clear c7
         try clear c8
         try clear c9
         try clear c10
         try clear c11
         try clear c11b0
         try clear c12
         try clear c13
         try clear c14
         try clear c15
         try clear c18
         try clear c19
         try clear c28
         try clear c31
         try clear c32
         try clear c33
         try clear c34
         try clear c35
         try clear c42
         try clear c43
         try clear c49
         try clear c50
         try clear c51
         try clear c59
         try clear c66
         try clear c69
         try clear c72
         try clear c84
         try clear c85
         try clear c86
         try clear c89
         try clear c90
         try clear c93
         try clear c93b0
         try clear c95
         try clear c102
         try clear c105
         try clear c105b0
         try clear c108
         try clear c108b0
         try clear c108b1
         try clear c122
         try clear hcz15_0
         try clear hcz15_1
         try clear hcz15_2
         try clear hcz17_0
         try clear hcz17_1
         try clear hcz17_2
         try clear hcz29_0
         try clear hcz29_1
         try clear hcz29_2
         try clear hcz31_0
         try clear hcz31_1
         try clear hcz31_2
         try clear hcz39_0
         try clear hcz39_1
         try clear hcz39_2
         try clear hcz44_0
         try clear hcz44_1
         try clear hcz44_2
         try clear hcz46_0
         try clear hcz46_1
         try clear hcz46_2
         try clear hcz52_0
         try clear hcz52_1
         try clear hcz52_2
         try clear hcz55_0
         try clear hcz55_1
         try clear hcz55_2
         try clear hcz56_0
         try clear hcz56_1
         try clear hcz56_2
         try clear hcz87_0
         try clear hcz87_1
         try clear hcz87_2
         try clear hcz8_0
         try clear hcz8_1
         try clear hcz8_2
         try clear hcz91_0
         try clear hcz91_1
         try clear hcz91_2
         try clear hfz15_0
         try clear hfz15_1
         try clear hfz15_2
         try clear hfz17_0
         try clear hfz17_1
         try clear hfz17_2
         try clear hfz29_0
         try clear hfz29_1
         try clear hfz29_2
         try clear hfz31_0
         try clear hfz31_1
         try clear hfz31_2
         try clear hfz39_0
         try clear hfz39_1
         try clear hfz39_2
         try clear hfz44_0
         try clear hfz44_1
         try clear hfz44_2
         try clear hfz46_0
         try clear hfz46_1
         try clear hfz46_2
         try clear hfz52_0
         try clear hfz52_1
         try clear hfz52_2
         try clear hfz55_0
         try clear hfz55_1
         try clear hfz55_2
         try clear hfz56_0
         try clear hfz56_1
         try clear hfz56_2
         try clear hfz87_0
         try clear hfz87_1
         try clear hfz87_2
         try clear hfz8_0
         try clear hfz8_1
         try clear hfz8_2
         try clear hfz91_0
         try clear hfz91_1
         try clear hfz91_2
         try clear p2
         obtain ⟨kq, x115_111, rfl, HA, HJ111, HO_12, HB⟩ := hcut
         have hl12_111 := (Kd.S_reads' HO_12.out).1
         rw [hl12_111] at HO_12
         (try simp only [hl12_111])
         cases kq with
         | zero => exact absurd HA.out (by simp [laws_FnExactNowcast.j2])
         | succ kj111 =>
          have H := HA.out
          clear HA
          simp only [laws_FnExactNowcast.j2] at H
          by_cases c129 : x115_111 = true
          ·
           subst c129
           have H1 : (some false) = some r := by rw [if_pos rfl] at H; exact H
           clear H
           have H := H1
           clear H1
           obtain rfl := Option.some.inj H
           go_wp2
           go_ret
           exact ⟨er, pT HB.out⟩
          replace c129 := Bool.eq_false_iff.mpr c129
          subst c129
          have H1 : ((laws_heldFieldS.f kj111 t154 1).bind fun t171 => (if t171 < 0 then (some false) else (if t171 = t153 then (some true) else (some false)))) = some r := by rw [if_neg (show ¬ (false = true) by decide)] at H; exact H
          clear H
          have H := H1
          clear H1
          replace H := Option.bind_eq_some_iff.mp H
          obtain ⟨t171, A1300, H⟩ := H
          replace H : (if t171 < 0 then (some false) else (if t171 = t153 then (some true) else (some false))) = some r := H
          have A130 := Aside0.mk A1300
          clear A1300
          by_cases c131 : t171 < 0
          ·
           rw [if_pos c131] at H
           have c131b0 : decide (t171 < 0) = true := decide_eq_true c131
           clear c131
           obtain rfl := Option.some.inj H
           go_wp2_with (first | ((with_reducible refine gate_callee (f := 35) rfl ?_); refine gl (some 118) Try.func35 #[.slice Ao113 t154.length co113, .int .i64 1] ?_; (with_reducible refine (laws_heldFieldS.calls kj111 _ _ t154 1 t171 _ ?side1 ?side2 A130.out).mono ?_); (case side1 => exact pC (Kd.S_reads' HO_12.out).2.2); (case side2 => exact (Kd.S_reads' HO_12.out).2.1); rintro e w' ⟨rfl, ⟨nd, rfl⟩⟩; refine ⟨_, rfl, ?_⟩))
           go_ret
           exact ⟨er, pT HB.out⟩
          rw [if_neg c131] at H
          have c131b0 : decide (t171 < 0) = false := decide_eq_false c131
          clear c131
          by_cases c132 : t171 = t153
          ·
           rw [if_pos c132] at H
           have c132b0 : (t171 == t153) = true := beq_iff_eq.mpr c132
           have c132b1 : (t171 != t153) = false := bne_eq_false_iff_eq.mpr c132
           clear c132
           obtain rfl := Option.some.inj H
           go_wp2_with (first | ((with_reducible refine gate_callee (f := 35) rfl ?_); refine gl (some 118) Try.func35 #[.slice Ao113 t154.length co113, .int .i64 1] ?_; (with_reducible refine (laws_heldFieldS.calls kj111 _ _ t154 1 t171 _ ?side1 ?side2 A130.out).mono ?_); (case side1 => exact pC (Kd.S_reads' HO_12.out).2.2); (case side2 => exact (Kd.S_reads' HO_12.out).2.1); rintro e w' ⟨rfl, ⟨nd, rfl⟩⟩; refine ⟨_, rfl, ?_⟩))
           go_ret
           exact ⟨er, pT HB.out⟩
          rw [if_neg c132] at H
          have c132b0 : (t171 == t153) = false := beq_eq_false_iff_ne.mpr c132
          have c132b1 : (t171 != t153) = true := bne_iff_ne.mpr c132
          obtain rfl := Option.some.inj H
          go_wp2_with (first | ((with_reducible refine gate_callee (f := 35) rfl ?_); refine gl (some 118) Try.func35 #[.slice Ao113 t154.length co113, .int .i64 1] ?_; (with_reducible refine (laws_heldFieldS.calls kj111 _ _ t154 1 t171 _ ?side1 ?side2 A130.out).mono ?_); (case side1 => exact pC (Kd.S_reads' HO_12.out).2.2); (case side2 => exact (Kd.S_reads' HO_12.out).2.1); rintro e w' ⟨rfl, ⟨nd, rfl⟩⟩; refine ⟨_, rfl, ?_⟩))
          go_ret
          exact ⟨er, pT HB.out⟩
       rw [if_neg c108] at H
       have c108b0 : (t155 == t153) = false := beq_eq_false_iff_ne.mpr c108
       have c108b1 : (t155 != t153) = true := bne_iff_ne.mpr c108
       obtain rfl := Option.some.inj H
       obtain ⟨Ao133, co133, eo133⟩ := Kd.S_slice HO_12.out
       subst eo133
       go_wp2_with (first | ((with_reducible refine gate_callee (f := 34) rfl ?_); refine gl (some 89) Try.func34 #[.slice Ao133 t131.length co133, .int .i64 1] ?_; (with_reducible refine (laws_markFieldS.calls kj74 (fun k_ => ((some k_ ≠ (v116 : Value).ownBlock ∧ (some k_ ≠ (.slice Ao45 t149.length co45 : Value).ownBlock ∧ (some k_ ≠ (.slice Ao53 t151.length co53 : Value).ownBlock ∧ (k_ ≠ gb124 ∧ (k_ ≠ gb130 ∧ sz2 ≤ k_))))) ∧ w.heap.size ≤ k_)) (.slice Ao133 t131.length co133) t131 1 t153 t154 w _ ?side1 ?side2 A103.out).mono ?_); (case side1 => exact pT HB.out); (case side2 => exact Kd.S_mono (Kd.S_bound (HO_12.out)) (fun k_ hk_ => ⟨hk_.1, hk_.2.1⟩)); rintro e w134 ⟨rfl, hy0, hb, hkp⟩; refine ⟨_, rfl, ?_⟩; have n0_ := aK (Kd.S_mono (ok' := fun k_ => some k_ ≠ (.slice Ao133 t131.length co133 : Value).ownBlock ∧ some k_ ≠ (.slice Ao45 t149.length co45 : Value).ownBlock ∧ some k_ ≠ (.slice Ao53 t151.length co53 : Value).ownBlock ∧ k_ ≠ gb124 ∧ k_ ≠ gb130 ∧ k_ < sz2 ∧ sz1 ≤ k_) (Kd.S_keptB ((Kd.S_mono (ok' := fun k_ => (some k_ ≠ (.slice Ao133 t131.length co133 : Value).ownBlock ∧ (some k_ ≠ (.slice Ao45 t149.length co45 : Value).ownBlock ∧ (some k_ ≠ (.slice Ao53 t151.length co53 : Value).ownBlock ∧ (k_ ≠ gb124 ∧ (k_ ≠ gb130 ∧ (k_ < sz2 ∧ sz1 ≤ k_)))))) ∧ ¬ ((some k_ ≠ (v116 : Value).ownBlock ∧ (some k_ ≠ (.slice Ao45 t149.length co45 : Value).ownBlock ∧ (some k_ ≠ (.slice Ao53 t151.length co53 : Value).ownBlock ∧ (k_ ≠ gb124 ∧ (k_ ≠ gb130 ∧ sz2 ≤ k_))))) ∧ w.heap.size ≤ k_)) HO_8.out (fun k_ hk => ⟨hk, fun hs_ => Nat.lt_irrefl _ (Nat.lt_of_lt_of_le (hk.2.2.2.2.2.1) (hs_.1.2.2.2.2.2))⟩))) hkp (fun k_ hk_ hs_ => (hk_.2) hs_)) (fun k_ hk_ => ⟨hk_.1.1.1, hk_.1.1.2.1, hk_.1.1.2.2.1, hk_.1.1.2.2.2.1, hk_.1.1.2.2.2.2.1, hk_.1.1.2.2.2.2.2.1, hk_.1.1.2.2.2.2.2.2⟩)); have n1_ := aK (Kd.S_mono (ok' := fun k_ => (some k_ ≠ (v116 : Value).ownBlock ∧ (some k_ ≠ (.slice Ao45 t149.length co45 : Value).ownBlock ∧ (some k_ ≠ (.slice Ao53 t151.length co53 : Value).ownBlock ∧ (k_ ≠ gb124 ∧ k_ ≠ gb130))))) hy0 (fun k_ hk_ => Or.elim hk_ (fun h_ => ⟨h_.1.1, ⟨h_.1.2.1, ⟨h_.1.2.2.1, ⟨h_.1.2.2.2.1, h_.1.2.2.2.2.1⟩⟩⟩⟩) (fun h_ => ⟨(fun e_ => Nat.not_le.2 (Kd.S_lt HO_8.out k_ e_.symm) h_), ⟨(fun e_ => Nat.not_le.2 (Kd.R_lt HO_125002.out k_ e_.symm) h_), ⟨(fun e_ => Nat.not_le.2 (Kd.R_lt HO_131002.out k_ e_.symm) h_), ⟨(fun e_ => Nat.not_le.2 (by rw [e_]; exact blk_lt BK124.out) h_), (fun e_ => Nat.not_le.2 (by rw [e_]; exact blk_lt BK130.out) h_)⟩⟩⟩⟩))); have n2_ := aK (Kd.R_mono (ok' := fun k_ => some k_ ≠ (.slice Ao53 t151.length co53 : Value).ownBlock) (Kd.R_keptB ((Kd.R_mono (ok' := fun k_ => some k_ ≠ (.slice Ao53 t151.length co53 : Value).ownBlock ∧ ¬ ((some k_ ≠ (v116 : Value).ownBlock ∧ (some k_ ≠ (.slice Ao45 t149.length co45 : Value).ownBlock ∧ (some k_ ≠ (.slice Ao53 t151.length co53 : Value).ownBlock ∧ (k_ ≠ gb124 ∧ (k_ ≠ gb130 ∧ sz2 ≤ k_))))) ∧ w.heap.size ≤ k_)) (Kd.R_tight2 rfl HO_125002.out) (fun k_ hk => ⟨hk.2, fun hs_ => (hs_.1.2.1) hk.1⟩))) hkp (fun k_ hk_ hs_ => (hk_.2) hs_)) (fun k_ hk_ => hk_.1.1)); have n3_ := aK (Kd.R_mono (ok' := fun k_ => some k_ ≠ (.slice Ao45 t149.length co45 : Value).ownBlock) (Kd.R_keptB ((Kd.R_mono (ok' := fun k_ => some k_ ≠ (.slice Ao45 t149.length co45 : Value).ownBlock ∧ ¬ ((some k_ ≠ (v116 : Value).ownBlock ∧ (some k_ ≠ (.slice Ao45 t149.length co45 : Value).ownBlock ∧ (some k_ ≠ (.slice Ao53 t151.length co53 : Value).ownBlock ∧ (k_ ≠ gb124 ∧ (k_ ≠ gb130 ∧ sz2 ≤ k_))))) ∧ w.heap.size ≤ k_)) (Kd.R_tight2 rfl HO_131002.out) (fun k_ hk => ⟨hk.2, fun hs_ => (hs_.1.2.2.1) hk.1⟩))) hkp (fun k_ hk_ hs_ => (hk_.2) hs_)) (fun k_ hk_ => hk_.1.1)); have n4_ := aK (blk_kept (pB BK124.out) hkp (fun hs_ => (fun e_ => (e_.1.2.2.2.1) rfl) hs_)); have n5_ := aK (blk_kept (pB BK130.out) hkp (fun hs_ => (fun e_ => (e_.1.2.2.2.2.1) rfl) hs_)); have n6_ := aK (hb); clear HO_8 HO_12 HO_125002 HO_131002 BK124 BK130 HB; have HO_8 := n0_; have HO_12 := n1_; have HO_125002 := n2_; have HO_131002 := n3_; have BK124 := n4_; have BK130 := n5_; have HB := n6_; clear n0_ n1_ n2_ n3_ n4_ n5_ n6_; (try clear hb); (try clear hkp); (try clear hy0)) | ((with_reducible refine gate_callee (f := 35) rfl ?_); refine goesL_ (some 92) rfl rfl Try.func35 (by kernel_rfl) rfl #[.slice Ao133 t154.length co133, .int .i64 1] rfl (by (try simp only [List.map_toArray, List.map_cons, List.map_nil]); first | done | (rw [show t154.length = t131.length from (Kd.S_reads' HO_12.out).1.symm] <;> rfl) | rfl | (simp only [List.length_drop, List.length_take]; rfl)) ?_; (with_reducible refine (laws_heldFieldS.calls kj74 _ _ t154 1 t155 _ ?side1 ?side2 A104.out).mono ?_); (case side1 => exact pC (Kd.S_reads' HO_12.out).2.2); (case side2 => rw [show t154.length = t131.length from (Kd.S_reads' HO_12.out).1.symm]; exact (Kd.S_reads' HO_12.out).2.1); rintro e w' ⟨rfl, ⟨nd, rfl⟩⟩; refine ⟨_, rfl, ?_⟩))
       go_ret
       exact ⟨er, pT HB.out⟩
    replace c72 := Bool.eq_false_iff.mpr c72
    subst c72
    have H1 : (some false) = some r := by rw [if_neg (show ¬ (false = true) by decide)] at H; exact H
    clear H
    have H := H1
    clear H1
    obtain rfl := Option.some.inj H
    try go_wp2
    have n0_ := aK (Kd.S_drew HO_8.out)
    have n1_ := aK (Kd.S_drew HO_12.out)
    have n2_ := aK (Kd.R_drew HO_125002.out)
    have n3_ := aK (Kd.R_drew HO_131002.out)
    have n4_ := aK (blk_drew BK101.out)
    have n5_ := aK (blk_drew BK102.out)
    have n6_ := aK (blk_drew BK124.out)
    have n7_ := aK (blk_drew BK130.out)
    have n8_ := aK (below_drew1 HB.out)
    clear HO_8 HO_12 HO_125002 HO_131002 BK101 BK102 BK124 BK130 HB
    have HO_8 := n0_
    have HO_12 := n1_
    have HO_125002 := n2_
    have HO_131002 := n3_
    have BK101 := n4_
    have BK102 := n5_
    have BK124 := n6_
    have BK130 := n7_
    have HB := n8_
    clear n0_ n1_ n2_ n3_ n4_ n5_ n6_ n7_ n8_
    refine start_ (n := 5) (S := fun w' => w'.cell? ⟨gb124, 0, none⟩ = some (.int .i64 t119) ∧ w'.cell? ⟨gb124, 1, none⟩ = some (.int .i64 t120) ∧ w'.cell? ⟨gb124, 2, none⟩ = some (.slice Ao45 t121.length co45) ∧ w'.cell? ⟨gb101, 0, none⟩ = some (.int .i64 a0_0) ∧ w'.cell? ⟨gb101, 1, none⟩ = some (.int .i64 a0_1) ∧ w'.cell? ⟨gb101, 2, none⟩ = some (.slice A0_2 l0_2.length c0_2)) (ds := []) #[false, false, false, false, false] (by kernel_rfl) rfl rfl (cj3 BK124.out (cz3 BK101.out)) (fun hHeld => ?_)
    generalize wc.drew = w135 at HO_8 HO_12 HO_125002 HO_131002 BK101 BK102 BK124 BK130 HB hHeld ⊢
    refine take_ (i := 0) (N := some 58) (v := ?_) (a' := ?_) #[true, false, false, false, false] rfl rfl (by kernel_rfl) (fun _ _ _ h => h) (Or.inl ⟨by rfl, ?_⟩) hHeld ?_ ?_
    rotate_left
    ·
     rintro w' ⟨s0, s1, s2, s3, s4, s5⟩
     go_simp
     with_reducible rfl
    rotate_left
    ·
     simp only [sP]
     rfl
    refine take_ (i := 1) (N := some 59) (v := ?_) (a' := ?_) #[true, true, false, false, false] rfl rfl (by kernel_rfl) (fun _ _ _ h => h) (Or.inl ⟨by rfl, ?_⟩) hHeld ?_ ?_
    rotate_left
    ·
     rintro w' ⟨s0, s1, s2, s3, s4, s5⟩
     go_simp
     with_reducible rfl
    rotate_left
    ·
     simp only [sP]
     rfl
    refine one_ (i := 2) (N := some 60) #[true, true, true, false, false] rfl rfl (by kernel_rfl) (by decide) (fun K hK => ?_)
    refine goes_ Try.func15 (by kernel_rfl) rfl #[.agg #[.int .i64 a0_0, .int .i64 a0_1, .slice A0_2 l0_2.length c0_2]] (by rfl) rfl rfl (by (try simp only [List.map_toArray, List.map_cons, List.map_nil]); first | done | rfl | (simp only [List.length_drop, List.length_take]; rfl)) ?_
    with_reducible refine (laws_toField.calls kj24 a0_0 a0_1 _ _ l0_2 t136 t137 t138 _ ?side1 ?side2 A67.out).mono ?_
    (case side1 => exact pC (Kd.C_below HR0_2.out HB.out))
    (case side2 => exact HC0_2.out)
    rintro e w136 ⟨v139, rfl, ho0, hb⟩
    refine ⟨_, rfl, ?_⟩
    have n0_ := aK (Kd.S_elder' (by (with_reducible repeat (first | apply Kd.S_alloc | apply Kd.S_drewN | apply Kd.S_drew)); exact HO_8.out) (Kd.R_base ho0) hb)
    have n1_ := aK (Kd.S_elder' (by (with_reducible repeat (first | apply Kd.S_alloc | apply Kd.S_drewN | apply Kd.S_drew)); exact HO_12.out) (Kd.R_base ho0) hb)
    have n2_ := aK (Kd.R_elder' (pR HO_125002.out) (Kd.R_base ho0) hb)
    have n3_ := aK (Kd.R_elder' (pR HO_131002.out) (Kd.R_base ho0) hb)
    have HO140 := aK (Kd.R_lower (nw2 ho0 (pR HO_125002.out) (pR HO_131002.out)) (below_size (pS HB.out)))
    replace BK101 := bB BK101 hb
    replace BK102 := bB BK102 hb
    replace BK124 := bB BK124 hb
    replace BK130 := bB BK130 hb
    replace HB := bS HB hb
    clear HO_8 HO_12 HO_125002 HO_131002
    have HO_8 := n0_
    have HO_12 := n1_
    have HO_125002 := n2_
    have HO_131002 := n3_
    clear n0_ n1_ n2_ n3_
    (try clear hb)
    (try clear hb2)
    (try clear hk)
    (try clear hi)
    (try clear ho0)
    obtain ⟨Ao137, co137, eo137⟩ := Kd.R_slice HO140.out
    (first | subst eo137 | (obtain ⟨f4_, f5_⟩ := sI eo137; subst f4_; subst f5_))
    refine hK.out _ _ (cj3 BK124.out (cz3 BK101.out)) (fun hHeld => ?_)
    clear hK K
    refine norm_ (a' := ?_) ?_ ?_
    rotate_left
    ·
     show Act.put _ (some 60) _ = _
     simp only [sP]
     rfl
    refine one_ (i := 3) (N := some 61) #[true, true, true, true, false] rfl rfl (by kernel_rfl) (by decide) (fun K hK => ?_)
    refine goes_ Try.func18 (by kernel_rfl) rfl #[.agg #[.int .i64 t119, .int .i64 t120, .slice Ao45 t121.length co45], .agg #[.int .i64 t136, .int .i64 t137, .slice Ao137 t138.length co137]] (by rfl) rfl rfl (by (try simp only [List.map_toArray, List.map_cons, List.map_nil]); first | done | rfl | (simp only [List.length_drop, List.length_take]; rfl)) ?_
    with_reducible refine (laws_eqField.calls kj24 t119 t120 _ _ t121 t136 t137 _ _ t138 true _ ?side1 ?side2 ?side3 ?side4 A68.out).mono ?_
    (case side1 => exact pC (Kd.R_reads' HO_125002.out).2.2)
    (case side2 => exact (Kd.R_reads' HO_125002.out).2.1)
    (case side3 => exact pC (Kd.R_reads' HO140.out).2.2)
    (case side4 => exact (Kd.R_reads' HO140.out).2.1)
    rintro e w138 ⟨rfl, hb⟩
    refine ⟨_, rfl, ?_⟩
    have n0_ := aK (Kd.S_below (by (with_reducible repeat (first | apply Kd.S_alloc | apply Kd.S_drewN | apply Kd.S_drew)); exact HO_8.out) hb)
    have n1_ := aK (Kd.S_below (by (with_reducible repeat (first | apply Kd.S_alloc | apply Kd.S_drewN | apply Kd.S_drew)); exact HO_12.out) hb)
    have n2_ := aK (Kd.R_below (pR HO_125002.out) hb)
    have n3_ := aK (Kd.R_below (pR HO_131002.out) hb)
    have n4_ := aK (Kd.R_below (pR HO140.out) hb)
    replace BK101 := bB BK101 hb
    replace BK102 := bB BK102 hb
    replace BK124 := bB BK124 hb
    replace BK130 := bB BK130 hb
    replace HB := bS HB hb
    clear HO_8 HO_12 HO_125002 HO_131002 HO140
    have HO_8 := n0_
    have HO_12 := n1_
    have HO_125002 := n2_
    have HO_131002 := n3_
    have HO140 := n4_
    clear n0_ n1_ n2_ n3_ n4_
    (try clear hb)
    (try clear hb2)
    (try clear hk)
    (try clear hi)
    refine hK.out _ _ (cj3 BK124.out (cz3 BK101.out)) (fun hHeld => ?_)
    clear hK K
    refine norm_ (a' := ?_) ?_ ?_
    rotate_left
    ·
     show Act.put _ (some 61) _ = _
     simp only [sP]
     rfl
    refine pure_ (i := 4) (N := some 62) (v := ?_) (a' := ?_) #[true, true, true, true, true] rfl rfl (by kernel_rfl) (fun _ _ _ h => h) (Or.inl ⟨by rfl, ?_⟩) ?_ ?_
    rotate_left
    ·
     intro w'
     go_simp
     with_reducible rfl
    rotate_left
    ·
     simp only [sP]
     rfl
    refine done_ (by kernel_rfl) ?_
    try go_wp2
    have n0_ := aK (Kd.S_drew HO_8.out)
    have n1_ := aK (Kd.S_drew HO_12.out)
    have n2_ := aK (Kd.R_drew HO_125002.out)
    have n3_ := aK (Kd.R_drew HO_131002.out)
    have n4_ := aK (Kd.R_drew HO140.out)
    have n5_ := aK (blk_drew BK101.out)
    have n6_ := aK (blk_drew BK102.out)
    have n7_ := aK (blk_drew BK124.out)
    have n8_ := aK (blk_drew BK130.out)
    have n9_ := aK (below_drew1 HB.out)
    clear HO_8 HO_12 HO_125002 HO_131002 HO140 BK101 BK102 BK124 BK130 HB
    have HO_8 := n0_
    have HO_12 := n1_
    have HO_125002 := n2_
    have HO_131002 := n3_
    have HO140 := n4_
    have BK101 := n5_
    have BK102 := n6_
    have BK124 := n7_
    have BK130 := n8_
    have HB := n9_
    clear n0_ n1_ n2_ n3_ n4_ n5_ n6_ n7_ n8_ n9_
    refine start_ (n := 5) (S := fun w' => w'.cell? ⟨gb130, 0, none⟩ = some (.int .i64 t125) ∧ w'.cell? ⟨gb130, 1, none⟩ = some (.int .i64 t126) ∧ w'.cell? ⟨gb130, 2, none⟩ = some (.slice Ao53 t127.length co53) ∧ w'.cell? ⟨gb102, 0, none⟩ = some (.int .i64 a1_0) ∧ w'.cell? ⟨gb102, 1, none⟩ = some (.int .i64 a1_1) ∧ w'.cell? ⟨gb102, 2, none⟩ = some (.slice A1_2 l1_2.length c1_2)) (ds := []) #[false, false, false, false, false] (by kernel_rfl) rfl rfl (cj3 BK130.out (cz3 BK102.out)) (fun hHeld => ?_)
    generalize w138.drew = w139 at HO_8 HO_12 HO_125002 HO_131002 HO140 BK101 BK102 BK124 BK130 HB hHeld ⊢
    refine take_ (i := 0) (N := some 63) (v := ?_) (a' := ?_) #[true, false, false, false, false] rfl rfl (by kernel_rfl) (fun _ _ _ h => h) (Or.inl ⟨by rfl, ?_⟩) hHeld ?_ ?_
    rotate_left
    ·
     rintro w' ⟨s0, s1, s2, s3, s4, s5⟩
     go_simp
     with_reducible rfl
    rotate_left
    ·
     simp only [sP]
     rfl
    refine take_ (i := 1) (N := some 64) (v := ?_) (a' := ?_) #[true, true, false, false, false] rfl rfl (by kernel_rfl) (fun _ _ _ h => h) (Or.inl ⟨by rfl, ?_⟩) hHeld ?_ ?_
    rotate_left
    ·
     rintro w' ⟨s0, s1, s2, s3, s4, s5⟩
     go_simp
     with_reducible rfl
    rotate_left
    ·
     simp only [sP]
     rfl
    refine one_ (i := 2) (N := some 65) #[true, true, true, false, false] rfl rfl (by kernel_rfl) (by decide) (fun K hK => ?_)
    refine goes_ Try.func15 (by kernel_rfl) rfl #[.agg #[.int .i64 a1_0, .int .i64 a1_1, .slice A1_2 l1_2.length c1_2]] (by rfl) rfl rfl (by (try simp only [List.map_toArray, List.map_cons, List.map_nil]); first | done | rfl | (simp only [List.length_drop, List.length_take]; rfl)) ?_
    with_reducible refine (laws_toField.calls kj24 a1_0 a1_1 _ _ l1_2 t142 t143 t144 _ ?side1 ?side2 A70.out).mono ?_
    (case side1 => exact pC (Kd.C_below HR1_2.out HB.out))
    (case side2 => exact HC1_2.out)
    rintro e w140 ⟨v145, rfl, ho0, hb⟩
    refine ⟨_, rfl, ?_⟩
    have n0_ := aK (Kd.S_elder' (by (with_reducible repeat (first | apply Kd.S_alloc | apply Kd.S_drewN | apply Kd.S_drew)); exact HO_8.out) (Kd.R_base ho0) hb)
    have n1_ := aK (Kd.S_elder' (by (with_reducible repeat (first | apply Kd.S_alloc | apply Kd.S_drewN | apply Kd.S_drew)); exact HO_12.out) (Kd.R_base ho0) hb)
    have n2_ := aK (Kd.R_elder' (pR HO_125002.out) (Kd.R_base ho0) hb)
    have n3_ := aK (Kd.R_elder' (pR HO_131002.out) (Kd.R_base ho0) hb)
    have n4_ := aK (Kd.R_elder' (pR HO140.out) (Kd.R_base ho0) hb)
    have HO146 := aK (Kd.R_lower (nw1 (nw2 ho0 (pR HO_125002.out) (pR HO_131002.out)) (pR HO140.out)) (below_size (pS HB.out)))
    replace BK101 := bB BK101 hb
    replace BK102 := bB BK102 hb
    replace BK124 := bB BK124 hb
    replace BK130 := bB BK130 hb
    replace HB := bS HB hb
    clear HO_8 HO_12 HO_125002 HO_131002 HO140
    have HO_8 := n0_
    have HO_12 := n1_
    have HO_125002 := n2_
    have HO_131002 := n3_
    have HO140 := n4_
    clear n0_ n1_ n2_ n3_ n4_
    (try clear hb)
    (try clear hb2)
    (try clear hk)
    (try clear hi)
    (try clear ho0)
    obtain ⟨Ao141, co141, eo141⟩ := Kd.R_slice HO146.out
    (first | subst eo141 | (obtain ⟨f4_, f5_⟩ := sI eo141; subst f4_; subst f5_))
    refine hK.out _ _ (cj3 BK130.out (cz3 BK102.out)) (fun hHeld => ?_)
    clear hK K
    refine norm_ (a' := ?_) ?_ ?_
    rotate_left
    ·
     show Act.put _ (some 65) _ = _
     simp only [sP]
     rfl
    refine one_ (i := 3) (N := some 66) #[true, true, true, true, false] rfl rfl (by kernel_rfl) (by decide) (fun K hK => ?_)
    refine goes_ Try.func18 (by kernel_rfl) rfl #[.agg #[.int .i64 t125, .int .i64 t126, .slice Ao53 t127.length co53], .agg #[.int .i64 t142, .int .i64 t143, .slice Ao141 t144.length co141]] (by rfl) rfl rfl (by (try simp only [List.map_toArray, List.map_cons, List.map_nil]); first | done | rfl | (simp only [List.length_drop, List.length_take]; rfl)) ?_
    with_reducible refine (laws_eqField.calls kj24 t125 t126 _ _ t127 t142 t143 _ _ t144 false _ ?side1 ?side2 ?side3 ?side4 A71.out).mono ?_
    (case side1 => exact pC (Kd.R_reads' HO_131002.out).2.2)
    (case side2 => exact (Kd.R_reads' HO_131002.out).2.1)
    (case side3 => exact pC (Kd.R_reads' HO146.out).2.2)
    (case side4 => exact (Kd.R_reads' HO146.out).2.1)
    rintro e w142 ⟨rfl, hb⟩
    refine ⟨_, rfl, ?_⟩
    have n0_ := aK (Kd.S_below (by (with_reducible repeat (first | apply Kd.S_alloc | apply Kd.S_drewN | apply Kd.S_drew)); exact HO_8.out) hb)
    have n1_ := aK (Kd.S_below (by (with_reducible repeat (first | apply Kd.S_alloc | apply Kd.S_drewN | apply Kd.S_drew)); exact HO_12.out) hb)
    have n2_ := aK (Kd.R_below (pR HO_125002.out) hb)
    have n3_ := aK (Kd.R_below (pR HO_131002.out) hb)
    have n4_ := aK (Kd.R_below (pR HO140.out) hb)
    have n5_ := aK (Kd.R_below (pR HO146.out) hb)
    replace BK101 := bB BK101 hb
    replace BK102 := bB BK102 hb
    replace BK124 := bB BK124 hb
    replace BK130 := bB BK130 hb
    replace HB := bS HB hb
    clear HO_8 HO_12 HO_125002 HO_131002 HO140 HO146
    have HO_8 := n0_
    have HO_12 := n1_
    have HO_125002 := n2_
    have HO_131002 := n3_
    have HO140 := n4_
    have HO146 := n5_
    clear n0_ n1_ n2_ n3_ n4_ n5_
    (try clear hb)
    (try clear hb2)
    (try clear hk)
    (try clear hi)
    refine hK.out _ _ (cj3 BK130.out (cz3 BK102.out)) (fun hHeld => ?_)
    clear hK K
    refine norm_ (a' := ?_) ?_ ?_
    rotate_left
    ·
     show Act.put _ (some 66) _ = _
     simp only [sP]
     rfl
    refine pure_ (i := 4) (N := some 67) (v := ?_) (a' := ?_) #[true, true, true, true, true] rfl rfl (by kernel_rfl) (fun _ _ _ h => h) (Or.inl ⟨by rfl, ?_⟩) ?_ ?_
    rotate_left
    ·
     intro w'
     go_simp
     with_reducible rfl
    rotate_left
    ·
     simp only [sP]
     rfl
    refine done_ (by kernel_rfl) ?_
    try go_wp2
    go_ret
    exact ⟨er, pT HB.out⟩
   replace c69 := Bool.eq_false_iff.mpr c69
   subst c69
   have H1 : (some false) = some r := by rw [if_neg (show ¬ (false = true) by decide)] at H; exact H
   clear H
   have H := H1
   clear H1
   obtain rfl := Option.some.inj H
   try go_wp2
   have n0_ := aK (Kd.S_drew HO_8.out)
   have n1_ := aK (Kd.S_drew HO_12.out)
   have n2_ := aK (Kd.R_drew HO_125002.out)
   have n3_ := aK (Kd.R_drew HO_131002.out)
   have n4_ := aK (blk_drew BK101.out)
   have n5_ := aK (blk_drew BK102.out)
   have n6_ := aK (blk_drew BK124.out)
   have n7_ := aK (blk_drew BK130.out)
   have n8_ := aK (below_drew1 HB.out)
   clear HO_8 HO_12 HO_125002 HO_131002 BK101 BK102 BK124 BK130 HB
   have HO_8 := n0_
   have HO_12 := n1_
   have HO_125002 := n2_
   have HO_131002 := n3_
   have BK101 := n4_
   have BK102 := n5_
   have BK124 := n6_
   have BK130 := n7_
   have HB := n8_
   clear n0_ n1_ n2_ n3_ n4_ n5_ n6_ n7_ n8_
   refine start_ (n := 5) (S := fun w' => w'.cell? ⟨gb124, 0, none⟩ = some (.int .i64 t119) ∧ w'.cell? ⟨gb124, 1, none⟩ = some (.int .i64 t120) ∧ w'.cell? ⟨gb124, 2, none⟩ = some (.slice Ao45 t121.length co45) ∧ w'.cell? ⟨gb101, 0, none⟩ = some (.int .i64 a0_0) ∧ w'.cell? ⟨gb101, 1, none⟩ = some (.int .i64 a0_1) ∧ w'.cell? ⟨gb101, 2, none⟩ = some (.slice A0_2 l0_2.length c0_2)) (ds := []) #[false, false, false, false, false] (by kernel_rfl) rfl rfl (cj3 BK124.out (cz3 BK101.out)) (fun hHeld => ?_)
   generalize wc.drew = w143 at HO_8 HO_12 HO_125002 HO_131002 BK101 BK102 BK124 BK130 HB hHeld ⊢
   refine take_ (i := 0) (N := some 58) (v := ?_) (a' := ?_) #[true, false, false, false, false] rfl rfl (by kernel_rfl) (fun _ _ _ h => h) (Or.inl ⟨by rfl, ?_⟩) hHeld ?_ ?_
   rotate_left
   ·
    rintro w' ⟨s0, s1, s2, s3, s4, s5⟩
    go_simp
    with_reducible rfl
   rotate_left
   ·
    simp only [sP]
    rfl
   refine take_ (i := 1) (N := some 59) (v := ?_) (a' := ?_) #[true, true, false, false, false] rfl rfl (by kernel_rfl) (fun _ _ _ h => h) (Or.inl ⟨by rfl, ?_⟩) hHeld ?_ ?_
   rotate_left
   ·
    rintro w' ⟨s0, s1, s2, s3, s4, s5⟩
    go_simp
    with_reducible rfl
   rotate_left
   ·
    simp only [sP]
    rfl
   refine one_ (i := 2) (N := some 60) #[true, true, true, false, false] rfl rfl (by kernel_rfl) (by decide) (fun K hK => ?_)
   refine goes_ Try.func15 (by kernel_rfl) rfl #[.agg #[.int .i64 a0_0, .int .i64 a0_1, .slice A0_2 l0_2.length c0_2]] (by rfl) rfl rfl (by (try simp only [List.map_toArray, List.map_cons, List.map_nil]); first | done | rfl | (simp only [List.length_drop, List.length_take]; rfl)) ?_
   with_reducible refine (laws_toField.calls kj24 a0_0 a0_1 _ _ l0_2 t136 t137 t138 _ ?side1 ?side2 A67.out).mono ?_
   (case side1 => exact pC (Kd.C_below HR0_2.out HB.out))
   (case side2 => exact HC0_2.out)
   rintro e w144 ⟨v139, rfl, ho0, hb⟩
   refine ⟨_, rfl, ?_⟩
   have n0_ := aK (Kd.S_elder' (by (with_reducible repeat (first | apply Kd.S_alloc | apply Kd.S_drewN | apply Kd.S_drew)); exact HO_8.out) (Kd.R_base ho0) hb)
   have n1_ := aK (Kd.S_elder' (by (with_reducible repeat (first | apply Kd.S_alloc | apply Kd.S_drewN | apply Kd.S_drew)); exact HO_12.out) (Kd.R_base ho0) hb)
   have n2_ := aK (Kd.R_elder' (pR HO_125002.out) (Kd.R_base ho0) hb)
   have n3_ := aK (Kd.R_elder' (pR HO_131002.out) (Kd.R_base ho0) hb)
   have HO140 := aK (Kd.R_lower (nw2 ho0 (pR HO_125002.out) (pR HO_131002.out)) (below_size (pS HB.out)))
   replace BK101 := bB BK101 hb
   replace BK102 := bB BK102 hb
   replace BK124 := bB BK124 hb
   replace BK130 := bB BK130 hb
   replace HB := bS HB hb
   clear HO_8 HO_12 HO_125002 HO_131002
   have HO_8 := n0_
   have HO_12 := n1_
   have HO_125002 := n2_
   have HO_131002 := n3_
   clear n0_ n1_ n2_ n3_
   (try clear hb)
   (try clear hb2)
   (try clear hk)
   (try clear hi)
   (try clear ho0)
   obtain ⟨Ao145, co145, eo145⟩ := Kd.R_slice HO140.out
   (first | subst eo145 | (obtain ⟨f4_, f5_⟩ := sI eo145; subst f4_; subst f5_))
   refine hK.out _ _ (cj3 BK124.out (cz3 BK101.out)) (fun hHeld => ?_)
   clear hK K
   refine norm_ (a' := ?_) ?_ ?_
   rotate_left
   ·
    show Act.put _ (some 60) _ = _
    simp only [sP]
    rfl
   refine one_ (i := 3) (N := some 61) #[true, true, true, true, false] rfl rfl (by kernel_rfl) (by decide) (fun K hK => ?_)
   refine goes_ Try.func18 (by kernel_rfl) rfl #[.agg #[.int .i64 t119, .int .i64 t120, .slice Ao45 t121.length co45], .agg #[.int .i64 t136, .int .i64 t137, .slice Ao145 t138.length co145]] (by rfl) rfl rfl (by (try simp only [List.map_toArray, List.map_cons, List.map_nil]); first | done | rfl | (simp only [List.length_drop, List.length_take]; rfl)) ?_
   with_reducible refine (laws_eqField.calls kj24 t119 t120 _ _ t121 t136 t137 _ _ t138 false _ ?side1 ?side2 ?side3 ?side4 A68.out).mono ?_
   (case side1 => exact pC (Kd.R_reads' HO_125002.out).2.2)
   (case side2 => exact (Kd.R_reads' HO_125002.out).2.1)
   (case side3 => exact pC (Kd.R_reads' HO140.out).2.2)
   (case side4 => exact (Kd.R_reads' HO140.out).2.1)
   rintro e w146 ⟨rfl, hb⟩
   refine ⟨_, rfl, ?_⟩
   have n0_ := aK (Kd.S_below (by (with_reducible repeat (first | apply Kd.S_alloc | apply Kd.S_drewN | apply Kd.S_drew)); exact HO_8.out) hb)
   have n1_ := aK (Kd.S_below (by (with_reducible repeat (first | apply Kd.S_alloc | apply Kd.S_drewN | apply Kd.S_drew)); exact HO_12.out) hb)
   have n2_ := aK (Kd.R_below (pR HO_125002.out) hb)
   have n3_ := aK (Kd.R_below (pR HO_131002.out) hb)
   have n4_ := aK (Kd.R_below (pR HO140.out) hb)
   replace BK101 := bB BK101 hb
   replace BK102 := bB BK102 hb
   replace BK124 := bB BK124 hb
   replace BK130 := bB BK130 hb
   replace HB := bS HB hb
   clear HO_8 HO_12 HO_125002 HO_131002 HO140
   have HO_8 := n0_
   have HO_12 := n1_
   have HO_125002 := n2_
   have HO_131002 := n3_
   have HO140 := n4_
   clear n0_ n1_ n2_ n3_ n4_
   (try clear hb)
   (try clear hb2)
   (try clear hk)
   (try clear hi)
   refine hK.out _ _ (cj3 BK124.out (cz3 BK101.out)) (fun hHeld => ?_)
   clear hK K
   refine norm_ (a' := ?_) ?_ ?_
   rotate_left
   ·
    show Act.put _ (some 61) _ = _
    simp only [sP]
    rfl
   refine pure_ (i := 4) (N := some 62) (v := ?_) (a' := ?_) #[true, true, true, true, true] rfl rfl (by kernel_rfl) (fun _ _ _ h => h) (Or.inl ⟨by rfl, ?_⟩) ?_ ?_
   rotate_left
   ·
    intro w'
    go_simp
    with_reducible rfl
   rotate_left
   ·
    simp only [sP]
    rfl
   refine done_ (by kernel_rfl) ?_
   try go_wp2
   go_ret
   exact ⟨er, pT HB.out⟩
def laws_FnExactNowcast.Pure : Prop := ∀ (a0_0 : Int) (a0_1 : Int) (l0_2 : List Int) (a1_0 : Int) (a1_1 : Int) (l1_2 : List Int) (a2 : Int), (Lit.int .i64 a0_0).wf = true → (Lit.int .i64 a0_1).wf = true → (l0_2.length ≤ 9223372036854775807 ∧ ∀ z0 ∈ l0_2, (Lit.int .i64 z0).wf = true) → (Lit.int .i64 a1_0).wf = true → (Lit.int .i64 a1_1).wf = true → (l1_2.length ≤ 9223372036854775807 ∧ ∀ z0 ∈ l1_2, (Lit.int .i64 z0).wf = true) → (Lit.int .i64 a2).wf = true → ∃ k, laws_FnExactNowcast.f k a0_0 a0_1 l0_2 a1_0 a1_1 l1_2 a2 = some true
end Go.Proofs.Ytilffhaghabdgaa.P
