/- Texts of the claim FnExactBestMotion, merged: part 10 of 11: the program's and the reference's functions as Lean functions, the walks that show it, and plain lemmas; no conditions. -/
import Derived.Test.YtilffhaghabdgaaKFnExactBestMotion3
import Derived.Test.YtilffhaghabdgaaKFnExactBestMotion7
import Derived.Test.YtilffhaghabdgaaKFnExactBestMotion9
import Derived.Test.YtilffhaghabdgaaKFnExactBestMotion1
import Derived.Test.YtilffhaghabdgaaKFnExactBestMotion2
import Derived.ProofKit
import Derived.OpenShut
import Derived.Deep.Slices
import Derived.Deep.Strs
import Derived.Deep.Fields
import Derived.Lib.SmallJoins
namespace Go.Proofs.Ytilffhaghabdgaa.P
open Go.RowKit Go.Proofs.YtilffhaghabdgaaW.PrintWords Go.Proofs.YtilffhaghabdgaaW.PrintLast Go.Proofs.YtilffhaghabdgaaW.PrintMore
attribute [local go_sem] max2_int min2_int max_two min_two max_three min_three max_four min_four
set_option linter.unusedVariables false
set_option linter.unusedSimpArgs false
def laws_FnExactBestMotion.j0 : Nat → Bool → Int → Int → List Int → Int → Int → List Int → Int → Int → List Int → Int → Int → List Int → Option (Bool)
 | 0, _, _, _, _, _, _, _, _, _, _, _, _, _ => none
 | k + 1, x48, x102000, x102001, x102002, x103000, x103001, x103002, x125000, x125001, x125002, x131000, x131001, x131002 => if x48 = true then (some false) else ((laws_toField.f k x102000 x102001 x102002).bind fun bt136 => ((laws_eqField.f k x125000 x125001 x125002 bt136.1 bt136.2.1 bt136.2.2).bind fun t141 => (if t141 = true then ((laws_toField.f k x103000 x103001 x103002).bind fun bt142 => ((laws_eqField.f k x131000 x131001 x131002 bt142.1 bt142.2.1 bt142.2.2).bind fun t147 => (if t147 = true then (some true) else (some false)))) else (some false))))
def laws_FnExactBestMotion.f (k : Nat) (a0_0 : Int) (a0_1 : Int) (l0_2 : List Int) (a1_0 : Int) (a1_1 : Int) (l1_2 : List Int) : Option (Bool) := (laws_szField.f a0_0 a0_1 l0_2 1048576).bind fun t103 => (if t103 < 0 then (some true) else ((laws_szField.f a1_0 a1_1 l1_2 t103).bind fun t104 => (if t104 < 0 then (some true) else ((laws_toField.f k a0_0 a0_1 l0_2).bind fun bt105 => ((laws_toField.f k a1_0 a1_1 l1_2).bind fun bt110 => ((spec_BestMotion.f k bt105.1 bt105.2.1 bt105.2.2 bt110.1 bt110.2.1 bt110.2.2).bind fun bt115 => ((laws_toField.f k a0_0 a0_1 l0_2).bind fun bt119 => ((laws_toField.f k a1_0 a1_1 l1_2).bind fun bt125 => ((impl_BestMotion.f k bt119.1 bt119.2.1 bt119.2.2 bt125.1 bt125.2.1 bt125.2.2).bind fun bt131 => ((laws_eqMotion.f bt131.1 bt131.2.1 bt115.1 bt115.2.1).bind fun t135 => (if t135 = true then (laws_FnExactBestMotion.j0 k (bt131.2.2 != bt115.2.2) a0_0 a0_1 l0_2 a1_0 a1_1 l1_2 bt119.1 bt119.2.1 bt119.2.2 bt125.1 bt125.2.1 bt125.2.2) else (laws_FnExactBestMotion.j0 k true a0_0 a0_1 l0_2 a1_0 a1_1 l1_2 bt119.1 bt119.2.1 bt119.2.2 bt125.1 bt125.2.1 bt125.2.2))))))))))))
def laws_FnExactBestMotion.T8 : Bool × List (List Nat × List Nat) := (true, [([], []), ([0], [0]), ([], []), ([2, 1], [2]), ([1, 3, 3], [1, 3]), ([4], [4]), ([5], [5]), ([5], [5]), ([], []), ([8, 6, 4, 0, 1, 2, 3, 4, 5, 6, 8], [6, 8]), ([7, 9, 0, 1, 2, 3, 4, 5, 6, 7, 8, 9], [7])])
def laws_FnExactBestMotion.B8 : List Nat := [0, 1, 0, 7, 15, 31, 63, 63, 0, 383, 1023]
theorem laws_FnExactBestMotion.tab8 : rtab .any (opsOf Try.f4 8) = laws_FnExactBestMotion.T8 := by kernel_rfl
theorem laws_FnExactBestMotion.bits8 : waitsOk laws_FnExactBestMotion.T8.2 laws_FnExactBestMotion.B8 = true := by kernel_rfl
set_option maxHeartbeats 8000000 in
set_option maxRecDepth 100000 in
theorem laws_FnExactBestMotion.calls (k : Nat) (a0_0 : Int) (a0_1 : Int) (A0_2 : Option Addr) (c0_2 : Nat) (l0_2 : List Int) (a1_0 : Int) (a1_1 : Int) (A1_2 : Option Addr) (c1_2 : Nat) (l1_2 : List Int) (r : Bool) (w : World) (hr0_2 : Kd.C (Kd.int .i64) w A0_2 l0_2.length l0_2) (hc0_2 : l0_2.length ≤ c0_2) (hr1_2 : Kd.C (Kd.int .i64) w A1_2 l1_2.length l1_2) (hc1_2 : l1_2.length ≤ c1_2) (h : laws_FnExactBestMotion.f k a0_0 a0_1 l0_2 a1_0 a1_1 l1_2 = some r) :
  Calls Try.prog 4 #[.agg #[.int .i64 a0_0, .int .i64 a0_1, .slice A0_2 l0_2.length c0_2], .agg #[.int .i64 a1_0, .int .i64 a1_1, .slice A1_2 l1_2.length c1_2]] w fun e w' => e = .returned (.bool r) ∧ Below w.heap.size w w' := by
 have hu24 := Try.underlying24
 have hu37 := Try.underlying37
 have hu29 := Try.underlying29
 have HR0_2 := Aside0.mk hr0_2
 have HC0_2 := Aside0.mk hc0_2
 clear hr0_2 hc0_2
 have HR1_2 := Aside0.mk hr1_2
 have HC1_2 := Aside0.mk hc1_2
 clear hr1_2 hc1_2
 have HB := aK (Below.refl w.heap.size w)
 have H : ((laws_szField.f a0_0 a0_1 l0_2 1048576).bind fun t103 => (if t103 < 0 then (some true) else ((laws_szField.f a1_0 a1_1 l1_2 t103).bind fun t104 => (if t104 < 0 then (some true) else ((laws_toField.f k a0_0 a0_1 l0_2).bind fun bt105 => ((laws_toField.f k a1_0 a1_1 l1_2).bind fun bt110 => ((spec_BestMotion.f k bt105.1 bt105.2.1 bt105.2.2 bt110.1 bt110.2.1 bt110.2.2).bind fun bt115 => ((laws_toField.f k a0_0 a0_1 l0_2).bind fun bt119 => ((laws_toField.f k a1_0 a1_1 l1_2).bind fun bt125 => ((impl_BestMotion.f k bt119.1 bt119.2.1 bt119.2.2 bt125.1 bt125.2.1 bt125.2.2).bind fun bt131 => ((laws_eqMotion.f bt131.1 bt131.2.1 bt115.1 bt115.2.1).bind fun t135 => (if t135 = true then (laws_FnExactBestMotion.j0 k (bt131.2.2 != bt115.2.2) a0_0 a0_1 l0_2 a1_0 a1_1 l1_2 bt119.1 bt119.2.1 bt119.2.2 bt125.1 bt125.2.1 bt125.2.2) else (laws_FnExactBestMotion.j0 k true a0_0 a0_1 l0_2 a1_0 a1_1 l1_2 bt119.1 bt119.2.1 bt119.2.2 bt125.1 bt125.2.1 bt125.2.2))))))))))))) = some r := h
 clear h
 replace H := Option.bind_eq_some_iff.mp H
 obtain ⟨t103, A30, H⟩ := H
 replace H : (if t103 < 0 then (some true) else ((laws_szField.f a1_0 a1_1 l1_2 t103).bind fun t104 => (if t104 < 0 then (some true) else ((laws_toField.f k a0_0 a0_1 l0_2).bind fun bt105 => ((laws_toField.f k a1_0 a1_1 l1_2).bind fun bt110 => ((spec_BestMotion.f k bt105.1 bt105.2.1 bt105.2.2 bt110.1 bt110.2.1 bt110.2.2).bind fun bt115 => ((laws_toField.f k a0_0 a0_1 l0_2).bind fun bt119 => ((laws_toField.f k a1_0 a1_1 l1_2).bind fun bt125 => ((impl_BestMotion.f k bt119.1 bt119.2.1 bt119.2.2 bt125.1 bt125.2.1 bt125.2.2).bind fun bt131 => ((laws_eqMotion.f bt131.1 bt131.2.1 bt115.1 bt115.2.1).bind fun t135 => (if t135 = true then (laws_FnExactBestMotion.j0 k (bt131.2.2 != bt115.2.2) a0_0 a0_1 l0_2 a1_0 a1_1 l1_2 bt119.1 bt119.2.1 bt119.2.2 bt125.1 bt125.2.1 bt125.2.2) else (laws_FnExactBestMotion.j0 k true a0_0 a0_1 l0_2 a1_0 a1_1 l1_2 bt119.1 bt119.2.1 bt119.2.2 bt125.1 bt125.2.1 bt125.2.2)))))))))))) = some r := H
 have A3 := Aside0.mk A30
 clear A30
 by_cases c4 : t103 < 0
 ·
  rw [if_pos c4] at H
  have c4b0 : decide (t103 < 0) = true := decide_eq_true c4
  clear c4
  obtain rfl := Option.some.inj H
  go_enter Try.func4, Try.ntmps4
  go_wp2_with (first | ((with_reducible refine gate_dst (N := 2) rfl ?_); refine bxe (cs := #[.int .i64 a0_0, .int .i64 a0_1, .slice A0_2 l0_2.length c0_2]) (t := 24) ?_; intro gb101 hg w5 hbox hb; have BK101 := aK (hbox); have GW101 := aK (gE hg (pS HB.out)); have GE101 := aK (gE hg (pS HB.out)); replace HB := bS HB hb; clear hb hbox hg) | ((with_reducible refine gate_dst (N := 3) rfl ?_); refine bxe (cs := #[.int .i64 a1_0, .int .i64 a1_1, .slice A1_2 l1_2.length c1_2]) (t := 24) ?_; intro gb102 hg w6 hbox hb; have BK102 := aK (hbox); have GW102 := aK (gE hg (pS HB.out)); have GE102 := aK (gE hg (pS HB.out)); have NB101_102 := aK (nL hg (pB BK101.out)); have NB102_101 := aK (nG hg (pB BK101.out)); replace BK101 := bB BK101 hb; replace HB := bS HB hb; clear hb hbox hg; have hcz7_0 : w6.cell? ⟨gb101, 0, none⟩ = some (.int .i64 a0_0) := (blk_cell BK101.out 0).trans rfl; have hcz7_1 : w6.cell? ⟨gb101, 1, none⟩ = some (.int .i64 a0_1) := (blk_cell BK101.out 1).trans rfl; have hcz7_2 : w6.cell? ⟨gb101, 2, none⟩ = some (.slice A0_2 l0_2.length c0_2) := (blk_cell BK101.out 2).trans rfl; have hfz7_0 := blk_frozen BK101.out 0; have hfz7_1 := blk_frozen BK101.out 1; have hfz7_2 := blk_frozen BK101.out 2) | ((with_reducible refine gate_callee (f := 13) rfl ?_); refine gl (some 14) Try.func13 #[.agg #[.int .i64 a0_0, .int .i64 a0_1, .slice A0_2 l0_2.length c0_2], .int .i64 1048576] ?_; (with_reducible refine (laws_szField.calls a0_0 a0_1 _ _ l0_2 1048576 t103 _ ?side1 ?side2 A3.out).mono ?_); (case side1 => exact pC (Kd.C_below HR0_2.out HB.out)); (case side2 => exact HC0_2.out); rintro e w8 ⟨rfl, hb⟩; refine ⟨_, rfl, ?_⟩; replace HB := bS HB hb; (try clear hb); (try clear hb2); (try clear hk); (try clear hi)))
  go_ret
  exact ⟨by first | rfl | (simp [errW_none, errW_some] <;> rfl) | (simp [*, errW_none, errW_some] <;> rfl), pT HB.out⟩
 rw [if_neg c4] at H
 have c4b0 : decide (t103 < 0) = false := decide_eq_false c4
 clear c4
 replace H := Option.bind_eq_some_iff.mp H
 obtain ⟨t104, A90, H⟩ := H
 replace H : (if t104 < 0 then (some true) else ((laws_toField.f k a0_0 a0_1 l0_2).bind fun bt105 => ((laws_toField.f k a1_0 a1_1 l1_2).bind fun bt110 => ((spec_BestMotion.f k bt105.1 bt105.2.1 bt105.2.2 bt110.1 bt110.2.1 bt110.2.2).bind fun bt115 => ((laws_toField.f k a0_0 a0_1 l0_2).bind fun bt119 => ((laws_toField.f k a1_0 a1_1 l1_2).bind fun bt125 => ((impl_BestMotion.f k bt119.1 bt119.2.1 bt119.2.2 bt125.1 bt125.2.1 bt125.2.2).bind fun bt131 => ((laws_eqMotion.f bt131.1 bt131.2.1 bt115.1 bt115.2.1).bind fun t135 => (if t135 = true then (laws_FnExactBestMotion.j0 k (bt131.2.2 != bt115.2.2) a0_0 a0_1 l0_2 a1_0 a1_1 l1_2 bt119.1 bt119.2.1 bt119.2.2 bt125.1 bt125.2.1 bt125.2.2) else (laws_FnExactBestMotion.j0 k true a0_0 a0_1 l0_2 a1_0 a1_1 l1_2 bt119.1 bt119.2.1 bt119.2.2 bt125.1 bt125.2.1 bt125.2.2)))))))))) = some r := H
 have A9 := Aside0.mk A90
 clear A90
 by_cases c10 : t104 < 0
 ·
  rw [if_pos c10] at H
  have c10b0 : decide (t104 < 0) = true := decide_eq_true c10
  clear c10
  obtain rfl := Option.some.inj H
  go_enter Try.func4, Try.ntmps4
  go_wp2_with (first | ((with_reducible refine gate_dst (N := 2) rfl ?_); refine bxe (cs := #[.int .i64 a0_0, .int .i64 a0_1, .slice A0_2 l0_2.length c0_2]) (t := 24) ?_; intro gb101 hg w11 hbox hb; have BK101 := aK (hbox); have GW101 := aK (gE hg (pS HB.out)); have GE101 := aK (gE hg (pS HB.out)); replace HB := bS HB hb; clear hb hbox hg) | ((with_reducible refine gate_dst (N := 3) rfl ?_); refine bxe (cs := #[.int .i64 a1_0, .int .i64 a1_1, .slice A1_2 l1_2.length c1_2]) (t := 24) ?_; intro gb102 hg w12 hbox hb; have BK102 := aK (hbox); have GW102 := aK (gE hg (pS HB.out)); have GE102 := aK (gE hg (pS HB.out)); have NB101_102 := aK (nL hg (pB BK101.out)); have NB102_101 := aK (nG hg (pB BK101.out)); replace BK101 := bB BK101 hb; replace HB := bS HB hb; clear hb hbox hg; have hnb13 := NB101_102.out; have hnc13 := NB102_101.out; have hcz14_0 : w12.cell? ⟨gb101, 0, none⟩ = some (.int .i64 a0_0) := (blk_cell BK101.out 0).trans rfl; have hcz14_1 : w12.cell? ⟨gb101, 1, none⟩ = some (.int .i64 a0_1) := (blk_cell BK101.out 1).trans rfl; have hcz14_2 : w12.cell? ⟨gb101, 2, none⟩ = some (.slice A0_2 l0_2.length c0_2) := (blk_cell BK101.out 2).trans rfl; have hfz14_0 := blk_frozen BK101.out 0; have hfz14_1 := blk_frozen BK101.out 1; have hfz14_2 := blk_frozen BK101.out 2) | ((with_reducible refine gate_callee (f := 13) rfl ?_); refine gl (some 14) Try.func13 #[.agg #[.int .i64 a0_0, .int .i64 a0_1, .slice A0_2 l0_2.length c0_2], .int .i64 1048576] ?_; (with_reducible refine (laws_szField.calls a0_0 a0_1 _ _ l0_2 1048576 t103 _ ?side1 ?side2 A3.out).mono ?_); (case side1 => exact pC (Kd.C_below HR0_2.out HB.out)); (case side2 => exact HC0_2.out); rintro e w15 ⟨rfl, hb⟩; refine ⟨_, rfl, ?_⟩; replace BK102 := bB BK102 hb; replace HB := bS HB hb; (try clear hb); (try clear hb2); (try clear hk); (try clear hi); have hcz16_0 : w15.cell? ⟨gb102, 0, none⟩ = some (.int .i64 a1_0) := (blk_cell BK102.out 0).trans rfl; have hcz16_1 : w15.cell? ⟨gb102, 1, none⟩ = some (.int .i64 a1_1) := (blk_cell BK102.out 1).trans rfl; have hcz16_2 : w15.cell? ⟨gb102, 2, none⟩ = some (.slice A1_2 l1_2.length c1_2) := (blk_cell BK102.out 2).trans rfl; have hfz16_0 := blk_frozen BK102.out 0; have hfz16_1 := blk_frozen BK102.out 1; have hfz16_2 := blk_frozen BK102.out 2) | ((with_reducible refine gate_callee (f := 13) rfl ?_); refine gl (some 19) Try.func13 #[.agg #[.int .i64 a1_0, .int .i64 a1_1, .slice A1_2 l1_2.length c1_2], .int .i64 t103] ?_; (with_reducible refine (laws_szField.calls a1_0 a1_1 _ _ l1_2 t103 t104 _ ?side1 ?side2 A9.out).mono ?_); (case side1 => exact pC (Kd.C_below HR1_2.out HB.out)); (case side2 => exact HC1_2.out); rintro e w17 ⟨rfl, hb⟩; refine ⟨_, rfl, ?_⟩; replace HB := bS HB hb; (try clear hb); (try clear hb2); (try clear hk); (try clear hi)))
  go_ret
  exact ⟨by first | rfl | (simp [errW_none, errW_some] <;> rfl) | (simp [*, errW_none, errW_some] <;> rfl), pT HB.out⟩
 rw [if_neg c10] at H
 have c10b0 : decide (t104 < 0) = false := decide_eq_false c10
 clear c10
 replace H := Option.bind_eq_some_iff.mp H
 obtain ⟨⟨t105, t106, t107⟩, A180, H⟩ := H
 replace H : ((laws_toField.f k a1_0 a1_1 l1_2).bind fun bt110 => ((spec_BestMotion.f k t105 t106 t107 bt110.1 bt110.2.1 bt110.2.2).bind fun bt115 => ((laws_toField.f k a0_0 a0_1 l0_2).bind fun bt119 => ((laws_toField.f k a1_0 a1_1 l1_2).bind fun bt125 => ((impl_BestMotion.f k bt119.1 bt119.2.1 bt119.2.2 bt125.1 bt125.2.1 bt125.2.2).bind fun bt131 => ((laws_eqMotion.f bt131.1 bt131.2.1 bt115.1 bt115.2.1).bind fun t135 => (if t135 = true then (laws_FnExactBestMotion.j0 k (bt131.2.2 != bt115.2.2) a0_0 a0_1 l0_2 a1_0 a1_1 l1_2 bt119.1 bt119.2.1 bt119.2.2 bt125.1 bt125.2.1 bt125.2.2) else (laws_FnExactBestMotion.j0 k true a0_0 a0_1 l0_2 a1_0 a1_1 l1_2 bt119.1 bt119.2.1 bt119.2.2 bt125.1 bt125.2.1 bt125.2.2)))))))) = some r := H
 have A18 := Aside0.mk A180
 clear A180
 replace H := Option.bind_eq_some_iff.mp H
 obtain ⟨⟨t110, t111, t112⟩, A190, H⟩ := H
 replace H : ((spec_BestMotion.f k t105 t106 t107 t110 t111 t112).bind fun bt115 => ((laws_toField.f k a0_0 a0_1 l0_2).bind fun bt119 => ((laws_toField.f k a1_0 a1_1 l1_2).bind fun bt125 => ((impl_BestMotion.f k bt119.1 bt119.2.1 bt119.2.2 bt125.1 bt125.2.1 bt125.2.2).bind fun bt131 => ((laws_eqMotion.f bt131.1 bt131.2.1 bt115.1 bt115.2.1).bind fun t135 => (if t135 = true then (laws_FnExactBestMotion.j0 k (bt131.2.2 != bt115.2.2) a0_0 a0_1 l0_2 a1_0 a1_1 l1_2 bt119.1 bt119.2.1 bt119.2.2 bt125.1 bt125.2.1 bt125.2.2) else (laws_FnExactBestMotion.j0 k true a0_0 a0_1 l0_2 a1_0 a1_1 l1_2 bt119.1 bt119.2.1 bt119.2.2 bt125.1 bt125.2.1 bt125.2.2))))))) = some r := H
 have A19 := Aside0.mk A190
 clear A190
 replace H := Option.bind_eq_some_iff.mp H
 obtain ⟨⟨t115, t116, t117⟩, A200, H⟩ := H
 replace H : ((laws_toField.f k a0_0 a0_1 l0_2).bind fun bt119 => ((laws_toField.f k a1_0 a1_1 l1_2).bind fun bt125 => ((impl_BestMotion.f k bt119.1 bt119.2.1 bt119.2.2 bt125.1 bt125.2.1 bt125.2.2).bind fun bt131 => ((laws_eqMotion.f bt131.1 bt131.2.1 t115 t116).bind fun t135 => (if t135 = true then (laws_FnExactBestMotion.j0 k (bt131.2.2 != t117) a0_0 a0_1 l0_2 a1_0 a1_1 l1_2 bt119.1 bt119.2.1 bt119.2.2 bt125.1 bt125.2.1 bt125.2.2) else (laws_FnExactBestMotion.j0 k true a0_0 a0_1 l0_2 a1_0 a1_1 l1_2 bt119.1 bt119.2.1 bt119.2.2 bt125.1 bt125.2.1 bt125.2.2)))))) = some r := H
 have A20 := Aside0.mk A200
 clear A200
 replace H := Option.bind_eq_some_iff.mp H
 obtain ⟨⟨t119, t120, t121⟩, A210, H⟩ := H
 replace H : ((laws_toField.f k a1_0 a1_1 l1_2).bind fun bt125 => ((impl_BestMotion.f k t119 t120 t121 bt125.1 bt125.2.1 bt125.2.2).bind fun bt131 => ((laws_eqMotion.f bt131.1 bt131.2.1 t115 t116).bind fun t135 => (if t135 = true then (laws_FnExactBestMotion.j0 k (bt131.2.2 != t117) a0_0 a0_1 l0_2 a1_0 a1_1 l1_2 t119 t120 t121 bt125.1 bt125.2.1 bt125.2.2) else (laws_FnExactBestMotion.j0 k true a0_0 a0_1 l0_2 a1_0 a1_1 l1_2 t119 t120 t121 bt125.1 bt125.2.1 bt125.2.2))))) = some r := H
 have A21 := Aside0.mk A210
 clear A210
 replace H := Option.bind_eq_some_iff.mp H
 obtain ⟨⟨t125, t126, t127⟩, A220, H⟩ := H
 replace H : ((impl_BestMotion.f k t119 t120 t121 t125 t126 t127).bind fun bt131 => ((laws_eqMotion.f bt131.1 bt131.2.1 t115 t116).bind fun t135 => (if t135 = true then (laws_FnExactBestMotion.j0 k (bt131.2.2 != t117) a0_0 a0_1 l0_2 a1_0 a1_1 l1_2 t119 t120 t121 t125 t126 t127) else (laws_FnExactBestMotion.j0 k true a0_0 a0_1 l0_2 a1_0 a1_1 l1_2 t119 t120 t121 t125 t126 t127)))) = some r := H
 have A22 := Aside0.mk A220
 clear A220
 replace H := Option.bind_eq_some_iff.mp H
 obtain ⟨⟨t131, t132, t133⟩, A230, H⟩ := H
 replace H : ((laws_eqMotion.f t131 t132 t115 t116).bind fun t135 => (if t135 = true then (laws_FnExactBestMotion.j0 k (t133 != t117) a0_0 a0_1 l0_2 a1_0 a1_1 l1_2 t119 t120 t121 t125 t126 t127) else (laws_FnExactBestMotion.j0 k true a0_0 a0_1 l0_2 a1_0 a1_1 l1_2 t119 t120 t121 t125 t126 t127))) = some r := H
 have A23 := Aside0.mk A230
 clear A230
 have HC24 := Aside0.mk H
 clear H
 go_enter Try.func4, Try.ntmps4
 try go_wp2_with (first | ((with_reducible refine gate_dst (N := 2) rfl ?_); refine bxe (cs := #[.int .i64 a0_0, .int .i64 a0_1, .slice A0_2 l0_2.length c0_2]) (t := 24) ?_; intro gb101 hg w25 hbox hb; have BK101 := aK (hbox); have GW101 := aK (gE hg (pS HB.out)); have GE101 := aK (gE hg (pS HB.out)); replace HB := bS HB hb; clear hb hbox hg) | ((with_reducible refine gate_dst (N := 3) rfl ?_); refine bxe (cs := #[.int .i64 a1_0, .int .i64 a1_1, .slice A1_2 l1_2.length c1_2]) (t := 24) ?_; intro gb102 hg w26 hbox hb; have BK102 := aK (hbox); have GW102 := aK (gE hg (pS HB.out)); have GE102 := aK (gE hg (pS HB.out)); have NB101_102 := aK (nL hg (pB BK101.out)); have NB102_101 := aK (nG hg (pB BK101.out)); replace BK101 := bB BK101 hb; replace HB := bS HB hb; clear hb hbox hg; have hnb27 := NB101_102.out; have hnc27 := NB102_101.out; have hcz28_0 : w26.cell? ⟨gb101, 0, none⟩ = some (.int .i64 a0_0) := (blk_cell BK101.out 0).trans rfl; have hcz28_1 : w26.cell? ⟨gb101, 1, none⟩ = some (.int .i64 a0_1) := (blk_cell BK101.out 1).trans rfl; have hcz28_2 : w26.cell? ⟨gb101, 2, none⟩ = some (.slice A0_2 l0_2.length c0_2) := (blk_cell BK101.out 2).trans rfl; have hfz28_0 := blk_frozen BK101.out 0; have hfz28_1 := blk_frozen BK101.out 1; have hfz28_2 := blk_frozen BK101.out 2) | ((with_reducible refine gate_callee (f := 13) rfl ?_); refine gl (some 14) Try.func13 #[.agg #[.int .i64 a0_0, .int .i64 a0_1, .slice A0_2 l0_2.length c0_2], .int .i64 1048576] ?_; (with_reducible refine (laws_szField.calls a0_0 a0_1 _ _ l0_2 1048576 t103 _ ?side1 ?side2 A3.out).mono ?_); (case side1 => exact pC (Kd.C_below HR0_2.out HB.out)); (case side2 => exact HC0_2.out); rintro e w29 ⟨rfl, hb⟩; refine ⟨_, rfl, ?_⟩; replace BK101 := bB BK101 hb; replace BK102 := bB BK102 hb; replace HB := bS HB hb; (try clear hb); (try clear hb2); (try clear hk); (try clear hi); have hcz30_0 : w29.cell? ⟨gb102, 0, none⟩ = some (.int .i64 a1_0) := (blk_cell BK102.out 0).trans rfl; have hcz30_1 : w29.cell? ⟨gb102, 1, none⟩ = some (.int .i64 a1_1) := (blk_cell BK102.out 1).trans rfl; have hcz30_2 : w29.cell? ⟨gb102, 2, none⟩ = some (.slice A1_2 l1_2.length c1_2) := (blk_cell BK102.out 2).trans rfl; have hfz30_0 := blk_frozen BK102.out 0; have hfz30_1 := blk_frozen BK102.out 1; have hfz30_2 := blk_frozen BK102.out 2) | ((with_reducible refine gate_callee (f := 13) rfl ?_); refine gl (some 19) Try.func13 #[.agg #[.int .i64 a1_0, .int .i64 a1_1, .slice A1_2 l1_2.length c1_2], .int .i64 t103] ?_; (with_reducible refine (laws_szField.calls a1_0 a1_1 _ _ l1_2 t103 t104 _ ?side1 ?side2 A9.out).mono ?_); (case side1 => exact pC (Kd.C_below HR1_2.out HB.out)); (case side2 => exact HC1_2.out); rintro e w31 ⟨rfl, hb⟩; refine ⟨_, rfl, ?_⟩; replace BK101 := bB BK101 hb; replace BK102 := bB BK102 hb; replace HB := bS HB hb; (try clear hb); (try clear hb2); (try clear hk); (try clear hi)))
 have n0_ := aK (blk_drew BK101.out)
 have n1_ := aK (blk_drew BK102.out)
 have n2_ := aK (below_drew1 HB.out)
 clear BK101 BK102 HB
 have BK101 := n0_
 have BK102 := n1_
 have HB := n2_
 clear n0_ n1_ n2_
 refine start_ (n := 11) (S := fun w' => w'.cell? ⟨gb101, 0, none⟩ = some (.int .i64 a0_0) ∧ w'.cell? ⟨gb101, 1, none⟩ = some (.int .i64 a0_1) ∧ w'.cell? ⟨gb101, 2, none⟩ = some (.slice A0_2 l0_2.length c0_2) ∧ w'.cell? ⟨gb102, 0, none⟩ = some (.int .i64 a1_0) ∧ w'.cell? ⟨gb102, 1, none⟩ = some (.int .i64 a1_1) ∧ w'.cell? ⟨gb102, 2, none⟩ = some (.slice A1_2 l1_2.length c1_2)) (ds := []) #[false, false, false, false, false, false, false, false, false, false, false] (by kernel_rfl) rfl rfl ⟨(blk_cell BK101.out 0).trans rfl, (blk_cell BK101.out 1).trans rfl, (blk_cell BK101.out 2).trans rfl, (blk_cell BK102.out 0).trans rfl, (blk_cell BK102.out 1).trans rfl, (blk_cell BK102.out 2).trans rfl⟩ (fun hHeld => ?_); refine with_tabW laws_FnExactBestMotion.tab8 laws_FnExactBestMotion.bits8 (fun HT_ HW_ => ?_)
 generalize w31.drew = w32 at BK101 BK102 HB hHeld ⊢
 refine take_ (i := 0) (N := some 23) (v := ?_) (a' := ?_) #[true, false, false, false, false, false, false, false, false, false, false] rfl rfl (take_ofW HT_.out HW_.out (by kernel_rfl)) (fun _ _ _ h => h) (Or.inl ⟨by rfl, ?_⟩) hHeld ?_ ?_
 rotate_left
 ·
  rintro w' ⟨s0, s1, s2, s3, s4, s5⟩
  go_simp
  with_reducible rfl
 rotate_left
 ·
  simp only [sP]
  rfl
 refine take_ (i := 2) (N := some 25) (v := ?_) (a' := ?_) #[true, false, true, false, false, false, false, false, false, false, false] rfl rfl (take_ofW HT_.out HW_.out (by kernel_rfl)) (fun _ _ _ h => h) (Or.inl ⟨by rfl, ?_⟩) hHeld ?_ ?_
 rotate_left
 ·
  rintro w' ⟨s0, s1, s2, s3, s4, s5⟩
  go_simp
  with_reducible rfl
 rotate_left
 ·
  simp only [sP]
  rfl
 refine join_ (σ := Value × Value × Nat) 2 #[true, true, true, true, true, true, true, true, true, false, false] (fun s_ => [(24, .agg #[.int .i64 t105, .int .i64 t106, s_.1]), (26, .agg #[.int .i64 t110, .int .i64 t111, s_.2.1]), (27, .tuple #[.agg #[.int .i64 t115, .int .i64 t116], .bool t117]), (6, .pointer (some ⟨s_.2.2, 0, none⟩)), (22, .tuple #[.agg #[.int .i64 t115, .int .i64 t116], .bool t117]), (28, .agg #[.int .i64 t115, .int .i64 t116]), (29, .bool t117)]) (fun s_ w' => (w'.cell? ⟨gb101, 0, none⟩ = some (.int .i64 a0_0) ∧ w'.cell? ⟨gb101, 1, none⟩ = some (.int .i64 a0_1) ∧ w'.cell? ⟨gb101, 2, none⟩ = some (.slice A0_2 l0_2.length c0_2) ∧ w'.cell? ⟨gb102, 0, none⟩ = some (.int .i64 a1_0) ∧ w'.cell? ⟨gb102, 1, none⟩ = some (.int .i64 a1_1) ∧ w'.cell? ⟨gb102, 2, none⟩ = some (.slice A1_2 l1_2.length c1_2)) ∧ (Kd.R (Kd.int .i64) 3 w' w.heap.size (fun k_ => some k_ ≠ (s_.2.1 : Value).ownBlock) s_.1 t107) ∧ (Kd.R (Kd.int .i64) 3 w' w.heap.size (fun k_ => some k_ ≠ (s_.1 : Value).ownBlock) s_.2.1 t112) ∧ (w'.heap[gb101]? = some (.cells #[.int .i64 a0_0, .int .i64 a0_1, .slice A0_2 l0_2.length c0_2] 24 (0, 0))) ∧ (w'.heap[gb102]? = some (.cells #[.int .i64 a1_0, .int .i64 a1_1, .slice A1_2 l1_2.length c1_2] 24 (0, 0))) ∧ (w'.heap[s_.2.2]? = some (.cells #[.int .i64 0, .int .i64 0] 37 (0, 0))) ∧ (w.heap.size ≤ s_.2.2) ∧ (w.heap.size ≤ s_.2.2) ∧ (gb101 ≠ s_.2.2) ∧ (s_.2.2 ≠ gb101) ∧ (gb102 ≠ s_.2.2) ∧ (s_.2.2 ≠ gb102) ∧ (Below w.heap.size w w')) ?_ ?_
 rotate_left
 ·
  intro hCont
  refine two_ (i := 1) (j := 8) (Ni := some 24) (Nj := some 6) #[true, true, true, false, false, false, false, false, false, false, false] #[true, false, true, false, false, false, false, false, true, false, false] rfl rfl rfl rfl (two_of HT_.out (by kernel_rfl)) (by decide) (by decide) (fun K hK => ?_) (fun K hK => ?_)
  ·
   skip
   refine goes_ Try.func15 (by kernel_rfl) rfl #[.agg #[.int .i64 a0_0, .int .i64 a0_1, .slice A0_2 l0_2.length c0_2]] (by rfl) rfl rfl (by (try simp only [List.map_toArray, List.map_cons, List.map_nil]); first | done | rfl | (simp only [List.length_drop, List.length_take]; rfl)) ?_
   with_reducible refine (laws_toField.calls k a0_0 a0_1 _ _ l0_2 t105 t106 t107 _ ?side1 ?side2 A18.out).mono ?_
   (case side1 => exact pC (Kd.C_below HR0_2.out HB.out))
   (case side2 => exact HC0_2.out)
   rintro e w33 ⟨v108, rfl, ho0, hb⟩
   refine ⟨_, rfl, ?_⟩
   have HO109 := aK (Kd.R_lower ho0 (below_size (pS HB.out)))
   replace BK101 := bB BK101 hb
   replace BK102 := bB BK102 hb
   replace HB := bS HB hb
   (try clear hb)
   (try clear hb2)
   (try clear hk)
   (try clear hi)
   (try clear ho0)
   refine hK.out _ _ ⟨(blk_cell BK101.out 0).trans rfl, (blk_cell BK101.out 1).trans rfl, (blk_cell BK101.out 2).trans rfl, (blk_cell BK102.out 0).trans rfl, (blk_cell BK102.out 1).trans rfl, (blk_cell BK102.out 2).trans rfl⟩ (fun hHeld => ?_)
   clear hK K
   refine norm_ (a' := ?_) ?_ ?_
   rotate_left
   ·
    show Act.put _ (some 24) _ = _
    simp only [sP]
    rfl
   refine two_ (i := 3) (j := 8) (Ni := some 26) (Nj := some 6) #[true, true, true, true, false, false, false, false, false, false, false] #[true, true, true, false, false, false, false, false, true, false, false] rfl rfl rfl rfl (two_of HT_.out (by kernel_rfl)) (by decide) (by decide) (fun K hK => ?_) (fun K hK => ?_)
   ·
    skip
    refine goes_ Try.func15 (by kernel_rfl) rfl #[.agg #[.int .i64 a1_0, .int .i64 a1_1, .slice A1_2 l1_2.length c1_2]] (by rfl) rfl rfl (by (try simp only [List.map_toArray, List.map_cons, List.map_nil]); first | done | rfl | (simp only [List.length_drop, List.length_take]; rfl)) ?_
    with_reducible refine (laws_toField.calls k a1_0 a1_1 _ _ l1_2 t110 t111 t112 _ ?side1 ?side2 A19.out).mono ?_
    (case side1 => exact pC (Kd.C_below HR1_2.out HB.out))
    (case side2 => exact HC1_2.out)
    rintro e w34 ⟨v113, rfl, ho0, hb⟩
    refine ⟨_, rfl, ?_⟩
    have n0_ := aK (Kd.R_elder' (pR HO109.out) (Kd.R_base ho0) hb)
    have HO114 := aK (Kd.R_lower (Kd.R_new' ho0 (Kd.R_lt (pR HO109.out))) (below_size (pS HB.out)))
    replace BK101 := bB BK101 hb
    replace BK102 := bB BK102 hb
    replace HB := bS HB hb
    clear HO109
    have HO109 := n0_
    clear n0_
    (try clear hb)
    (try clear hb2)
    (try clear hk)
    (try clear hi)
    (try clear ho0)
    obtain ⟨Ao35, co35, eo35⟩ := Kd.R_slice HO109.out
    (first | subst eo35 | (injection eo35 with f1_ f2_ f3_; have f4_ := f1_.symm; have f5_ := f3_.symm; clear f1_ f2_ f3_; subst f4_; subst f5_))
    obtain ⟨Ao36, co36, eo36⟩ := Kd.R_slice HO114.out
    (first | subst eo36 | (injection eo36 with f1_ f2_ f3_; have f4_ := f1_.symm; have f5_ := f3_.symm; clear f1_ f2_ f3_; subst f4_; subst f5_))
    refine hK.out _ _ ⟨(blk_cell BK101.out 0).trans rfl, (blk_cell BK101.out 1).trans rfl, (blk_cell BK101.out 2).trans rfl, (blk_cell BK102.out 0).trans rfl, (blk_cell BK102.out 1).trans rfl, (blk_cell BK102.out 2).trans rfl⟩ (fun hHeld => ?_)
    clear hK K
    refine norm_ (a' := ?_) ?_ ?_
    rotate_left
    ·
     show Act.put _ (some 26) _ = _
     simp only [sP]
     rfl
    refine two_ (i := 4) (j := 8) (Ni := some 27) (Nj := some 6) #[true, true, true, true, true, false, false, false, false, false, false] #[true, true, true, true, false, false, false, false, true, false, false] rfl rfl rfl rfl (two_of HT_.out (by kernel_rfl)) (by decide) (by decide) (fun K hK => ?_) (fun K hK => ?_)
    ·
     skip
     refine goes_ Try.func22 (by kernel_rfl) rfl #[.agg #[.int .i64 t105, .int .i64 t106, .slice Ao35 t107.length co35], .agg #[.int .i64 t110, .int .i64 t111, .slice Ao36 t112.length co36]] (by rfl) rfl rfl (by (try simp only [List.map_toArray, List.map_cons, List.map_nil]); first | done | rfl | (simp only [List.length_drop, List.length_take]; rfl)) ?_
     with_reducible refine (spec_BestMotion.calls k t105 t106 _ _ t107 t110 t111 _ _ t112 t115 t116 t117 _ ?side1 ?side2 ?side3 ?side4 A20.out).mono ?_
     (case side1 => repeat (first | exact (Kd.R_reads' HO109.out).2.2 | (with_reducible refine Kd.C_alloc ?_ _) | (with_reducible refine Kd.C_drewN ?_ _) | (with_reducible refine Kd.C_drew ?_)))
     (case side2 => exact (Kd.R_reads' HO109.out).2.1)
     (case side3 => repeat (first | exact (Kd.R_reads' HO114.out).2.2 | (with_reducible refine Kd.C_alloc ?_ _) | (with_reducible refine Kd.C_drewN ?_ _) | (with_reducible refine Kd.C_drew ?_)))
     (case side4 => exact (Kd.R_reads' HO114.out).2.1)
     rintro e w37 ⟨rfl, hb⟩
     refine ⟨_, rfl, ?_⟩
     have n0_ := aK (Kd.R_below (pR HO109.out) hb)
     have n1_ := aK (Kd.R_below (pR HO114.out) hb)
     replace BK101 := bB BK101 hb
     replace BK102 := bB BK102 hb
     replace HB := bS HB hb
     clear HO109 HO114
     have HO109 := n0_
     have HO114 := n1_
     clear n0_ n1_
     (try clear hb)
     (try clear hb2)
     (try clear hk)
     (try clear hi)
     refine hK.out _ _ ⟨(blk_cell BK101.out 0).trans rfl, (blk_cell BK101.out 1).trans rfl, (blk_cell BK101.out 2).trans rfl, (blk_cell BK102.out 0).trans rfl, (blk_cell BK102.out 1).trans rfl, (blk_cell BK102.out 2).trans rfl⟩ (fun hHeld => ?_)
     clear hK K
     refine norm_ (a' := ?_) ?_ ?_
     rotate_left
     ·
      show Act.put _ (some 27) _ = _
      simp only [sP]
      rfl
     refine pure_ (i := 5) (N := some 22) (v := ?_) (a' := ?_) #[true, true, true, true, true, true, false, false, false, false, false] rfl rfl (any_of HT_.out (by kernel_rfl)) (fun _ _ _ h => h) (Or.inl ⟨by rfl, ?_⟩) ?_ ?_
     rotate_left
     ·
      intro w'
      go_simp
      with_reducible rfl
     rotate_left
     ·
      simp only [sP]
      rfl
     refine pure_ (i := 6) (N := some 28) (v := ?_) (a' := ?_) #[true, true, true, true, true, true, true, false, false, false, false] rfl rfl (any_of HT_.out (by kernel_rfl)) (fun _ _ _ h => h) (Or.inl ⟨by rfl, ?_⟩) ?_ ?_
     rotate_left
     ·
      intro w'
      go_simp
      with_reducible rfl
     rotate_left
     ·
      simp only [sP]
      rfl
     refine pure_ (i := 7) (N := some 29) (v := ?_) (a' := ?_) #[true, true, true, true, true, true, true, true, false, false, false] rfl rfl (any_of HT_.out (by kernel_rfl)) (fun _ _ _ h => h) (Or.inl ⟨by rfl, ?_⟩) ?_ ?_
     rotate_left
     ·
      intro w'
      go_simp
      with_reducible rfl
     rotate_left
     ·
      simp only [sP]
      rfl
     refine one_ (i := 8) (N := some 6) #[true, true, true, true, true, true, true, true, true, false, false] rfl rfl (one_of HT_.out (by kernel_rfl)) (by decide) (fun K hK => ?_)
     refine box_step ?hg (N := 6) ?hd (cs := #[.int .i64 0, .int .i64 0]) (t := 37) ?hr ?_; (case hd => rfl); (case hg => rfl); (case hr => first | (go_simp; done) | (go_simp; rfl))
     intro gb118 hg w38 hbox hb
     have n0_ := aK (Kd.R_below (pR HO109.out) hb)
     have n1_ := aK (Kd.R_below (pR HO114.out) hb)
     have BK118 := aK (hbox)
     have GW118 := aK (gE hg (pS HB.out))
     have GE118 := aK (gE hg (pS HB.out))
     have NB101_118 := aK (nL hg (pB BK101.out))
     have NB118_101 := aK (nG hg (pB BK101.out))
     have NB102_118 := aK (nL hg (pB BK102.out))
     have NB118_102 := aK (nG hg (pB BK102.out))
     replace BK101 := bB BK101 hb
     replace BK102 := bB BK102 hb
     replace HB := bS HB hb
     clear HO109 HO114
     have HO109 := n0_
     have HO114 := n1_
     clear n0_ n1_ hb hbox hg
     refine hK.out _ _ ⟨(blk_cell BK101.out 0).trans rfl, (blk_cell BK101.out 1).trans rfl, (blk_cell BK101.out 2).trans rfl, (blk_cell BK102.out 0).trans rfl, (blk_cell BK102.out 1).trans rfl, (blk_cell BK102.out 2).trans rfl⟩ (fun hHeld => ?_)
     clear hK K
     refine norm_ (a' := ?_) ?_ ?_
     rotate_left
     ·
      show Act.put _ (some 6) _ = _
      simp only [sP]
      rfl
     exact norm_ (by simp only [putAll, Act.put, List.setIfInBounds_toArray, List.set_cons_zero, List.set_cons_succ]) (hCont (.slice Ao35 t107.length co35, .slice Ao36 t112.length co36, gb118) _ ⟨hHeld, (pR (Kd.R_mono HO109.out (fun _ hk => hk.2))), (pR (Kd.R_mono HO114.out (fun _ hk => hk.2))), (pB BK101.out), (pB BK102.out), (pB BK118.out), GW118.out, GE118.out, NB101_118.out, NB118_101.out, NB102_118.out, NB118_102.out, (pS HB.out)⟩)
    skip
    refine box_step ?hg (N := 6) ?hd (cs := #[.int .i64 0, .int .i64 0]) (t := 37) ?hr ?_; (case hd => rfl); (case hg => rfl); (case hr => first | (go_simp; done) | (go_simp; rfl))
    intro gb118 hg w35 hbox hb
    have n0_ := aK (Kd.R_below (pR HO109.out) hb)
    have n1_ := aK (Kd.R_below (pR HO114.out) hb)
    have BK118 := aK (hbox)
    have GW118 := aK (gE hg (pS HB.out))
    have GE118 := aK (gE hg (pS HB.out))
    have NB101_118 := aK (nL hg (pB BK101.out))
    have NB118_101 := aK (nG hg (pB BK101.out))
    have NB102_118 := aK (nL hg (pB BK102.out))
    have NB118_102 := aK (nG hg (pB BK102.out))
    replace BK101 := bB BK101 hb
    replace BK102 := bB BK102 hb
    replace HB := bS HB hb
    clear HO109 HO114
    have HO109 := n0_
    have HO114 := n1_
    clear n0_ n1_ hb hbox hg
    obtain ⟨Ao36, co36, eo36⟩ := Kd.R_slice HO109.out
    (first | subst eo36 | (injection eo36 with f1_ f2_ f3_; have f4_ := f1_.symm; have f5_ := f3_.symm; clear f1_ f2_ f3_; subst f4_; subst f5_))
    obtain ⟨Ao37, co37, eo37⟩ := Kd.R_slice HO114.out
    (first | subst eo37 | (injection eo37 with f1_ f2_ f3_; have f4_ := f1_.symm; have f5_ := f3_.symm; clear f1_ f2_ f3_; subst f4_; subst f5_))
    refine hK.out _ _ ⟨(blk_cell BK101.out 0).trans rfl, (blk_cell BK101.out 1).trans rfl, (blk_cell BK101.out 2).trans rfl, (blk_cell BK102.out 0).trans rfl, (blk_cell BK102.out 1).trans rfl, (blk_cell BK102.out 2).trans rfl⟩ (fun hHeld => ?_)
    clear hK K
    refine norm_ (a' := ?_) ?_ ?_
    rotate_left
    ·
     show Act.put _ (some 6) _ = _
     simp only [sP]
     rfl
    refine one_ (i := 4) (N := some 27) #[true, true, true, true, true, false, false, false, true, false, false] rfl rfl (one_of HT_.out (by kernel_rfl)) (by decide) (fun K hK => ?_)
    refine goes_ Try.func22 (by kernel_rfl) rfl #[.agg #[.int .i64 t105, .int .i64 t106, .slice Ao36 t107.length co36], .agg #[.int .i64 t110, .int .i64 t111, .slice Ao37 t112.length co37]] (by rfl) rfl rfl (by (try simp only [List.map_toArray, List.map_cons, List.map_nil]); first | done | rfl | (simp only [List.length_drop, List.length_take]; rfl)) ?_
    with_reducible refine (spec_BestMotion.calls k t105 t106 _ _ t107 t110 t111 _ _ t112 t115 t116 t117 _ ?side1 ?side2 ?side3 ?side4 A20.out).mono ?_
    (case side1 => repeat (first | exact (Kd.R_reads' HO109.out).2.2 | (with_reducible refine Kd.C_alloc ?_ _) | (with_reducible refine Kd.C_drewN ?_ _) | (with_reducible refine Kd.C_drew ?_)))
    (case side2 => exact (Kd.R_reads' HO109.out).2.1)
    (case side3 => repeat (first | exact (Kd.R_reads' HO114.out).2.2 | (with_reducible refine Kd.C_alloc ?_ _) | (with_reducible refine Kd.C_drewN ?_ _) | (with_reducible refine Kd.C_drew ?_)))
    (case side4 => exact (Kd.R_reads' HO114.out).2.1)
    rintro e w38 ⟨rfl, hb⟩
    refine ⟨_, rfl, ?_⟩
    have n0_ := aK (Kd.R_below (pR HO109.out) hb)
    have n1_ := aK (Kd.R_below (pR HO114.out) hb)
    replace BK101 := bB BK101 hb
    replace BK102 := bB BK102 hb
    replace BK118 := bB BK118 hb
    replace HB := bS HB hb
    clear HO109 HO114
    have HO109 := n0_
    have HO114 := n1_
    clear n0_ n1_
    (try clear hb)
    (try clear hb2)
    (try clear hk)
    (try clear hi)
    refine hK.out _ _ ⟨(blk_cell BK101.out 0).trans rfl, (blk_cell BK101.out 1).trans rfl, (blk_cell BK101.out 2).trans rfl, (blk_cell BK102.out 0).trans rfl, (blk_cell BK102.out 1).trans rfl, (blk_cell BK102.out 2).trans rfl⟩ (fun hHeld => ?_)
    clear hK K
    refine norm_ (a' := ?_) ?_ ?_
    rotate_left
    ·
     show Act.put _ (some 27) _ = _
     simp only [sP]
     rfl
    refine pure_ (i := 5) (N := some 22) (v := ?_) (a' := ?_) #[true, true, true, true, true, true, false, false, true, false, false] rfl rfl (any_of HT_.out (by kernel_rfl)) (fun _ _ _ h => h) (Or.inl ⟨by rfl, ?_⟩) ?_ ?_
    rotate_left
    ·
     intro w'
     go_simp
     with_reducible rfl
    rotate_left
    ·
     simp only [sP]
     rfl
    refine pure_ (i := 6) (N := some 28) (v := ?_) (a' := ?_) #[true, true, true, true, true, true, true, false, true, false, false] rfl rfl (any_of HT_.out (by kernel_rfl)) (fun _ _ _ h => h) (Or.inl ⟨by rfl, ?_⟩) ?_ ?_
    rotate_left
    ·
     intro w'
     go_simp
     with_reducible rfl
    rotate_left
    ·
     simp only [sP]
     rfl
    refine pure_ (i := 7) (N := some 29) (v := ?_) (a' := ?_) #[true, true, true, true, true, true, true, true, true, false, false] rfl rfl (any_of HT_.out (by kernel_rfl)) (fun _ _ _ h => h) (Or.inl ⟨by rfl, ?_⟩) ?_ ?_
    rotate_left
    ·
     intro w'
     go_simp
     with_reducible rfl
    rotate_left
    ·
     simp only [sP]
     rfl
    exact norm_ (by simp only [putAll, Act.put, List.setIfInBounds_toArray, List.set_cons_zero, List.set_cons_succ]) (hCont (.slice Ao36 t107.length co36, .slice Ao37 t112.length co37, gb118) _ ⟨hHeld, (pR (Kd.R_mono HO109.out (fun _ hk => hk.2))), (pR (Kd.R_mono HO114.out (fun _ hk => hk.2))), (pB BK101.out), (pB BK102.out), (pB BK118.out), GW118.out, GE118.out, NB101_118.out, NB118_101.out, NB102_118.out, NB118_102.out, (pS HB.out)⟩)
   skip
   refine box_step ?hg (N := 6) ?hd (cs := #[.int .i64 0, .int .i64 0]) (t := 37) ?hr ?_; (case hd => rfl); (case hg => rfl); (case hr => first | (go_simp; done) | (go_simp; rfl))
   intro gb118 hg w34 hbox hb
   have n0_ := aK (Kd.R_below (pR HO109.out) hb)
   have BK118 := aK (hbox)
   have GW118 := aK (gE hg (pS HB.out))
   have GE118 := aK (gE hg (pS HB.out))
   have NB101_118 := aK (nL hg (pB BK101.out))
   have NB118_101 := aK (nG hg (pB BK101.out))
   have NB102_118 := aK (nL hg (pB BK102.out))
   have NB118_102 := aK (nG hg (pB BK102.out))
   replace BK101 := bB BK101 hb
   replace BK102 := bB BK102 hb
   replace HB := bS HB hb
   clear HO109
   have HO109 := n0_
   clear n0_ hb hbox hg
   refine hK.out _ _ ⟨(blk_cell BK101.out 0).trans rfl, (blk_cell BK101.out 1).trans rfl, (blk_cell BK101.out 2).trans rfl, (blk_cell BK102.out 0).trans rfl, (blk_cell BK102.out 1).trans rfl, (blk_cell BK102.out 2).trans rfl⟩ (fun hHeld => ?_)
   clear hK K
   refine norm_ (a' := ?_) ?_ ?_
   rotate_left
   ·
    show Act.put _ (some 6) _ = _
    simp only [sP]
    rfl
   refine one_ (i := 3) (N := some 26) #[true, true, true, true, false, false, false, false, true, false, false] rfl rfl (one_of HT_.out (by kernel_rfl)) (by decide) (fun K hK => ?_)
   refine goes_ Try.func15 (by kernel_rfl) rfl #[.agg #[.int .i64 a1_0, .int .i64 a1_1, .slice A1_2 l1_2.length c1_2]] (by rfl) rfl rfl (by (try simp only [List.map_toArray, List.map_cons, List.map_nil]); first | done | rfl | (simp only [List.length_drop, List.length_take]; rfl)) ?_
   with_reducible refine (laws_toField.calls k a1_0 a1_1 _ _ l1_2 t110 t111 t112 _ ?side1 ?side2 A19.out).mono ?_
   (case side1 => exact pC (Kd.C_below HR1_2.out HB.out))
   (case side2 => exact HC1_2.out)
   rintro e w35 ⟨v113, rfl, ho0, hb⟩
   refine ⟨_, rfl, ?_⟩
   have n0_ := aK (Kd.R_elder' (pR HO109.out) (Kd.R_base ho0) hb)
   have HO114 := aK (Kd.R_lower (Kd.R_new' ho0 (Kd.R_lt (pR HO109.out))) (below_size (pS HB.out)))
   replace BK101 := bB BK101 hb
   replace BK102 := bB BK102 hb
   replace BK118 := bB BK118 hb
   replace HB := bS HB hb
   clear HO109
   have HO109 := n0_
   clear n0_
   (try clear hb)
   (try clear hb2)
   (try clear hk)
   (try clear hi)
   (try clear ho0)
   obtain ⟨Ao36, co36, eo36⟩ := Kd.R_slice HO109.out
   (first | subst eo36 | (injection eo36 with f1_ f2_ f3_; have f4_ := f1_.symm; have f5_ := f3_.symm; clear f1_ f2_ f3_; subst f4_; subst f5_))
   obtain ⟨Ao37, co37, eo37⟩ := Kd.R_slice HO114.out
   (first | subst eo37 | (injection eo37 with f1_ f2_ f3_; have f4_ := f1_.symm; have f5_ := f3_.symm; clear f1_ f2_ f3_; subst f4_; subst f5_))
   refine hK.out _ _ ⟨(blk_cell BK101.out 0).trans rfl, (blk_cell BK101.out 1).trans rfl, (blk_cell BK101.out 2).trans rfl, (blk_cell BK102.out 0).trans rfl, (blk_cell BK102.out 1).trans rfl, (blk_cell BK102.out 2).trans rfl⟩ (fun hHeld => ?_)
   clear hK K
   refine norm_ (a' := ?_) ?_ ?_
   rotate_left
   ·
    show Act.put _ (some 26) _ = _
    simp only [sP]
    rfl
   refine one_ (i := 4) (N := some 27) #[true, true, true, true, true, false, false, false, true, false, false] rfl rfl (one_of HT_.out (by kernel_rfl)) (by decide) (fun K hK => ?_)
   refine goes_ Try.func22 (by kernel_rfl) rfl #[.agg #[.int .i64 t105, .int .i64 t106, .slice Ao36 t107.length co36], .agg #[.int .i64 t110, .int .i64 t111, .slice Ao37 t112.length co37]] (by rfl) rfl rfl (by (try simp only [List.map_toArray, List.map_cons, List.map_nil]); first | done | rfl | (simp only [List.length_drop, List.length_take]; rfl)) ?_
   with_reducible refine (spec_BestMotion.calls k t105 t106 _ _ t107 t110 t111 _ _ t112 t115 t116 t117 _ ?side1 ?side2 ?side3 ?side4 A20.out).mono ?_
   (case side1 => repeat (first | exact (Kd.R_reads' HO109.out).2.2 | (with_reducible refine Kd.C_alloc ?_ _) | (with_reducible refine Kd.C_drewN ?_ _) | (with_reducible refine Kd.C_drew ?_)))
   (case side2 => exact (Kd.R_reads' HO109.out).2.1)
   (case side3 => repeat (first | exact (Kd.R_reads' HO114.out).2.2 | (with_reducible refine Kd.C_alloc ?_ _) | (with_reducible refine Kd.C_drewN ?_ _) | (with_reducible refine Kd.C_drew ?_)))
   (case side4 => exact (Kd.R_reads' HO114.out).2.1)
   rintro e w38 ⟨rfl, hb⟩
   refine ⟨_, rfl, ?_⟩
   have n0_ := aK (Kd.R_below (pR HO109.out) hb)
   have n1_ := aK (Kd.R_below (pR HO114.out) hb)
   replace BK101 := bB BK101 hb
   replace BK102 := bB BK102 hb
   replace BK118 := bB BK118 hb
   replace HB := bS HB hb
   clear HO109 HO114
   have HO109 := n0_
   have HO114 := n1_
   clear n0_ n1_
   (try clear hb)
   (try clear hb2)
   (try clear hk)
   (try clear hi)
   refine hK.out _ _ ⟨(blk_cell BK101.out 0).trans rfl, (blk_cell BK101.out 1).trans rfl, (blk_cell BK101.out 2).trans rfl, (blk_cell BK102.out 0).trans rfl, (blk_cell BK102.out 1).trans rfl, (blk_cell BK102.out 2).trans rfl⟩ (fun hHeld => ?_)
   clear hK K
   refine norm_ (a' := ?_) ?_ ?_
   rotate_left
   ·
    show Act.put _ (some 27) _ = _
    simp only [sP]
    rfl
   refine pure_ (i := 5) (N := some 22) (v := ?_) (a' := ?_) #[true, true, true, true, true, true, false, false, true, false, false] rfl rfl (any_of HT_.out (by kernel_rfl)) (fun _ _ _ h => h) (Or.inl ⟨by rfl, ?_⟩) ?_ ?_
   rotate_left
   ·
    intro w'
    go_simp
    with_reducible rfl
   rotate_left
   ·
    simp only [sP]
    rfl
   refine pure_ (i := 6) (N := some 28) (v := ?_) (a' := ?_) #[true, true, true, true, true, true, true, false, true, false, false] rfl rfl (any_of HT_.out (by kernel_rfl)) (fun _ _ _ h => h) (Or.inl ⟨by rfl, ?_⟩) ?_ ?_
   rotate_left
   ·
    intro w'
    go_simp
    with_reducible rfl
   rotate_left
   ·
    simp only [sP]
    rfl
   refine pure_ (i := 7) (N := some 29) (v := ?_) (a' := ?_) #[true, true, true, true, true, true, true, true, true, false, false] rfl rfl (any_of HT_.out (by kernel_rfl)) (fun _ _ _ h => h) (Or.inl ⟨by rfl, ?_⟩) ?_ ?_
   rotate_left
   ·
    intro w'
    go_simp
    with_reducible rfl
   rotate_left
   ·
    simp only [sP]
    rfl
   exact norm_ (by simp only [putAll, Act.put, List.setIfInBounds_toArray, List.set_cons_zero, List.set_cons_succ]) (hCont (.slice Ao36 t107.length co36, .slice Ao37 t112.length co37, gb118) _ ⟨hHeld, (pR (Kd.R_mono HO109.out (fun _ hk => hk.2))), (pR (Kd.R_mono HO114.out (fun _ hk => hk.2))), (pB BK101.out), (pB BK102.out), (pB BK118.out), GW118.out, GE118.out, NB101_118.out, NB118_101.out, NB102_118.out, NB118_102.out, (pS HB.out)⟩)
  skip
  refine box_step ?hg (N := 6) ?hd (cs := #[.int .i64 0, .int .i64 0]) (t := 37) ?hr ?_; (case hd => rfl); (case hg => rfl); (case hr => first | (go_simp; done) | (go_simp; rfl))
  intro gb118 hg w33 hbox hb
  have BK118 := aK (hbox)
  have GW118 := aK (gE hg (pS HB.out))
  have GE118 := aK (gE hg (pS HB.out))
  have NB101_118 := aK (nL hg (pB BK101.out))
  have NB118_101 := aK (nG hg (pB BK101.out))
  have NB102_118 := aK (nL hg (pB BK102.out))
  have NB118_102 := aK (nG hg (pB BK102.out))
  replace BK101 := bB BK101 hb
  replace BK102 := bB BK102 hb
  replace HB := bS HB hb
  clear hb hbox hg
  refine hK.out _ _ ⟨(blk_cell BK101.out 0).trans rfl, (blk_cell BK101.out 1).trans rfl, (blk_cell BK101.out 2).trans rfl, (blk_cell BK102.out 0).trans rfl, (blk_cell BK102.out 1).trans rfl, (blk_cell BK102.out 2).trans rfl⟩ (fun hHeld => ?_)
  clear hK K
  refine norm_ (a' := ?_) ?_ ?_
  rotate_left
  ·
   show Act.put _ (some 6) _ = _
   simp only [sP]
   rfl
  refine one_ (i := 1) (N := some 24) #[true, true, true, false, false, false, false, false, true, false, false] rfl rfl (one_of HT_.out (by kernel_rfl)) (by decide) (fun K hK => ?_)
  refine goes_ Try.func15 (by kernel_rfl) rfl #[.agg #[.int .i64 a0_0, .int .i64 a0_1, .slice A0_2 l0_2.length c0_2]] (by rfl) rfl rfl (by (try simp only [List.map_toArray, List.map_cons, List.map_nil]); first | done | rfl | (simp only [List.length_drop, List.length_take]; rfl)) ?_
  with_reducible refine (laws_toField.calls k a0_0 a0_1 _ _ l0_2 t105 t106 t107 _ ?side1 ?side2 A18.out).mono ?_
  (case side1 => exact pC (Kd.C_below HR0_2.out HB.out))
  (case side2 => exact HC0_2.out)
  rintro e w34 ⟨v108, rfl, ho0, hb⟩
  refine ⟨_, rfl, ?_⟩
  have HO109 := aK (Kd.R_lower ho0 (below_size (pS HB.out)))
  replace BK101 := bB BK101 hb
  replace BK102 := bB BK102 hb
  replace BK118 := bB BK118 hb
  replace HB := bS HB hb
  (try clear hb)
  (try clear hb2)
  (try clear hk)
  (try clear hi)
  (try clear ho0)
  refine hK.out _ _ ⟨(blk_cell BK101.out 0).trans rfl, (blk_cell BK101.out 1).trans rfl, (blk_cell BK101.out 2).trans rfl, (blk_cell BK102.out 0).trans rfl, (blk_cell BK102.out 1).trans rfl, (blk_cell BK102.out 2).trans rfl⟩ (fun hHeld => ?_)
  clear hK K
  refine norm_ (a' := ?_) ?_ ?_
  rotate_left
  ·
   show Act.put _ (some 24) _ = _
   simp only [sP]
   rfl
  refine one_ (i := 3) (N := some 26) #[true, true, true, true, false, false, false, false, true, false, false] rfl rfl (one_of HT_.out (by kernel_rfl)) (by decide) (fun K hK => ?_)
  refine goes_ Try.func15 (by kernel_rfl) rfl #[.agg #[.int .i64 a1_0, .int .i64 a1_1, .slice A1_2 l1_2.length c1_2]] (by rfl) rfl rfl (by (try simp only [List.map_toArray, List.map_cons, List.map_nil]); first | done | rfl | (simp only [List.length_drop, List.length_take]; rfl)) ?_
  with_reducible refine (laws_toField.calls k a1_0 a1_1 _ _ l1_2 t110 t111 t112 _ ?side1 ?side2 A19.out).mono ?_
  (case side1 => exact pC (Kd.C_below HR1_2.out HB.out))
  (case side2 => exact HC1_2.out)
  rintro e w35 ⟨v113, rfl, ho0, hb⟩
  refine ⟨_, rfl, ?_⟩
  have n0_ := aK (Kd.R_elder' (pR HO109.out) (Kd.R_base ho0) hb)
  have HO114 := aK (Kd.R_lower (Kd.R_new' ho0 (Kd.R_lt (pR HO109.out))) (below_size (pS HB.out)))
  replace BK101 := bB BK101 hb
  replace BK102 := bB BK102 hb
  replace BK118 := bB BK118 hb
  replace HB := bS HB hb
  clear HO109
  have HO109 := n0_
  clear n0_
  (try clear hb)
  (try clear hb2)
  (try clear hk)
  (try clear hi)
  (try clear ho0)
  obtain ⟨Ao36, co36, eo36⟩ := Kd.R_slice HO109.out
  (first | subst eo36 | (injection eo36 with f1_ f2_ f3_; have f4_ := f1_.symm; have f5_ := f3_.symm; clear f1_ f2_ f3_; subst f4_; subst f5_))
  obtain ⟨Ao37, co37, eo37⟩ := Kd.R_slice HO114.out
  (first | subst eo37 | (injection eo37 with f1_ f2_ f3_; have f4_ := f1_.symm; have f5_ := f3_.symm; clear f1_ f2_ f3_; subst f4_; subst f5_))
  refine hK.out _ _ ⟨(blk_cell BK101.out 0).trans rfl, (blk_cell BK101.out 1).trans rfl, (blk_cell BK101.out 2).trans rfl, (blk_cell BK102.out 0).trans rfl, (blk_cell BK102.out 1).trans rfl, (blk_cell BK102.out 2).trans rfl⟩ (fun hHeld => ?_)
  clear hK K
  refine norm_ (a' := ?_) ?_ ?_
  rotate_left
  ·
   show Act.put _ (some 26) _ = _
   simp only [sP]
   rfl
  refine one_ (i := 4) (N := some 27) #[true, true, true, true, true, false, false, false, true, false, false] rfl rfl (one_of HT_.out (by kernel_rfl)) (by decide) (fun K hK => ?_)
  refine goes_ Try.func22 (by kernel_rfl) rfl #[.agg #[.int .i64 t105, .int .i64 t106, .slice Ao36 t107.length co36], .agg #[.int .i64 t110, .int .i64 t111, .slice Ao37 t112.length co37]] (by rfl) rfl rfl (by (try simp only [List.map_toArray, List.map_cons, List.map_nil]); first | done | rfl | (simp only [List.length_drop, List.length_take]; rfl)) ?_
  with_reducible refine (spec_BestMotion.calls k t105 t106 _ _ t107 t110 t111 _ _ t112 t115 t116 t117 _ ?side1 ?side2 ?side3 ?side4 A20.out).mono ?_
  (case side1 => repeat (first | exact (Kd.R_reads' HO109.out).2.2 | (with_reducible refine Kd.C_alloc ?_ _) | (with_reducible refine Kd.C_drewN ?_ _) | (with_reducible refine Kd.C_drew ?_)))
  (case side2 => exact (Kd.R_reads' HO109.out).2.1)
  (case side3 => repeat (first | exact (Kd.R_reads' HO114.out).2.2 | (with_reducible refine Kd.C_alloc ?_ _) | (with_reducible refine Kd.C_drewN ?_ _) | (with_reducible refine Kd.C_drew ?_)))
  (case side4 => exact (Kd.R_reads' HO114.out).2.1)
  rintro e w38 ⟨rfl, hb⟩
  refine ⟨_, rfl, ?_⟩
  have n0_ := aK (Kd.R_below (pR HO109.out) hb)
  have n1_ := aK (Kd.R_below (pR HO114.out) hb)
  replace BK101 := bB BK101 hb
  replace BK102 := bB BK102 hb
  replace BK118 := bB BK118 hb
  replace HB := bS HB hb
  clear HO109 HO114
  have HO109 := n0_
  have HO114 := n1_
  clear n0_ n1_
  (try clear hb)
  (try clear hb2)
  (try clear hk)
  (try clear hi)
  refine hK.out _ _ ⟨(blk_cell BK101.out 0).trans rfl, (blk_cell BK101.out 1).trans rfl, (blk_cell BK101.out 2).trans rfl, (blk_cell BK102.out 0).trans rfl, (blk_cell BK102.out 1).trans rfl, (blk_cell BK102.out 2).trans rfl⟩ (fun hHeld => ?_)
  clear hK K
  refine norm_ (a' := ?_) ?_ ?_
  rotate_left
  ·
   show Act.put _ (some 27) _ = _
   simp only [sP]
   rfl
  refine pure_ (i := 5) (N := some 22) (v := ?_) (a' := ?_) #[true, true, true, true, true, true, false, false, true, false, false] rfl rfl (any_of HT_.out (by kernel_rfl)) (fun _ _ _ h => h) (Or.inl ⟨by rfl, ?_⟩) ?_ ?_
  rotate_left
  ·
   intro w'
   go_simp
   with_reducible rfl
  rotate_left
  ·
   simp only [sP]
   rfl
  refine pure_ (i := 6) (N := some 28) (v := ?_) (a' := ?_) #[true, true, true, true, true, true, true, false, true, false, false] rfl rfl (any_of HT_.out (by kernel_rfl)) (fun _ _ _ h => h) (Or.inl ⟨by rfl, ?_⟩) ?_ ?_
  rotate_left
  ·
   intro w'
   go_simp
   with_reducible rfl
  rotate_left
  ·
   simp only [sP]
   rfl
  refine pure_ (i := 7) (N := some 29) (v := ?_) (a' := ?_) #[true, true, true, true, true, true, true, true, true, false, false] rfl rfl (any_of HT_.out (by kernel_rfl)) (fun _ _ _ h => h) (Or.inl ⟨by rfl, ?_⟩) ?_ ?_
  rotate_left
  ·
   intro w'
   go_simp
   with_reducible rfl
  rotate_left
  ·
   simp only [sP]
   rfl
  exact norm_ (by simp only [putAll, Act.put, List.setIfInBounds_toArray, List.set_cons_zero, List.set_cons_succ]) (hCont (.slice Ao36 t107.length co36, .slice Ao37 t112.length co37, gb118) _ ⟨hHeld, (pR (Kd.R_mono HO109.out (fun _ hk => hk.2))), (pR (Kd.R_mono HO114.out (fun _ hk => hk.2))), (pB BK101.out), (pB BK102.out), (pB BK118.out), GW118.out, GE118.out, NB101_118.out, NB118_101.out, NB102_118.out, NB118_102.out, (pS HB.out)⟩)
 rintro ⟨v108, v113, gb118⟩ w39 ⟨hS_, h0_, h1_, h2_, h3_, h4_, h5_, h6_, h7_, h8_, h9_, h10_, h11_⟩
 have n0_ : Aside0 (Kd.R (Kd.int .i64) 3 w39 w.heap.size (fun k_ => some k_ ≠ (v113 : Value).ownBlock) v108 t107) := ⟨h0_⟩
 have n1_ : Aside0 (Kd.R (Kd.int .i64) 3 w39 w.heap.size (fun k_ => some k_ ≠ (v108 : Value).ownBlock) v113 t112) := ⟨h1_⟩
 have n2_ : Aside0 (w39.heap[gb101]? = some (.cells #[.int .i64 a0_0, .int .i64 a0_1, .slice A0_2 l0_2.length c0_2] 24 (0, 0))) := ⟨h2_⟩
 have n3_ : Aside0 (w39.heap[gb102]? = some (.cells #[.int .i64 a1_0, .int .i64 a1_1, .slice A1_2 l1_2.length c1_2] 24 (0, 0))) := ⟨h3_⟩
 have n4_ : Aside0 (w39.heap[gb118]? = some (.cells #[.int .i64 0, .int .i64 0] 37 (0, 0))) := ⟨h4_⟩
 have n5_ : Aside0 (w.heap.size ≤ gb118) := ⟨h5_⟩
 have n6_ : Aside0 (w.heap.size ≤ gb118) := ⟨h6_⟩
 have n7_ : Aside0 (gb101 ≠ gb118) := ⟨h7_⟩
 have n8_ : Aside0 (gb118 ≠ gb101) := ⟨h8_⟩
 have n9_ : Aside0 (gb102 ≠ gb118) := ⟨h9_⟩
 have n10_ : Aside0 (gb118 ≠ gb102) := ⟨h10_⟩
 have n11_ : Aside0 (Below w.heap.size w w39) := ⟨h11_⟩
 clear BK101 BK102 HB h0_ h1_ h2_ h3_ h4_ h5_ h6_ h7_ h8_ h9_ h10_ h11_
 have HO109 := n0_
 have HO114 := n1_
 have BK101 := n2_
 have BK102 := n3_
 have BK118 := n4_
 have GW118 := n5_
 have GE118 := n6_
 have NB101_118 := n7_
 have NB118_101 := n8_
 have NB102_118 := n9_
 have NB118_102 := n10_
 have HB := n11_
 clear n0_ n1_ n2_ n3_ n4_ n5_ n6_ n7_ n8_ n9_ n10_ n11_
 have hHeld : w39.cell? ⟨gb101, 0, none⟩ = some (.int .i64 a0_0) ∧ w39.cell? ⟨gb101, 1, none⟩ = some (.int .i64 a0_1) ∧ w39.cell? ⟨gb101, 2, none⟩ = some (.slice A0_2 l0_2.length c0_2) ∧ w39.cell? ⟨gb102, 0, none⟩ = some (.int .i64 a1_0) ∧ w39.cell? ⟨gb102, 1, none⟩ = some (.int .i64 a1_1) ∧ w39.cell? ⟨gb102, 2, none⟩ = some (.slice A1_2 l1_2.length c1_2) := hS_
 refine norm_ (a' := ?_) ?_ ?_
 rotate_left
 ·
  simp only [putAll, Act.put, List.setIfInBounds_toArray, List.set_cons_zero, List.set_cons_succ]
  rfl
 refine one_ (i := 9) (N := none) #[true, true, true, true, true, true, true, true, true, true, false] rfl rfl (one_of HT_.out (by kernel_rfl)) (by decide) (fun K hK => ?_)
 have hs40 : w39.cell? ⟨gb118, 0, none⟩ = some (.int .i64 0) := (blk_cell BK118.out 0).trans rfl
 have hfs40 := blk_frozen BK118.out 0
 have hns40_0 := NB101_118.out
 have hns40_1 := NB102_118.out
 have hms40_0 := NB118_101.out
 have hms40_1 := NB118_102.out
 have hs41 : w39.cell? ⟨gb118, 1, none⟩ = some (.int .i64 0) := (blk_cell BK118.out 1).trans rfl
 have hfs41 := blk_frozen BK118.out 1
 have hns41_0 := NB101_118.out
 have hns41_1 := NB102_118.out
 have hms41_0 := NB118_101.out
 have hms41_1 := NB118_102.out
 refine skip_ (w1 := ?_) (by rfl) rfl ?_ ?_
 rotate_left
 ·
  go_simp
  rfl
 refine hK.out _ _ ⟨((cell_far (p := ⟨gb118, _, none⟩) NB101_118.out _).trans (((cell_far (p := ⟨gb118, _, none⟩) NB101_118.out _).trans (hHeld.1)))), ((cell_far (p := ⟨gb118, _, none⟩) NB101_118.out _).trans (((cell_far (p := ⟨gb118, _, none⟩) NB101_118.out _).trans (hHeld.2.1)))), ((cell_far (p := ⟨gb118, _, none⟩) NB101_118.out _).trans (((cell_far (p := ⟨gb118, _, none⟩) NB101_118.out _).trans (hHeld.2.2.1)))), ((cell_far (p := ⟨gb118, _, none⟩) NB102_118.out _).trans (((cell_far (p := ⟨gb118, _, none⟩) NB102_118.out _).trans (hHeld.2.2.2.1)))), ((cell_far (p := ⟨gb118, _, none⟩) NB102_118.out _).trans (((cell_far (p := ⟨gb118, _, none⟩) NB102_118.out _).trans (hHeld.2.2.2.2.1)))), ((cell_far (p := ⟨gb118, _, none⟩) NB102_118.out _).trans (((cell_far (p := ⟨gb118, _, none⟩) NB102_118.out _).trans (hHeld.2.2.2.2.2))))⟩ (fun hHeld => ?_)
 clear hK K
 refine pure_ (i := 10) (N := some 7) (v := ?_) (a' := ?_) #[true, true, true, true, true, true, true, true, true, true, true] rfl rfl (any_of HT_.out (by kernel_rfl)) (fun _ _ _ h => h) (Or.inl ⟨by rfl, ?_⟩) ?_ ?_
 rotate_left
 ·
  intro w'
  go_simp
  with_reducible rfl
 rotate_left
 ·
  simp only [sP]
  rfl
 refine done_ (done_of HT_.out (by kernel_rfl)) ?_
 have hnb42 := NB101_118.out
 have hnc42 := NB118_101.out
 have hcz43_0 : w39.cell? ⟨gb101, 0, none⟩ = some (.int .i64 a0_0) := (blk_cell BK101.out 0).trans rfl
 have hcz43_1 : w39.cell? ⟨gb101, 1, none⟩ = some (.int .i64 a0_1) := (blk_cell BK101.out 1).trans rfl
 have hcz43_2 : w39.cell? ⟨gb101, 2, none⟩ = some (.slice A0_2 l0_2.length c0_2) := (blk_cell BK101.out 2).trans rfl
 have hfz43_0 := blk_frozen BK101.out 0
 have hfz43_1 := blk_frozen BK101.out 1
 have hfz43_2 := blk_frozen BK101.out 2
 go_upto_region 12 with (first | ((with_reducible refine gate_callee (f := 15) rfl ?_); refine gl (some 31) Try.func15 #[.agg #[.int .i64 a0_0, .int .i64 a0_1, .slice A0_2 l0_2.length c0_2]] ?_; (with_reducible refine (laws_toField.calls k a0_0 a0_1 _ _ l0_2 t119 t120 t121 _ ?side1 ?side2 A21.out).mono ?_); (case side1 => exact Kd.C_below HR0_2.out (pS HB.out)); (case side2 => exact HC0_2.out); rintro e w44 ⟨v122, rfl, ho0, hb⟩; refine ⟨_, rfl, ?_⟩; have e2_ := aR hb (pR ((Kd.R_mono (Kd.R_far (p := ⟨gb118, 1, none⟩) (Kd.R_far (p := ⟨gb118, 0, none⟩) (Kd.R_types HO109.out BK118.out (by decide)) (fun _ hk => hk.2) (.int .i64 t115)) (fun _ hk => hk.2) (.int .i64 t116)) (fun _ h_ => h_.1)))); have n0_ := aK (Kd.R_elder' e2_.out (Kd.R_base ho0) hb); have e1_ := aR hb (pR ((Kd.R_mono (Kd.R_far (p := ⟨gb118, 1, none⟩) (Kd.R_far (p := ⟨gb118, 0, none⟩) (Kd.R_types HO114.out BK118.out (by decide)) (fun _ hk => hk.2) (.int .i64 t115)) (fun _ hk => hk.2) (.int .i64 t116)) (fun _ h_ => h_.1)))); have n1_ := aK (Kd.R_elder' e1_.out (Kd.R_base ho0) hb); have HO123 := aK (Kd.R_lower (Kd.R_new' (Kd.R_new' ho0 (Kd.R_lt e2_.out)) (Kd.R_lt e1_.out)) (below_size (pS HB.out))); clear e2_; clear e1_; have n3_ := aK (blk_below (g := gb101) (o := .cells #[.int .i64 a0_0, .int .i64 a0_1, .slice A0_2 l0_2.length c0_2] 24 (0, 0)) (by refine bk ?_; refine blk_far ?_ NB101_118.out _; refine bk ?_; refine blk_far ?_ NB101_118.out _; refine bk ?_; exact BK101.out) hb); have n4_ := aK (blk_below (g := gb102) (o := .cells #[.int .i64 a1_0, .int .i64 a1_1, .slice A1_2 l1_2.length c1_2] 24 (0, 0)) (by refine bk ?_; refine blk_far ?_ NB102_118.out _; refine bk ?_; refine blk_far ?_ NB102_118.out _; refine bk ?_; exact BK102.out) hb); have n5_ := aK (blk_below (g := gb118) (o := .cells #[.int .i64 t115, .int .i64 t116] 37 (0, 0)) (by refine bk ?_; refine blk_put (cs := #[.int .i64 t115, .int .i64 0]) ?_ 1 _ rfl; refine bk ?_; refine blk_put (cs := #[.int .i64 0, .int .i64 0]) ?_ 0 _ rfl; refine bk ?_; exact BK118.out) hb); replace HB := bS HB hb; clear HO109 HO114 BK101 BK102 BK118; have HO109 := n0_; have HO114 := n1_; have BK101 := n3_; have BK102 := n4_; have BK118 := n5_; clear n0_ n1_ n3_ n4_ n5_; (try clear hb); (try clear hb2); (try clear hk); (try clear hi); (try clear ho0)) | ((with_reducible refine gate_dst (N := 8) rfl ?_); refine bxe (cs := #[.int .i64 0, .int .i64 0, .slice none 0 0]) (t := 29) ?_; intro gb124 hg w45 hbox hb; have n0_ := aK (Kd.R_below (pR HO109.out) hb); have n1_ := aK (Kd.R_below (pR HO114.out) hb); have n2_ := aK (Kd.R_below (pR HO123.out) hb); have BK124 := aK (hbox); have GW124 := aK (gE hg (pS HB.out)); have GE124 := aK (gE hg (pS HB.out)); have NB101_124 := aK (nL hg (pB BK101.out)); have NB124_101 := aK (nG hg (pB BK101.out)); have NB102_124 := aK (nL hg (pB BK102.out)); have NB124_102 := aK (nG hg (pB BK102.out)); have NB118_124 := aK (nL hg (pB BK118.out)); have NB124_118 := aK (nG hg (pB BK118.out)); replace BK101 := bB BK101 hb; replace BK102 := bB BK102 hb; replace BK118 := bB BK118 hb; replace HB := bS HB hb; clear HO109 HO114 HO123; have HO109 := n0_; have HO114 := n1_; have HO123 := n2_; clear n0_ n1_ n2_ hb hbox hg; have hnb46 := NB124_101.out; have hnc46 := NB101_124.out; have hnb47 := NB124_102.out; have hnc47 := NB102_124.out; have hnb48 := NB124_118.out; have hnc48 := NB118_124.out; have hcz49_0 : w45.cell? ⟨gb124, 0, none⟩ = some (.int .i64 0) := (blk_cell BK124.out 0).trans rfl; have hcz49_1 : w45.cell? ⟨gb124, 1, none⟩ = some (.int .i64 0) := (blk_cell BK124.out 1).trans rfl; have hcz49_2 : w45.cell? ⟨gb124, 2, none⟩ = some (.slice none 0 0) := (blk_cell BK124.out 2).trans rfl; have hfz49_0 := blk_frozen BK124.out 0; have hfz49_1 := blk_frozen BK124.out 1; have hfz49_2 := blk_frozen BK124.out 2; obtain ⟨Ao50, co50, eo50⟩ := Kd.R_slice HO123.out; subst eo50; have hnb51 := NB102_118.out; have hnc51 := NB118_102.out; have hcz52_0 : w45.cell? ⟨gb102, 0, none⟩ = some (.int .i64 a1_0) := (blk_cell BK102.out 0).trans rfl; have hcz52_1 : w45.cell? ⟨gb102, 1, none⟩ = some (.int .i64 a1_1) := (blk_cell BK102.out 1).trans rfl; have hcz52_2 : w45.cell? ⟨gb102, 2, none⟩ = some (.slice A1_2 l1_2.length c1_2) := (blk_cell BK102.out 2).trans rfl; have hfz52_0 := blk_frozen BK102.out 0; have hfz52_1 := blk_frozen BK102.out 1; have hfz52_2 := blk_frozen BK102.out 2) | ((with_reducible refine gate_callee (f := 15) rfl ?_); refine gl (some 33) Try.func15 #[.agg #[.int .i64 a1_0, .int .i64 a1_1, .slice A1_2 l1_2.length c1_2]] ?_; (with_reducible refine (laws_toField.calls k a1_0 a1_1 _ _ l1_2 t125 t126 t127 _ ?side1 ?side2 A22.out).mono ?_); (case side1 => exact Kd.C_below HR1_2.out (pS HB.out)); (case side2 => exact HC1_2.out); rintro e w53 ⟨v128, rfl, ho0, hb⟩; refine ⟨_, rfl, ?_⟩; have e3_ := aR hb (pR ((Kd.R_mono (Kd.R_far (p := ⟨gb124, 2, none⟩) (Kd.R_far (p := ⟨gb124, 1, none⟩) (Kd.R_far (p := ⟨gb124, 0, none⟩) (Kd.R_types HO109.out BK124.out (by decide)) (fun _ hk => hk.2) (.int .i64 t119)) (fun _ hk => hk.2) (.int .i64 t120)) (fun _ hk => hk.2) (.slice Ao50 t121.length co50)) (fun _ h_ => h_.1)))); have n0_ := aK (Kd.R_elder' e3_.out (Kd.R_base ho0) hb); have e2_ := aR hb (pR ((Kd.R_mono (Kd.R_far (p := ⟨gb124, 2, none⟩) (Kd.R_far (p := ⟨gb124, 1, none⟩) (Kd.R_far (p := ⟨gb124, 0, none⟩) (Kd.R_types HO114.out BK124.out (by decide)) (fun _ hk => hk.2) (.int .i64 t119)) (fun _ hk => hk.2) (.int .i64 t120)) (fun _ hk => hk.2) (.slice Ao50 t121.length co50)) (fun _ h_ => h_.1)))); have n1_ := aK (Kd.R_elder' e2_.out (Kd.R_base ho0) hb); have e1_ := aR hb (pR ((Kd.R_mono (Kd.R_far (p := ⟨gb124, 2, none⟩) (Kd.R_far (p := ⟨gb124, 1, none⟩) (Kd.R_far (p := ⟨gb124, 0, none⟩) (Kd.R_types HO123.out BK124.out (by decide)) (fun _ hk => hk.2) (.int .i64 t119)) (fun _ hk => hk.2) (.int .i64 t120)) (fun _ hk => hk.2) (.slice Ao50 t121.length co50)) (fun _ h_ => h_.1)))); have n2_ := aK (Kd.R_elder' e1_.out (Kd.R_base ho0) hb); have HO129 := aK (Kd.R_lower (Kd.R_new' (Kd.R_new' (Kd.R_new' ho0 (Kd.R_lt e3_.out)) (Kd.R_lt e2_.out)) (Kd.R_lt e1_.out)) (below_size (pS HB.out))); clear e3_; clear e2_; clear e1_; have n4_ := aK (blk_below (g := gb101) (o := .cells #[.int .i64 a0_0, .int .i64 a0_1, .slice A0_2 l0_2.length c0_2] 24 (0, 0)) (by refine bk ?_; refine blk_far ?_ NB101_124.out _; refine bk ?_; refine blk_far ?_ NB101_124.out _; refine bk ?_; refine blk_far ?_ NB101_124.out _; refine bk ?_; exact BK101.out) hb); have n5_ := aK (blk_below (g := gb102) (o := .cells #[.int .i64 a1_0, .int .i64 a1_1, .slice A1_2 l1_2.length c1_2] 24 (0, 0)) (by refine bk ?_; refine blk_far ?_ NB102_124.out _; refine bk ?_; refine blk_far ?_ NB102_124.out _; refine bk ?_; refine blk_far ?_ NB102_124.out _; refine bk ?_; exact BK102.out) hb); have n6_ := aK (blk_below (g := gb118) (o := .cells #[.int .i64 t115, .int .i64 t116] 37 (0, 0)) (by refine bk ?_; refine blk_far ?_ NB118_124.out _; refine bk ?_; refine blk_far ?_ NB118_124.out _; refine bk ?_; refine blk_far ?_ NB118_124.out _; refine bk ?_; exact BK118.out) hb); have n7_ := aK (blk_below (g := gb124) (o := .cells #[.int .i64 t119, .int .i64 t120, .slice Ao50 t121.length co50] 29 (0, 0)) (by refine bk ?_; refine blk_put (cs := #[.int .i64 t119, .int .i64 t120, .slice none 0 0]) ?_ 2 _ rfl; refine bk ?_; refine blk_put (cs := #[.int .i64 t119, .int .i64 0, .slice none 0 0]) ?_ 1 _ rfl; refine bk ?_; refine blk_put (cs := #[.int .i64 0, .int .i64 0, .slice none 0 0]) ?_ 0 _ rfl; refine bk ?_; exact BK124.out) hb); replace HB := bS HB hb; clear HO109 HO114 HO123 BK101 BK102 BK118 BK124; have HO109 := n0_; have HO114 := n1_; have HO123 := n2_; have BK101 := n4_; have BK102 := n5_; have BK118 := n6_; have BK124 := n7_; clear n0_ n1_ n2_ n4_ n5_ n6_ n7_; (try clear hb); (try clear hb2); (try clear hk); (try clear hi); (try clear ho0)) | ((with_reducible refine gate_dst (N := 9) rfl ?_); refine bxe (cs := #[.int .i64 0, .int .i64 0, .slice none 0 0]) (t := 29) ?_; intro gb130 hg w54 hbox hb; have n0_ := aK (Kd.R_below (pR HO109.out) hb); have n1_ := aK (Kd.R_below (pR HO114.out) hb); have n2_ := aK (Kd.R_below (pR HO123.out) hb); have n3_ := aK (Kd.R_below (pR HO129.out) hb); have BK130 := aK (hbox); have GW130 := aK (gE hg (pS HB.out)); have GE130 := aK (gE hg (pS HB.out)); have NB101_130 := aK (nL hg (pB BK101.out)); have NB130_101 := aK (nG hg (pB BK101.out)); have NB102_130 := aK (nL hg (pB BK102.out)); have NB130_102 := aK (nG hg (pB BK102.out)); have NB118_130 := aK (nL hg (pB BK118.out)); have NB130_118 := aK (nG hg (pB BK118.out)); have NB124_130 := aK (nL hg (pB BK124.out)); have NB130_124 := aK (nG hg (pB BK124.out)); replace BK101 := bB BK101 hb; replace BK102 := bB BK102 hb; replace BK118 := bB BK118 hb; replace BK124 := bB BK124 hb; replace HB := bS HB hb; clear HO109 HO114 HO123 HO129; have HO109 := n0_; have HO114 := n1_; have HO123 := n2_; have HO129 := n3_; clear n0_ n1_ n2_ n3_ hb hbox hg; have hnb55 := NB130_101.out; have hnc55 := NB101_130.out; have hnb56 := NB130_102.out; have hnc56 := NB102_130.out; have hnb57 := NB130_118.out; have hnc57 := NB118_130.out; have hnb58 := NB130_124.out; have hnc58 := NB124_130.out; have hcz59_0 : w54.cell? ⟨gb130, 0, none⟩ = some (.int .i64 0) := (blk_cell BK130.out 0).trans rfl; have hcz59_1 : w54.cell? ⟨gb130, 1, none⟩ = some (.int .i64 0) := (blk_cell BK130.out 1).trans rfl; have hcz59_2 : w54.cell? ⟨gb130, 2, none⟩ = some (.slice none 0 0) := (blk_cell BK130.out 2).trans rfl; have hfz59_0 := blk_frozen BK130.out 0; have hfz59_1 := blk_frozen BK130.out 1; have hfz59_2 := blk_frozen BK130.out 2; obtain ⟨Ao60, co60, eo60⟩ := Kd.R_slice HO129.out; subst eo60; have hcz61_0 : w54.cell? ⟨gb124, 0, none⟩ = some (.int .i64 t119) := (blk_cell BK124.out 0).trans rfl; have hcz61_1 : w54.cell? ⟨gb124, 1, none⟩ = some (.int .i64 t120) := (blk_cell BK124.out 1).trans rfl; have hcz61_2 : w54.cell? ⟨gb124, 2, none⟩ = some (.slice Ao50 t121.length co50) := (blk_cell BK124.out 2).trans rfl; have hfz61_0 := blk_frozen BK124.out 0; have hfz61_1 := blk_frozen BK124.out 1; have hfz61_2 := blk_frozen BK124.out 2) | ((with_reducible refine gate_callee (f := 23) rfl ?_); refine gl (some 37) Try.func23 #[.agg #[.int .i64 t119, .int .i64 t120, .slice Ao50 t121.length co50], .agg #[.int .i64 t125, .int .i64 t126, .slice Ao60 t127.length co60]] ?_; (with_reducible refine (impl_BestMotion.calls k t119 t120 _ _ t121 t125 t126 _ _ t127 t131 t132 t133 _ ?side1 ?side2 ?side3 ?side4 A23.out).mono ?_); (case side1 => refine (Kd.R_reads' (e := 3) (base := w.heap.size) (ok := fun k_ => (((True ∧ some k_ ≠ (v108 : Value).ownBlock) ∧ some k_ ≠ (v113 : Value).ownBlock) ∧ some k_ ≠ (.slice Ao60 t127.length co60 : Value).ownBlock)) (n := t121.length) (c := co50) ?_).2.2; exact (pR ((Kd.R_mono (Kd.R_far (p := ⟨gb130, 2, none⟩) (Kd.R_far (p := ⟨gb130, 1, none⟩) (Kd.R_far (p := ⟨gb130, 0, none⟩) (Kd.R_types HO123.out BK130.out (by decide)) (fun _ hk => hk.2) (.int .i64 t125)) (fun _ hk => hk.2) (.int .i64 t126)) (fun _ hk => hk.2) (.slice Ao60 t127.length co60)) (fun _ h_ => h_.1))))); (case side2 => exact (Kd.R_reads' HO123.out).2.1); (case side3 => refine (Kd.R_reads' (e := 3) (base := w.heap.size) (ok := fun k_ => (((True ∧ some k_ ≠ (v108 : Value).ownBlock) ∧ some k_ ≠ (v113 : Value).ownBlock) ∧ some k_ ≠ (.slice Ao50 t121.length co50 : Value).ownBlock)) (n := t127.length) (c := co60) ?_).2.2; exact (pR ((Kd.R_mono (Kd.R_far (p := ⟨gb130, 2, none⟩) (Kd.R_far (p := ⟨gb130, 1, none⟩) (Kd.R_far (p := ⟨gb130, 0, none⟩) (Kd.R_types HO129.out BK130.out (by decide)) (fun _ hk => hk.2) (.int .i64 t125)) (fun _ hk => hk.2) (.int .i64 t126)) (fun _ hk => hk.2) (.slice Ao60 t127.length co60)) (fun _ h_ => h_.1))))); (case side4 => exact (Kd.R_reads' HO129.out).2.1); rintro e w62 ⟨rfl, hb⟩; refine ⟨_, rfl, ?_⟩; have n0_ := aK (Kd.R_below (pR ((Kd.R_mono (Kd.R_far (p := ⟨gb130, 2, none⟩) (Kd.R_far (p := ⟨gb130, 1, none⟩) (Kd.R_far (p := ⟨gb130, 0, none⟩) (Kd.R_types HO109.out BK130.out (by decide)) (fun _ hk => hk.2) (.int .i64 t125)) (fun _ hk => hk.2) (.int .i64 t126)) (fun _ hk => hk.2) (.slice Ao60 t127.length co60)) (fun _ h_ => h_.1)))) hb); have n1_ := aK (Kd.R_below (pR ((Kd.R_mono (Kd.R_far (p := ⟨gb130, 2, none⟩) (Kd.R_far (p := ⟨gb130, 1, none⟩) (Kd.R_far (p := ⟨gb130, 0, none⟩) (Kd.R_types HO114.out BK130.out (by decide)) (fun _ hk => hk.2) (.int .i64 t125)) (fun _ hk => hk.2) (.int .i64 t126)) (fun _ hk => hk.2) (.slice Ao60 t127.length co60)) (fun _ h_ => h_.1)))) hb); have n2_ := aK (Kd.R_below (pR ((Kd.R_mono (Kd.R_far (p := ⟨gb130, 2, none⟩) (Kd.R_far (p := ⟨gb130, 1, none⟩) (Kd.R_far (p := ⟨gb130, 0, none⟩) (Kd.R_types HO123.out BK130.out (by decide)) (fun _ hk => hk.2) (.int .i64 t125)) (fun _ hk => hk.2) (.int .i64 t126)) (fun _ hk => hk.2) (.slice Ao60 t127.length co60)) (fun _ h_ => h_.1)))) hb); have n3_ := aK (Kd.R_below (pR ((Kd.R_mono (Kd.R_far (p := ⟨gb130, 2, none⟩) (Kd.R_far (p := ⟨gb130, 1, none⟩) (Kd.R_far (p := ⟨gb130, 0, none⟩) (Kd.R_types HO129.out BK130.out (by decide)) (fun _ hk => hk.2) (.int .i64 t125)) (fun _ hk => hk.2) (.int .i64 t126)) (fun _ hk => hk.2) (.slice Ao60 t127.length co60)) (fun _ h_ => h_.1)))) hb); have n4_ := aK (blk_below (g := gb101) (o := .cells #[.int .i64 a0_0, .int .i64 a0_1, .slice A0_2 l0_2.length c0_2] 24 (0, 0)) (by refine bk ?_; refine blk_far ?_ NB101_130.out _; refine bk ?_; refine blk_far ?_ NB101_130.out _; refine bk ?_; refine blk_far ?_ NB101_130.out _; refine bk ?_; exact BK101.out) hb); have n5_ := aK (blk_below (g := gb102) (o := .cells #[.int .i64 a1_0, .int .i64 a1_1, .slice A1_2 l1_2.length c1_2] 24 (0, 0)) (by refine bk ?_; refine blk_far ?_ NB102_130.out _; refine bk ?_; refine blk_far ?_ NB102_130.out _; refine bk ?_; refine blk_far ?_ NB102_130.out _; refine bk ?_; exact BK102.out) hb); have n6_ := aK (blk_below (g := gb118) (o := .cells #[.int .i64 t115, .int .i64 t116] 37 (0, 0)) (by refine bk ?_; refine blk_far ?_ NB118_130.out _; refine bk ?_; refine blk_far ?_ NB118_130.out _; refine bk ?_; refine blk_far ?_ NB118_130.out _; refine bk ?_; exact BK118.out) hb); have n7_ := aK (blk_below (g := gb124) (o := .cells #[.int .i64 t119, .int .i64 t120, .slice Ao50 t121.length co50] 29 (0, 0)) (by refine bk ?_; refine blk_far ?_ NB124_130.out _; refine bk ?_; refine blk_far ?_ NB124_130.out _; refine bk ?_; refine blk_far ?_ NB124_130.out _; refine bk ?_; exact BK124.out) hb); have n8_ := aK (blk_below (g := gb130) (o := .cells #[.int .i64 t125, .int .i64 t126, .slice Ao60 t127.length co60] 29 (0, 0)) (by refine bk ?_; refine blk_put (cs := #[.int .i64 t125, .int .i64 t126, .slice none 0 0]) ?_ 2 _ rfl; refine bk ?_; refine blk_put (cs := #[.int .i64 t125, .int .i64 0, .slice none 0 0]) ?_ 1 _ rfl; refine bk ?_; refine blk_put (cs := #[.int .i64 0, .int .i64 0, .slice none 0 0]) ?_ 0 _ rfl; refine bk ?_; exact BK130.out) hb); replace HB := bS HB hb; clear HO109 HO114 HO123 HO129 BK101 BK102 BK118 BK124 BK130; have HO109 := n0_; have HO114 := n1_; have HO123 := n2_; have HO129 := n3_; have BK101 := n4_; have BK102 := n5_; have BK118 := n6_; have BK124 := n7_; have BK130 := n8_; clear n0_ n1_ n2_ n3_ n4_ n5_ n6_ n7_ n8_; (try clear hb); (try clear hb2); (try clear hk); (try clear hi)) | ((with_reducible refine gate_dst (N := 10) rfl ?_); refine bxe (cs := #[.int .i64 0, .int .i64 0]) (t := 37) ?_; intro gb134 hg w63 hbox hb; have n0_ := aK (Kd.R_below (pR HO109.out) hb); have n1_ := aK (Kd.R_below (pR HO114.out) hb); have n2_ := aK (Kd.R_below (pR HO123.out) hb); have n3_ := aK (Kd.R_below (pR HO129.out) hb); have BK134 := aK (hbox); have GW134 := aK (gE hg (pS HB.out)); have GE134 := aK (gE hg (pS HB.out)); have NB101_134 := aK (nL hg (pB BK101.out)); have NB134_101 := aK (nG hg (pB BK101.out)); have NB102_134 := aK (nL hg (pB BK102.out)); have NB134_102 := aK (nG hg (pB BK102.out)); have NB118_134 := aK (nL hg (pB BK118.out)); have NB134_118 := aK (nG hg (pB BK118.out)); have NB124_134 := aK (nL hg (pB BK124.out)); have NB134_124 := aK (nG hg (pB BK124.out)); have NB130_134 := aK (nL hg (pB BK130.out)); have NB134_130 := aK (nG hg (pB BK130.out)); replace BK101 := bB BK101 hb; replace BK102 := bB BK102 hb; replace BK118 := bB BK118 hb; replace BK124 := bB BK124 hb; replace BK130 := bB BK130 hb; replace HB := bS HB hb; clear HO109 HO114 HO123 HO129; have HO109 := n0_; have HO114 := n1_; have HO123 := n2_; have HO129 := n3_; clear n0_ n1_ n2_ n3_ hb hbox hg; have hnb64 := NB134_101.out; have hnc64 := NB101_134.out; have hnb65 := NB134_102.out; have hnc65 := NB102_134.out; have hnb66 := NB134_118.out; have hnc66 := NB118_134.out; have hnb67 := NB134_124.out; have hnc67 := NB124_134.out; have hnb68 := NB134_130.out; have hnc68 := NB130_134.out; have hcz69_0 : w63.cell? ⟨gb134, 0, none⟩ = some (.int .i64 0) := (blk_cell BK134.out 0).trans rfl; have hcz69_1 : w63.cell? ⟨gb134, 1, none⟩ = some (.int .i64 0) := (blk_cell BK134.out 1).trans rfl; have hfz69_0 := blk_frozen BK134.out 0; have hfz69_1 := blk_frozen BK134.out 1))
 (try simp only [Act.put, List.setIfInBounds_toArray, List.set_cons_zero, List.set_cons_succ])
 go_cut [48] (fun v48 wc => ∃ (kq : Nat) (x48_23 : Bool), v48 = .bool x48_23 ∧ Aside0 (laws_FnExactBestMotion.j0 kq x48_23 a0_0 a0_1 l0_2 a1_0 a1_1 l1_2 t119 t120 t121 t125 t126 t127 = some r) ∧ Aside0 (kq ≤ k) ∧ Aside0 (Kd.R (Kd.int .i64) 3 wc w.heap.size (fun k_ => some k_ ≠ ((.slice Ao60 t127.length co60) : Value).ownBlock) (.slice Ao50 t121.length co50) t121) ∧ Aside0 (Kd.R (Kd.int .i64) 3 wc w.heap.size (fun k_ => some k_ ≠ ((.slice Ao50 t121.length co50) : Value).ownBlock) (.slice Ao60 t127.length co60) t127) ∧ Aside0 (wc.heap[gb101]? = some (.cells #[.int .i64 a0_0, .int .i64 a0_1, (.slice A0_2 l0_2.length c0_2)] 24 (0, 0))) ∧ Aside0 (wc.heap[gb102]? = some (.cells #[.int .i64 a1_0, .int .i64 a1_1, (.slice A1_2 l1_2.length c1_2)] 24 (0, 0))) ∧ Aside0 (wc.heap[gb118]? = some (.cells #[.int .i64 t115, .int .i64 t116] 37 (0, 0))) ∧ Aside0 (wc.heap[gb124]? = some (.cells #[.int .i64 t119, .int .i64 t120, (.slice Ao50 t121.length co50)] 29 (0, 0))) ∧ Aside0 (wc.heap[gb130]? = some (.cells #[.int .i64 t125, .int .i64 t126, (.slice Ao60 t127.length co60)] 29 (0, 0))) ∧ Aside0 (wc.heap[gb134]? = some (.cells #[.int .i64 t131, .int .i64 t132] 37 (0, 0))) ∧ Aside0 (Below w.heap.size w wc))
 case first =>
  have H := HC24.out
  clear HC24
  replace H := Option.bind_eq_some_iff.mp H
  obtain ⟨t135, A700, H⟩ := H
  replace H : (if t135 = true then (laws_FnExactBestMotion.j0 k (t133 != t117) a0_0 a0_1 l0_2 a1_0 a1_1 l1_2 t119 t120 t121 t125 t126 t127) else (laws_FnExactBestMotion.j0 k true a0_0 a0_1 l0_2 a1_0 a1_1 l1_2 t119 t120 t121 t125 t126 t127)) = some r := H
  have A70 := Aside0.mk A700
  clear A700
  by_cases c71 : t135 = true
  ·
   subst c71
   have H1 : (laws_FnExactBestMotion.j0 k (t133 != t117) a0_0 a0_1 l0_2 a1_0 a1_1 l1_2 t119 t120 t121 t125 t126 t127) = some r := by rw [if_pos rfl] at H; exact H
   clear H
   have H := H1
   clear H1
   have H' := Aside0.mk H
   clear H
   have hnb72 := NB134_101.out
   have hnc72 := NB101_134.out
   have hnb73 := NB134_102.out
   have hnc73 := NB102_134.out
   have hnb74 := NB134_118.out
   have hnc74 := NB118_134.out
   have hnb75 := NB134_124.out
   have hnc75 := NB124_134.out
   have hnb76 := NB134_130.out
   have hnc76 := NB130_134.out
   have hcz77_0 : w63.cell? ⟨gb134, 0, none⟩ = some (.int .i64 0) := (blk_cell BK134.out 0).trans rfl
   have hcz77_1 : w63.cell? ⟨gb134, 1, none⟩ = some (.int .i64 0) := (blk_cell BK134.out 1).trans rfl
   have hfz77_0 := blk_frozen BK134.out 0
   have hfz77_1 := blk_frozen BK134.out 1
   have hnb78 := NB118_101.out
   have hnc78 := NB101_118.out
   have hnb79 := NB118_102.out
   have hnc79 := NB102_118.out
   have hnb80 := NB118_124.out
   have hnc80 := NB124_118.out
   have hnb81 := NB118_130.out
   have hnc81 := NB130_118.out
   have hcz82_0 : w63.cell? ⟨gb118, 0, none⟩ = some (.int .i64 t115) := (blk_cell BK118.out 0).trans rfl
   have hcz82_1 : w63.cell? ⟨gb118, 1, none⟩ = some (.int .i64 t116) := (blk_cell BK118.out 1).trans rfl
   have hfz82_0 := blk_frozen BK118.out 0
   have hfz82_1 := blk_frozen BK118.out 1
   go_wp2_with (first | ((with_reducible refine gate_callee (f := 24) rfl ?_); refine gl (some 42) Try.func24 #[.agg #[.int .i64 t131, .int .i64 t132], .agg #[.int .i64 t115, .int .i64 t116]] ?_; (with_reducible refine (laws_eqMotion.calls t131 t132 t115 t116 true _ A70.out).mono ?_); rintro e w83 ⟨rfl, hb⟩; refine ⟨_, rfl, ?_⟩; have n0_ := aK (Kd.R_below (pR ((Kd.R_mono (Kd.R_far (p := ⟨gb134, 1, none⟩) (Kd.R_far (p := ⟨gb134, 0, none⟩) (Kd.R_types HO109.out BK134.out (by decide)) (fun _ hk => hk.2) (.int .i64 t131)) (fun _ hk => hk.2) (.int .i64 t132)) (fun _ h_ => h_.1)))) hb); have n1_ := aK (Kd.R_below (pR ((Kd.R_mono (Kd.R_far (p := ⟨gb134, 1, none⟩) (Kd.R_far (p := ⟨gb134, 0, none⟩) (Kd.R_types HO114.out BK134.out (by decide)) (fun _ hk => hk.2) (.int .i64 t131)) (fun _ hk => hk.2) (.int .i64 t132)) (fun _ h_ => h_.1)))) hb); have n2_ := aK (Kd.R_below (pR ((Kd.R_mono (Kd.R_far (p := ⟨gb134, 1, none⟩) (Kd.R_far (p := ⟨gb134, 0, none⟩) (Kd.R_types HO123.out BK134.out (by decide)) (fun _ hk => hk.2) (.int .i64 t131)) (fun _ hk => hk.2) (.int .i64 t132)) (fun _ h_ => h_.1)))) hb); have n3_ := aK (Kd.R_below (pR ((Kd.R_mono (Kd.R_far (p := ⟨gb134, 1, none⟩) (Kd.R_far (p := ⟨gb134, 0, none⟩) (Kd.R_types HO129.out BK134.out (by decide)) (fun _ hk => hk.2) (.int .i64 t131)) (fun _ hk => hk.2) (.int .i64 t132)) (fun _ h_ => h_.1)))) hb); have n4_ := aK (blk_below (g := gb101) (o := .cells #[.int .i64 a0_0, .int .i64 a0_1, .slice A0_2 l0_2.length c0_2] 24 (0, 0)) (by refine bk ?_; refine blk_far ?_ NB101_134.out _; refine bk ?_; refine blk_far ?_ NB101_134.out _; refine bk ?_; exact BK101.out) hb); have n5_ := aK (blk_below (g := gb102) (o := .cells #[.int .i64 a1_0, .int .i64 a1_1, .slice A1_2 l1_2.length c1_2] 24 (0, 0)) (by refine bk ?_; refine blk_far ?_ NB102_134.out _; refine bk ?_; refine blk_far ?_ NB102_134.out _; refine bk ?_; exact BK102.out) hb); have n6_ := aK (blk_below (g := gb118) (o := .cells #[.int .i64 t115, .int .i64 t116] 37 (0, 0)) (by refine bk ?_; refine blk_far ?_ NB118_134.out _; refine bk ?_; refine blk_far ?_ NB118_134.out _; refine bk ?_; exact BK118.out) hb); have n7_ := aK (blk_below (g := gb124) (o := .cells #[.int .i64 t119, .int .i64 t120, .slice Ao50 t121.length co50] 29 (0, 0)) (by refine bk ?_; refine blk_far ?_ NB124_134.out _; refine bk ?_; refine blk_far ?_ NB124_134.out _; refine bk ?_; exact BK124.out) hb); have n8_ := aK (blk_below (g := gb130) (o := .cells #[.int .i64 t125, .int .i64 t126, .slice Ao60 t127.length co60] 29 (0, 0)) (by refine bk ?_; refine blk_far ?_ NB130_134.out _; refine bk ?_; refine blk_far ?_ NB130_134.out _; refine bk ?_; exact BK130.out) hb); have n9_ := aK (blk_below (g := gb134) (o := .cells #[.int .i64 t131, .int .i64 t132] 37 (0, 0)) (by refine bk ?_; refine blk_put (cs := #[.int .i64 t131, .int .i64 0]) ?_ 1 _ rfl; refine bk ?_; refine blk_put (cs := #[.int .i64 0, .int .i64 0]) ?_ 0 _ rfl; refine bk ?_; exact BK134.out) hb); replace HB := bS HB hb; clear HO109 HO114 HO123 HO129 BK101 BK102 BK118 BK124 BK130 BK134; have HO109 := n0_; have HO114 := n1_; have HO123 := n2_; have HO129 := n3_; have BK101 := n4_; have BK102 := n5_; have BK118 := n6_; have BK124 := n7_; have BK130 := n8_; have BK134 := n9_; clear n0_ n1_ n2_ n3_ n4_ n5_ n6_ n7_ n8_ n9_; (try clear hb); (try clear hb2); (try clear hk); (try clear hi)))
   go_meet
   case rel => exact ⟨_, ((t133 != t117)), (by first | rfl | (simp; done) | (simp [*]; done)), H', ⟨by first | omega | exact Nat.le_refl _⟩, ⟨by (with_reducible repeat (first | apply Kd.R_alloc | apply Kd.R_drewN | apply Kd.R_drew)); exact Kd.R_mono HO123.out (fun _ hk => hk.2)⟩, ⟨by (with_reducible repeat (first | apply Kd.R_alloc | apply Kd.R_drewN | apply Kd.R_drew)); exact Kd.R_mono HO129.out (fun _ hk => hk.2)⟩, ⟨by refine bk ?_; exact BK101.out⟩, ⟨by refine bk ?_; exact BK102.out⟩, ⟨by refine bk ?_; exact BK118.out⟩, ⟨by refine bk ?_; exact BK124.out⟩, ⟨by refine bk ?_; exact BK130.out⟩, ⟨by refine bk ?_; exact BK134.out⟩, ⟨pT HB.out⟩⟩
  replace c71 := Bool.eq_false_iff.mpr c71
  subst c71
  have H1 : (laws_FnExactBestMotion.j0 k true a0_0 a0_1 l0_2 a1_0 a1_1 l1_2 t119 t120 t121 t125 t126 t127) = some r := by rw [if_neg (show ¬ (false = true) by decide)] at H; exact H
  clear H
  have H := H1
  clear H1
  have H' := Aside0.mk H
  clear H
  have hnb84 := NB134_101.out
  have hnc84 := NB101_134.out
  have hnb85 := NB134_102.out
  have hnc85 := NB102_134.out
  have hnb86 := NB134_118.out
  have hnc86 := NB118_134.out
  have hnb87 := NB134_124.out
  have hnc87 := NB124_134.out
  have hnb88 := NB134_130.out
  have hnc88 := NB130_134.out
  have hcz89_0 : w63.cell? ⟨gb134, 0, none⟩ = some (.int .i64 0) := (blk_cell BK134.out 0).trans rfl
  have hcz89_1 : w63.cell? ⟨gb134, 1, none⟩ = some (.int .i64 0) := (blk_cell BK134.out 1).trans rfl
  have hfz89_0 := blk_frozen BK134.out 0
  have hfz89_1 := blk_frozen BK134.out 1
  have hnb90 := NB118_101.out
  have hnc90 := NB101_118.out
  have hnb91 := NB118_102.out
  have hnc91 := NB102_118.out
  have hnb92 := NB118_124.out
  have hnc92 := NB124_118.out
  have hnb93 := NB118_130.out
  have hnc93 := NB130_118.out
  have hcz94_0 : w63.cell? ⟨gb118, 0, none⟩ = some (.int .i64 t115) := (blk_cell BK118.out 0).trans rfl
  have hcz94_1 : w63.cell? ⟨gb118, 1, none⟩ = some (.int .i64 t116) := (blk_cell BK118.out 1).trans rfl
  have hfz94_0 := blk_frozen BK118.out 0
  have hfz94_1 := blk_frozen BK118.out 1
  go_wp2_with (first | ((with_reducible refine gate_callee (f := 24) rfl ?_); refine gl (some 42) Try.func24 #[.agg #[.int .i64 t131, .int .i64 t132], .agg #[.int .i64 t115, .int .i64 t116]] ?_; (with_reducible refine (laws_eqMotion.calls t131 t132 t115 t116 false _ A70.out).mono ?_); rintro e w95 ⟨rfl, hb⟩; refine ⟨_, rfl, ?_⟩; have n0_ := aK (Kd.R_below (pR ((Kd.R_mono (Kd.R_far (p := ⟨gb134, 1, none⟩) (Kd.R_far (p := ⟨gb134, 0, none⟩) (Kd.R_types HO109.out BK134.out (by decide)) (fun _ hk => hk.2) (.int .i64 t131)) (fun _ hk => hk.2) (.int .i64 t132)) (fun _ h_ => h_.1)))) hb); have n1_ := aK (Kd.R_below (pR ((Kd.R_mono (Kd.R_far (p := ⟨gb134, 1, none⟩) (Kd.R_far (p := ⟨gb134, 0, none⟩) (Kd.R_types HO114.out BK134.out (by decide)) (fun _ hk => hk.2) (.int .i64 t131)) (fun _ hk => hk.2) (.int .i64 t132)) (fun _ h_ => h_.1)))) hb); have n2_ := aK (Kd.R_below (pR ((Kd.R_mono (Kd.R_far (p := ⟨gb134, 1, none⟩) (Kd.R_far (p := ⟨gb134, 0, none⟩) (Kd.R_types HO123.out BK134.out (by decide)) (fun _ hk => hk.2) (.int .i64 t131)) (fun _ hk => hk.2) (.int .i64 t132)) (fun _ h_ => h_.1)))) hb); have n3_ := aK (Kd.R_below (pR ((Kd.R_mono (Kd.R_far (p := ⟨gb134, 1, none⟩) (Kd.R_far (p := ⟨gb134, 0, none⟩) (Kd.R_types HO129.out BK134.out (by decide)) (fun _ hk => hk.2) (.int .i64 t131)) (fun _ hk => hk.2) (.int .i64 t132)) (fun _ h_ => h_.1)))) hb); have n4_ := aK (blk_below (g := gb101) (o := .cells #[.int .i64 a0_0, .int .i64 a0_1, .slice A0_2 l0_2.length c0_2] 24 (0, 0)) (by refine bk ?_; refine blk_far ?_ NB101_134.out _; refine bk ?_; refine blk_far ?_ NB101_134.out _; refine bk ?_; exact BK101.out) hb); have n5_ := aK (blk_below (g := gb102) (o := .cells #[.int .i64 a1_0, .int .i64 a1_1, .slice A1_2 l1_2.length c1_2] 24 (0, 0)) (by refine bk ?_; refine blk_far ?_ NB102_134.out _; refine bk ?_; refine blk_far ?_ NB102_134.out _; refine bk ?_; exact BK102.out) hb); have n6_ := aK (blk_below (g := gb118) (o := .cells #[.int .i64 t115, .int .i64 t116] 37 (0, 0)) (by refine bk ?_; refine blk_far ?_ NB118_134.out _; refine bk ?_; refine blk_far ?_ NB118_134.out _; refine bk ?_; exact BK118.out) hb); have n7_ := aK (blk_below (g := gb124) (o := .cells #[.int .i64 t119, .int .i64 t120, .slice Ao50 t121.length co50] 29 (0, 0)) (by refine bk ?_; refine blk_far ?_ NB124_134.out _; refine bk ?_; refine blk_far ?_ NB124_134.out _; refine bk ?_; exact BK124.out) hb); have n8_ := aK (blk_below (g := gb130) (o := .cells #[.int .i64 t125, .int .i64 t126, .slice Ao60 t127.length co60] 29 (0, 0)) (by refine bk ?_; refine blk_far ?_ NB130_134.out _; refine bk ?_; refine blk_far ?_ NB130_134.out _; refine bk ?_; exact BK130.out) hb); have n9_ := aK (blk_below (g := gb134) (o := .cells #[.int .i64 t131, .int .i64 t132] 37 (0, 0)) (by refine bk ?_; refine blk_put (cs := #[.int .i64 t131, .int .i64 0]) ?_ 1 _ rfl; refine bk ?_; refine blk_put (cs := #[.int .i64 0, .int .i64 0]) ?_ 0 _ rfl; refine bk ?_; exact BK134.out) hb); replace HB := bS HB hb; clear HO109 HO114 HO123 HO129 BK101 BK102 BK118 BK124 BK130 BK134; have HO109 := n0_; have HO114 := n1_; have HO123 := n2_; have HO129 := n3_; have BK101 := n4_; have BK102 := n5_; have BK118 := n6_; have BK124 := n7_; have BK130 := n8_; have BK134 := n9_; clear n0_ n1_ n2_ n3_ n4_ n5_ n6_ n7_ n8_ n9_; (try clear hb); (try clear hb2); (try clear hk); (try clear hi)))
  go_meet
  case rel => exact ⟨_, (true), (by first | rfl | (simp; done) | (simp [*]; done)), H', ⟨by first | omega | exact Nat.le_refl _⟩, ⟨by (with_reducible repeat (first | apply Kd.R_alloc | apply Kd.R_drewN | apply Kd.R_drew)); exact Kd.R_mono HO123.out (fun _ hk => hk.2)⟩, ⟨by (with_reducible repeat (first | apply Kd.R_alloc | apply Kd.R_drewN | apply Kd.R_drew)); exact Kd.R_mono HO129.out (fun _ hk => hk.2)⟩, ⟨by refine bk ?_; exact BK101.out⟩, ⟨by refine bk ?_; exact BK102.out⟩, ⟨by refine bk ?_; exact BK118.out⟩, ⟨by refine bk ?_; exact BK124.out⟩, ⟨by refine bk ?_; exact BK130.out⟩, ⟨by refine bk ?_; exact BK134.out⟩, ⟨pT HB.out⟩⟩
 case rest =>
  clear HC24
  try clear c1
  try clear c2
  try clear p2
  try clear c4
  try clear c5
  try clear c6
  try clear c7
  try clear c8
  try clear c9
  try clear c15
  try clear c22
  try clear c23
  try clear c24
  try clear c42
  try clear c46
  try clear c47
  try clear c48
  try clear c51
  try clear c55
  try clear c56
  try clear c57
  try clear c58
  try clear c64
  try clear c65
  try clear c66
  try clear c67
  try clear c68
  try clear c71
  try clear c72
  try clear c73
  try clear c74
  try clear c75
  try clear c76
  try clear c78
  try clear c79
  try clear c80
  try clear c81
  try clear c84
  try clear c85
  try clear c86
  try clear c87
  try clear c88
  try clear c90
  try clear c91
  try clear c92
  try clear c93
  try clear hcz43_0
  try clear hcz43_1
  try clear hcz43_2
  try clear hcz49_0
  try clear hcz49_1
  try clear hcz49_2
  try clear hcz52_0
  try clear hcz52_1
  try clear hcz52_2
  try clear hcz59_0
  try clear hcz59_1
  try clear hcz59_2
  try clear hcz61_0
  try clear hcz61_1
  try clear hcz61_2
  try clear hcz69_0
  try clear hcz69_1
  try clear hcz77_0
  try clear hcz77_1
  try clear hcz82_0
  try clear hcz82_1
  try clear hcz89_0
  try clear hcz89_1
  try clear hcz94_0
  try clear hcz94_1
  try clear hfz43_0
  try clear hfz43_1
  try clear hfz43_2
  try clear hfz49_0
  try clear hfz49_1
  try clear hfz49_2
  try clear hfz52_0
  try clear hfz52_1
  try clear hfz52_2
  try clear hfz59_0
  try clear hfz59_1
  try clear hfz59_2
  try clear hfz61_0
  try clear hfz61_1
  try clear hfz61_2
  try clear hfz69_0
  try clear hfz69_1
  try clear hfz77_0
  try clear hfz77_1
  try clear hfz82_0
  try clear hfz82_1
  try clear hfz89_0
  try clear hfz89_1
  try clear hfz94_0
  try clear hfz94_1
  obtain ⟨kq, x48_23, rfl, HA, HJ23, HO_125002, HO_131002, BK101, BK102, BK118, BK124, BK130, BK134, HB⟩ := hcut
  cases kq with
  | zero => exact absurd HA.out (by simp [laws_FnExactBestMotion.j0])
  | succ kj23 =>
   have H := HA.out
   clear HA
   simp only [laws_FnExactBestMotion.j0] at H
   by_cases c96 : x48_23 = true
   ·
    subst c96
    have H1 : (some false) = some r := by rw [if_pos rfl] at H; exact H
    clear H
    have H := H1
    clear H1
    obtain rfl := Option.some.inj H
    go_wp2
    go_ret
    exact ⟨by first | rfl | (simp [errW_none, errW_some] <;> rfl) | (simp [*, errW_none, errW_some] <;> rfl), pT HB.out⟩
   replace c96 := Bool.eq_false_iff.mpr c96
   subst c96
   have H1 : ((laws_toField.f kj23 a0_0 a0_1 l0_2).bind fun bt136 => ((laws_eqField.f kj23 t119 t120 t121 bt136.1 bt136.2.1 bt136.2.2).bind fun t141 => (if t141 = true then ((laws_toField.f kj23 a1_0 a1_1 l1_2).bind fun bt142 => ((laws_eqField.f kj23 t125 t126 t127 bt142.1 bt142.2.1 bt142.2.2).bind fun t147 => (if t147 = true then (some true) else (some false)))) else (some false)))) = some r := by rw [if_neg (show ¬ (false = true) by decide)] at H; exact H
   clear H
   have H := H1
   clear H1
   replace H := Option.bind_eq_some_iff.mp H
   obtain ⟨⟨t136, t137, t138⟩, A970, H⟩ := H
   replace H : ((laws_eqField.f kj23 t119 t120 t121 t136 t137 t138).bind fun t141 => (if t141 = true then ((laws_toField.f kj23 a1_0 a1_1 l1_2).bind fun bt142 => ((laws_eqField.f kj23 t125 t126 t127 bt142.1 bt142.2.1 bt142.2.2).bind fun t147 => (if t147 = true then (some true) else (some false)))) else (some false))) = some r := H
   have A97 := Aside0.mk A970
   clear A970
   replace H := Option.bind_eq_some_iff.mp H
   obtain ⟨t141, A980, H⟩ := H
   replace H : (if t141 = true then ((laws_toField.f kj23 a1_0 a1_1 l1_2).bind fun bt142 => ((laws_eqField.f kj23 t125 t126 t127 bt142.1 bt142.2.1 bt142.2.2).bind fun t147 => (if t147 = true then (some true) else (some false)))) else (some false)) = some r := H
   have A98 := Aside0.mk A980
   clear A980
   by_cases c99 : t141 = true
   ·
    subst c99
    have H1 : ((laws_toField.f kj23 a1_0 a1_1 l1_2).bind fun bt142 => ((laws_eqField.f kj23 t125 t126 t127 bt142.1 bt142.2.1 bt142.2.2).bind fun t147 => (if t147 = true then (some true) else (some false)))) = some r := by rw [if_pos rfl] at H; exact H
    clear H
    have H := H1
    clear H1
    replace H := Option.bind_eq_some_iff.mp H
    obtain ⟨⟨t142, t143, t144⟩, A1000, H⟩ := H
    replace H : ((laws_eqField.f kj23 t125 t126 t127 t142 t143 t144).bind fun t147 => (if t147 = true then (some true) else (some false))) = some r := H
    have A100 := Aside0.mk A1000
    clear A1000
    replace H := Option.bind_eq_some_iff.mp H
    obtain ⟨t147, A1010, H⟩ := H
    replace H : (if t147 = true then (some true) else (some false)) = some r := H
    have A101 := Aside0.mk A1010
    clear A1010
    by_cases c102 : t147 = true
    ·
     subst c102
     have H1 : (some true) = some r := by rw [if_pos rfl] at H; exact H
     clear H
     have H := H1
     clear H1
     obtain rfl := Option.some.inj H
     try go_wp2
     have n0_ := aK (Kd.R_drew HO_125002.out)
     have n1_ := aK (Kd.R_drew HO_131002.out)
     have n2_ := aK (blk_drew BK101.out)
     have n3_ := aK (blk_drew BK102.out)
     have n4_ := aK (blk_drew BK118.out)
     have n5_ := aK (blk_drew BK124.out)
     have n6_ := aK (blk_drew BK130.out)
     have n7_ := aK (blk_drew BK134.out)
     have n8_ := aK (below_drew1 HB.out)
     clear HO_125002 HO_131002 BK101 BK102 BK118 BK124 BK130 BK134 HB
     have HO_125002 := n0_
     have HO_131002 := n1_
     have BK101 := n2_
     have BK102 := n3_
     have BK118 := n4_
     have BK124 := n5_
     have BK130 := n6_
     have BK134 := n7_
     have HB := n8_
     clear n0_ n1_ n2_ n3_ n4_ n5_ n6_ n7_ n8_
     refine start_ (n := 5) (S := fun w' => w'.cell? ⟨gb124, 0, none⟩ = some (.int .i64 t119) ∧ w'.cell? ⟨gb124, 1, none⟩ = some (.int .i64 t120) ∧ w'.cell? ⟨gb124, 2, none⟩ = some (.slice Ao50 t121.length co50) ∧ w'.cell? ⟨gb101, 0, none⟩ = some (.int .i64 a0_0) ∧ w'.cell? ⟨gb101, 1, none⟩ = some (.int .i64 a0_1) ∧ w'.cell? ⟨gb101, 2, none⟩ = some (.slice A0_2 l0_2.length c0_2)) (ds := []) #[false, false, false, false, false] (by kernel_rfl) rfl rfl ⟨(blk_cell BK124.out 0).trans rfl, (blk_cell BK124.out 1).trans rfl, (blk_cell BK124.out 2).trans rfl, (blk_cell BK101.out 0).trans rfl, (blk_cell BK101.out 1).trans rfl, (blk_cell BK101.out 2).trans rfl⟩ (fun hHeld => ?_)
     generalize wc.drew = w103 at HO_125002 HO_131002 BK101 BK102 BK118 BK124 BK130 BK134 HB hHeld ⊢
     refine take_ (i := 0) (N := some 49) (v := ?_) (a' := ?_) #[true, false, false, false, false] rfl rfl (by kernel_rfl) (fun _ _ _ h => h) (Or.inl ⟨by rfl, ?_⟩) hHeld ?_ ?_
     rotate_left
     ·
      rintro w' ⟨s0, s1, s2, s3, s4, s5⟩
      go_simp
      with_reducible rfl
     rotate_left
     ·
      simp only [sP]
      rfl
     refine take_ (i := 1) (N := some 50) (v := ?_) (a' := ?_) #[true, true, false, false, false] rfl rfl (by kernel_rfl) (fun _ _ _ h => h) (Or.inl ⟨by rfl, ?_⟩) hHeld ?_ ?_
     rotate_left
     ·
      rintro w' ⟨s0, s1, s2, s3, s4, s5⟩
      go_simp
      with_reducible rfl
     rotate_left
     ·
      simp only [sP]
      rfl
     refine one_ (i := 2) (N := some 51) #[true, true, true, false, false] rfl rfl (by kernel_rfl) (by decide) (fun K hK => ?_)
     refine goes_ Try.func15 (by kernel_rfl) rfl #[.agg #[.int .i64 a0_0, .int .i64 a0_1, .slice A0_2 l0_2.length c0_2]] (by rfl) rfl rfl (by (try simp only [List.map_toArray, List.map_cons, List.map_nil]); first | done | rfl | (simp only [List.length_drop, List.length_take]; rfl)) ?_
     with_reducible refine (laws_toField.calls kj23 a0_0 a0_1 _ _ l0_2 t136 t137 t138 _ ?side1 ?side2 A97.out).mono ?_
     (case side1 => exact pC (Kd.C_below HR0_2.out HB.out))
     (case side2 => exact HC0_2.out)
     rintro e w104 ⟨v139, rfl, ho0, hb⟩
     refine ⟨_, rfl, ?_⟩
     have n0_ := aK (Kd.R_elder' (pR HO_125002.out) (Kd.R_base ho0) hb)
     have n1_ := aK (Kd.R_elder' (pR HO_131002.out) (Kd.R_base ho0) hb)
     have HO140 := aK (Kd.R_lower (Kd.R_new' (Kd.R_new' ho0 (Kd.R_lt (pR HO_125002.out))) (Kd.R_lt (pR HO_131002.out))) (below_size (pS HB.out)))
     replace BK101 := bB BK101 hb
     replace BK102 := bB BK102 hb
     replace BK118 := bB BK118 hb
     replace BK124 := bB BK124 hb
     replace BK130 := bB BK130 hb
     replace BK134 := bB BK134 hb
     replace HB := bS HB hb
     clear HO_125002 HO_131002
     have HO_125002 := n0_
     have HO_131002 := n1_
     clear n0_ n1_
     (try clear hb)
     (try clear hb2)
     (try clear hk)
     (try clear hi)
     (try clear ho0)
     obtain ⟨Ao105, co105, eo105⟩ := Kd.R_slice HO140.out
     (first | subst eo105 | (injection eo105 with f1_ f2_ f3_; have f4_ := f1_.symm; have f5_ := f3_.symm; clear f1_ f2_ f3_; subst f4_; subst f5_))
     refine hK.out _ _ ⟨(blk_cell BK124.out 0).trans rfl, (blk_cell BK124.out 1).trans rfl, (blk_cell BK124.out 2).trans rfl, (blk_cell BK101.out 0).trans rfl, (blk_cell BK101.out 1).trans rfl, (blk_cell BK101.out 2).trans rfl⟩ (fun hHeld => ?_)
     clear hK K
     refine norm_ (a' := ?_) ?_ ?_
     rotate_left
     ·
      show Act.put _ (some 51) _ = _
      simp only [sP]
      rfl
     refine one_ (i := 3) (N := some 52) #[true, true, true, true, false] rfl rfl (by kernel_rfl) (by decide) (fun K hK => ?_)
     refine goes_ Try.func18 (by kernel_rfl) rfl #[.agg #[.int .i64 t119, .int .i64 t120, .slice Ao50 t121.length co50], .agg #[.int .i64 t136, .int .i64 t137, .slice Ao105 t138.length co105]] (by rfl) rfl rfl (by (try simp only [List.map_toArray, List.map_cons, List.map_nil]); first | done | rfl | (simp only [List.length_drop, List.length_take]; rfl)) ?_
     with_reducible refine (laws_eqField.calls kj23 t119 t120 _ _ t121 t136 t137 _ _ t138 true _ ?side1 ?side2 ?side3 ?side4 A98.out).mono ?_
     (case side1 => repeat (first | exact (Kd.R_reads' HO_125002.out).2.2 | (with_reducible refine Kd.C_alloc ?_ _) | (with_reducible refine Kd.C_drewN ?_ _) | (with_reducible refine Kd.C_drew ?_)))
     (case side2 => exact (Kd.R_reads' HO_125002.out).2.1)
     (case side3 => repeat (first | exact (Kd.R_reads' HO140.out).2.2 | (with_reducible refine Kd.C_alloc ?_ _) | (with_reducible refine Kd.C_drewN ?_ _) | (with_reducible refine Kd.C_drew ?_)))
     (case side4 => exact (Kd.R_reads' HO140.out).2.1)
     rintro e w106 ⟨rfl, hb⟩
     refine ⟨_, rfl, ?_⟩
     have n0_ := aK (Kd.R_below (pR HO_125002.out) hb)
     have n1_ := aK (Kd.R_below (pR HO_131002.out) hb)
     have n2_ := aK (Kd.R_below (pR HO140.out) hb)
     replace BK101 := bB BK101 hb
     replace BK102 := bB BK102 hb
     replace BK118 := bB BK118 hb
     replace BK124 := bB BK124 hb
     replace BK130 := bB BK130 hb
     replace BK134 := bB BK134 hb
     replace HB := bS HB hb
     clear HO_125002 HO_131002 HO140
     have HO_125002 := n0_
     have HO_131002 := n1_
     have HO140 := n2_
     clear n0_ n1_ n2_
     (try clear hb)
     (try clear hb2)
     (try clear hk)
     (try clear hi)
     refine hK.out _ _ ⟨(blk_cell BK124.out 0).trans rfl, (blk_cell BK124.out 1).trans rfl, (blk_cell BK124.out 2).trans rfl, (blk_cell BK101.out 0).trans rfl, (blk_cell BK101.out 1).trans rfl, (blk_cell BK101.out 2).trans rfl⟩ (fun hHeld => ?_)
     clear hK K
     refine norm_ (a' := ?_) ?_ ?_
     rotate_left
     ·
      show Act.put _ (some 52) _ = _
      simp only [sP]
      rfl
     refine pure_ (i := 4) (N := some 53) (v := ?_) (a' := ?_) #[true, true, true, true, true] rfl rfl (by kernel_rfl) (fun _ _ _ h => h) (Or.inl ⟨by rfl, ?_⟩) ?_ ?_
     rotate_left
     ·
      intro w'
      go_simp
      with_reducible rfl
     rotate_left
     ·
      simp only [sP]
      rfl
     refine done_ (by kernel_rfl) ?_
     try go_wp2
     have n0_ := aK (Kd.R_drew HO_125002.out)
     have n1_ := aK (Kd.R_drew HO_131002.out)
     have n2_ := aK (Kd.R_drew HO140.out)
     have n3_ := aK (blk_drew BK101.out)
     have n4_ := aK (blk_drew BK102.out)
     have n5_ := aK (blk_drew BK118.out)
     have n6_ := aK (blk_drew BK124.out)
     have n7_ := aK (blk_drew BK130.out)
     have n8_ := aK (blk_drew BK134.out)
     have n9_ := aK (below_drew1 HB.out)
     clear HO_125002 HO_131002 HO140 BK101 BK102 BK118 BK124 BK130 BK134 HB
     have HO_125002 := n0_
     have HO_131002 := n1_
     have HO140 := n2_
     have BK101 := n3_
     have BK102 := n4_
     have BK118 := n5_
     have BK124 := n6_
     have BK130 := n7_
     have BK134 := n8_
     have HB := n9_
     clear n0_ n1_ n2_ n3_ n4_ n5_ n6_ n7_ n8_ n9_
     refine start_ (n := 5) (S := fun w' => w'.cell? ⟨gb130, 0, none⟩ = some (.int .i64 t125) ∧ w'.cell? ⟨gb130, 1, none⟩ = some (.int .i64 t126) ∧ w'.cell? ⟨gb130, 2, none⟩ = some (.slice Ao60 t127.length co60) ∧ w'.cell? ⟨gb102, 0, none⟩ = some (.int .i64 a1_0) ∧ w'.cell? ⟨gb102, 1, none⟩ = some (.int .i64 a1_1) ∧ w'.cell? ⟨gb102, 2, none⟩ = some (.slice A1_2 l1_2.length c1_2)) (ds := []) #[false, false, false, false, false] (by kernel_rfl) rfl rfl ⟨(blk_cell BK130.out 0).trans rfl, (blk_cell BK130.out 1).trans rfl, (blk_cell BK130.out 2).trans rfl, (blk_cell BK102.out 0).trans rfl, (blk_cell BK102.out 1).trans rfl, (blk_cell BK102.out 2).trans rfl⟩ (fun hHeld => ?_)
     generalize w106.drew = w107 at HO_125002 HO_131002 HO140 BK101 BK102 BK118 BK124 BK130 BK134 HB hHeld ⊢
     refine take_ (i := 0) (N := some 54) (v := ?_) (a' := ?_) #[true, false, false, false, false] rfl rfl (by kernel_rfl) (fun _ _ _ h => h) (Or.inl ⟨by rfl, ?_⟩) hHeld ?_ ?_
     rotate_left
     ·
      rintro w' ⟨s0, s1, s2, s3, s4, s5⟩
      go_simp
      with_reducible rfl
     rotate_left
     ·
      simp only [sP]
      rfl
     refine take_ (i := 1) (N := some 55) (v := ?_) (a' := ?_) #[true, true, false, false, false] rfl rfl (by kernel_rfl) (fun _ _ _ h => h) (Or.inl ⟨by rfl, ?_⟩) hHeld ?_ ?_
     rotate_left
     ·
      rintro w' ⟨s0, s1, s2, s3, s4, s5⟩
      go_simp
      with_reducible rfl
     rotate_left
     ·
      simp only [sP]
      rfl
     refine one_ (i := 2) (N := some 56) #[true, true, true, false, false] rfl rfl (by kernel_rfl) (by decide) (fun K hK => ?_)
     refine goes_ Try.func15 (by kernel_rfl) rfl #[.agg #[.int .i64 a1_0, .int .i64 a1_1, .slice A1_2 l1_2.length c1_2]] (by rfl) rfl rfl (by (try simp only [List.map_toArray, List.map_cons, List.map_nil]); first | done | rfl | (simp only [List.length_drop, List.length_take]; rfl)) ?_
     with_reducible refine (laws_toField.calls kj23 a1_0 a1_1 _ _ l1_2 t142 t143 t144 _ ?side1 ?side2 A100.out).mono ?_
     (case side1 => exact pC (Kd.C_below HR1_2.out HB.out))
     (case side2 => exact HC1_2.out)
     rintro e w108 ⟨v145, rfl, ho0, hb⟩
     refine ⟨_, rfl, ?_⟩
     have n0_ := aK (Kd.R_elder' (pR HO_125002.out) (Kd.R_base ho0) hb)
     have n1_ := aK (Kd.R_elder' (pR HO_131002.out) (Kd.R_base ho0) hb)
     have n2_ := aK (Kd.R_elder' (pR HO140.out) (Kd.R_base ho0) hb)
     have HO146 := aK (Kd.R_lower (Kd.R_new' (Kd.R_new' (Kd.R_new' ho0 (Kd.R_lt (pR HO_125002.out))) (Kd.R_lt (pR HO_131002.out))) (Kd.R_lt (pR HO140.out))) (below_size (pS HB.out)))
     replace BK101 := bB BK101 hb
     replace BK102 := bB BK102 hb
     replace BK118 := bB BK118 hb
     replace BK124 := bB BK124 hb
     replace BK130 := bB BK130 hb
     replace BK134 := bB BK134 hb
     replace HB := bS HB hb
     clear HO_125002 HO_131002 HO140
     have HO_125002 := n0_
     have HO_131002 := n1_
     have HO140 := n2_
     clear n0_ n1_ n2_
     (try clear hb)
     (try clear hb2)
     (try clear hk)
     (try clear hi)
     (try clear ho0)
     obtain ⟨Ao109, co109, eo109⟩ := Kd.R_slice HO146.out
     (first | subst eo109 | (injection eo109 with f1_ f2_ f3_; have f4_ := f1_.symm; have f5_ := f3_.symm; clear f1_ f2_ f3_; subst f4_; subst f5_))
     refine hK.out _ _ ⟨(blk_cell BK130.out 0).trans rfl, (blk_cell BK130.out 1).trans rfl, (blk_cell BK130.out 2).trans rfl, (blk_cell BK102.out 0).trans rfl, (blk_cell BK102.out 1).trans rfl, (blk_cell BK102.out 2).trans rfl⟩ (fun hHeld => ?_)
     clear hK K
     refine norm_ (a' := ?_) ?_ ?_
     rotate_left
     ·
      show Act.put _ (some 56) _ = _
      simp only [sP]
      rfl
     refine one_ (i := 3) (N := some 57) #[true, true, true, true, false] rfl rfl (by kernel_rfl) (by decide) (fun K hK => ?_)
     refine goes_ Try.func18 (by kernel_rfl) rfl #[.agg #[.int .i64 t125, .int .i64 t126, .slice Ao60 t127.length co60], .agg #[.int .i64 t142, .int .i64 t143, .slice Ao109 t144.length co109]] (by rfl) rfl rfl (by (try simp only [List.map_toArray, List.map_cons, List.map_nil]); first | done | rfl | (simp only [List.length_drop, List.length_take]; rfl)) ?_
     with_reducible refine (laws_eqField.calls kj23 t125 t126 _ _ t127 t142 t143 _ _ t144 true _ ?side1 ?side2 ?side3 ?side4 A101.out).mono ?_
     (case side1 => repeat (first | exact (Kd.R_reads' HO_131002.out).2.2 | (with_reducible refine Kd.C_alloc ?_ _) | (with_reducible refine Kd.C_drewN ?_ _) | (with_reducible refine Kd.C_drew ?_)))
     (case side2 => exact (Kd.R_reads' HO_131002.out).2.1)
     (case side3 => repeat (first | exact (Kd.R_reads' HO146.out).2.2 | (with_reducible refine Kd.C_alloc ?_ _) | (with_reducible refine Kd.C_drewN ?_ _) | (with_reducible refine Kd.C_drew ?_)))
     (case side4 => exact (Kd.R_reads' HO146.out).2.1)
     rintro e w110 ⟨rfl, hb⟩
     refine ⟨_, rfl, ?_⟩
     have n0_ := aK (Kd.R_below (pR HO_125002.out) hb)
     have n1_ := aK (Kd.R_below (pR HO_131002.out) hb)
     have n2_ := aK (Kd.R_below (pR HO140.out) hb)
     have n3_ := aK (Kd.R_below (pR HO146.out) hb)
     replace BK101 := bB BK101 hb
     replace BK102 := bB BK102 hb
     replace BK118 := bB BK118 hb
     replace BK124 := bB BK124 hb
     replace BK130 := bB BK130 hb
     replace BK134 := bB BK134 hb
     replace HB := bS HB hb
     clear HO_125002 HO_131002 HO140 HO146
     have HO_125002 := n0_
     have HO_131002 := n1_
     have HO140 := n2_
     have HO146 := n3_
     clear n0_ n1_ n2_ n3_
     (try clear hb)
     (try clear hb2)
     (try clear hk)
     (try clear hi)
     refine hK.out _ _ ⟨(blk_cell BK130.out 0).trans rfl, (blk_cell BK130.out 1).trans rfl, (blk_cell BK130.out 2).trans rfl, (blk_cell BK102.out 0).trans rfl, (blk_cell BK102.out 1).trans rfl, (blk_cell BK102.out 2).trans rfl⟩ (fun hHeld => ?_)
     clear hK K
     refine norm_ (a' := ?_) ?_ ?_
     rotate_left
     ·
      show Act.put _ (some 57) _ = _
      simp only [sP]
      rfl
     refine pure_ (i := 4) (N := some 58) (v := ?_) (a' := ?_) #[true, true, true, true, true] rfl rfl (by kernel_rfl) (fun _ _ _ h => h) (Or.inl ⟨by rfl, ?_⟩) ?_ ?_
     rotate_left
     ·
      intro w'
      go_simp
      with_reducible rfl
     rotate_left
     ·
      simp only [sP]
      rfl
     refine done_ (by kernel_rfl) ?_
     try go_wp2
     go_ret
     exact ⟨by first | rfl | (simp [errW_none, errW_some] <;> rfl) | (simp [*, errW_none, errW_some] <;> rfl), pT HB.out⟩
    replace c102 := Bool.eq_false_iff.mpr c102
    subst c102
    have H1 : (some false) = some r := by rw [if_neg (show ¬ (false = true) by decide)] at H; exact H
    clear H
    have H := H1
    clear H1
    obtain rfl := Option.some.inj H
    try go_wp2
    have n0_ := aK (Kd.R_drew HO_125002.out)
    have n1_ := aK (Kd.R_drew HO_131002.out)
    have n2_ := aK (blk_drew BK101.out)
    have n3_ := aK (blk_drew BK102.out)
    have n4_ := aK (blk_drew BK118.out)
    have n5_ := aK (blk_drew BK124.out)
    have n6_ := aK (blk_drew BK130.out)
    have n7_ := aK (blk_drew BK134.out)
    have n8_ := aK (below_drew1 HB.out)
    clear HO_125002 HO_131002 BK101 BK102 BK118 BK124 BK130 BK134 HB
    have HO_125002 := n0_
    have HO_131002 := n1_
    have BK101 := n2_
    have BK102 := n3_
    have BK118 := n4_
    have BK124 := n5_
    have BK130 := n6_
    have BK134 := n7_
    have HB := n8_
    clear n0_ n1_ n2_ n3_ n4_ n5_ n6_ n7_ n8_
    refine start_ (n := 5) (S := fun w' => w'.cell? ⟨gb124, 0, none⟩ = some (.int .i64 t119) ∧ w'.cell? ⟨gb124, 1, none⟩ = some (.int .i64 t120) ∧ w'.cell? ⟨gb124, 2, none⟩ = some (.slice Ao50 t121.length co50) ∧ w'.cell? ⟨gb101, 0, none⟩ = some (.int .i64 a0_0) ∧ w'.cell? ⟨gb101, 1, none⟩ = some (.int .i64 a0_1) ∧ w'.cell? ⟨gb101, 2, none⟩ = some (.slice A0_2 l0_2.length c0_2)) (ds := []) #[false, false, false, false, false] (by kernel_rfl) rfl rfl ⟨(blk_cell BK124.out 0).trans rfl, (blk_cell BK124.out 1).trans rfl, (blk_cell BK124.out 2).trans rfl, (blk_cell BK101.out 0).trans rfl, (blk_cell BK101.out 1).trans rfl, (blk_cell BK101.out 2).trans rfl⟩ (fun hHeld => ?_)
    generalize wc.drew = w111 at HO_125002 HO_131002 BK101 BK102 BK118 BK124 BK130 BK134 HB hHeld ⊢
    refine take_ (i := 0) (N := some 49) (v := ?_) (a' := ?_) #[true, false, false, false, false] rfl rfl (by kernel_rfl) (fun _ _ _ h => h) (Or.inl ⟨by rfl, ?_⟩) hHeld ?_ ?_
    rotate_left
    ·
     rintro w' ⟨s0, s1, s2, s3, s4, s5⟩
     go_simp
     with_reducible rfl
    rotate_left
    ·
     simp only [sP]
     rfl
    refine take_ (i := 1) (N := some 50) (v := ?_) (a' := ?_) #[true, true, false, false, false] rfl rfl (by kernel_rfl) (fun _ _ _ h => h) (Or.inl ⟨by rfl, ?_⟩) hHeld ?_ ?_
    rotate_left
    ·
     rintro w' ⟨s0, s1, s2, s3, s4, s5⟩
     go_simp
     with_reducible rfl
    rotate_left
    ·
     simp only [sP]
     rfl
    refine one_ (i := 2) (N := some 51) #[true, true, true, false, false] rfl rfl (by kernel_rfl) (by decide) (fun K hK => ?_)
    refine goes_ Try.func15 (by kernel_rfl) rfl #[.agg #[.int .i64 a0_0, .int .i64 a0_1, .slice A0_2 l0_2.length c0_2]] (by rfl) rfl rfl (by (try simp only [List.map_toArray, List.map_cons, List.map_nil]); first | done | rfl | (simp only [List.length_drop, List.length_take]; rfl)) ?_
    with_reducible refine (laws_toField.calls kj23 a0_0 a0_1 _ _ l0_2 t136 t137 t138 _ ?side1 ?side2 A97.out).mono ?_
    (case side1 => exact pC (Kd.C_below HR0_2.out HB.out))
    (case side2 => exact HC0_2.out)
    rintro e w112 ⟨v139, rfl, ho0, hb⟩
    refine ⟨_, rfl, ?_⟩
    have n0_ := aK (Kd.R_elder' (pR HO_125002.out) (Kd.R_base ho0) hb)
    have n1_ := aK (Kd.R_elder' (pR HO_131002.out) (Kd.R_base ho0) hb)
    have HO140 := aK (Kd.R_lower (Kd.R_new' (Kd.R_new' ho0 (Kd.R_lt (pR HO_125002.out))) (Kd.R_lt (pR HO_131002.out))) (below_size (pS HB.out)))
    replace BK101 := bB BK101 hb
    replace BK102 := bB BK102 hb
    replace BK118 := bB BK118 hb
    replace BK124 := bB BK124 hb
    replace BK130 := bB BK130 hb
    replace BK134 := bB BK134 hb
    replace HB := bS HB hb
    clear HO_125002 HO_131002
    have HO_125002 := n0_
    have HO_131002 := n1_
    clear n0_ n1_
    (try clear hb)
    (try clear hb2)
    (try clear hk)
    (try clear hi)
    (try clear ho0)
    obtain ⟨Ao113, co113, eo113⟩ := Kd.R_slice HO140.out
    (first | subst eo113 | (injection eo113 with f1_ f2_ f3_; have f4_ := f1_.symm; have f5_ := f3_.symm; clear f1_ f2_ f3_; subst f4_; subst f5_))
    refine hK.out _ _ ⟨(blk_cell BK124.out 0).trans rfl, (blk_cell BK124.out 1).trans rfl, (blk_cell BK124.out 2).trans rfl, (blk_cell BK101.out 0).trans rfl, (blk_cell BK101.out 1).trans rfl, (blk_cell BK101.out 2).trans rfl⟩ (fun hHeld => ?_)
    clear hK K
    refine norm_ (a' := ?_) ?_ ?_
    rotate_left
    ·
     show Act.put _ (some 51) _ = _
     simp only [sP]
     rfl
    refine one_ (i := 3) (N := some 52) #[true, true, true, true, false] rfl rfl (by kernel_rfl) (by decide) (fun K hK => ?_)
    refine goes_ Try.func18 (by kernel_rfl) rfl #[.agg #[.int .i64 t119, .int .i64 t120, .slice Ao50 t121.length co50], .agg #[.int .i64 t136, .int .i64 t137, .slice Ao113 t138.length co113]] (by rfl) rfl rfl (by (try simp only [List.map_toArray, List.map_cons, List.map_nil]); first | done | rfl | (simp only [List.length_drop, List.length_take]; rfl)) ?_
    with_reducible refine (laws_eqField.calls kj23 t119 t120 _ _ t121 t136 t137 _ _ t138 true _ ?side1 ?side2 ?side3 ?side4 A98.out).mono ?_
    (case side1 => repeat (first | exact (Kd.R_reads' HO_125002.out).2.2 | (with_reducible refine Kd.C_alloc ?_ _) | (with_reducible refine Kd.C_drewN ?_ _) | (with_reducible refine Kd.C_drew ?_)))
    (case side2 => exact (Kd.R_reads' HO_125002.out).2.1)
    (case side3 => repeat (first | exact (Kd.R_reads' HO140.out).2.2 | (with_reducible refine Kd.C_alloc ?_ _) | (with_reducible refine Kd.C_drewN ?_ _) | (with_reducible refine Kd.C_drew ?_)))
    (case side4 => exact (Kd.R_reads' HO140.out).2.1)
    rintro e w114 ⟨rfl, hb⟩
    refine ⟨_, rfl, ?_⟩
    have n0_ := aK (Kd.R_below (pR HO_125002.out) hb)
    have n1_ := aK (Kd.R_below (pR HO_131002.out) hb)
    have n2_ := aK (Kd.R_below (pR HO140.out) hb)
    replace BK101 := bB BK101 hb
    replace BK102 := bB BK102 hb
    replace BK118 := bB BK118 hb
    replace BK124 := bB BK124 hb
    replace BK130 := bB BK130 hb
    replace BK134 := bB BK134 hb
    replace HB := bS HB hb
    clear HO_125002 HO_131002 HO140
    have HO_125002 := n0_
    have HO_131002 := n1_
    have HO140 := n2_
    clear n0_ n1_ n2_
    (try clear hb)
    (try clear hb2)
    (try clear hk)
    (try clear hi)
    refine hK.out _ _ ⟨(blk_cell BK124.out 0).trans rfl, (blk_cell BK124.out 1).trans rfl, (blk_cell BK124.out 2).trans rfl, (blk_cell BK101.out 0).trans rfl, (blk_cell BK101.out 1).trans rfl, (blk_cell BK101.out 2).trans rfl⟩ (fun hHeld => ?_)
    clear hK K
    refine norm_ (a' := ?_) ?_ ?_
    rotate_left
    ·
     show Act.put _ (some 52) _ = _
     simp only [sP]
     rfl
    refine pure_ (i := 4) (N := some 53) (v := ?_) (a' := ?_) #[true, true, true, true, true] rfl rfl (by kernel_rfl) (fun _ _ _ h => h) (Or.inl ⟨by rfl, ?_⟩) ?_ ?_
    rotate_left
    ·
     intro w'
     go_simp
     with_reducible rfl
    rotate_left
    ·
     simp only [sP]
     rfl
    refine done_ (by kernel_rfl) ?_
    try go_wp2
    have n0_ := aK (Kd.R_drew HO_125002.out)
    have n1_ := aK (Kd.R_drew HO_131002.out)
    have n2_ := aK (Kd.R_drew HO140.out)
    have n3_ := aK (blk_drew BK101.out)
    have n4_ := aK (blk_drew BK102.out)
    have n5_ := aK (blk_drew BK118.out)
    have n6_ := aK (blk_drew BK124.out)
    have n7_ := aK (blk_drew BK130.out)
    have n8_ := aK (blk_drew BK134.out)
    have n9_ := aK (below_drew1 HB.out)
    clear HO_125002 HO_131002 HO140 BK101 BK102 BK118 BK124 BK130 BK134 HB
    have HO_125002 := n0_
    have HO_131002 := n1_
    have HO140 := n2_
    have BK101 := n3_
    have BK102 := n4_
    have BK118 := n5_
    have BK124 := n6_
    have BK130 := n7_
    have BK134 := n8_
    have HB := n9_
    clear n0_ n1_ n2_ n3_ n4_ n5_ n6_ n7_ n8_ n9_
    refine start_ (n := 5) (S := fun w' => w'.cell? ⟨gb130, 0, none⟩ = some (.int .i64 t125) ∧ w'.cell? ⟨gb130, 1, none⟩ = some (.int .i64 t126) ∧ w'.cell? ⟨gb130, 2, none⟩ = some (.slice Ao60 t127.length co60) ∧ w'.cell? ⟨gb102, 0, none⟩ = some (.int .i64 a1_0) ∧ w'.cell? ⟨gb102, 1, none⟩ = some (.int .i64 a1_1) ∧ w'.cell? ⟨gb102, 2, none⟩ = some (.slice A1_2 l1_2.length c1_2)) (ds := []) #[false, false, false, false, false] (by kernel_rfl) rfl rfl ⟨(blk_cell BK130.out 0).trans rfl, (blk_cell BK130.out 1).trans rfl, (blk_cell BK130.out 2).trans rfl, (blk_cell BK102.out 0).trans rfl, (blk_cell BK102.out 1).trans rfl, (blk_cell BK102.out 2).trans rfl⟩ (fun hHeld => ?_)
    generalize w114.drew = w115 at HO_125002 HO_131002 HO140 BK101 BK102 BK118 BK124 BK130 BK134 HB hHeld ⊢
    refine take_ (i := 0) (N := some 54) (v := ?_) (a' := ?_) #[true, false, false, false, false] rfl rfl (by kernel_rfl) (fun _ _ _ h => h) (Or.inl ⟨by rfl, ?_⟩) hHeld ?_ ?_
    rotate_left
    ·
     rintro w' ⟨s0, s1, s2, s3, s4, s5⟩
     go_simp
     with_reducible rfl
    rotate_left
    ·
     simp only [sP]
     rfl
    refine take_ (i := 1) (N := some 55) (v := ?_) (a' := ?_) #[true, true, false, false, false] rfl rfl (by kernel_rfl) (fun _ _ _ h => h) (Or.inl ⟨by rfl, ?_⟩) hHeld ?_ ?_
    rotate_left
    ·
     rintro w' ⟨s0, s1, s2, s3, s4, s5⟩
     go_simp
     with_reducible rfl
    rotate_left
    ·
     simp only [sP]
     rfl
    refine one_ (i := 2) (N := some 56) #[true, true, true, false, false] rfl rfl (by kernel_rfl) (by decide) (fun K hK => ?_)
    refine goes_ Try.func15 (by kernel_rfl) rfl #[.agg #[.int .i64 a1_0, .int .i64 a1_1, .slice A1_2 l1_2.length c1_2]] (by rfl) rfl rfl (by (try simp only [List.map_toArray, List.map_cons, List.map_nil]); first | done | rfl | (simp only [List.length_drop, List.length_take]; rfl)) ?_
    with_reducible refine (laws_toField.calls kj23 a1_0 a1_1 _ _ l1_2 t142 t143 t144 _ ?side1 ?side2 A100.out).mono ?_
    (case side1 => exact pC (Kd.C_below HR1_2.out HB.out))
    (case side2 => exact HC1_2.out)
    rintro e w116 ⟨v145, rfl, ho0, hb⟩
    refine ⟨_, rfl, ?_⟩
    have n0_ := aK (Kd.R_elder' (pR HO_125002.out) (Kd.R_base ho0) hb)
    have n1_ := aK (Kd.R_elder' (pR HO_131002.out) (Kd.R_base ho0) hb)
    have n2_ := aK (Kd.R_elder' (pR HO140.out) (Kd.R_base ho0) hb)
    have HO146 := aK (Kd.R_lower (Kd.R_new' (Kd.R_new' (Kd.R_new' ho0 (Kd.R_lt (pR HO_125002.out))) (Kd.R_lt (pR HO_131002.out))) (Kd.R_lt (pR HO140.out))) (below_size (pS HB.out)))
    replace BK101 := bB BK101 hb
    replace BK102 := bB BK102 hb
    replace BK118 := bB BK118 hb
    replace BK124 := bB BK124 hb
    replace BK130 := bB BK130 hb
    replace BK134 := bB BK134 hb
    replace HB := bS HB hb
    clear HO_125002 HO_131002 HO140
    have HO_125002 := n0_
    have HO_131002 := n1_
    have HO140 := n2_
    clear n0_ n1_ n2_
    (try clear hb)
    (try clear hb2)
    (try clear hk)
    (try clear hi)
    (try clear ho0)
    obtain ⟨Ao117, co117, eo117⟩ := Kd.R_slice HO146.out
    (first | subst eo117 | (injection eo117 with f1_ f2_ f3_; have f4_ := f1_.symm; have f5_ := f3_.symm; clear f1_ f2_ f3_; subst f4_; subst f5_))
    refine hK.out _ _ ⟨(blk_cell BK130.out 0).trans rfl, (blk_cell BK130.out 1).trans rfl, (blk_cell BK130.out 2).trans rfl, (blk_cell BK102.out 0).trans rfl, (blk_cell BK102.out 1).trans rfl, (blk_cell BK102.out 2).trans rfl⟩ (fun hHeld => ?_)
    clear hK K
    refine norm_ (a' := ?_) ?_ ?_
    rotate_left
    ·
     show Act.put _ (some 56) _ = _
     simp only [sP]
     rfl
    refine one_ (i := 3) (N := some 57) #[true, true, true, true, false] rfl rfl (by kernel_rfl) (by decide) (fun K hK => ?_)
    refine goes_ Try.func18 (by kernel_rfl) rfl #[.agg #[.int .i64 t125, .int .i64 t126, .slice Ao60 t127.length co60], .agg #[.int .i64 t142, .int .i64 t143, .slice Ao117 t144.length co117]] (by rfl) rfl rfl (by (try simp only [List.map_toArray, List.map_cons, List.map_nil]); first | done | rfl | (simp only [List.length_drop, List.length_take]; rfl)) ?_
    with_reducible refine (laws_eqField.calls kj23 t125 t126 _ _ t127 t142 t143 _ _ t144 false _ ?side1 ?side2 ?side3 ?side4 A101.out).mono ?_
    (case side1 => repeat (first | exact (Kd.R_reads' HO_131002.out).2.2 | (with_reducible refine Kd.C_alloc ?_ _) | (with_reducible refine Kd.C_drewN ?_ _) | (with_reducible refine Kd.C_drew ?_)))
    (case side2 => exact (Kd.R_reads' HO_131002.out).2.1)
    (case side3 => repeat (first | exact (Kd.R_reads' HO146.out).2.2 | (with_reducible refine Kd.C_alloc ?_ _) | (with_reducible refine Kd.C_drewN ?_ _) | (with_reducible refine Kd.C_drew ?_)))
    (case side4 => exact (Kd.R_reads' HO146.out).2.1)
    rintro e w118 ⟨rfl, hb⟩
    refine ⟨_, rfl, ?_⟩
    have n0_ := aK (Kd.R_below (pR HO_125002.out) hb)
    have n1_ := aK (Kd.R_below (pR HO_131002.out) hb)
    have n2_ := aK (Kd.R_below (pR HO140.out) hb)
    have n3_ := aK (Kd.R_below (pR HO146.out) hb)
    replace BK101 := bB BK101 hb
    replace BK102 := bB BK102 hb
    replace BK118 := bB BK118 hb
    replace BK124 := bB BK124 hb
    replace BK130 := bB BK130 hb
    replace BK134 := bB BK134 hb
    replace HB := bS HB hb
    clear HO_125002 HO_131002 HO140 HO146
    have HO_125002 := n0_
    have HO_131002 := n1_
    have HO140 := n2_
    have HO146 := n3_
    clear n0_ n1_ n2_ n3_
    (try clear hb)
    (try clear hb2)
    (try clear hk)
    (try clear hi)
    refine hK.out _ _ ⟨(blk_cell BK130.out 0).trans rfl, (blk_cell BK130.out 1).trans rfl, (blk_cell BK130.out 2).trans rfl, (blk_cell BK102.out 0).trans rfl, (blk_cell BK102.out 1).trans rfl, (blk_cell BK102.out 2).trans rfl⟩ (fun hHeld => ?_)
    clear hK K
    refine norm_ (a' := ?_) ?_ ?_
    rotate_left
    ·
     show Act.put _ (some 57) _ = _
     simp only [sP]
     rfl
    refine pure_ (i := 4) (N := some 58) (v := ?_) (a' := ?_) #[true, true, true, true, true] rfl rfl (by kernel_rfl) (fun _ _ _ h => h) (Or.inl ⟨by rfl, ?_⟩) ?_ ?_
    rotate_left
    ·
     intro w'
     go_simp
     with_reducible rfl
    rotate_left
    ·
     simp only [sP]
     rfl
    refine done_ (by kernel_rfl) ?_
    try go_wp2
    go_ret
    exact ⟨by first | rfl | (simp [errW_none, errW_some] <;> rfl) | (simp [*, errW_none, errW_some] <;> rfl), pT HB.out⟩
   replace c99 := Bool.eq_false_iff.mpr c99
   subst c99
   have H1 : (some false) = some r := by rw [if_neg (show ¬ (false = true) by decide)] at H; exact H
   clear H
   have H := H1
   clear H1
   obtain rfl := Option.some.inj H
   try go_wp2
   have n0_ := aK (Kd.R_drew HO_125002.out)
   have n1_ := aK (Kd.R_drew HO_131002.out)
   have n2_ := aK (blk_drew BK101.out)
   have n3_ := aK (blk_drew BK102.out)
   have n4_ := aK (blk_drew BK118.out)
   have n5_ := aK (blk_drew BK124.out)
   have n6_ := aK (blk_drew BK130.out)
   have n7_ := aK (blk_drew BK134.out)
   have n8_ := aK (below_drew1 HB.out)
   clear HO_125002 HO_131002 BK101 BK102 BK118 BK124 BK130 BK134 HB
   have HO_125002 := n0_
   have HO_131002 := n1_
   have BK101 := n2_
   have BK102 := n3_
   have BK118 := n4_
   have BK124 := n5_
   have BK130 := n6_
   have BK134 := n7_
   have HB := n8_
   clear n0_ n1_ n2_ n3_ n4_ n5_ n6_ n7_ n8_
   refine start_ (n := 5) (S := fun w' => w'.cell? ⟨gb124, 0, none⟩ = some (.int .i64 t119) ∧ w'.cell? ⟨gb124, 1, none⟩ = some (.int .i64 t120) ∧ w'.cell? ⟨gb124, 2, none⟩ = some (.slice Ao50 t121.length co50) ∧ w'.cell? ⟨gb101, 0, none⟩ = some (.int .i64 a0_0) ∧ w'.cell? ⟨gb101, 1, none⟩ = some (.int .i64 a0_1) ∧ w'.cell? ⟨gb101, 2, none⟩ = some (.slice A0_2 l0_2.length c0_2)) (ds := []) #[false, false, false, false, false] (by kernel_rfl) rfl rfl ⟨(blk_cell BK124.out 0).trans rfl, (blk_cell BK124.out 1).trans rfl, (blk_cell BK124.out 2).trans rfl, (blk_cell BK101.out 0).trans rfl, (blk_cell BK101.out 1).trans rfl, (blk_cell BK101.out 2).trans rfl⟩ (fun hHeld => ?_)
   generalize wc.drew = w119 at HO_125002 HO_131002 BK101 BK102 BK118 BK124 BK130 BK134 HB hHeld ⊢
   refine take_ (i := 0) (N := some 49) (v := ?_) (a' := ?_) #[true, false, false, false, false] rfl rfl (by kernel_rfl) (fun _ _ _ h => h) (Or.inl ⟨by rfl, ?_⟩) hHeld ?_ ?_
   rotate_left
   ·
    rintro w' ⟨s0, s1, s2, s3, s4, s5⟩
    go_simp
    with_reducible rfl
   rotate_left
   ·
    simp only [sP]
    rfl
   refine take_ (i := 1) (N := some 50) (v := ?_) (a' := ?_) #[true, true, false, false, false] rfl rfl (by kernel_rfl) (fun _ _ _ h => h) (Or.inl ⟨by rfl, ?_⟩) hHeld ?_ ?_
   rotate_left
   ·
    rintro w' ⟨s0, s1, s2, s3, s4, s5⟩
    go_simp
    with_reducible rfl
   rotate_left
   ·
    simp only [sP]
    rfl
   refine one_ (i := 2) (N := some 51) #[true, true, true, false, false] rfl rfl (by kernel_rfl) (by decide) (fun K hK => ?_)
   refine goes_ Try.func15 (by kernel_rfl) rfl #[.agg #[.int .i64 a0_0, .int .i64 a0_1, .slice A0_2 l0_2.length c0_2]] (by rfl) rfl rfl (by (try simp only [List.map_toArray, List.map_cons, List.map_nil]); first | done | rfl | (simp only [List.length_drop, List.length_take]; rfl)) ?_
   with_reducible refine (laws_toField.calls kj23 a0_0 a0_1 _ _ l0_2 t136 t137 t138 _ ?side1 ?side2 A97.out).mono ?_
   (case side1 => exact pC (Kd.C_below HR0_2.out HB.out))
   (case side2 => exact HC0_2.out)
   rintro e w120 ⟨v139, rfl, ho0, hb⟩
   refine ⟨_, rfl, ?_⟩
   have n0_ := aK (Kd.R_elder' (pR HO_125002.out) (Kd.R_base ho0) hb)
   have n1_ := aK (Kd.R_elder' (pR HO_131002.out) (Kd.R_base ho0) hb)
   have HO140 := aK (Kd.R_lower (Kd.R_new' (Kd.R_new' ho0 (Kd.R_lt (pR HO_125002.out))) (Kd.R_lt (pR HO_131002.out))) (below_size (pS HB.out)))
   replace BK101 := bB BK101 hb
   replace BK102 := bB BK102 hb
   replace BK118 := bB BK118 hb
   replace BK124 := bB BK124 hb
   replace BK130 := bB BK130 hb
   replace BK134 := bB BK134 hb
   replace HB := bS HB hb
   clear HO_125002 HO_131002
   have HO_125002 := n0_
   have HO_131002 := n1_
   clear n0_ n1_
   (try clear hb)
   (try clear hb2)
   (try clear hk)
   (try clear hi)
   (try clear ho0)
   obtain ⟨Ao121, co121, eo121⟩ := Kd.R_slice HO140.out
   (first | subst eo121 | (injection eo121 with f1_ f2_ f3_; have f4_ := f1_.symm; have f5_ := f3_.symm; clear f1_ f2_ f3_; subst f4_; subst f5_))
   refine hK.out _ _ ⟨(blk_cell BK124.out 0).trans rfl, (blk_cell BK124.out 1).trans rfl, (blk_cell BK124.out 2).trans rfl, (blk_cell BK101.out 0).trans rfl, (blk_cell BK101.out 1).trans rfl, (blk_cell BK101.out 2).trans rfl⟩ (fun hHeld => ?_)
   clear hK K
   refine norm_ (a' := ?_) ?_ ?_
   rotate_left
   ·
    show Act.put _ (some 51) _ = _
    simp only [sP]
    rfl
   refine one_ (i := 3) (N := some 52) #[true, true, true, true, false] rfl rfl (by kernel_rfl) (by decide) (fun K hK => ?_)
   refine goes_ Try.func18 (by kernel_rfl) rfl #[.agg #[.int .i64 t119, .int .i64 t120, .slice Ao50 t121.length co50], .agg #[.int .i64 t136, .int .i64 t137, .slice Ao121 t138.length co121]] (by rfl) rfl rfl (by (try simp only [List.map_toArray, List.map_cons, List.map_nil]); first | done | rfl | (simp only [List.length_drop, List.length_take]; rfl)) ?_
   with_reducible refine (laws_eqField.calls kj23 t119 t120 _ _ t121 t136 t137 _ _ t138 false _ ?side1 ?side2 ?side3 ?side4 A98.out).mono ?_
   (case side1 => repeat (first | exact (Kd.R_reads' HO_125002.out).2.2 | (with_reducible refine Kd.C_alloc ?_ _) | (with_reducible refine Kd.C_drewN ?_ _) | (with_reducible refine Kd.C_drew ?_)))
   (case side2 => exact (Kd.R_reads' HO_125002.out).2.1)
   (case side3 => repeat (first | exact (Kd.R_reads' HO140.out).2.2 | (with_reducible refine Kd.C_alloc ?_ _) | (with_reducible refine Kd.C_drewN ?_ _) | (with_reducible refine Kd.C_drew ?_)))
   (case side4 => exact (Kd.R_reads' HO140.out).2.1)
   rintro e w122 ⟨rfl, hb⟩
   refine ⟨_, rfl, ?_⟩
   have n0_ := aK (Kd.R_below (pR HO_125002.out) hb)
   have n1_ := aK (Kd.R_below (pR HO_131002.out) hb)
   have n2_ := aK (Kd.R_below (pR HO140.out) hb)
   replace BK101 := bB BK101 hb
   replace BK102 := bB BK102 hb
   replace BK118 := bB BK118 hb
   replace BK124 := bB BK124 hb
   replace BK130 := bB BK130 hb
   replace BK134 := bB BK134 hb
   replace HB := bS HB hb
   clear HO_125002 HO_131002 HO140
   have HO_125002 := n0_
   have HO_131002 := n1_
   have HO140 := n2_
   clear n0_ n1_ n2_
   (try clear hb)
   (try clear hb2)
   (try clear hk)
   (try clear hi)
   refine hK.out _ _ ⟨(blk_cell BK124.out 0).trans rfl, (blk_cell BK124.out 1).trans rfl, (blk_cell BK124.out 2).trans rfl, (blk_cell BK101.out 0).trans rfl, (blk_cell BK101.out 1).trans rfl, (blk_cell BK101.out 2).trans rfl⟩ (fun hHeld => ?_)
   clear hK K
   refine norm_ (a' := ?_) ?_ ?_
   rotate_left
   ·
    show Act.put _ (some 52) _ = _
    simp only [sP]
    rfl
   refine pure_ (i := 4) (N := some 53) (v := ?_) (a' := ?_) #[true, true, true, true, true] rfl rfl (by kernel_rfl) (fun _ _ _ h => h) (Or.inl ⟨by rfl, ?_⟩) ?_ ?_
   rotate_left
   ·
    intro w'
    go_simp
    with_reducible rfl
   rotate_left
   ·
    simp only [sP]
    rfl
   refine done_ (by kernel_rfl) ?_
   try go_wp2
   go_ret
   exact ⟨by first | rfl | (simp [errW_none, errW_some] <;> rfl) | (simp [*, errW_none, errW_some] <;> rfl), pT HB.out⟩
def laws_FnExactBestMotion.Pure : Prop := ∀ (a0_0 : Int) (a0_1 : Int) (l0_2 : List Int) (a1_0 : Int) (a1_1 : Int) (l1_2 : List Int), (Lit.int .i64 a0_0).wf = true → (Lit.int .i64 a0_1).wf = true → (l0_2.length ≤ 9223372036854775807 ∧ ∀ z0 ∈ l0_2, (Lit.int .i64 z0).wf = true) → (Lit.int .i64 a1_0).wf = true → (Lit.int .i64 a1_1).wf = true → (l1_2.length ≤ 9223372036854775807 ∧ ∀ z0 ∈ l1_2, (Lit.int .i64 z0).wf = true) → ∃ k, laws_FnExactBestMotion.f k a0_0 a0_1 l0_2 a1_0 a1_1 l1_2 = some true
end Go.Proofs.Ytilffhaghabdgaa.P
namespace Go.Proofs.Ytilffhaghabdgaa.Open
open Go.ChangeShapes Go.WideShapes Go.RowKit Go.Deep Go.Joins Go.Proofs.YtilffhaghabdgaaW.PrintWords
def Opens {α : Type} (P : Program) (t : TypeId) (d : Kd α) (wf : α → Prop) : Prop :=
  ∀ {H : Type} {enc : TypeId × Value → H} {W : World} {fuel : Nat} {cs : List Value} {x : DataW H × List MemPlace},
    DataW.trod enc P W 0 (fun _ => true) true fuel t cs = some x → ∃ y, d.K W y cs ∧ wf y
theorem opens_int {P : Program} {t : TypeId} {k : IntKind} (h : P.underlying t = some (.int k)) : Opens P t (Kd.int k) (fun n => (Lit.int k n).wf = true) := by
  intro H enc W fuel cs x hx
  obtain ⟨n, rfl, _, hw⟩ := DataW.trod_int h hx
  exact ⟨n, rfl, hw⟩
theorem list_of {α : Type} {p : Nat → α → Prop} : ∀ (n : Nat), (∀ i, i < n → ∃ y, p i y) → ∃ ys : List α, ys.length = n ∧ ∀ (i : Nat) (y : α), ys[i]? = some y → p i y
  | 0, _ => ⟨[], rfl, fun i y h => by simp at h⟩
  | n + 1, h => by
    obtain ⟨ys, hl, hy⟩ := list_of n (fun i hi => h i (by omega))
    obtain ⟨y, hp⟩ := h n (by omega)
    refine ⟨ys ++ [y], by simp [hl], fun i z hz => ?_⟩
    by_cases hi : i < n
    · rw [List.getElem?_append_left (by omega)] at hz
      exact hy i z hz
    · have hi2 : i = n := by
        have := (List.getElem?_eq_some_iff.1 hz).1
        simp [hl] at this
        omega
      subst hi2
      rw [List.getElem?_append_right (by omega), hl] at hz
      simp at hz
      subst hz
      exact hp
theorem opens_slice {α : Type} {P : Program} {t e : TypeId} {d : Kd α} {wf : α → Prop} (h : P.underlying t = some (.slice e)) (hc : P.cellsOf e = d.sz) (he : Opens P e d wf) :
    Opens P t (Kd.slice e d) (fun l => l.length ≤ 9223372036854775807 ∧ ∀ x ∈ l, wf x) := by
  intro H enc W fuel cs x hx
  rcases open_slice h hx with ⟨rfl, _⟩ | ⟨a, len, cap, m, n, D, Pl, rfl, _, hl, hm, hmm, _, hx⟩
  · exact ⟨[], ⟨none, 0, rfl, by simp, Kd.C_nil d W⟩, by simp, by simp⟩
  · obtain ⟨ys, hlen, hy⟩ := list_of (p := fun i y => ∃ cs', W.cells? 0 (a.add (i * P.cellsOf e)) (P.cellsOf e) = some cs' ∧ d.K W y cs' ∧ wf y) len (fun i hi => by
      obtain ⟨cs', h1, h2⟩ := hx i (by rw [hmm]; split <;> omega)
      obtain ⟨y, hK, hw⟩ := he h2
      exact ⟨y, cs', h1, hK, hw⟩)
    have hm' : cap ≤ 9223372036854775807 := by simpa [maxLen] using hm
    refine ⟨ys, ⟨some a, cap, by rw [hlen], by omega, ⟨rfl, by omega, fun _ => ⟨a, rfl, fun j y hj => ?_⟩⟩⟩, by omega, fun y hmem => ?_⟩
    · obtain ⟨cs', h1, hK, _⟩ := hy j y hj
      obtain ⟨_, hl2, hcell⟩ := World.cells?_some h1
      refine ⟨cs', d.K_len hK, hK, fun i u hu => ?_⟩
      have hi : i < P.cellsOf e := by
        have := (List.getElem?_eq_some_iff.1 hu).1
        omega
      rw [← hc, ← Go.Deep.add_add, hcell i hi]
      exact hu
    · obtain ⟨j, hj⟩ := List.getElem?_of_mem hmem
      obtain ⟨_, _, _, hw⟩ := hy j y hj
      exact hw
theorem int_cell {k : IntKind} {W : World} {y : Int} {v : Value} (h : (Kd.int k).K W y [v]) : v = .int k y := by
  have h' : [v] = [Value.int k y] := h
  simpa using h'
theorem slice_cell {α : Type} {d : Kd α} {e : Nat} {W : World} {l : List α} {v : Value} (h : (Kd.slice e d).K W l [v]) : ∃ A c, v = .slice A l.length c ∧ l.length ≤ c ∧ d.C W A l.length l := by
  obtain ⟨A, c, hc, hl, hC⟩ := h
  exact ⟨A, c, by simpa using hc, hl, hC⟩
section
variable {P : Program} {t : TypeId} {W : World} {H : Type} {enc : TypeId × Value → H} {r : Reach} {b0 : Nat} {v : Value} {d : DataW H} {p : List MemPlace}
theorem agg3_at {α0 α1 α2 : Type} {f0 f1 f2 : Field} {d0 : Kd α0} {d1 : Kd α1} {d2 : Kd α2} {w0 : α0 → Prop} {w1 : α1 → Prop} {w2 : α2 → Prop} (hs : P.underlying t = some (.struct #[f0, f1, f2])) (hone : oneCellFields P #[f0, f1, f2] = true)
    (hC : P.cellsOf t = 3) (h0 : Opens P f0.type d0 w0) (h1 : Opens P f1.type d1 w1) (h2 : Opens P f2.type d2 w2) (hv : Value.okWide P W r b0 t v) (h : DataW.Trod enc P W 0 (fun _ => true) true t v d p) :
    ∃ (v0 v1 v2 : Value) (y0 : α0) (y1 : α1) (y2 : α2), v = .agg #[v0, v1, v2] ∧ d0.K W y0 [v0] ∧ w0 y0 ∧ d1.K W y1 [v1] ∧ w1 y1 ∧ d2.K W y2 [v2] ∧ w2 y2 := by
  obtain ⟨v0, v1, v2, _, _, _, _, rfl, _, _, e0, e1, e2⟩ := open_agg3 hs hone hC hv h
  obtain ⟨y0, K0, W0⟩ := h0 e0
  obtain ⟨y1, K1, W1⟩ := h1 e1
  obtain ⟨y2, K2, W2⟩ := h2 e2
  exact ⟨v0, v1, v2, y0, y1, y2, rfl, K0, W0, K1, W1, K2, W2⟩
end
end Go.Proofs.Ytilffhaghabdgaa.Open
namespace Go.Proofs.Ytilffhaghabdgaa.P
open Go.RowKit Go.Proofs.YtilffhaghabdgaaW.PrintWords Go.Proofs.YtilffhaghabdgaaW.PrintLast Go.Proofs.YtilffhaghabdgaaW.PrintMore
attribute [local go_sem] max2_int min2_int max_two min_two max_three min_three max_four min_four
set_option linter.unusedVariables false
set_option linter.unusedSimpArgs false
open Go.Proofs.Ytilffhaghabdgaa.Open
end Go.Proofs.Ytilffhaghabdgaa.P
namespace Go.Proofs.Ytilffhaghabdgaa.Pure
set_option linter.unusedVariables false
set_option linter.unusedSimpArgs false
open Go.RowKit Go.Proofs.YtilffhaghabdgaaW.PrintWords Go.Proofs.YtilffhaghabdgaaW.PrintLast Go.Proofs.YtilffhaghabdgaaW.PrintMore
theorem w64 {x : Int} (h0 : -9223372036854775808 ≤ x) (h1 : x ≤ 9223372036854775807) : wrap64 x = x := by
  unfold wrap64
  omega
theorem w64n {n : Nat} (h : n ≤ 9223372036854775807) : wrap64 (n : Int) = (n : Int) := w64 (by omega) (by omega)
theorem rd_nat (xs : List Int) (i : Nat) : rd xs (i : Int) = xs.getD i 0 := by simp [rd]
section
variable {α β : Type} {f g : Nat → Option α} {r : α}
theorem ev_some (r : α) : Ev (fun _ => some r) r := ⟨0, fun _ _ => rfl⟩
theorem ev_ifp {c : Prop} [Decidable c] (h : c) (k : Ev f r) : Ev (fun n => if c then f n else g n) r := Ev.congr (fun _ => if_pos h) k
theorem ev_ifn {c : Prop} [Decidable c] (h : ¬ c) (k : Ev g r) : Ev (fun n => if c then f n else g n) r := Ev.congr (fun _ => if_neg h) k
theorem ev_bind {F : Nat → α → Option β} {q : β} (h : Ev g r) (k : Ev (fun n => F n r) q) : Ev (fun n => (g n).bind (fun x => F n x)) q := by
  obtain ⟨K1, h1⟩ := h
  obtain ⟨K2, h2⟩ := k
  exact ⟨K1 + K2, fun n hn => by show (g n).bind (fun x => F n x) = some q; rw [h1 n (by omega)]; exact h2 n (by omega)⟩
theorem ev_const {a : Option α} (h : a = some r) : Ev (fun _ => a) r := ⟨0, fun _ _ => h⟩
theorem ev_step (h : ∀ k, g (k + 1) = f k) (k : Ev f r) : Ev g r := by
  obtain ⟨K, h1⟩ := k
  refine ⟨K + 1, fun n hn => ?_⟩
  obtain ⟨m, rfl⟩ : ∃ m, n = m + 1 := ⟨n - 1, by omega⟩
  rw [h m]
  exact h1 m (by omega)
end
def iter {σ : Type} (g : Nat → σ → σ) : Nat → Nat → σ → σ
  | _, 0, s => s
  | i, d + 1, s => iter g (i + 1) d (g i s)
theorem loop_ev {σ ρ : Type} (F : Nat → σ → Nat → Option ρ) (n : Nat) (g : Nat → σ → σ) (fin : σ → ρ) (I : Nat → σ → Prop)
    (hs : ∀ i s r, I i s → i < n → Ev (fun k => F k (g i s) (i + 1)) r → Ev (fun k => F k s i) r) (hI : ∀ i s, I i s → i < n → I (i + 1) (g i s))
    (he : ∀ s, I n s → Ev (fun k => F k s n) (fin s)) : ∀ i s, i ≤ n → I i s → Ev (fun k => F k s i) (fin (iter g i (n - i) s)) := by
  have key : ∀ d i s, n - i = d → i ≤ n → I i s → Ev (fun k => F k s i) (fin (iter g i d s)) := by
    intro d
    induction d with
    | zero =>
      intro i s h0 h1 h2
      obtain rfl : i = n := by omega
      exact he s h2
    | succ d ih =>
      intro i s h0 h1 h2
      exact hs i s _ h2 (by omega) (ih (i + 1) (g i s) (by omega) (by omega) (hI i s h2 (by omega)))
  exact fun i s h1 h2 => key (n - i) i s rfl h1 h2
theorem iter_inv {σ : Type} (g : Nat → σ → σ) (I : Nat → σ → Prop) (n : Nat) (hI : ∀ i s, I i s → i < n → I (i + 1) (g i s)) : ∀ d i s, i + d = n → I i s → I n (iter g i d s) := by
  intro d
  induction d with
  | zero => intro i s h0 h1; obtain rfl : i = n := by omega
            exact h1
  | succ d ih => intro i s h0 h1; exact ih (i + 1) _ (by omega) (hI i s h1 (by omega))
def rall (p : Nat → Bool) : Nat → Nat → Bool
  | _, 0 => true
  | i, d + 1 => p i && rall p (i + 1) d
theorem rall_iff (p : Nat → Bool) : ∀ d i, rall p i d = true ↔ ∀ j, i ≤ j → j < i + d → p j = true
  | 0, i => ⟨fun _ j h1 h2 => by omega, fun _ => rfl⟩
  | d + 1, i => by
    show (p i && rall p (i + 1) d) = true ↔ _
    rw [Bool.and_eq_true, rall_iff p d (i + 1)]
    constructor
    · rintro ⟨h0, h1⟩ j h2 h3
      by_cases e : j = i
      · rw [e]; exact h0
      · exact h1 j (by omega) (by omega)
    · intro h
      exact ⟨h i (Nat.le_refl _) (by omega), fun j h2 h3 => h j (by omega) (by omega)⟩
theorem all_ev {ρ : Type} (F : Nat → Nat → Option ρ) (n : Nat) (p : Nat → Bool) (no yes : ρ) (hs : ∀ i r, i < n → p i = true → Ev (fun k => F k (i + 1)) r → Ev (fun k => F k i) r)
    (hn : ∀ i, i < n → p i = false → Ev (fun k => F k i) no) (he : Ev (fun k => F k n) yes) :
    ∀ i, i ≤ n → Ev (fun k => F k i) (if rall p i (n - i) = true then yes else no) := by
  have key : ∀ d i, n - i = d → i ≤ n → Ev (fun k => F k i) (if rall p i d = true then yes else no) := by
    intro d
    induction d with
    | zero =>
      intro i h0 h1
      obtain rfl : i = n := by omega
      rw [show rall p i 0 = true from rfl, if_pos rfl]
      exact he
    | succ d ih =>
      intro i h0 h1
      have h := ih (i + 1) (by omega) (by omega)
      have e : rall p i (d + 1) = (p i && rall p (i + 1) d) := rfl
      cases hp : p i with
      | true =>
        rw [e, hp, Bool.true_and]
        exact hs i _ (by omega) hp h
      | false =>
        rw [e, hp, Bool.false_and, if_neg (by simp)]
        exact hn i (by omega) hp
  exact fun i h1 => key (n - i) i rfl h1
theorem allb_ev (F : Nat → Nat → Option Bool) (n : Nat) (p : Nat → Bool) (hs : ∀ i r, i < n → p i = true → Ev (fun k => F k (i + 1)) r → Ev (fun k => F k i) r)
    (hn : ∀ i, i < n → p i = false → Ev (fun k => F k i) false) (he : Ev (fun k => F k n) true) : Ev (fun k => F k 0) (rall p 0 n) := by
  have h := all_ev F n p false true hs hn he 0 (Nat.zero_le _)
  rw [Nat.sub_zero] at h
  cases e : rall p 0 n <;> simpa [e] using h
theorem getD_eq_get {α : Type} {xs : List α} {i : Nat} (z : α) (h : i < xs.length) : xs.getD i z = xs[i] := by simp [List.getD, List.getElem?_eq_getElem h]
theorem rall_list {α : Type} (xs : List α) (z : α) (p : α → Bool) : rall (fun j => p (xs.getD j z)) 0 xs.length = xs.all p := by
  rw [Bool.eq_iff_iff, rall_iff, List.all_eq_true]
  constructor
  · intro h x hx
    obtain ⟨i, hi, rfl⟩ := List.getElem_of_mem hx
    rw [← getD_eq_get z hi]
    exact h i (Nat.zero_le _) (by omega)
  · intro h j _ hj
    rw [getD_eq_get z (by omega)]
    exact h _ (List.getElem_mem (by omega))
theorem eq_index {α : Type} {xs ys : List α} (z : α) (h : xs.length = ys.length) (hh : ∀ j, j < xs.length → xs.getD j z = ys.getD j z) : xs = ys := by
  refine List.ext_getElem h (fun i h1 h2 => ?_)
  rw [← getD_eq_get z h1, ← getD_eq_get z h2]
  exact hh i h1
theorem rall_eq {α : Type} [DecidableEq α] {xs ys : List α} (z : α) (h : xs.length = ys.length) : rall (fun j => decide (xs.getD j z = ys.getD j z)) 0 xs.length = decide (xs = ys) := by
  rw [Bool.eq_iff_iff, rall_iff, decide_eq_true_eq]
  constructor
  · exact fun hh => eq_index z h (fun j hj => by simpa using hh j (Nat.zero_le _) (by omega))
  · rintro rfl j _ _
    simp
theorem iter_add {σ : Type} (g : Nat → σ → σ) : ∀ a i b s, iter g i (a + b) s = iter g (i + a) b (iter g i a s) := by
  intro a
  induction a with
  | zero => intro i b s; rw [Nat.zero_add]; rfl
  | succ a ih =>
    intro i b s
    rw [show a + 1 + b = (a + b) + 1 by omega]
    show iter g (i + 1) (a + b) (g i s) = _
    rw [ih (i + 1) b (g i s)]
    show _ = iter g (i + (a + 1)) b (iter g (i + 1) a (g i s))
    rw [show i + 1 + a = i + (a + 1) by omega]
theorem iter_congr {σ : Type} {g h : Nat → σ → σ} : ∀ d i s, (∀ j s, i ≤ j → j < i + d → g j s = h j s) → iter g i d s = iter h i d s := by
  intro d
  induction d with
  | zero => intro i s _; rfl
  | succ d ih =>
    intro i s hh
    show iter g (i + 1) d (g i s) = iter h (i + 1) d (h i s)
    rw [hh i s (Nat.le_refl _) (by omega)]
    exact ih (i + 1) _ (fun j s h1 h2 => hh j s (by omega) (by omega))
theorem grid_ev {σ ρ : Type} (F0 : Nat → σ → Nat → Option ρ) (F1 : Nat → σ → Nat → Nat → Option ρ) (w h : Nat) (g : Nat → σ → σ) (fin : σ → ρ) (I : Nat → σ → Prop)
    (hout : ∀ y s r, I (y * w) s → y < h → Ev (fun k => F1 k s y 0) r → Ev (fun k => F0 k s y) r)
    (hin : ∀ y x s r, I (y * w + x) s → y < h → x < w → Ev (fun k => F1 k (g (y * w + x) s) y (x + 1)) r → Ev (fun k => F1 k s y x) r)
    (hI : ∀ y x s, I (y * w + x) s → y < h → x < w → I (y * w + (x + 1)) (g (y * w + x) s))
    (hrow : ∀ y s r, I (y * w + w) s → y < h → Ev (fun k => F0 k s (y + 1)) r → Ev (fun k => F1 k s y w) r)
    (hend : ∀ s, I (h * w) s → Ev (fun k => F0 k s h) (fin s)) : ∀ s, I 0 s → Ev (fun k => F0 k s 0) (fin (iter g 0 (h * w) s)) := by
  have row : ∀ d y x s r, w - x = d → x ≤ w → y < h → I (y * w + x) s → Ev (fun k => F0 k (iter g (y * w + x) d s) (y + 1)) r → Ev (fun k => F1 k s y x) r := by
    intro d
    induction d with
    | zero =>
      intro y x s r h0 h1 h2 h3 h4
      obtain rfl : x = w := by omega
      exact hrow y s r h3 h2 h4
    | succ d ih =>
      intro y x s r h0 h1 h2 h3 h4
      exact hin y x s r h3 h2 (by omega) (ih y (x + 1) _ r (by omega) (by omega) h2 (hI y x s h3 h2 (by omega)) h4)
  have rowI : ∀ d y x s, w - x = d → x ≤ w → y < h → I (y * w + x) s → I (y * w + w) (iter g (y * w + x) d s) := by
    intro d
    induction d with
    | zero =>
      intro y x s h0 h1 h2 h3
      obtain rfl : x = w := by omega
      exact h3
    | succ d ih =>
      intro y x s h0 h1 h2 h3
      exact ih y (x + 1) _ (by omega) (by omega) h2 (hI y x s h3 h2 (by omega))
  have key : ∀ d y s, h - y = d → y ≤ h → I (y * w) s → Ev (fun k => F0 k s y) (fin (iter g (y * w) (d * w) s)) := by
    intro d
    induction d with
    | zero =>
      intro y s h0 h1 h2
      obtain rfl : y = h := by omega
      rw [Nat.zero_mul]
      exact hend s h2
    | succ d ih =>
      intro y s h0 h1 h2
      have hb := rowI w y 0 s (by omega) (Nat.zero_le _) (by omega) h2
      have e1 : y * w + w = (y + 1) * w := by rw [Nat.add_mul, Nat.one_mul]
      rw [Nat.add_zero] at hb
      rw [e1] at hb
      have hk := ih (y + 1) _ (by omega) (by omega) hb
      rw [show (d + 1) * w = w + d * w by rw [Nat.add_mul, Nat.one_mul]; omega, iter_add, e1]
      exact hout y s _ h2 (by omega) (row w y 0 s _ (by omega) (Nat.zero_le _) (by omega) h2 hk)
  intro s h0
  have hk := key h 0 s (by omega) (Nat.zero_le _) (by rw [Nat.zero_mul]; exact h0)
  rw [Nat.zero_mul] at hk
  exact hk
def tab {α : Type} (n : Nat) (q : Nat → α) : List α := (List.range n).map q
theorem tab_length {α : Type} (n : Nat) (q : Nat → α) : (tab n q).length = n := by simp [tab]
theorem tab_getD {α : Type} (n : Nat) (q : Nat → α) (z : α) {i : Nat} (h : i < n) : (tab n q).getD i z = q i := by simp [tab, List.getD, h]
theorem tab_mem {α : Type} {n : Nat} {q : Nat → α} {x : α} : x ∈ tab n q ↔ ∃ i, i < n ∧ q i = x := by simp [tab]
theorem iter_set_tab {α : Type} (z : α) (q : Nat → α) (n : Nat) (s : List α) (hs : s.length = n) : iter (fun i (s : List α) => s.set i (q i)) 0 n s = tab n q := by
  have hi := iter_inv (fun i (s : List α) => s.set i (q i)) (fun i s => s.length = n ∧ ∀ j, j < i → s.getD j z = q j) n
    (fun i s hI hi => ⟨by simp [hI.1], fun j hj => by
      by_cases e : j = i
      · subst e
        have := hI.1
        simp [List.getD, List.getElem?_set_self (show j < s.length by omega)]
      · rw [← hI.2 j (by omega)]
        simp [List.getD, List.getElem?_set_ne (Ne.symm e)]⟩) n 0 s (by omega) ⟨hs, fun j hj => by omega⟩
  exact eq_index z (by rw [hi.1, tab_length]) (fun j hj => by rw [hi.2 j (by have := hi.1; omega), tab_getD _ _ z (by have := hi.1; omega)])
theorem loop_at {σ ρ : Type} (F : Nat → σ → Nat → Option ρ) (n : Nat) (g : Nat → σ → σ) (fin : σ → ρ) (I : Nat → σ → Prop)
    (hs : ∀ k i s, I i s → i < n → F (k + 1) s i = F k (g i s) (i + 1)) (hI : ∀ i s, I i s → i < n → I (i + 1) (g i s))
    (he : ∀ k s, I n s → F (k + 1) s n = some (fin s)) : ∀ d k i s, n - i = d → i ≤ n → I i s → d < k → F k s i = some (fin (iter g i d s)) := by
  intro d
  induction d with
  | zero =>
    intro k i s h0 h1 h2 hk
    obtain ⟨k, rfl⟩ : ∃ m, k = m + 1 := ⟨k - 1, by omega⟩
    obtain rfl : i = n := by omega
    exact he k s h2
  | succ d ih =>
    intro k i s h0 h1 h2 hk
    obtain ⟨k, rfl⟩ : ∃ m, k = m + 1 := ⟨k - 1, by omega⟩
    rw [hs k i s h2 (by omega)]
    exact ih k (i + 1) (g i s) (by omega) (by omega) (hI i s h2 (by omega)) (by omega)
theorem ev_all {β : Type} (f : Nat → Nat → Option β) (q : Nat → β) (n : Nat) (h : ∀ i, i < n → Ev (fun k => f k i) (q i)) : ∃ K, ∀ k, K ≤ k → ∀ i, i < n → f k i = some (q i) := by
  induction n with
  | zero => exact ⟨0, fun k _ i hi => by omega⟩
  | succ n ih =>
    obtain ⟨K1, h1⟩ := ih (fun i hi => h i (by omega))
    obtain ⟨K2, h2⟩ := h n (by omega)
    refine ⟨K1 + K2, fun k hk i hi => ?_⟩
    by_cases e : i = n
    · rw [e]; exact h2 k (by omega)
    · exact h1 k (by omega) i (by omega)
end Go.Proofs.Ytilffhaghabdgaa.Pure
namespace Go.Proofs.Ytilffhaghabdgaa.Pure
set_option linter.unusedVariables false
set_option linter.unusedSimpArgs false
open Go.RowKit Go.Proofs.Ytilffhaghabdgaa.P Go.Proofs.YtilffhaghabdgaaW.PrintWords Go.Proofs.YtilffhaghabdgaaW.PrintLast
def inb (x a b : Int) : Bool := decide (a ≤ x) && decide (x ≤ b)
theorem inb_iff {x a b : Int} : inb x a b = true ↔ a ≤ x ∧ x ≤ b := by simp [inb]
theorem l1In_is (x a b : Int) : spec_l1In.f x a b = some (inb x a b) := by
  unfold spec_l1In.f inb
  split
  · rename_i h; simp [show a ≤ x from h]
  · rename_i h; simp [show ¬ a ≤ x from h]
theorem within_is (x a b : Int) : impl_within.f x a b = some (inb x a b) := l1In_is x a b
end Go.Proofs.Ytilffhaghabdgaa.Pure
