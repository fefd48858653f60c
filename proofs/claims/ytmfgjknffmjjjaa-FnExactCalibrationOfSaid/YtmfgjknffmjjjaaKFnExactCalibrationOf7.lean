/- Texts of the claim FnExactCalibrationOf, merged: part 7 of 8: the program's and the reference's functions as Lean functions, the walks that show it, and plain lemmas; no conditions. -/
import Derived.Test.YtmfgjknffmjjjaaKFnExactCalibrationOf3
import Derived.Test.YtmfgjknffmjjjaaKFnExactCalibrationOf5
import Derived.Test.YtmfgjknffmjjjaaKFnExactCalibrationOf6
import Derived.Test.YtmfgjknffmjjjaaKFnExactCalibrationOf2
import Derived.ProofKit
import Derived.OpenShut
import Derived.Deep.Slices
import Derived.Deep.Strs
import Derived.Deep.Fields
import Derived.Lib.SmallJoins
import Derived.Test.YtmfgjknffmjjjaaKFnExactCalibrationOf4
namespace Go.Proofs.Ytmfgjknffmjjjaa.P
open Go.RowKit Go.Proofs.YtmfgjknffmjjjaaW.PrintWords Go.Proofs.YtmfgjknffmjjjaaW.PrintLast Go.Proofs.YtmfgjknffmjjjaaW.PrintMore
attribute [local go_sem] max2_int min2_int max_two min_two max_three min_three max_four min_four
set_option linter.unusedVariables false
set_option linter.unusedSimpArgs false
mutual
def laws_FnExactCalibrationOf.j0 : Nat → List (S89) → Bool → List (S89) → Bool → Bool → List Int → List Int → List Int → List Int → Option (Bool)
 | 0, _, _, _, _, _, _, _, _, _ => none
 | k + 1, x4, x5, x7, x8, x40, x102000, x102001, x120000, x120001 => if x40 = true then (some false) else ((laws_toTally.f k x102000 x102001).bind fun bt125 => ((laws_eqTally.f k x120000 x120001 bt125.1 bt125.2).bind fun t131 => (if t131 = true then ((laws_markTally.f k x120000 x120001 1).bind fun bt132 => (if bt132.1 < 0 then (laws_FnExactCalibrationOf.j1 k x4 x5 x7 true x102000 x102001) else ((laws_eqShareS.f k x7 x4).bind fun t135 => (if t135 = true then (laws_FnExactCalibrationOf.j1 k x4 x5 x7 (x8 != x5) x102000 x102001) else (laws_FnExactCalibrationOf.j1 k x4 x5 x7 true x102000 x102001))))) else (some false))))
def laws_FnExactCalibrationOf.j1 : Nat → List (S89) → Bool → List (S89) → Bool → List Int → List Int → Option (Bool)
 | 0, _, _, _, _, _, _ => none
 | k + 1, x4, x5, x7, x61, x102000, x102001 => if x61 = true then (some false) else ((laws_markShareS.f k x7 1).bind fun bt136 => ((laws_heldShareS.f k bt136.2 1).bind fun t138 => (if t138 < 0 then (some false) else (if t138 = bt136.1 then ((laws_toTally.f k x102000 x102001).bind fun bt139 => ((impl_CalibrationOf.f k bt139.1 bt139.2).bind fun bt145 => ((laws_eqShareS.f k bt145.1 x4).bind fun t149 => (if t149 = true then (laws_FnExactCalibrationOf.j2 k bt136.2 bt136.1 (bt145.2 != x5)) else (laws_FnExactCalibrationOf.j2 k bt136.2 bt136.1 true))))) else (some false)))))
def laws_FnExactCalibrationOf.j2 : Nat → List (S89) → Int → Bool → Option (Bool)
 | 0, _, _, _ => none
 | k + 1, x7, x10, x87 => if x87 = true then (some false) else ((laws_heldShareS.f k x7 1).bind fun t150 => (if t150 < 0 then (some false) else (if t150 = x10 then (some true) else (some false))))
end
def laws_FnExactCalibrationOf.f (k : Nat) (l0_0 : List Int) (l0_1 : List Int) : Option (Bool) := (laws_szTally.f l0_0 l0_1 1048576).bind fun t102 => (if t102 < 0 then (some true) else ((laws_toTally.f k l0_0 l0_1).bind fun bt103 => ((spec_CalibrationOf.f k bt103.1 bt103.2).bind fun bt109 => ((laws_toTally.f k l0_0 l0_1).bind fun bt113 => ((impl_CalibrationOf.f k bt113.1 bt113.2).bind fun bt120 => ((laws_eqShareS.f k bt120.1 bt109.1).bind fun t124 => (if t124 = true then (laws_FnExactCalibrationOf.j0 k bt109.1 bt109.2 bt120.1 bt120.2 (bt120.2 != bt109.2) l0_0 l0_1 bt113.1 bt113.2) else (laws_FnExactCalibrationOf.j0 k bt109.1 bt109.2 bt120.1 bt120.2 true l0_0 l0_1 bt113.1 bt113.2))))))))
set_option maxHeartbeats 8000000 in
set_option maxRecDepth 100000 in
theorem laws_FnExactCalibrationOf.calls (k : Nat) (A0_0 : Option Addr) (c0_0 : Nat) (l0_0 : List Int) (A0_1 : Option Addr) (c0_1 : Nat) (l0_1 : List Int) (r : Bool) (w : World) (hr0_0 : Kd.C (Kd.int .i64) w A0_0 l0_0.length l0_0) (hc0_0 : l0_0.length ≤ c0_0) (hr0_1 : Kd.C (Kd.int .i64) w A0_1 l0_1.length l0_1) (hc0_1 : l0_1.length ≤ c0_1) (h : laws_FnExactCalibrationOf.f k l0_0 l0_1 = some r) :
  Calls Try.prog 9 #[.agg #[.slice A0_0 l0_0.length c0_0, .slice A0_1 l0_1.length c0_1]] w fun e w' => e = .returned (.bool r) ∧ Below w.heap.size w w' := by
 have hu52 := Try.underlying52
 have hu57 := Try.underlying57
 have HR0_0 := Aside0.mk hr0_0
 have HC0_0 := Aside0.mk hc0_0
 clear hr0_0 hc0_0
 have HR0_1 := Aside0.mk hr0_1
 have HC0_1 := Aside0.mk hc0_1
 clear hr0_1 hc0_1
 have HB := aK (Below.refl w.heap.size w)
 have H : ((laws_szTally.f l0_0 l0_1 1048576).bind fun t102 => (if t102 < 0 then (some true) else ((laws_toTally.f k l0_0 l0_1).bind fun bt103 => ((spec_CalibrationOf.f k bt103.1 bt103.2).bind fun bt109 => ((laws_toTally.f k l0_0 l0_1).bind fun bt113 => ((impl_CalibrationOf.f k bt113.1 bt113.2).bind fun bt120 => ((laws_eqShareS.f k bt120.1 bt109.1).bind fun t124 => (if t124 = true then (laws_FnExactCalibrationOf.j0 k bt109.1 bt109.2 bt120.1 bt120.2 (bt120.2 != bt109.2) l0_0 l0_1 bt113.1 bt113.2) else (laws_FnExactCalibrationOf.j0 k bt109.1 bt109.2 bt120.1 bt120.2 true l0_0 l0_1 bt113.1 bt113.2))))))))) = some r := h
 clear h
 replace H := Option.bind_eq_some_iff.mp H
 obtain ⟨t102, A20, H⟩ := H
 replace H : (if t102 < 0 then (some true) else ((laws_toTally.f k l0_0 l0_1).bind fun bt103 => ((spec_CalibrationOf.f k bt103.1 bt103.2).bind fun bt109 => ((laws_toTally.f k l0_0 l0_1).bind fun bt113 => ((impl_CalibrationOf.f k bt113.1 bt113.2).bind fun bt120 => ((laws_eqShareS.f k bt120.1 bt109.1).bind fun t124 => (if t124 = true then (laws_FnExactCalibrationOf.j0 k bt109.1 bt109.2 bt120.1 bt120.2 (bt120.2 != bt109.2) l0_0 l0_1 bt113.1 bt113.2) else (laws_FnExactCalibrationOf.j0 k bt109.1 bt109.2 bt120.1 bt120.2 true l0_0 l0_1 bt113.1 bt113.2)))))))) = some r := H
 have A2 := Aside0.mk A20
 clear A20
 by_cases c3 : t102 < 0
 ·
  rw [if_pos c3] at H
  have c3b0 : decide (t102 < 0) = true := decide_eq_true c3
  clear c3
  obtain rfl := Option.some.inj H
  go_enter Try.func9, Try.ntmps9
  go_wp2_with (first | ((with_reducible refine gate_dst (N := 1) rfl ?_); refine bxe (cs := #[.slice A0_0 l0_0.length c0_0, .slice A0_1 l0_1.length c0_1]) (t := 52) ?_; intro gb101 hg w4 hbox hb; have BK101 := aK (hbox); have GW101 := aK (gE hg (pS HB.out)); have GE101 := aK (gE hg (pS HB.out)); replace HB := bS HB hb; clear hb hbox hg; have hcz5_0 : w4.cell? ⟨gb101, 0, none⟩ = some (.slice A0_0 l0_0.length c0_0) := (blk_cell BK101.out 0).trans rfl; have hcz5_1 : w4.cell? ⟨gb101, 1, none⟩ = some (.slice A0_1 l0_1.length c0_1) := (blk_cell BK101.out 1).trans rfl; have hfz5_0 := blk_frozen BK101.out 0; have hfz5_1 := blk_frozen BK101.out 1) | ((with_reducible refine gate_callee (f := 34) rfl ?_); refine gl (some 16) Try.func34 #[.agg #[.slice A0_0 l0_0.length c0_0, .slice A0_1 l0_1.length c0_1], .int .i64 1048576] ?_; (with_reducible refine (laws_szTally.calls _ _ l0_0 _ _ l0_1 1048576 t102 _ ?side1 ?side2 ?side3 ?side4 A2.out).mono ?_); (case side1 => exact pC (Kd.C_below HR0_0.out HB.out)); (case side2 => exact HC0_0.out); (case side3 => exact pC (Kd.C_below HR0_1.out HB.out)); (case side4 => exact HC0_1.out); rintro e w6 ⟨rfl, hb⟩; refine ⟨_, rfl, ?_⟩; replace HB := bS HB hb; (try clear hb); (try clear hb2); (try clear hk); (try clear hi)))
  go_ret
  exact ⟨by first | rfl | (simp [errW_none, errW_some] <;> rfl) | (simp [*, errW_none, errW_some] <;> rfl), pT HB.out⟩
 rw [if_neg c3] at H
 have c3b0 : decide (t102 < 0) = false := decide_eq_false c3
 clear c3
 replace H := Option.bind_eq_some_iff.mp H
 obtain ⟨⟨t103, t106⟩, A70, H⟩ := H
 replace H : ((spec_CalibrationOf.f k t103 t106).bind fun bt109 => ((laws_toTally.f k l0_0 l0_1).bind fun bt113 => ((impl_CalibrationOf.f k bt113.1 bt113.2).bind fun bt120 => ((laws_eqShareS.f k bt120.1 bt109.1).bind fun t124 => (if t124 = true then (laws_FnExactCalibrationOf.j0 k bt109.1 bt109.2 bt120.1 bt120.2 (bt120.2 != bt109.2) l0_0 l0_1 bt113.1 bt113.2) else (laws_FnExactCalibrationOf.j0 k bt109.1 bt109.2 bt120.1 bt120.2 true l0_0 l0_1 bt113.1 bt113.2)))))) = some r := H
 have A7 := Aside0.mk A70
 clear A70
 replace H := Option.bind_eq_some_iff.mp H
 obtain ⟨⟨t109, t112⟩, A80, H⟩ := H
 replace H : ((laws_toTally.f k l0_0 l0_1).bind fun bt113 => ((impl_CalibrationOf.f k bt113.1 bt113.2).bind fun bt120 => ((laws_eqShareS.f k bt120.1 t109).bind fun t124 => (if t124 = true then (laws_FnExactCalibrationOf.j0 k t109 t112 bt120.1 bt120.2 (bt120.2 != t112) l0_0 l0_1 bt113.1 bt113.2) else (laws_FnExactCalibrationOf.j0 k t109 t112 bt120.1 bt120.2 true l0_0 l0_1 bt113.1 bt113.2))))) = some r := H
 have A8 := Aside0.mk A80
 clear A80
 replace H := Option.bind_eq_some_iff.mp H
 obtain ⟨⟨t113, t116⟩, A90, H⟩ := H
 replace H : ((impl_CalibrationOf.f k t113 t116).bind fun bt120 => ((laws_eqShareS.f k bt120.1 t109).bind fun t124 => (if t124 = true then (laws_FnExactCalibrationOf.j0 k t109 t112 bt120.1 bt120.2 (bt120.2 != t112) l0_0 l0_1 t113 t116) else (laws_FnExactCalibrationOf.j0 k t109 t112 bt120.1 bt120.2 true l0_0 l0_1 t113 t116)))) = some r := H
 have A9 := Aside0.mk A90
 clear A90
 replace H := Option.bind_eq_some_iff.mp H
 obtain ⟨⟨t120, t123⟩, A100, H⟩ := H
 replace H : ((laws_eqShareS.f k t120 t109).bind fun t124 => (if t124 = true then (laws_FnExactCalibrationOf.j0 k t109 t112 t120 t123 (t123 != t112) l0_0 l0_1 t113 t116) else (laws_FnExactCalibrationOf.j0 k t109 t112 t120 t123 true l0_0 l0_1 t113 t116))) = some r := H
 have A10 := Aside0.mk A100
 clear A100
 have HC11 := Aside0.mk H
 clear H
 go_enter Try.func9, Try.ntmps9
 go_upto_region 8 with (first | ((with_reducible refine gate_dst (N := 1) rfl ?_); refine bxe (cs := #[.slice A0_0 l0_0.length c0_0, .slice A0_1 l0_1.length c0_1]) (t := 52) ?_; intro gb101 hg w12 hbox hb; have BK101 := aK (hbox); have GW101 := aK (gE hg (pS HB.out)); have GE101 := aK (gE hg (pS HB.out)); replace HB := bS HB hb; clear hb hbox hg; have hcz13_0 : w12.cell? ⟨gb101, 0, none⟩ = some (.slice A0_0 l0_0.length c0_0) := (blk_cell BK101.out 0).trans rfl; have hcz13_1 : w12.cell? ⟨gb101, 1, none⟩ = some (.slice A0_1 l0_1.length c0_1) := (blk_cell BK101.out 1).trans rfl; have hfz13_0 := blk_frozen BK101.out 0; have hfz13_1 := blk_frozen BK101.out 1) | ((with_reducible refine gate_callee (f := 34) rfl ?_); refine gl (some 16) Try.func34 #[.agg #[.slice A0_0 l0_0.length c0_0, .slice A0_1 l0_1.length c0_1], .int .i64 1048576] ?_; (with_reducible refine (laws_szTally.calls _ _ l0_0 _ _ l0_1 1048576 t102 _ ?side1 ?side2 ?side3 ?side4 A2.out).mono ?_); (case side1 => exact pC (Kd.C_below HR0_0.out HB.out)); (case side2 => exact HC0_0.out); (case side3 => exact pC (Kd.C_below HR0_1.out HB.out)); (case side4 => exact HC0_1.out); rintro e w14 ⟨rfl, hb⟩; refine ⟨_, rfl, ?_⟩; replace BK101 := bB BK101 hb; replace HB := bS HB hb; (try clear hb); (try clear hb2); (try clear hk); (try clear hi); have hcz15_0 : w14.cell? ⟨gb101, 0, none⟩ = some (.slice A0_0 l0_0.length c0_0) := (blk_cell BK101.out 0).trans rfl; have hcz15_1 : w14.cell? ⟨gb101, 1, none⟩ = some (.slice A0_1 l0_1.length c0_1) := (blk_cell BK101.out 1).trans rfl; have hfz15_0 := blk_frozen BK101.out 0; have hfz15_1 := blk_frozen BK101.out 1) | ((with_reducible refine gate_callee (f := 36) rfl ?_); refine gl (some 21) Try.func36 #[.agg #[.slice A0_0 l0_0.length c0_0, .slice A0_1 l0_1.length c0_1]] ?_; (with_reducible refine (laws_toTally.calls k _ _ l0_0 _ _ l0_1 t103 t106 _ ?side1 ?side2 ?side3 ?side4 A7.out).mono ?_); (case side1 => exact pC (Kd.C_below HR0_0.out HB.out)); (case side2 => exact HC0_0.out); (case side3 => exact pC (Kd.C_below HR0_1.out HB.out)); (case side4 => exact HC0_1.out); rintro e w16 ⟨v104, v107, rfl, ho0, ho1, hb⟩; refine ⟨_, rfl, ?_⟩; have HO105 := aK (Kd.R_lower ho0 (below_size (pS HB.out))); have HO108 := aK (Kd.R_lower ho1 (below_size (pS HB.out))); replace BK101 := bB BK101 hb; replace HB := bS HB hb; (try clear hb); (try clear hb2); (try clear hk); (try clear hi); (try clear ho0); (try clear ho1); obtain ⟨Ao17, co17, eo17⟩ := Kd.R_slice HO105.out; subst eo17; obtain ⟨Ao18, co18, eo18⟩ := Kd.R_slice HO108.out; subst eo18) | ((with_reducible refine gate_callee (f := 45) rfl ?_); refine gl (some 22) Try.func45 #[.agg #[.slice Ao17 t103.length co17, .slice Ao18 t106.length co18]] ?_; (with_reducible refine (spec_CalibrationOf.calls k _ _ t103 _ _ t106 t109 t112 _ ?side1 ?side2 ?side3 ?side4 A8.out).mono ?_); (case side1 => repeat (first | exact (Kd.R_reads' HO105.out).2.2 | (with_reducible refine Kd.C_alloc ?_ _) | (with_reducible refine Kd.C_drewN ?_ _) | (with_reducible refine Kd.C_drew ?_))); (case side2 => exact (Kd.R_reads' HO105.out).2.1); (case side3 => repeat (first | exact (Kd.R_reads' HO108.out).2.2 | (with_reducible refine Kd.C_alloc ?_ _) | (with_reducible refine Kd.C_drewN ?_ _) | (with_reducible refine Kd.C_drew ?_))); (case side4 => exact (Kd.R_reads' HO108.out).2.1); rintro e w19 ⟨v110, rfl, ho0, hb⟩; refine ⟨_, rfl, ?_⟩; have n0_ := aK (Kd.R_below (pR HO105.out) hb); have n1_ := aK (Kd.R_below (pR HO108.out) hb); have HO111 := aK (Kd.R_lower ho0 (below_size (pS HB.out))); replace BK101 := bB BK101 hb; replace HB := bS HB hb; clear HO105 HO108; have HO105 := n0_; have HO108 := n1_; clear n0_ n1_; (try clear hb); (try clear hb2); (try clear hk); (try clear hi); (try clear ho0); have hcz20_0 : w19.cell? ⟨gb101, 0, none⟩ = some (.slice A0_0 l0_0.length c0_0) := (blk_cell BK101.out 0).trans rfl; have hcz20_1 : w19.cell? ⟨gb101, 1, none⟩ = some (.slice A0_1 l0_1.length c0_1) := (blk_cell BK101.out 1).trans rfl; have hfz20_0 := blk_frozen BK101.out 0; have hfz20_1 := blk_frozen BK101.out 1) | ((with_reducible refine gate_callee (f := 36) rfl ?_); refine gl (some 26) Try.func36 #[.agg #[.slice A0_0 l0_0.length c0_0, .slice A0_1 l0_1.length c0_1]] ?_; (with_reducible refine (laws_toTally.calls k _ _ l0_0 _ _ l0_1 t113 t116 _ ?side1 ?side2 ?side3 ?side4 A9.out).mono ?_); (case side1 => exact pC (Kd.C_below HR0_0.out HB.out)); (case side2 => exact HC0_0.out); (case side3 => exact pC (Kd.C_below HR0_1.out HB.out)); (case side4 => exact HC0_1.out); rintro e w21 ⟨v114, v117, rfl, ho0, ho1, hb⟩; refine ⟨_, rfl, ?_⟩; have n0_ := aK (Kd.R_mono (Kd.R_told (Kd.R_told (Kd.R_old (pR HO105.out) hb) (Kd.R_base ho0)) (Kd.R_base ho1)) (fun _ h_ => h_.1)); have n1_ := aK (Kd.R_mono (Kd.R_told (Kd.R_told (Kd.R_old (pR HO108.out) hb) (Kd.R_base ho0)) (Kd.R_base ho1)) (fun _ h_ => h_.1)); have n2_ := aK (Kd.R_below (pR HO111.out) hb); have HO115 := aK (Kd.R_lower (Kd.R_new' (Kd.R_new' ho0 (Kd.R_lt (pR HO105.out))) (Kd.R_lt (pR HO108.out))) (below_size (pS HB.out))); have HO118 := aK (Kd.R_lower (Kd.R_new' (Kd.R_new' ho1 (Kd.R_lt (pR HO105.out))) (Kd.R_lt (pR HO108.out))) (below_size (pS HB.out))); replace BK101 := bB BK101 hb; replace HB := bS HB hb; clear HO105 HO108 HO111; have HO105 := n0_; have HO108 := n1_; have HO111 := n2_; clear n0_ n1_ n2_; (try clear hb); (try clear hb2); (try clear hk); (try clear hi); (try clear ho0); (try clear ho1)) | ((with_reducible refine gate_dst (N := 6) rfl ?_); refine bxe (cs := #[.slice none 0 0, .slice none 0 0]) (t := 57) ?_; intro gb119 hg w22 hbox hb; have n0_ := aK (Kd.R_below (pR HO105.out) hb); have n1_ := aK (Kd.R_below (pR HO108.out) hb); have n2_ := aK (Kd.R_below (pR HO111.out) hb); have n3_ := aK (Kd.R_below (pR HO115.out) hb); have n4_ := aK (Kd.R_below (pR HO118.out) hb); have BK119 := aK (hbox); have GW119 := aK (gE hg (pS HB.out)); have GE119 := aK (gE hg (pS HB.out)); have NB101_119 := aK (nL hg (pB BK101.out)); have NB119_101 := aK (nG hg (pB BK101.out)); replace BK101 := bB BK101 hb; replace HB := bS HB hb; clear HO105 HO108 HO111 HO115 HO118; have HO105 := n0_; have HO108 := n1_; have HO111 := n2_; have HO115 := n3_; have HO118 := n4_; clear n0_ n1_ n2_ n3_ n4_ hb hbox hg; obtain ⟨Ao23, co23, eo23⟩ := Kd.R_slice HO115.out; subst eo23; have hnb24 := NB119_101.out; have hnc24 := NB101_119.out; have hcz25_0 : w22.cell? ⟨gb119, 0, none⟩ = some (.slice none 0 0) := (blk_cell BK119.out 0).trans rfl; have hcz25_1 : w22.cell? ⟨gb119, 1, none⟩ = some (.slice none 0 0) := (blk_cell BK119.out 1).trans rfl; have hfz25_0 := blk_frozen BK119.out 0; have hfz25_1 := blk_frozen BK119.out 1; obtain ⟨Ao26, co26, eo26⟩ := Kd.R_slice HO118.out; subst eo26) | ((with_reducible refine gate_callee (f := 46) rfl ?_); refine gl (some 29) Try.func46 #[.agg #[.slice Ao23 t113.length co23, .slice Ao26 t116.length co26]] ?_; (with_reducible refine (impl_CalibrationOf.calls k _ _ t113 _ _ t116 t120 t123 _ ?side1 ?side2 ?side3 ?side4 A10.out).mono ?_); (case side1 => refine (Kd.R_reads' (e := 3) (base := w.heap.size) (ok := fun k_ => ((some k_ ≠ (.slice Ao26 t116.length co26 : Value).ownBlock ∧ some k_ ≠ (.slice Ao17 t103.length co17 : Value).ownBlock) ∧ some k_ ≠ (.slice Ao18 t106.length co18 : Value).ownBlock)) (n := t113.length) (c := co23) ?_).2.2; exact (pR ((Kd.R_mono (Kd.R_far (p := ⟨gb119, 1, none⟩) (Kd.R_far (p := ⟨gb119, 0, none⟩) (Kd.R_types HO115.out BK119.out (by decide)) (fun _ hk => hk.2) (.slice Ao23 t113.length co23)) (fun _ hk => hk.2) (.slice Ao26 t116.length co26)) (fun _ h_ => h_.1))))); (case side2 => exact (Kd.R_reads' HO115.out).2.1); (case side3 => refine (Kd.R_reads' (e := 3) (base := w.heap.size) (ok := fun k_ => ((some k_ ≠ (.slice Ao23 t113.length co23 : Value).ownBlock ∧ some k_ ≠ (.slice Ao17 t103.length co17 : Value).ownBlock) ∧ some k_ ≠ (.slice Ao18 t106.length co18 : Value).ownBlock)) (n := t116.length) (c := co26) ?_).2.2; exact (pR ((Kd.R_mono (Kd.R_far (p := ⟨gb119, 1, none⟩) (Kd.R_far (p := ⟨gb119, 0, none⟩) (Kd.R_types HO118.out BK119.out (by decide)) (fun _ hk => hk.2) (.slice Ao23 t113.length co23)) (fun _ hk => hk.2) (.slice Ao26 t116.length co26)) (fun _ h_ => h_.1))))); (case side4 => exact (Kd.R_reads' HO118.out).2.1); rintro e w27 ⟨v121, rfl, ho0, hb⟩; refine ⟨_, rfl, ?_⟩; have n0_ := aK (Kd.R_below (pR ((Kd.R_mono (Kd.R_far (p := ⟨gb119, 1, none⟩) (Kd.R_far (p := ⟨gb119, 0, none⟩) (Kd.R_types HO105.out BK119.out (by decide)) (fun _ hk => hk.2) (.slice Ao23 t113.length co23)) (fun _ hk => hk.2) (.slice Ao26 t116.length co26)) (fun _ h_ => h_.1)))) hb); have n1_ := aK (Kd.R_below (pR ((Kd.R_mono (Kd.R_far (p := ⟨gb119, 1, none⟩) (Kd.R_far (p := ⟨gb119, 0, none⟩) (Kd.R_types HO108.out BK119.out (by decide)) (fun _ hk => hk.2) (.slice Ao23 t113.length co23)) (fun _ hk => hk.2) (.slice Ao26 t116.length co26)) (fun _ h_ => h_.1)))) hb); have n2_ := aK (Kd.R_elder' (pR ((Kd.R_mono (Kd.R_far (p := ⟨gb119, 1, none⟩) (Kd.R_far (p := ⟨gb119, 0, none⟩) (Kd.R_types HO111.out BK119.out (by decide)) (fun _ hk => hk.2) (.slice Ao23 t113.length co23)) (fun _ hk => hk.2) (.slice Ao26 t116.length co26)) (fun _ h_ => h_.1)))) (Kd.R_base ho0) hb); have n3_ := aK (Kd.R_below (pR ((Kd.R_mono (Kd.R_far (p := ⟨gb119, 1, none⟩) (Kd.R_far (p := ⟨gb119, 0, none⟩) (Kd.R_types HO115.out BK119.out (by decide)) (fun _ hk => hk.2) (.slice Ao23 t113.length co23)) (fun _ hk => hk.2) (.slice Ao26 t116.length co26)) (fun _ h_ => h_.1)))) hb); have n4_ := aK (Kd.R_below (pR ((Kd.R_mono (Kd.R_far (p := ⟨gb119, 1, none⟩) (Kd.R_far (p := ⟨gb119, 0, none⟩) (Kd.R_types HO118.out BK119.out (by decide)) (fun _ hk => hk.2) (.slice Ao23 t113.length co23)) (fun _ hk => hk.2) (.slice Ao26 t116.length co26)) (fun _ h_ => h_.1)))) hb); have HO122 := aK (Kd.R_lower (Kd.R_new' ho0 (Kd.R_lt (pR ((Kd.R_mono (Kd.R_far (p := ⟨gb119, 1, none⟩) (Kd.R_far (p := ⟨gb119, 0, none⟩) (Kd.R_types HO111.out BK119.out (by decide)) (fun _ hk => hk.2) (.slice Ao23 t113.length co23)) (fun _ hk => hk.2) (.slice Ao26 t116.length co26)) (fun _ h_ => h_.1)))))) (below_size (pS HB.out))); have n6_ := aK (blk_below (g := gb101) (o := .cells #[.slice A0_0 l0_0.length c0_0, .slice A0_1 l0_1.length c0_1] 52 (0, 0)) (by refine bk ?_; refine blk_far ?_ NB101_119.out _; refine bk ?_; refine blk_far ?_ NB101_119.out _; refine bk ?_; exact BK101.out) hb); have n7_ := aK (blk_below (g := gb119) (o := .cells #[.slice Ao23 t113.length co23, .slice Ao26 t116.length co26] 57 (0, 0)) (by refine bk ?_; refine blk_put (cs := #[.slice Ao23 t113.length co23, .slice none 0 0]) ?_ 1 _ rfl; refine bk ?_; refine blk_put (cs := #[.slice none 0 0, .slice none 0 0]) ?_ 0 _ rfl; refine bk ?_; exact BK119.out) hb); replace HB := bS HB hb; clear HO105 HO108 HO111 HO115 HO118 BK101 BK119; have HO105 := n0_; have HO108 := n1_; have HO111 := n2_; have HO115 := n3_; have HO118 := n4_; have BK101 := n6_; have BK119 := n7_; clear n0_ n1_ n2_ n3_ n4_ n6_ n7_; (try clear hb); (try clear hb2); (try clear hk); (try clear hi); (try clear ho0)))
 (try simp only [Act.put, List.setIfInBounds_toArray, List.set_cons_zero, List.set_cons_succ])
 go_cut [40] (fun v40 wc => ∃ (kq : Nat) (x40_10 : Bool), v40 = .bool x40_10 ∧ Aside0 (laws_FnExactCalibrationOf.j0 kq t109 t112 t120 t123 x40_10 l0_0 l0_1 t113 t116 = some r) ∧ Aside0 (kq ≤ k) ∧ Aside0 (Kd.R k89 89 wc w.heap.size (fun k_ => some k_ ≠ (v121 : Value).ownBlock) v110 t109) ∧ Aside0 (Kd.R k89 89 wc w.heap.size (fun k_ => some k_ ≠ (v110 : Value).ownBlock) v121 t120) ∧ Aside0 (Kd.R (Kd.int .i64) 3 wc w.heap.size (fun k_ => some k_ ≠ ((.slice Ao26 t116.length co26) : Value).ownBlock) (.slice Ao23 t113.length co23) t113) ∧ Aside0 (Kd.R (Kd.int .i64) 3 wc w.heap.size (fun k_ => some k_ ≠ ((.slice Ao23 t113.length co23) : Value).ownBlock) (.slice Ao26 t116.length co26) t116) ∧ Aside0 (wc.heap[gb101]? = some (.cells #[(.slice A0_0 l0_0.length c0_0), (.slice A0_1 l0_1.length c0_1)] 52 (0, 0))) ∧ Aside0 (wc.heap[gb119]? = some (.cells #[(.slice Ao23 t113.length co23), (.slice Ao26 t116.length co26)] 57 (0, 0))) ∧ Aside0 (Below w.heap.size w wc))
 case first =>
  have H := HC11.out
  clear HC11
  replace H := Option.bind_eq_some_iff.mp H
  obtain ⟨t124, A280, H⟩ := H
  replace H : (if t124 = true then (laws_FnExactCalibrationOf.j0 k t109 t112 t120 t123 (t123 != t112) l0_0 l0_1 t113 t116) else (laws_FnExactCalibrationOf.j0 k t109 t112 t120 t123 true l0_0 l0_1 t113 t116)) = some r := H
  have A28 := Aside0.mk A280
  clear A280
  by_cases c29 : t124 = true
  ·
   subst c29
   have H1 : (laws_FnExactCalibrationOf.j0 k t109 t112 t120 t123 (t123 != t112) l0_0 l0_1 t113 t116) = some r := by rw [if_pos rfl] at H; exact H
   clear H
   have H := H1
   clear H1
   have H' := Aside0.mk H
   clear H
   obtain ⟨Ao30, co30, eo30⟩ := Kd.R_slice HO122.out
   subst eo30
   obtain ⟨Ao31, co31, eo31⟩ := Kd.R_slice HO111.out
   subst eo31
   go_wp2_with (first | ((with_reducible refine gate_callee (f := 47) rfl ?_); refine gl (some 34) Try.func47 #[.slice Ao30 t120.length co30, .slice Ao31 t109.length co31] ?_; (with_reducible refine (laws_eqShareS.calls k _ _ t120 _ _ t109 true _ ?side1 ?side2 ?side3 ?side4 A28.out).mono ?_); (case side1 => repeat (first | exact (Kd.R_reads' HO122.out).2.2 | (with_reducible refine Kd.C_alloc ?_ _) | (with_reducible refine Kd.C_drewN ?_ _) | (with_reducible refine Kd.C_drew ?_))); (case side2 => exact (Kd.R_reads' HO122.out).2.1); (case side3 => repeat (first | exact (Kd.R_reads' HO111.out).2.2 | (with_reducible refine Kd.C_alloc ?_ _) | (with_reducible refine Kd.C_drewN ?_ _) | (with_reducible refine Kd.C_drew ?_))); (case side4 => exact (Kd.R_reads' HO111.out).2.1); rintro e w32 ⟨rfl, hb⟩; refine ⟨_, rfl, ?_⟩; have n0_ := aK (Kd.R_below (pR HO105.out) hb); have n1_ := aK (Kd.R_below (pR HO108.out) hb); have n2_ := aK (Kd.R_below (pR HO111.out) hb); have n3_ := aK (Kd.R_below (pR HO115.out) hb); have n4_ := aK (Kd.R_below (pR HO118.out) hb); have n5_ := aK (Kd.R_below (pR HO122.out) hb); replace BK101 := bB BK101 hb; replace BK119 := bB BK119 hb; replace HB := bS HB hb; clear HO105 HO108 HO111 HO115 HO118 HO122; have HO105 := n0_; have HO108 := n1_; have HO111 := n2_; have HO115 := n3_; have HO118 := n4_; have HO122 := n5_; clear n0_ n1_ n2_ n3_ n4_ n5_; (try clear hb); (try clear hb2); (try clear hk); (try clear hi)))
   go_meet
   case rel => exact ⟨_, ((t123 != t112)), (by first | rfl | (simp; done) | (simp [*]; done)), H', ⟨by first | omega | exact Nat.le_refl _⟩, ⟨by (with_reducible repeat (first | apply Kd.R_alloc | apply Kd.R_drewN | apply Kd.R_drew)); exact Kd.R_mono HO111.out (fun _ hk => hk.2)⟩, ⟨by (with_reducible repeat (first | apply Kd.R_alloc | apply Kd.R_drewN | apply Kd.R_drew)); exact Kd.R_mono HO122.out (fun _ hk => hk.2)⟩, ⟨by (with_reducible repeat (first | apply Kd.R_alloc | apply Kd.R_drewN | apply Kd.R_drew)); exact Kd.R_mono HO115.out (fun _ hk => hk.1.1)⟩, ⟨by (with_reducible repeat (first | apply Kd.R_alloc | apply Kd.R_drewN | apply Kd.R_drew)); exact Kd.R_mono HO118.out (fun _ hk => hk.1.1)⟩, ⟨by refine bk ?_; exact BK101.out⟩, ⟨by refine bk ?_; exact BK119.out⟩, ⟨pT HB.out⟩⟩
  replace c29 := Bool.eq_false_iff.mpr c29
  subst c29
  have H1 : (laws_FnExactCalibrationOf.j0 k t109 t112 t120 t123 true l0_0 l0_1 t113 t116) = some r := by rw [if_neg (show ¬ (false = true) by decide)] at H; exact H
  clear H
  have H := H1
  clear H1
  have H' := Aside0.mk H
  clear H
  obtain ⟨Ao33, co33, eo33⟩ := Kd.R_slice HO122.out
  subst eo33
  obtain ⟨Ao34, co34, eo34⟩ := Kd.R_slice HO111.out
  subst eo34
  go_wp2_with (first | ((with_reducible refine gate_callee (f := 47) rfl ?_); refine gl (some 34) Try.func47 #[.slice Ao33 t120.length co33, .slice Ao34 t109.length co34] ?_; (with_reducible refine (laws_eqShareS.calls k _ _ t120 _ _ t109 false _ ?side1 ?side2 ?side3 ?side4 A28.out).mono ?_); (case side1 => repeat (first | exact (Kd.R_reads' HO122.out).2.2 | (with_reducible refine Kd.C_alloc ?_ _) | (with_reducible refine Kd.C_drewN ?_ _) | (with_reducible refine Kd.C_drew ?_))); (case side2 => exact (Kd.R_reads' HO122.out).2.1); (case side3 => repeat (first | exact (Kd.R_reads' HO111.out).2.2 | (with_reducible refine Kd.C_alloc ?_ _) | (with_reducible refine Kd.C_drewN ?_ _) | (with_reducible refine Kd.C_drew ?_))); (case side4 => exact (Kd.R_reads' HO111.out).2.1); rintro e w35 ⟨rfl, hb⟩; refine ⟨_, rfl, ?_⟩; have n0_ := aK (Kd.R_below (pR HO105.out) hb); have n1_ := aK (Kd.R_below (pR HO108.out) hb); have n2_ := aK (Kd.R_below (pR HO111.out) hb); have n3_ := aK (Kd.R_below (pR HO115.out) hb); have n4_ := aK (Kd.R_below (pR HO118.out) hb); have n5_ := aK (Kd.R_below (pR HO122.out) hb); replace BK101 := bB BK101 hb; replace BK119 := bB BK119 hb; replace HB := bS HB hb; clear HO105 HO108 HO111 HO115 HO118 HO122; have HO105 := n0_; have HO108 := n1_; have HO111 := n2_; have HO115 := n3_; have HO118 := n4_; have HO122 := n5_; clear n0_ n1_ n2_ n3_ n4_ n5_; (try clear hb); (try clear hb2); (try clear hk); (try clear hi)))
  go_meet
  case rel => exact ⟨_, (true), (by first | rfl | (simp; done) | (simp [*]; done)), H', ⟨by first | omega | exact Nat.le_refl _⟩, ⟨by (with_reducible repeat (first | apply Kd.R_alloc | apply Kd.R_drewN | apply Kd.R_drew)); exact Kd.R_mono HO111.out (fun _ hk => hk.2)⟩, ⟨by (with_reducible repeat (first | apply Kd.R_alloc | apply Kd.R_drewN | apply Kd.R_drew)); exact Kd.R_mono HO122.out (fun _ hk => hk.2)⟩, ⟨by (with_reducible repeat (first | apply Kd.R_alloc | apply Kd.R_drewN | apply Kd.R_drew)); exact Kd.R_mono HO115.out (fun _ hk => hk.1.1)⟩, ⟨by (with_reducible repeat (first | apply Kd.R_alloc | apply Kd.R_drewN | apply Kd.R_drew)); exact Kd.R_mono HO118.out (fun _ hk => hk.1.1)⟩, ⟨by refine bk ?_; exact BK101.out⟩, ⟨by refine bk ?_; exact BK119.out⟩, ⟨pT HB.out⟩⟩
 case rest =>
  clear HC11
  try clear c2
  try clear p2
  try clear c3
  try clear c3b0
  try clear c4
  try clear c9
  try clear c24
  try clear c29
  try clear c34
  try clear hcz13_0
  try clear hcz13_1
  try clear hcz15_0
  try clear hcz15_1
  try clear hcz20_0
  try clear hcz20_1
  try clear hcz25_0
  try clear hcz25_1
  try clear hcz5_0
  try clear hcz5_1
  try clear hfz13_0
  try clear hfz13_1
  try clear hfz15_0
  try clear hfz15_1
  try clear hfz20_0
  try clear hfz20_1
  try clear hfz25_0
  try clear hfz25_1
  try clear hfz5_0
  try clear hfz5_1
  obtain ⟨kq, x40_10, rfl, HA, HJ10, HO_4, HO_7, HO_120000, HO_120001, BK101, BK119, HB⟩ := hcut
  cases kq with
  | zero => exact absurd HA.out (by simp [laws_FnExactCalibrationOf.j0])
  | succ kj10 =>
   have H := HA.out
   clear HA
   simp only [laws_FnExactCalibrationOf.j0] at H
   by_cases c36 : x40_10 = true
   ·
    subst c36
    have H1 : (some false) = some r := by rw [if_pos rfl] at H; exact H
    clear H
    have H := H1
    clear H1
    obtain rfl := Option.some.inj H
    go_wp2
    go_ret
    exact ⟨by first | rfl | (simp [errW_none, errW_some] <;> rfl) | (simp [*, errW_none, errW_some] <;> rfl), pT HB.out⟩
   replace c36 := Bool.eq_false_iff.mpr c36
   subst c36
   have H1 : ((laws_toTally.f kj10 l0_0 l0_1).bind fun bt125 => ((laws_eqTally.f kj10 t113 t116 bt125.1 bt125.2).bind fun t131 => (if t131 = true then ((laws_markTally.f kj10 t113 t116 1).bind fun bt132 => (if bt132.1 < 0 then (laws_FnExactCalibrationOf.j1 kj10 t109 t112 t120 true l0_0 l0_1) else ((laws_eqShareS.f kj10 t120 t109).bind fun t135 => (if t135 = true then (laws_FnExactCalibrationOf.j1 kj10 t109 t112 t120 (t123 != t112) l0_0 l0_1) else (laws_FnExactCalibrationOf.j1 kj10 t109 t112 t120 true l0_0 l0_1))))) else (some false)))) = some r := by rw [if_neg (show ¬ (false = true) by decide)] at H; exact H
   clear H
   have H := H1
   clear H1
   replace H := Option.bind_eq_some_iff.mp H
   obtain ⟨⟨t125, t128⟩, A370, H⟩ := H
   replace H : ((laws_eqTally.f kj10 t113 t116 t125 t128).bind fun t131 => (if t131 = true then ((laws_markTally.f kj10 t113 t116 1).bind fun bt132 => (if bt132.1 < 0 then (laws_FnExactCalibrationOf.j1 kj10 t109 t112 t120 true l0_0 l0_1) else ((laws_eqShareS.f kj10 t120 t109).bind fun t135 => (if t135 = true then (laws_FnExactCalibrationOf.j1 kj10 t109 t112 t120 (t123 != t112) l0_0 l0_1) else (laws_FnExactCalibrationOf.j1 kj10 t109 t112 t120 true l0_0 l0_1))))) else (some false))) = some r := H
   have A37 := Aside0.mk A370
   clear A370
   replace H := Option.bind_eq_some_iff.mp H
   obtain ⟨t131, A380, H⟩ := H
   replace H : (if t131 = true then ((laws_markTally.f kj10 t113 t116 1).bind fun bt132 => (if bt132.1 < 0 then (laws_FnExactCalibrationOf.j1 kj10 t109 t112 t120 true l0_0 l0_1) else ((laws_eqShareS.f kj10 t120 t109).bind fun t135 => (if t135 = true then (laws_FnExactCalibrationOf.j1 kj10 t109 t112 t120 (t123 != t112) l0_0 l0_1) else (laws_FnExactCalibrationOf.j1 kj10 t109 t112 t120 true l0_0 l0_1))))) else (some false)) = some r := H
   have A38 := Aside0.mk A380
   clear A380
   by_cases c39 : t131 = true
   ·
    subst c39
    have H1 : ((laws_markTally.f kj10 t113 t116 1).bind fun bt132 => (if bt132.1 < 0 then (laws_FnExactCalibrationOf.j1 kj10 t109 t112 t120 true l0_0 l0_1) else ((laws_eqShareS.f kj10 t120 t109).bind fun t135 => (if t135 = true then (laws_FnExactCalibrationOf.j1 kj10 t109 t112 t120 (t123 != t112) l0_0 l0_1) else (laws_FnExactCalibrationOf.j1 kj10 t109 t112 t120 true l0_0 l0_1))))) = some r := by rw [if_pos rfl] at H; exact H
    clear H
    have H := H1
    clear H1
    replace H := Option.bind_eq_some_iff.mp H
    obtain ⟨⟨t132, t133, t134⟩, A400, H⟩ := H
    replace H : (if t132 < 0 then (laws_FnExactCalibrationOf.j1 kj10 t109 t112 t120 true l0_0 l0_1) else ((laws_eqShareS.f kj10 t120 t109).bind fun t135 => (if t135 = true then (laws_FnExactCalibrationOf.j1 kj10 t109 t112 t120 (t123 != t112) l0_0 l0_1) else (laws_FnExactCalibrationOf.j1 kj10 t109 t112 t120 true l0_0 l0_1)))) = some r := H
    have A40 := Aside0.mk A400
    clear A400
    have HC41 := Aside0.mk H
    clear H
    try go_wp2
    have n0_ := aK (Kd.R_drew HO_4.out)
    have n1_ := aK (Kd.R_drew HO_7.out)
    have n2_ := aK (Kd.R_drew HO_120000.out)
    have n3_ := aK (Kd.R_drew HO_120001.out)
    have n4_ := aK (blk_drew BK101.out)
    have n5_ := aK (blk_drew BK119.out)
    have n6_ := aK (below_drew1 HB.out)
    clear HO_4 HO_7 HO_120000 HO_120001 BK101 BK119 HB
    have HO_4 := n0_
    have HO_7 := n1_
    have HO_120000 := n2_
    have HO_120001 := n3_
    have BK101 := n4_
    have BK119 := n5_
    have HB := n6_
    clear n0_ n1_ n2_ n3_ n4_ n5_ n6_
    refine start_ (n := 5) (S := fun w' => w'.cell? ⟨gb119, 0, none⟩ = some (.slice Ao23 t113.length co23) ∧ w'.cell? ⟨gb119, 1, none⟩ = some (.slice Ao26 t116.length co26) ∧ w'.cell? ⟨gb101, 0, none⟩ = some (.slice A0_0 l0_0.length c0_0) ∧ w'.cell? ⟨gb101, 1, none⟩ = some (.slice A0_1 l0_1.length c0_1)) (ds := []) #[false, false, false, false, false] (by kernel_rfl) rfl rfl ⟨(blk_cell BK119.out 0).trans rfl, (blk_cell BK119.out 1).trans rfl, (blk_cell BK101.out 0).trans rfl, (blk_cell BK101.out 1).trans rfl⟩ (fun hHeld => ?_)
    generalize wc.drew = w42 at HO_4 HO_7 HO_120000 HO_120001 BK101 BK119 HB hHeld ⊢
    refine take_ (i := 0) (N := some 41) (v := ?_) (a' := ?_) #[true, false, false, false, false] rfl rfl (by kernel_rfl) (fun _ _ _ h => h) (Or.inl ⟨by rfl, ?_⟩) hHeld ?_ ?_
    rotate_left
    ·
     rintro w' ⟨s0, s1, s2, s3⟩
     go_simp
     with_reducible rfl
    rotate_left
    ·
     simp only [Act.put, List.setIfInBounds_toArray, List.set_cons_zero, List.set_cons_succ, i64_w, i32_w]
     rfl
    refine take_ (i := 1) (N := some 42) (v := ?_) (a' := ?_) #[true, true, false, false, false] rfl rfl (by kernel_rfl) (fun _ _ _ h => h) (Or.inl ⟨by rfl, ?_⟩) hHeld ?_ ?_
    rotate_left
    ·
     rintro w' ⟨s0, s1, s2, s3⟩
     go_simp
     with_reducible rfl
    rotate_left
    ·
     simp only [Act.put, List.setIfInBounds_toArray, List.set_cons_zero, List.set_cons_succ, i64_w, i32_w]
     rfl
    refine one_ (i := 2) (N := some 43) #[true, true, true, false, false] rfl rfl (by kernel_rfl) (by decide) (fun K hK => ?_)
    refine goes_ Try.func36 (by kernel_rfl) rfl #[.agg #[.slice A0_0 l0_0.length c0_0, .slice A0_1 l0_1.length c0_1]] (by rfl) rfl rfl (by (try simp only [List.map_toArray, List.map_cons, List.map_nil]); first | done | rfl | (simp only [List.length_drop, List.length_take]; rfl)) ?_
    with_reducible refine (laws_toTally.calls kj10 _ _ l0_0 _ _ l0_1 t125 t128 _ ?side1 ?side2 ?side3 ?side4 A37.out).mono ?_
    (case side1 => exact pC (Kd.C_below HR0_0.out HB.out))
    (case side2 => exact HC0_0.out)
    (case side3 => exact pC (Kd.C_below HR0_1.out HB.out))
    (case side4 => exact HC0_1.out)
    rintro e w43 ⟨v126, v129, rfl, ho0, ho1, hb⟩
    refine ⟨_, rfl, ?_⟩
    have n0_ := aK (Kd.R_below (pR HO_4.out) hb)
    have n1_ := aK (Kd.R_below (pR HO_7.out) hb)
    have n2_ := aK (Kd.R_mono (Kd.R_told (Kd.R_told (Kd.R_old (pR HO_120000.out) hb) (Kd.R_base ho0)) (Kd.R_base ho1)) (fun _ h_ => h_.1))
    have n3_ := aK (Kd.R_mono (Kd.R_told (Kd.R_told (Kd.R_old (pR HO_120001.out) hb) (Kd.R_base ho0)) (Kd.R_base ho1)) (fun _ h_ => h_.1))
    have HO127 := aK (Kd.R_lower (Kd.R_new' (Kd.R_new' ho0 (Kd.R_lt (pR HO_120000.out))) (Kd.R_lt (pR HO_120001.out))) (below_size (pS HB.out)))
    have HO130 := aK (Kd.R_lower (Kd.R_new' (Kd.R_new' ho1 (Kd.R_lt (pR HO_120000.out))) (Kd.R_lt (pR HO_120001.out))) (below_size (pS HB.out)))
    replace BK101 := bB BK101 hb
    replace BK119 := bB BK119 hb
    replace HB := bS HB hb
    clear HO_4 HO_7 HO_120000 HO_120001
    have HO_4 := n0_
    have HO_7 := n1_
    have HO_120000 := n2_
    have HO_120001 := n3_
    clear n0_ n1_ n2_ n3_
    (try clear hb)
    (try clear hb2)
    (try clear hk)
    (try clear hi)
    (try clear ho0)
    (try clear ho1)
    obtain ⟨Ao44, co44, eo44⟩ := Kd.R_slice HO127.out
    (first | subst eo44 | (injection eo44 with f1_ f2_ f3_; have f4_ := f1_.symm; have f5_ := f3_.symm; clear f1_ f2_ f3_; subst f4_; subst f5_))
    obtain ⟨Ao45, co45, eo45⟩ := Kd.R_slice HO130.out
    (first | subst eo45 | (injection eo45 with f1_ f2_ f3_; have f4_ := f1_.symm; have f5_ := f3_.symm; clear f1_ f2_ f3_; subst f4_; subst f5_))
    refine hK.out _ _ ⟨(blk_cell BK119.out 0).trans rfl, (blk_cell BK119.out 1).trans rfl, (blk_cell BK101.out 0).trans rfl, (blk_cell BK101.out 1).trans rfl⟩ (fun hHeld => ?_)
    clear hK K
    refine norm_ (a' := ?_) ?_ ?_
    rotate_left
    ·
     show Act.put _ (some 43) _ = _
     simp only [Act.put, List.setIfInBounds_toArray, List.set_cons_zero, List.set_cons_succ, i64_w, i32_w]
     rfl
    refine one_ (i := 3) (N := some 44) #[true, true, true, true, false] rfl rfl (by kernel_rfl) (by decide) (fun K hK => ?_)
    refine goes_ Try.func39 (by kernel_rfl) rfl #[.agg #[.slice Ao23 t113.length co23, .slice Ao26 t116.length co26], .agg #[.slice Ao44 t125.length co44, .slice Ao45 t128.length co45]] (by rfl) rfl rfl (by (try simp only [List.map_toArray, List.map_cons, List.map_nil]); first | done | rfl | (simp only [List.length_drop, List.length_take]; rfl)) ?_
    with_reducible refine (laws_eqTally.calls kj10 _ _ t113 _ _ t116 _ _ t125 _ _ t128 true _ ?side1 ?side2 ?side3 ?side4 ?side5 ?side6 ?side7 ?side8 A38.out).mono ?_
    (case side1 => repeat (first | exact (Kd.R_reads' HO_120000.out).2.2 | (with_reducible refine Kd.C_alloc ?_ _) | (with_reducible refine Kd.C_drewN ?_ _) | (with_reducible refine Kd.C_drew ?_)))
    (case side2 => exact (Kd.R_reads' HO_120000.out).2.1)
    (case side3 => repeat (first | exact (Kd.R_reads' HO_120001.out).2.2 | (with_reducible refine Kd.C_alloc ?_ _) | (with_reducible refine Kd.C_drewN ?_ _) | (with_reducible refine Kd.C_drew ?_)))
    (case side4 => exact (Kd.R_reads' HO_120001.out).2.1)
    (case side5 => repeat (first | exact (Kd.R_reads' HO127.out).2.2 | (with_reducible refine Kd.C_alloc ?_ _) | (with_reducible refine Kd.C_drewN ?_ _) | (with_reducible refine Kd.C_drew ?_)))
    (case side6 => exact (Kd.R_reads' HO127.out).2.1)
    (case side7 => repeat (first | exact (Kd.R_reads' HO130.out).2.2 | (with_reducible refine Kd.C_alloc ?_ _) | (with_reducible refine Kd.C_drewN ?_ _) | (with_reducible refine Kd.C_drew ?_)))
    (case side8 => exact (Kd.R_reads' HO130.out).2.1)
    rintro e w46 ⟨rfl, hb⟩
    refine ⟨_, rfl, ?_⟩
    have n0_ := aK (Kd.R_below (pR HO_4.out) hb)
    have n1_ := aK (Kd.R_below (pR HO_7.out) hb)
    have n2_ := aK (Kd.R_below (pR HO_120000.out) hb)
    have n3_ := aK (Kd.R_below (pR HO_120001.out) hb)
    have n4_ := aK (Kd.R_below (pR HO127.out) hb)
    have n5_ := aK (Kd.R_below (pR HO130.out) hb)
    replace BK101 := bB BK101 hb
    replace BK119 := bB BK119 hb
    replace HB := bS HB hb
    clear HO_4 HO_7 HO_120000 HO_120001 HO127 HO130
    have HO_4 := n0_
    have HO_7 := n1_
    have HO_120000 := n2_
    have HO_120001 := n3_
    have HO127 := n4_
    have HO130 := n5_
    clear n0_ n1_ n2_ n3_ n4_ n5_
    (try clear hb)
    (try clear hb2)
    (try clear hk)
    (try clear hi)
    refine hK.out _ _ ⟨(blk_cell BK119.out 0).trans rfl, (blk_cell BK119.out 1).trans rfl, (blk_cell BK101.out 0).trans rfl, (blk_cell BK101.out 1).trans rfl⟩ (fun hHeld => ?_)
    clear hK K
    refine norm_ (a' := ?_) ?_ ?_
    rotate_left
    ·
     show Act.put _ (some 44) _ = _
     simp only [Act.put, List.setIfInBounds_toArray, List.set_cons_zero, List.set_cons_succ, i64_w, i32_w]
     rfl
    refine pure_ (i := 4) (N := some 45) (v := ?_) (a' := ?_) #[true, true, true, true, true] rfl rfl (by kernel_rfl) (fun _ _ _ h => h) (Or.inl ⟨by rfl, ?_⟩) ?_ ?_
    rotate_left
    ·
     intro w'
     go_simp
     with_reducible rfl
    rotate_left
    ·
     simp only [Act.put, List.setIfInBounds_toArray, List.set_cons_zero, List.set_cons_succ, i64_w, i32_w]
     rfl
    refine done_ (by kernel_rfl) ?_
    have hnb47 := NB119_101.out
    have hnc47 := NB101_119.out
    have hcz48_0 : w46.cell? ⟨gb119, 0, none⟩ = some (.slice Ao23 t113.length co23) := (blk_cell BK119.out 0).trans rfl
    have hcz48_1 : w46.cell? ⟨gb119, 1, none⟩ = some (.slice Ao26 t116.length co26) := (blk_cell BK119.out 1).trans rfl
    have hfz48_0 := blk_frozen BK119.out 0
    have hfz48_1 := blk_frozen BK119.out 1
    go_upto_region 14 with (first | ((with_reducible refine gate_callee (f := 40) rfl ?_); refine gl (some 48) Try.func40 #[.agg #[.slice Ao23 t113.length co23, .slice Ao26 t116.length co26], .int .i64 1] ?_; (with_reducible refine (laws_markTally.calls kj10 (fun k_ => some k_ = (.slice Ao23 t113.length co23 : Value).ownBlock) (.slice Ao23 t113.length co23) t113 (fun k_ => some k_ = (.slice Ao26 t116.length co26 : Value).ownBlock) (.slice Ao26 t116.length co26) t116 1 t132 t133 t134 w _ ?side1 ?side2 ?side3 ?side4 ?side5 A40.out).mono ?_); (case side1 => exact pT HB.out); (case side2 => exact Kd.R_tight rfl HO_120000.out); (case side3 => exact fun k_ e_ => (HO_120000.out.1 k_ e_.symm).1.1); (case side4 => exact Kd.R_tight rfl HO_120001.out); (case side5 => exact fun k_ e_ => (HO_120001.out.1 k_ e_.symm).1.1); rintro e w49 ⟨rfl, hy0, hy1, hb, hkp⟩; refine ⟨_, rfl, ?_⟩; have n0_ := aK (Kd.R_mono (ok' := fun k_ => some k_ ≠ (v121 : Value).ownBlock) (Kd.R_keptB ((Kd.R_apart' (Kd.R_apart' HO_4.out (Kd.R_typed HO_120000.out) (by decide)) (Kd.R_typed HO_120001.out) (by decide))) hkp (fun k_ hk_ hs_ => Or.elim hs_ (fun e_ => (hk_.1.2) e_) (fun e_ => (hk_.2) e_))) (fun k_ hk_ => hk_.1.1.1)); have n1_ := aK (Kd.R_mono (ok' := fun k_ => some k_ ≠ (v110 : Value).ownBlock) (Kd.R_keptB ((Kd.R_apart' (Kd.R_apart' HO_7.out (Kd.R_typed HO_120000.out) (by decide)) (Kd.R_typed HO_120001.out) (by decide))) hkp (fun k_ hk_ hs_ => Or.elim hs_ (fun e_ => (hk_.1.2) e_) (fun e_ => (hk_.2) e_))) (fun k_ hk_ => hk_.1.1.1)); have n2_ := aK (Kd.R_reok rfl hy0 (fun k_ e_ => HO_120000.out.1 k_ e_)); have n3_ := aK (Kd.R_reok rfl hy1 (fun k_ e_ => HO_120001.out.1 k_ e_)); have n4_ := aK (blk_kept (pB BK101.out) hkp (fun hs_ => Or.elim hs_ (fun e_ => (fun e_ => (Kd.R_ne HO_120000.out BK101.out (by decide)) e_) e_) (fun e_ => (fun e_ => (Kd.R_ne HO_120001.out BK101.out (by decide)) e_) e_))); have n5_ := aK (Kd.R_mono (ok' := fun k_ => some k_ ≠ (.slice Ao23 t113.length co23 : Value).ownBlock ∧ some k_ ≠ (.slice Ao26 t116.length co26 : Value).ownBlock ∧ some k_ ≠ (.slice Ao45 t128.length co45 : Value).ownBlock) (Kd.R_keptB (HO127.out) hkp (fun k_ hk_ hs_ => Or.elim hs_ (fun e_ => (hk_.1.2) e_) (fun e_ => (hk_.2) e_))) (fun k_ hk_ => ⟨hk_.1.1.2, hk_.1.2, hk_.1.1.1⟩)); have n6_ := aK (Kd.R_mono (ok' := fun k_ => some k_ ≠ (.slice Ao23 t113.length co23 : Value).ownBlock ∧ some k_ ≠ (.slice Ao26 t116.length co26 : Value).ownBlock ∧ some k_ ≠ (.slice Ao44 t125.length co44 : Value).ownBlock) (Kd.R_keptB (HO130.out) hkp (fun k_ hk_ hs_ => Or.elim hs_ (fun e_ => (hk_.1.2) e_) (fun e_ => (hk_.2) e_))) (fun k_ hk_ => ⟨hk_.1.1.2, hk_.1.2, hk_.1.1.1⟩)); have n7_ := aK (hb); clear HO_4 HO_7 HO_120000 HO_120001 BK101 HO127 HO130 HB; have HO_4 := n0_; have HO_7 := n1_; have HO_120000 := n2_; have HO_120001 := n3_; have BK101 := n4_; have HO127 := n5_; have HO130 := n6_; have HB := n7_; clear n0_ n1_ n2_ n3_ n4_ n5_ n6_ n7_; (try clear hb); (try clear hkp); (try clear hy0); (try clear hy1)))
    (try simp only [Act.put, List.setIfInBounds_toArray, List.set_cons_zero, List.set_cons_succ])
    go_cut [61] (fun v61 wc => ∃ (kq : Nat) (x61_40 : Bool), v61 = .bool x61_40 ∧ Aside0 (laws_FnExactCalibrationOf.j1 kq t109 t112 t120 x61_40 l0_0 l0_1 = some r) ∧ Aside0 (kq ≤ kj10) ∧ Aside0 (Kd.R k89 89 wc w.heap.size (fun k_ => some k_ ≠ (v121 : Value).ownBlock) v110 t109) ∧ Aside0 (Kd.R k89 89 wc w.heap.size (fun k_ => some k_ ≠ (v110 : Value).ownBlock) v121 t120) ∧ Aside0 (wc.heap[gb101]? = some (.cells #[(.slice A0_0 l0_0.length c0_0), (.slice A0_1 l0_1.length c0_1)] 52 (0, 0))) ∧ Aside0 (Below w.heap.size w wc))
    case first =>
     have H := HC41.out
     clear HC41
     by_cases c50 : t132 < 0
     ·
      rw [if_pos c50] at H
      have c50b0 : decide (t132 < 0) = true := decide_eq_true c50
      clear c50
      (first | rw [c50b0] | (simp only [i64_w, i32_w]; rw [c50b0]) | skip)
      have H' := Aside0.mk H
      clear H
      go_wp2
      go_meet
      case rel => exact ⟨_, (true), (by first | rfl | (simp; done) | (simp [*]; done)), H', ⟨by have := HJ10.out; first | omega | exact Nat.le_refl _⟩, ⟨by (with_reducible repeat (first | apply Kd.R_alloc | apply Kd.R_drewN | apply Kd.R_drew)); exact HO_4.out⟩, ⟨by (with_reducible repeat (first | apply Kd.R_alloc | apply Kd.R_drewN | apply Kd.R_drew)); exact HO_7.out⟩, ⟨by refine bk ?_; exact BK101.out⟩, ⟨pT HB.out⟩⟩
     rw [if_neg c50] at H
     have c50b0 : decide (t132 < 0) = false := decide_eq_false c50
     clear c50
     (first | rw [c50b0] | (simp only [i64_w, i32_w]; rw [c50b0]) | skip)
     replace H := Option.bind_eq_some_iff.mp H
     obtain ⟨t135, A510, H⟩ := H
     replace H : (if t135 = true then (laws_FnExactCalibrationOf.j1 kj10 t109 t112 t120 (t123 != t112) l0_0 l0_1) else (laws_FnExactCalibrationOf.j1 kj10 t109 t112 t120 true l0_0 l0_1)) = some r := H
     have A51 := Aside0.mk A510
     clear A510
     by_cases c52 : t135 = true
     ·
      subst c52
      have H1 : (laws_FnExactCalibrationOf.j1 kj10 t109 t112 t120 (t123 != t112) l0_0 l0_1) = some r := by rw [if_pos rfl] at H; exact H
      clear H
      have H := H1
      clear H1
      have H' := Aside0.mk H
      clear H
      obtain ⟨Ao53, co53, eo53⟩ := Kd.R_slice HO_7.out
      subst eo53
      obtain ⟨Ao54, co54, eo54⟩ := Kd.R_slice HO_4.out
      subst eo54
      go_wp2_with (first | (go_at_call 47; (with_reducible refine (laws_eqShareS.calls kj10 _ _ t120 _ _ t109 true _ ?side1 ?side2 ?side3 ?side4 A51.out).mono ?_); (case side1 => repeat (first | exact (Kd.R_reads' HO_7.out).2.2 | (with_reducible refine Kd.C_alloc ?_ _) | (with_reducible refine Kd.C_drewN ?_ _) | (with_reducible refine Kd.C_drew ?_))); (case side2 => exact (Kd.R_reads' HO_7.out).2.1); (case side3 => repeat (first | exact (Kd.R_reads' HO_4.out).2.2 | (with_reducible refine Kd.C_alloc ?_ _) | (with_reducible refine Kd.C_drewN ?_ _) | (with_reducible refine Kd.C_drew ?_))); (case side4 => exact (Kd.R_reads' HO_4.out).2.1); rintro e w55 ⟨rfl, hb⟩; have n0_ := aK (Kd.R_below (pR HO_4.out) hb); have n1_ := aK (Kd.R_below (pR HO_7.out) hb); have n2_ := aK (Kd.R_below (pR HO_120000.out) hb); have n3_ := aK (Kd.R_below (pR HO_120001.out) hb); have n4_ := aK (Kd.R_below (pR HO127.out) hb); have n5_ := aK (Kd.R_below (pR HO130.out) hb); replace BK101 := bB BK101 hb; replace HB := bS HB hb; clear HO_4 HO_7 HO_120000 HO_120001 HO127 HO130; have HO_4 := n0_; have HO_7 := n1_; have HO_120000 := n2_; have HO_120001 := n3_; have HO127 := n4_; have HO130 := n5_; clear n0_ n1_ n2_ n3_ n4_ n5_; (try clear hb); (try clear hb2); (try clear hk); (try clear hi)))
      go_meet
      case rel => exact ⟨_, ((t123 != t112)), (by first | rfl | (simp; done) | (simp [*]; done)), H', ⟨by have := HJ10.out; first | omega | exact Nat.le_refl _⟩, ⟨by (with_reducible repeat (first | apply Kd.R_alloc | apply Kd.R_drewN | apply Kd.R_drew)); exact HO_4.out⟩, ⟨by (with_reducible repeat (first | apply Kd.R_alloc | apply Kd.R_drewN | apply Kd.R_drew)); exact HO_7.out⟩, ⟨by refine bk ?_; exact BK101.out⟩, ⟨pT HB.out⟩⟩
     replace c52 := Bool.eq_false_iff.mpr c52
     subst c52
     have H1 : (laws_FnExactCalibrationOf.j1 kj10 t109 t112 t120 true l0_0 l0_1) = some r := by rw [if_neg (show ¬ (false = true) by decide)] at H; exact H
     clear H
     have H := H1
     clear H1
     have H' := Aside0.mk H
     clear H
     obtain ⟨Ao56, co56, eo56⟩ := Kd.R_slice HO_7.out
     subst eo56
     obtain ⟨Ao57, co57, eo57⟩ := Kd.R_slice HO_4.out
     subst eo57
     go_wp2_with (first | (go_at_call 47; (with_reducible refine (laws_eqShareS.calls kj10 _ _ t120 _ _ t109 false _ ?side1 ?side2 ?side3 ?side4 A51.out).mono ?_); (case side1 => repeat (first | exact (Kd.R_reads' HO_7.out).2.2 | (with_reducible refine Kd.C_alloc ?_ _) | (with_reducible refine Kd.C_drewN ?_ _) | (with_reducible refine Kd.C_drew ?_))); (case side2 => exact (Kd.R_reads' HO_7.out).2.1); (case side3 => repeat (first | exact (Kd.R_reads' HO_4.out).2.2 | (with_reducible refine Kd.C_alloc ?_ _) | (with_reducible refine Kd.C_drewN ?_ _) | (with_reducible refine Kd.C_drew ?_))); (case side4 => exact (Kd.R_reads' HO_4.out).2.1); rintro e w58 ⟨rfl, hb⟩; have n0_ := aK (Kd.R_below (pR HO_4.out) hb); have n1_ := aK (Kd.R_below (pR HO_7.out) hb); have n2_ := aK (Kd.R_below (pR HO_120000.out) hb); have n3_ := aK (Kd.R_below (pR HO_120001.out) hb); have n4_ := aK (Kd.R_below (pR HO127.out) hb); have n5_ := aK (Kd.R_below (pR HO130.out) hb); replace BK101 := bB BK101 hb; replace HB := bS HB hb; clear HO_4 HO_7 HO_120000 HO_120001 HO127 HO130; have HO_4 := n0_; have HO_7 := n1_; have HO_120000 := n2_; have HO_120001 := n3_; have HO127 := n4_; have HO130 := n5_; clear n0_ n1_ n2_ n3_ n4_ n5_; (try clear hb); (try clear hb2); (try clear hk); (try clear hi)))
     go_meet
     case rel => exact ⟨_, (true), (by first | rfl | (simp; done) | (simp [*]; done)), H', ⟨by have := HJ10.out; first | omega | exact Nat.le_refl _⟩, ⟨by (with_reducible repeat (first | apply Kd.R_alloc | apply Kd.R_drewN | apply Kd.R_drew)); exact HO_4.out⟩, ⟨by (with_reducible repeat (first | apply Kd.R_alloc | apply Kd.R_drewN | apply Kd.R_drew)); exact HO_7.out⟩, ⟨by refine bk ?_; exact BK101.out⟩, ⟨pT HB.out⟩⟩
    case rest =>
     clear HC41
     try clear c2
     try clear p2
     try clear c3
     try clear c3b0
     try clear c4
     try clear c5
     try clear c9
     try clear c24
     try clear c29
     try clear c34
     try clear c36
     try clear c39
     try clear c40
     try clear c45
     try clear c46
     try clear c47
     try clear c50
     try clear c50b0
     try clear c52
     try clear hcz13_0
     try clear hcz13_1
     try clear hcz15_0
     try clear hcz15_1
     try clear hcz20_0
     try clear hcz20_1
     try clear hcz25_0
     try clear hcz25_1
     try clear hcz48_0
     try clear hcz48_1
     try clear hcz5_0
     try clear hcz5_1
     try clear hfz13_0
     try clear hfz13_1
     try clear hfz15_0
     try clear hfz15_1
     try clear hfz20_0
     try clear hfz20_1
     try clear hfz25_0
     try clear hfz25_1
     try clear hfz48_0
     try clear hfz48_1
     try clear hfz5_0
     try clear hfz5_1
     try clear p2
     obtain ⟨kq, x61_40, rfl, HA, HJ40, HO_4, HO_7, BK101, HB⟩ := hcut
     cases kq with
     | zero => exact absurd HA.out (by simp [laws_FnExactCalibrationOf.j1])
     | succ kj40 =>
      have H := HA.out
      clear HA
      simp only [laws_FnExactCalibrationOf.j1] at H
      by_cases c59 : x61_40 = true
      ·
       subst c59
       have H1 : (some false) = some r := by rw [if_pos rfl] at H; exact H
       clear H
       have H := H1
       clear H1
       obtain rfl := Option.some.inj H
       go_wp2
       go_ret
       exact ⟨by first | rfl | (simp [errW_none, errW_some] <;> rfl) | (simp [*, errW_none, errW_some] <;> rfl), pT HB.out⟩
      replace c59 := Bool.eq_false_iff.mpr c59
      subst c59
      have H1 : ((laws_markShareS.f kj40 t120 1).bind fun bt136 => ((laws_heldShareS.f kj40 bt136.2 1).bind fun t138 => (if t138 < 0 then (some false) else (if t138 = bt136.1 then ((laws_toTally.f kj40 l0_0 l0_1).bind fun bt139 => ((impl_CalibrationOf.f kj40 bt139.1 bt139.2).bind fun bt145 => ((laws_eqShareS.f kj40 bt145.1 t109).bind fun t149 => (if t149 = true then (laws_FnExactCalibrationOf.j2 kj40 bt136.2 bt136.1 (bt145.2 != t112)) else (laws_FnExactCalibrationOf.j2 kj40 bt136.2 bt136.1 true))))) else (some false))))) = some r := by rw [if_neg (show ¬ (false = true) by decide)] at H; exact H
      clear H
      have H := H1
      clear H1
      replace H := Option.bind_eq_some_iff.mp H
      obtain ⟨⟨t136, t137⟩, A600, H⟩ := H
      replace H : ((laws_heldShareS.f kj40 t137 1).bind fun t138 => (if t138 < 0 then (some false) else (if t138 = t136 then ((laws_toTally.f kj40 l0_0 l0_1).bind fun bt139 => ((impl_CalibrationOf.f kj40 bt139.1 bt139.2).bind fun bt145 => ((laws_eqShareS.f kj40 bt145.1 t109).bind fun t149 => (if t149 = true then (laws_FnExactCalibrationOf.j2 kj40 t137 t136 (bt145.2 != t112)) else (laws_FnExactCalibrationOf.j2 kj40 t137 t136 true))))) else (some false)))) = some r := H
      have A60 := Aside0.mk A600
      clear A600
      replace H := Option.bind_eq_some_iff.mp H
      obtain ⟨t138, A610, H⟩ := H
      replace H : (if t138 < 0 then (some false) else (if t138 = t136 then ((laws_toTally.f kj40 l0_0 l0_1).bind fun bt139 => ((impl_CalibrationOf.f kj40 bt139.1 bt139.2).bind fun bt145 => ((laws_eqShareS.f kj40 bt145.1 t109).bind fun t149 => (if t149 = true then (laws_FnExactCalibrationOf.j2 kj40 t137 t136 (bt145.2 != t112)) else (laws_FnExactCalibrationOf.j2 kj40 t137 t136 true))))) else (some false))) = some r := H
      have A61 := Aside0.mk A610
      clear A610
      by_cases c62 : t138 < 0
      ·
       rw [if_pos c62] at H
       have c62b0 : decide (t138 < 0) = true := decide_eq_true c62
       clear c62
       obtain rfl := Option.some.inj H
       obtain ⟨Ao63, co63, eo63⟩ := Kd.R_slice HO_7.out
       subst eo63
       go_wp2_with (first | ((with_reducible refine gate_callee (f := 48) rfl ?_); refine gl (some 64) Try.func48 #[.slice Ao63 t120.length co63, .int .i64 1] ?_; (with_reducible refine (laws_markShareS.calls kj40 (fun k_ => some k_ = (.slice Ao63 t120.length co63 : Value).ownBlock) (.slice Ao63 t120.length co63) t120 1 t136 t137 w _ ?side1 ?side2 A60.out).mono ?_); (case side1 => exact pT HB.out); (case side2 => exact Kd.R_tight rfl HO_7.out); rintro e w64 ⟨rfl, hy0, hb, hkp⟩; refine ⟨_, rfl, ?_⟩; have n0_ := aK (Kd.R_mono (ok' := fun k_ => some k_ ≠ (.slice Ao63 t120.length co63 : Value).ownBlock) (Kd.R_keptB (HO_4.out) hkp (fun k_ hk_ hs_ => (hk_) hs_)) (fun k_ hk_ => hk_.1)); have n1_ := aK (Kd.R_reok rfl hy0 (fun k_ e_ => HO_7.out.1 k_ e_)); have n2_ := aK (hb); clear HO_4 HO_7 HB; have HO_4 := n0_; have HO_7 := n1_; have HB := n2_; clear n0_ n1_ n2_; (try clear hb); (try clear hkp); (try clear hy0)) | ((with_reducible refine gate_callee (f := 49) rfl ?_); refine goesL_ (some 67) rfl rfl Try.func49 (by kernel_rfl) rfl #[.slice Ao63 t137.length co63, .int .i64 1] rfl (by (try simp only [List.map_toArray, List.map_cons, List.map_nil]); first | done | (rw [show t137.length = t120.length from (Kd.R_reads' HO_7.out).1.symm] <;> rfl) | rfl | (simp only [List.length_drop, List.length_take]; rfl)) ?_; (with_reducible refine (laws_heldShareS.calls kj40 _ _ t137 1 t138 _ ?side1 ?side2 A61.out).mono ?_); (case side1 => repeat (first | exact (Kd.R_reads' HO_7.out).2.2 | (with_reducible refine Kd.C_alloc ?_ _) | (with_reducible refine Kd.C_drewN ?_ _) | (with_reducible refine Kd.C_drew ?_))); (case side2 => rw [show t137.length = t120.length from (Kd.R_reads' HO_7.out).1.symm]; exact (Kd.R_reads' HO_7.out).2.1); rintro e w' ⟨rfl, ⟨nd, rfl⟩⟩; refine ⟨_, rfl, ?_⟩))
       go_ret
       exact ⟨by first | rfl | (simp [errW_none, errW_some] <;> rfl) | (simp [*, errW_none, errW_some] <;> rfl), pT HB.out⟩
      rw [if_neg c62] at H
      have c62b0 : decide (t138 < 0) = false := decide_eq_false c62
      clear c62
      by_cases c65 : t138 = t136
      ·
       rw [if_pos c65] at H
       have c65b0 : (t138 == t136) = true := beq_iff_eq.mpr c65
       have c65b1 : (t138 != t136) = false := bne_eq_false_iff_eq.mpr c65
       clear c65
       replace H := Option.bind_eq_some_iff.mp H
       obtain ⟨⟨t139, t142⟩, A660, H⟩ := H
       replace H : ((impl_CalibrationOf.f kj40 t139 t142).bind fun bt145 => ((laws_eqShareS.f kj40 bt145.1 t109).bind fun t149 => (if t149 = true then (laws_FnExactCalibrationOf.j2 kj40 t137 t136 (bt145.2 != t112)) else (laws_FnExactCalibrationOf.j2 kj40 t137 t136 true)))) = some r := H
       have A66 := Aside0.mk A660
       clear A660
       replace H := Option.bind_eq_some_iff.mp H
       obtain ⟨⟨t145, t148⟩, A670, H⟩ := H
       replace H : ((laws_eqShareS.f kj40 t145 t109).bind fun t149 => (if t149 = true then (laws_FnExactCalibrationOf.j2 kj40 t137 t136 (t148 != t112)) else (laws_FnExactCalibrationOf.j2 kj40 t137 t136 true))) = some r := H
       have A67 := Aside0.mk A670
       clear A670
       have HC68 := Aside0.mk H
       clear H
       obtain ⟨Ao69, co69, eo69⟩ := Kd.R_slice HO_7.out
       subst eo69
       go_upto_region 25 with (first | ((with_reducible refine gate_callee (f := 48) rfl ?_); refine gl (some 64) Try.func48 #[.slice Ao69 t120.length co69, .int .i64 1] ?_; (with_reducible refine (laws_markShareS.calls kj40 (fun k_ => some k_ = (.slice Ao69 t120.length co69 : Value).ownBlock) (.slice Ao69 t120.length co69) t120 1 t136 t137 w _ ?side1 ?side2 A60.out).mono ?_); (case side1 => exact pT HB.out); (case side2 => exact Kd.R_tight rfl HO_7.out); rintro e w70 ⟨rfl, hy0, hb, hkp⟩; refine ⟨_, rfl, ?_⟩; have n0_ := aK (Kd.R_mono (ok' := fun k_ => some k_ ≠ (.slice Ao69 t120.length co69 : Value).ownBlock) (Kd.R_keptB (HO_4.out) hkp (fun k_ hk_ hs_ => (hk_) hs_)) (fun k_ hk_ => hk_.1)); have n1_ := aK (Kd.R_reok rfl hy0 (fun k_ e_ => HO_7.out.1 k_ e_)); have n2_ := aK (blk_kept (pB BK101.out) hkp (fun hs_ => (fun e_ => (Kd.R_ne HO_7.out BK101.out (by decide)) e_) hs_)); have n3_ := aK (hb); clear HO_4 HO_7 BK101 HB; have HO_4 := n0_; have HO_7 := n1_; have BK101 := n2_; have HB := n3_; clear n0_ n1_ n2_ n3_; (try clear hb); (try clear hkp); (try clear hy0)) | ((with_reducible refine gate_callee (f := 49) rfl ?_); refine goesL_ (some 67) rfl rfl Try.func49 (by kernel_rfl) rfl #[.slice Ao69 t137.length co69, .int .i64 1] rfl (by (try simp only [List.map_toArray, List.map_cons, List.map_nil]); first | done | (rw [show t137.length = t120.length from (Kd.R_reads' HO_7.out).1.symm] <;> rfl) | rfl | (simp only [List.length_drop, List.length_take]; rfl)) ?_; (with_reducible refine (laws_heldShareS.calls kj40 _ _ t137 1 t138 _ ?side1 ?side2 A61.out).mono ?_); (case side1 => repeat (first | exact (Kd.R_reads' HO_7.out).2.2 | (with_reducible refine Kd.C_alloc ?_ _) | (with_reducible refine Kd.C_drewN ?_ _) | (with_reducible refine Kd.C_drew ?_))); (case side2 => rw [show t137.length = t120.length from (Kd.R_reads' HO_7.out).1.symm]; exact (Kd.R_reads' HO_7.out).2.1); rintro e w' ⟨rfl, ⟨nd, rfl⟩⟩; refine ⟨_, rfl, ?_⟩; have hcz71_0 : w70.cell? ⟨gb101, 0, none⟩ = some (.slice A0_0 l0_0.length c0_0) := (blk_cell BK101.out 0).trans rfl; have hcz71_1 : w70.cell? ⟨gb101, 1, none⟩ = some (.slice A0_1 l0_1.length c0_1) := (blk_cell BK101.out 1).trans rfl; have hfz71_0 := blk_frozen BK101.out 0; have hfz71_1 := blk_frozen BK101.out 1) | ((with_reducible refine gate_callee (f := 36) rfl ?_); refine gl (some 75) Try.func36 #[.agg #[.slice A0_0 l0_0.length c0_0, .slice A0_1 l0_1.length c0_1]] ?_; (with_reducible refine (laws_toTally.calls kj40 _ _ l0_0 _ _ l0_1 t139 t142 _ ?side1 ?side2 ?side3 ?side4 A66.out).mono ?_); (case side1 => exact pC (Kd.C_below HR0_0.out (pS HB.out))); (case side2 => exact HC0_0.out); (case side3 => exact pC (Kd.C_below HR0_1.out (pS HB.out))); (case side4 => exact HC0_1.out); rintro e w72 ⟨v140, v143, rfl, ho0, ho1, hb⟩; refine ⟨_, rfl, ?_⟩; have n0_ := aK (Kd.R_below (pR HO_4.out) hb); have n1_ := aK (Kd.R_below (pR HO_7.out) hb); have HO141 := aK (Kd.R_lower ho0 (below_size (pS HB.out))); have HO144 := aK (Kd.R_lower ho1 (below_size (pS HB.out))); replace HB := bS HB hb; clear HO_4 HO_7; have HO_4 := n0_; have HO_7 := n1_; clear n0_ n1_; (try clear hb); (try clear hb2); (try clear hk); (try clear hi); (try clear ho0); (try clear ho1); obtain ⟨Ao73, co73, eo73⟩ := Kd.R_slice HO141.out; subst eo73; obtain ⟨Ao74, co74, eo74⟩ := Kd.R_slice HO144.out; subst eo74) | ((with_reducible refine gate_callee (f := 46) rfl ?_); refine gl (some 76) Try.func46 #[.agg #[.slice Ao73 t139.length co73, .slice Ao74 t142.length co74]] ?_; (with_reducible refine (impl_CalibrationOf.calls kj40 _ _ t139 _ _ t142 t145 t148 _ ?side1 ?side2 ?side3 ?side4 A67.out).mono ?_); (case side1 => repeat (first | exact (Kd.R_reads' HO141.out).2.2 | (with_reducible refine Kd.C_alloc ?_ _) | (with_reducible refine Kd.C_drewN ?_ _) | (with_reducible refine Kd.C_drew ?_))); (case side2 => exact (Kd.R_reads' HO141.out).2.1); (case side3 => repeat (first | exact (Kd.R_reads' HO144.out).2.2 | (with_reducible refine Kd.C_alloc ?_ _) | (with_reducible refine Kd.C_drewN ?_ _) | (with_reducible refine Kd.C_drew ?_))); (case side4 => exact (Kd.R_reads' HO144.out).2.1); rintro e w75 ⟨v146, rfl, ho0, hb⟩; refine ⟨_, rfl, ?_⟩; have n0_ := aK (Kd.R_elder' (pR HO_4.out) (Kd.R_base ho0) hb); have n1_ := aK (Kd.R_elder' (pR HO_7.out) (Kd.R_base ho0) hb); have n2_ := aK (Kd.R_below (pR HO141.out) hb); have n3_ := aK (Kd.R_below (pR HO144.out) hb); have HO147 := aK (Kd.R_lower (Kd.R_new' (Kd.R_new' ho0 (Kd.R_lt (pR HO_4.out))) (Kd.R_lt (pR HO_7.out))) (below_size (pS HB.out))); replace HB := bS HB hb; clear HO_4 HO_7 HO141 HO144; have HO_4 := n0_; have HO_7 := n1_; have HO141 := n2_; have HO144 := n3_; clear n0_ n1_ n2_ n3_; (try clear hb); (try clear hb2); (try clear hk); (try clear hi); (try clear ho0)))
       (try simp only [Act.put, List.setIfInBounds_toArray, List.set_cons_zero, List.set_cons_succ])
       go_cut [87] (fun v87 wc => ∃ (kq : Nat) (x87_67 : Bool), v87 = .bool x87_67 ∧ Aside0 (laws_FnExactCalibrationOf.j2 kq t137 t136 x87_67 = some r) ∧ Aside0 (kq ≤ kj40) ∧ Aside0 (Kd.R k89 89 wc w.heap.size (fun _ => True) (.slice Ao69 t120.length co69) t137) ∧ Aside0 (Below w.heap.size w wc))
       case first =>
        have H := HC68.out
        clear HC68
        replace H := Option.bind_eq_some_iff.mp H
        obtain ⟨t149, A760, H⟩ := H
        replace H : (if t149 = true then (laws_FnExactCalibrationOf.j2 kj40 t137 t136 (t148 != t112)) else (laws_FnExactCalibrationOf.j2 kj40 t137 t136 true)) = some r := H
        have A76 := Aside0.mk A760
        clear A760
        by_cases c77 : t149 = true
        ·
         subst c77
         have H1 : (laws_FnExactCalibrationOf.j2 kj40 t137 t136 (t148 != t112)) = some r := by rw [if_pos rfl] at H; exact H
         clear H
         have H := H1
         clear H1
         have H' := Aside0.mk H
         clear H
         obtain ⟨Ao78, co78, eo78⟩ := Kd.R_slice HO147.out
         subst eo78
         obtain ⟨Ao79, co79, eo79⟩ := Kd.R_slice HO_4.out
         subst eo79
         go_wp2_with (first | ((with_reducible refine gate_callee (f := 47) rfl ?_); refine gl (some 81) Try.func47 #[.slice Ao78 t145.length co78, .slice Ao79 t109.length co79] ?_; (with_reducible refine (laws_eqShareS.calls kj40 _ _ t145 _ _ t109 true _ ?side1 ?side2 ?side3 ?side4 A76.out).mono ?_); (case side1 => repeat (first | exact (Kd.R_reads' HO147.out).2.2 | (with_reducible refine Kd.C_alloc ?_ _) | (with_reducible refine Kd.C_drewN ?_ _) | (with_reducible refine Kd.C_drew ?_))); (case side2 => exact (Kd.R_reads' HO147.out).2.1); (case side3 => repeat (first | exact (Kd.R_reads' HO_4.out).2.2 | (with_reducible refine Kd.C_alloc ?_ _) | (with_reducible refine Kd.C_drewN ?_ _) | (with_reducible refine Kd.C_drew ?_))); (case side4 => exact (Kd.R_reads' HO_4.out).2.1); rintro e w80 ⟨rfl, hb⟩; refine ⟨_, rfl, ?_⟩; have n0_ := aK (Kd.R_below (pR HO_4.out) hb); have n1_ := aK (Kd.R_below (pR HO_7.out) hb); have n2_ := aK (Kd.R_below (pR HO141.out) hb); have n3_ := aK (Kd.R_below (pR HO144.out) hb); have n4_ := aK (Kd.R_below (pR HO147.out) hb); replace HB := bS HB hb; clear HO_4 HO_7 HO141 HO144 HO147; have HO_4 := n0_; have HO_7 := n1_; have HO141 := n2_; have HO144 := n3_; have HO147 := n4_; clear n0_ n1_ n2_ n3_ n4_; (try clear hb); (try clear hb2); (try clear hk); (try clear hi)))
         go_meet
         case rel => exact ⟨_, ((t148 != t112)), (by first | rfl | (simp; done) | (simp [*]; done)), H', ⟨by have := HJ10.out; have := HJ40.out; first | omega | exact Nat.le_refl _⟩, ⟨by (with_reducible repeat (first | apply Kd.R_alloc | apply Kd.R_drewN | apply Kd.R_drew)); exact Kd.R_mono HO_7.out (fun _ hk => trivial)⟩, ⟨pT HB.out⟩⟩
        replace c77 := Bool.eq_false_iff.mpr c77
        subst c77
        have H1 : (laws_FnExactCalibrationOf.j2 kj40 t137 t136 true) = some r := by rw [if_neg (show ¬ (false = true) by decide)] at H; exact H
        clear H
        have H := H1
        clear H1
        have H' := Aside0.mk H
        clear H
        obtain ⟨Ao81, co81, eo81⟩ := Kd.R_slice HO147.out
        subst eo81
        obtain ⟨Ao82, co82, eo82⟩ := Kd.R_slice HO_4.out
        subst eo82
        go_wp2_with (first | ((with_reducible refine gate_callee (f := 47) rfl ?_); refine gl (some 81) Try.func47 #[.slice Ao81 t145.length co81, .slice Ao82 t109.length co82] ?_; (with_reducible refine (laws_eqShareS.calls kj40 _ _ t145 _ _ t109 false _ ?side1 ?side2 ?side3 ?side4 A76.out).mono ?_); (case side1 => repeat (first | exact (Kd.R_reads' HO147.out).2.2 | (with_reducible refine Kd.C_alloc ?_ _) | (with_reducible refine Kd.C_drewN ?_ _) | (with_reducible refine Kd.C_drew ?_))); (case side2 => exact (Kd.R_reads' HO147.out).2.1); (case side3 => repeat (first | exact (Kd.R_reads' HO_4.out).2.2 | (with_reducible refine Kd.C_alloc ?_ _) | (with_reducible refine Kd.C_drewN ?_ _) | (with_reducible refine Kd.C_drew ?_))); (case side4 => exact (Kd.R_reads' HO_4.out).2.1); rintro e w83 ⟨rfl, hb⟩; refine ⟨_, rfl, ?_⟩; have n0_ := aK (Kd.R_below (pR HO_4.out) hb); have n1_ := aK (Kd.R_below (pR HO_7.out) hb); have n2_ := aK (Kd.R_below (pR HO141.out) hb); have n3_ := aK (Kd.R_below (pR HO144.out) hb); have n4_ := aK (Kd.R_below (pR HO147.out) hb); replace HB := bS HB hb; clear HO_4 HO_7 HO141 HO144 HO147; have HO_4 := n0_; have HO_7 := n1_; have HO141 := n2_; have HO144 := n3_; have HO147 := n4_; clear n0_ n1_ n2_ n3_ n4_; (try clear hb); (try clear hb2); (try clear hk); (try clear hi)))
        go_meet
        case rel => exact ⟨_, (true), (by first | rfl | (simp; done) | (simp [*]; done)), H', ⟨by have := HJ10.out; have := HJ40.out; first | omega | exact Nat.le_refl _⟩, ⟨by (with_reducible repeat (first | apply Kd.R_alloc | apply Kd.R_drewN | apply Kd.R_drew)); exact Kd.R_mono HO_7.out (fun _ hk => trivial)⟩, ⟨pT HB.out⟩⟩
       case rest =>
        clear HC68
        try clear c2
        try clear p2
        try clear c3
        try clear c3b0
        try clear c4
        try clear c5
        try clear c6
        try clear c7
        try clear c9
        try clear c24
        try clear c29
        try clear c34
        try clear c36
        try clear c39
        try clear c40
        try clear c45
        try clear c46
        try clear c47
        try clear c48
        try clear c49
        try clear c50
        try clear c50b0
        try clear c52
        try clear c59
        try clear c62
        try clear c62b0
        try clear c65
        try clear c65b0
        try clear c65b1
        try clear c77
        try clear hcz13_0
        try clear hcz13_1
        try clear hcz15_0
        try clear hcz15_1
        try clear hcz20_0
        try clear hcz20_1
        try clear hcz25_0
        try clear hcz25_1
        try clear hcz48_0
        try clear hcz48_1
        try clear hcz5_0
        try clear hcz5_1
        try clear hcz71_0
        try clear hcz71_1
        try clear hfz13_0
        try clear hfz13_1
        try clear hfz15_0
        try clear hfz15_1
        try clear hfz20_0
        try clear hfz20_1
        try clear hfz25_0
        try clear hfz25_1
        try clear hfz48_0
        try clear hfz48_1
        try clear hfz5_0
        try clear hfz5_1
        try clear hfz71_0
        try clear hfz71_1
        try clear p2
        obtain ⟨kq, x87_67, rfl, HA, HJ67, HO_7, HB⟩ := hcut
        have hl7_67 := (Kd.R_reads' HO_7.out).1
        rw [hl7_67] at HO_7
        (try simp only [hl7_67])
        cases kq with
        | zero => exact absurd HA.out (by simp [laws_FnExactCalibrationOf.j2])
        | succ kj67 =>
         have H := HA.out
         clear HA
         simp only [laws_FnExactCalibrationOf.j2] at H
         by_cases c84 : x87_67 = true
         ·
          subst c84
          have H1 : (some false) = some r := by rw [if_pos rfl] at H; exact H
          clear H
          have H := H1
          clear H1
          obtain rfl := Option.some.inj H
          go_wp2
          go_ret
          exact ⟨by first | rfl | (simp [errW_none, errW_some] <;> rfl) | (simp [*, errW_none, errW_some] <;> rfl), pT HB.out⟩
         replace c84 := Bool.eq_false_iff.mpr c84
         subst c84
         have H1 : ((laws_heldShareS.f kj67 t137 1).bind fun t150 => (if t150 < 0 then (some false) else (if t150 = t136 then (some true) else (some false)))) = some r := by rw [if_neg (show ¬ (false = true) by decide)] at H; exact H
         clear H
         have H := H1
         clear H1
         replace H := Option.bind_eq_some_iff.mp H
         obtain ⟨t150, A850, H⟩ := H
         replace H : (if t150 < 0 then (some false) else (if t150 = t136 then (some true) else (some false))) = some r := H
         have A85 := Aside0.mk A850
         clear A850
         by_cases c86 : t150 < 0
         ·
          rw [if_pos c86] at H
          have c86b0 : decide (t150 < 0) = true := decide_eq_true c86
          clear c86
          obtain rfl := Option.some.inj H
          go_wp2_with (first | ((with_reducible refine gate_callee (f := 49) rfl ?_); refine gl (some 90) Try.func49 #[.slice Ao69 t137.length co69, .int .i64 1] ?_; (with_reducible refine (laws_heldShareS.calls kj67 _ _ t137 1 t150 _ ?side1 ?side2 A85.out).mono ?_); (case side1 => repeat (first | exact (Kd.R_reads' HO_7.out).2.2 | (with_reducible refine Kd.C_alloc ?_ _) | (with_reducible refine Kd.C_drewN ?_ _) | (with_reducible refine Kd.C_drew ?_))); (case side2 => exact (Kd.R_reads' HO_7.out).2.1); rintro e w' ⟨rfl, ⟨nd, rfl⟩⟩; refine ⟨_, rfl, ?_⟩))
          go_ret
          exact ⟨by first | rfl | (simp [errW_none, errW_some] <;> rfl) | (simp [*, errW_none, errW_some] <;> rfl), pT HB.out⟩
         rw [if_neg c86] at H
         have c86b0 : decide (t150 < 0) = false := decide_eq_false c86
         clear c86
         by_cases c87 : t150 = t136
         ·
          rw [if_pos c87] at H
          have c87b0 : (t150 == t136) = true := beq_iff_eq.mpr c87
          have c87b1 : (t150 != t136) = false := bne_eq_false_iff_eq.mpr c87
          clear c87
          obtain rfl := Option.some.inj H
          go_wp2_with (first | ((with_reducible refine gate_callee (f := 49) rfl ?_); refine gl (some 90) Try.func49 #[.slice Ao69 t137.length co69, .int .i64 1] ?_; (with_reducible refine (laws_heldShareS.calls kj67 _ _ t137 1 t150 _ ?side1 ?side2 A85.out).mono ?_); (case side1 => repeat (first | exact (Kd.R_reads' HO_7.out).2.2 | (with_reducible refine Kd.C_alloc ?_ _) | (with_reducible refine Kd.C_drewN ?_ _) | (with_reducible refine Kd.C_drew ?_))); (case side2 => exact (Kd.R_reads' HO_7.out).2.1); rintro e w' ⟨rfl, ⟨nd, rfl⟩⟩; refine ⟨_, rfl, ?_⟩))
          go_ret
          exact ⟨by first | rfl | (simp [errW_none, errW_some] <;> rfl) | (simp [*, errW_none, errW_some] <;> rfl), pT HB.out⟩
         rw [if_neg c87] at H
         have c87b0 : (t150 == t136) = false := beq_eq_false_iff_ne.mpr c87
         have c87b1 : (t150 != t136) = true := bne_iff_ne.mpr c87
         obtain rfl := Option.some.inj H
         go_wp2_with (first | ((with_reducible refine gate_callee (f := 49) rfl ?_); refine gl (some 90) Try.func49 #[.slice Ao69 t137.length co69, .int .i64 1] ?_; (with_reducible refine (laws_heldShareS.calls kj67 _ _ t137 1 t150 _ ?side1 ?side2 A85.out).mono ?_); (case side1 => repeat (first | exact (Kd.R_reads' HO_7.out).2.2 | (with_reducible refine Kd.C_alloc ?_ _) | (with_reducible refine Kd.C_drewN ?_ _) | (with_reducible refine Kd.C_drew ?_))); (case side2 => exact (Kd.R_reads' HO_7.out).2.1); rintro e w' ⟨rfl, ⟨nd, rfl⟩⟩; refine ⟨_, rfl, ?_⟩))
         go_ret
         exact ⟨by first | rfl | (simp [errW_none, errW_some] <;> rfl) | (simp [*, errW_none, errW_some] <;> rfl), pT HB.out⟩
      rw [if_neg c65] at H
      have c65b0 : (t138 == t136) = false := beq_eq_false_iff_ne.mpr c65
      have c65b1 : (t138 != t136) = true := bne_iff_ne.mpr c65
      obtain rfl := Option.some.inj H
      obtain ⟨Ao88, co88, eo88⟩ := Kd.R_slice HO_7.out
      subst eo88
      go_wp2_with (first | ((with_reducible refine gate_callee (f := 48) rfl ?_); refine gl (some 64) Try.func48 #[.slice Ao88 t120.length co88, .int .i64 1] ?_; (with_reducible refine (laws_markShareS.calls kj40 (fun k_ => some k_ = (.slice Ao88 t120.length co88 : Value).ownBlock) (.slice Ao88 t120.length co88) t120 1 t136 t137 w _ ?side1 ?side2 A60.out).mono ?_); (case side1 => exact pT HB.out); (case side2 => exact Kd.R_tight rfl HO_7.out); rintro e w89 ⟨rfl, hy0, hb, hkp⟩; refine ⟨_, rfl, ?_⟩; have n0_ := aK (Kd.R_mono (ok' := fun k_ => some k_ ≠ (.slice Ao88 t120.length co88 : Value).ownBlock) (Kd.R_keptB (HO_4.out) hkp (fun k_ hk_ hs_ => (hk_) hs_)) (fun k_ hk_ => hk_.1)); have n1_ := aK (Kd.R_reok rfl hy0 (fun k_ e_ => HO_7.out.1 k_ e_)); have n2_ := aK (hb); clear HO_4 HO_7 HB; have HO_4 := n0_; have HO_7 := n1_; have HB := n2_; clear n0_ n1_ n2_; (try clear hb); (try clear hkp); (try clear hy0)) | ((with_reducible refine gate_callee (f := 49) rfl ?_); refine goesL_ (some 67) rfl rfl Try.func49 (by kernel_rfl) rfl #[.slice Ao88 t137.length co88, .int .i64 1] rfl (by (try simp only [List.map_toArray, List.map_cons, List.map_nil]); first | done | (rw [show t137.length = t120.length from (Kd.R_reads' HO_7.out).1.symm] <;> rfl) | rfl | (simp only [List.length_drop, List.length_take]; rfl)) ?_; (with_reducible refine (laws_heldShareS.calls kj40 _ _ t137 1 t138 _ ?side1 ?side2 A61.out).mono ?_); (case side1 => repeat (first | exact (Kd.R_reads' HO_7.out).2.2 | (with_reducible refine Kd.C_alloc ?_ _) | (with_reducible refine Kd.C_drewN ?_ _) | (with_reducible refine Kd.C_drew ?_))); (case side2 => rw [show t137.length = t120.length from (Kd.R_reads' HO_7.out).1.symm]; exact (Kd.R_reads' HO_7.out).2.1); rintro e w' ⟨rfl, ⟨nd, rfl⟩⟩; refine ⟨_, rfl, ?_⟩))
      go_ret
      exact ⟨by first | rfl | (simp [errW_none, errW_some] <;> rfl) | (simp [*, errW_none, errW_some] <;> rfl), pT HB.out⟩
   replace c39 := Bool.eq_false_iff.mpr c39
   subst c39
   have H1 : (some false) = some r := by rw [if_neg (show ¬ (false = true) by decide)] at H; exact H
   clear H
   have H := H1
   clear H1
   obtain rfl := Option.some.inj H
   try go_wp2
   have n0_ := aK (Kd.R_drew HO_4.out)
   have n1_ := aK (Kd.R_drew HO_7.out)
   have n2_ := aK (Kd.R_drew HO_120000.out)
   have n3_ := aK (Kd.R_drew HO_120001.out)
   have n4_ := aK (blk_drew BK101.out)
   have n5_ := aK (blk_drew BK119.out)
   have n6_ := aK (below_drew1 HB.out)
   clear HO_4 HO_7 HO_120000 HO_120001 BK101 BK119 HB
   have HO_4 := n0_
   have HO_7 := n1_
   have HO_120000 := n2_
   have HO_120001 := n3_
   have BK101 := n4_
   have BK119 := n5_
   have HB := n6_
   clear n0_ n1_ n2_ n3_ n4_ n5_ n6_
   refine start_ (n := 5) (S := fun w' => w'.cell? ⟨gb119, 0, none⟩ = some (.slice Ao23 t113.length co23) ∧ w'.cell? ⟨gb119, 1, none⟩ = some (.slice Ao26 t116.length co26) ∧ w'.cell? ⟨gb101, 0, none⟩ = some (.slice A0_0 l0_0.length c0_0) ∧ w'.cell? ⟨gb101, 1, none⟩ = some (.slice A0_1 l0_1.length c0_1)) (ds := []) #[false, false, false, false, false] (by kernel_rfl) rfl rfl ⟨(blk_cell BK119.out 0).trans rfl, (blk_cell BK119.out 1).trans rfl, (blk_cell BK101.out 0).trans rfl, (blk_cell BK101.out 1).trans rfl⟩ (fun hHeld => ?_)
   generalize wc.drew = w90 at HO_4 HO_7 HO_120000 HO_120001 BK101 BK119 HB hHeld ⊢
   refine take_ (i := 0) (N := some 41) (v := ?_) (a' := ?_) #[true, false, false, false, false] rfl rfl (by kernel_rfl) (fun _ _ _ h => h) (Or.inl ⟨by rfl, ?_⟩) hHeld ?_ ?_
   rotate_left
   ·
    rintro w' ⟨s0, s1, s2, s3⟩
    go_simp
    with_reducible rfl
   rotate_left
   ·
    simp only [Act.put, List.setIfInBounds_toArray, List.set_cons_zero, List.set_cons_succ, i64_w, i32_w]
    rfl
   refine take_ (i := 1) (N := some 42) (v := ?_) (a' := ?_) #[true, true, false, false, false] rfl rfl (by kernel_rfl) (fun _ _ _ h => h) (Or.inl ⟨by rfl, ?_⟩) hHeld ?_ ?_
   rotate_left
   ·
    rintro w' ⟨s0, s1, s2, s3⟩
    go_simp
    with_reducible rfl
   rotate_left
   ·
    simp only [Act.put, List.setIfInBounds_toArray, List.set_cons_zero, List.set_cons_succ, i64_w, i32_w]
    rfl
   refine one_ (i := 2) (N := some 43) #[true, true, true, false, false] rfl rfl (by kernel_rfl) (by decide) (fun K hK => ?_)
   refine goes_ Try.func36 (by kernel_rfl) rfl #[.agg #[.slice A0_0 l0_0.length c0_0, .slice A0_1 l0_1.length c0_1]] (by rfl) rfl rfl (by (try simp only [List.map_toArray, List.map_cons, List.map_nil]); first | done | rfl | (simp only [List.length_drop, List.length_take]; rfl)) ?_
   with_reducible refine (laws_toTally.calls kj10 _ _ l0_0 _ _ l0_1 t125 t128 _ ?side1 ?side2 ?side3 ?side4 A37.out).mono ?_
   (case side1 => exact pC (Kd.C_below HR0_0.out HB.out))
   (case side2 => exact HC0_0.out)
   (case side3 => exact pC (Kd.C_below HR0_1.out HB.out))
   (case side4 => exact HC0_1.out)
   rintro e w91 ⟨v126, v129, rfl, ho0, ho1, hb⟩
   refine ⟨_, rfl, ?_⟩
   have n0_ := aK (Kd.R_below (pR HO_4.out) hb)
   have n1_ := aK (Kd.R_below (pR HO_7.out) hb)
   have n2_ := aK (Kd.R_mono (Kd.R_told (Kd.R_told (Kd.R_old (pR HO_120000.out) hb) (Kd.R_base ho0)) (Kd.R_base ho1)) (fun _ h_ => h_.1))
   have n3_ := aK (Kd.R_mono (Kd.R_told (Kd.R_told (Kd.R_old (pR HO_120001.out) hb) (Kd.R_base ho0)) (Kd.R_base ho1)) (fun _ h_ => h_.1))
   have HO127 := aK (Kd.R_lower (Kd.R_new' (Kd.R_new' ho0 (Kd.R_lt (pR HO_120000.out))) (Kd.R_lt (pR HO_120001.out))) (below_size (pS HB.out)))
   have HO130 := aK (Kd.R_lower (Kd.R_new' (Kd.R_new' ho1 (Kd.R_lt (pR HO_120000.out))) (Kd.R_lt (pR HO_120001.out))) (below_size (pS HB.out)))
   replace BK101 := bB BK101 hb
   replace BK119 := bB BK119 hb
   replace HB := bS HB hb
   clear HO_4 HO_7 HO_120000 HO_120001
   have HO_4 := n0_
   have HO_7 := n1_
   have HO_120000 := n2_
   have HO_120001 := n3_
   clear n0_ n1_ n2_ n3_
   (try clear hb)
   (try clear hb2)
   (try clear hk)
   (try clear hi)
   (try clear ho0)
   (try clear ho1)
   obtain ⟨Ao92, co92, eo92⟩ := Kd.R_slice HO127.out
   (first | subst eo92 | (injection eo92 with f1_ f2_ f3_; have f4_ := f1_.symm; have f5_ := f3_.symm; clear f1_ f2_ f3_; subst f4_; subst f5_))
   obtain ⟨Ao93, co93, eo93⟩ := Kd.R_slice HO130.out
   (first | subst eo93 | (injection eo93 with f1_ f2_ f3_; have f4_ := f1_.symm; have f5_ := f3_.symm; clear f1_ f2_ f3_; subst f4_; subst f5_))
   refine hK.out _ _ ⟨(blk_cell BK119.out 0).trans rfl, (blk_cell BK119.out 1).trans rfl, (blk_cell BK101.out 0).trans rfl, (blk_cell BK101.out 1).trans rfl⟩ (fun hHeld => ?_)
   clear hK K
   refine norm_ (a' := ?_) ?_ ?_
   rotate_left
   ·
    show Act.put _ (some 43) _ = _
    simp only [Act.put, List.setIfInBounds_toArray, List.set_cons_zero, List.set_cons_succ, i64_w, i32_w]
    rfl
   refine one_ (i := 3) (N := some 44) #[true, true, true, true, false] rfl rfl (by kernel_rfl) (by decide) (fun K hK => ?_)
   refine goes_ Try.func39 (by kernel_rfl) rfl #[.agg #[.slice Ao23 t113.length co23, .slice Ao26 t116.length co26], .agg #[.slice Ao92 t125.length co92, .slice Ao93 t128.length co93]] (by rfl) rfl rfl (by (try simp only [List.map_toArray, List.map_cons, List.map_nil]); first | done | rfl | (simp only [List.length_drop, List.length_take]; rfl)) ?_
   with_reducible refine (laws_eqTally.calls kj10 _ _ t113 _ _ t116 _ _ t125 _ _ t128 false _ ?side1 ?side2 ?side3 ?side4 ?side5 ?side6 ?side7 ?side8 A38.out).mono ?_
   (case side1 => repeat (first | exact (Kd.R_reads' HO_120000.out).2.2 | (with_reducible refine Kd.C_alloc ?_ _) | (with_reducible refine Kd.C_drewN ?_ _) | (with_reducible refine Kd.C_drew ?_)))
   (case side2 => exact (Kd.R_reads' HO_120000.out).2.1)
   (case side3 => repeat (first | exact (Kd.R_reads' HO_120001.out).2.2 | (with_reducible refine Kd.C_alloc ?_ _) | (with_reducible refine Kd.C_drewN ?_ _) | (with_reducible refine Kd.C_drew ?_)))
   (case side4 => exact (Kd.R_reads' HO_120001.out).2.1)
   (case side5 => repeat (first | exact (Kd.R_reads' HO127.out).2.2 | (with_reducible refine Kd.C_alloc ?_ _) | (with_reducible refine Kd.C_drewN ?_ _) | (with_reducible refine Kd.C_drew ?_)))
   (case side6 => exact (Kd.R_reads' HO127.out).2.1)
   (case side7 => repeat (first | exact (Kd.R_reads' HO130.out).2.2 | (with_reducible refine Kd.C_alloc ?_ _) | (with_reducible refine Kd.C_drewN ?_ _) | (with_reducible refine Kd.C_drew ?_)))
   (case side8 => exact (Kd.R_reads' HO130.out).2.1)
   rintro e w94 ⟨rfl, hb⟩
   refine ⟨_, rfl, ?_⟩
   have n0_ := aK (Kd.R_below (pR HO_4.out) hb)
   have n1_ := aK (Kd.R_below (pR HO_7.out) hb)
   have n2_ := aK (Kd.R_below (pR HO_120000.out) hb)
   have n3_ := aK (Kd.R_below (pR HO_120001.out) hb)
   have n4_ := aK (Kd.R_below (pR HO127.out) hb)
   have n5_ := aK (Kd.R_below (pR HO130.out) hb)
   replace BK101 := bB BK101 hb
   replace BK119 := bB BK119 hb
   replace HB := bS HB hb
   clear HO_4 HO_7 HO_120000 HO_120001 HO127 HO130
   have HO_4 := n0_
   have HO_7 := n1_
   have HO_120000 := n2_
   have HO_120001 := n3_
   have HO127 := n4_
   have HO130 := n5_
   clear n0_ n1_ n2_ n3_ n4_ n5_
   (try clear hb)
   (try clear hb2)
   (try clear hk)
   (try clear hi)
   refine hK.out _ _ ⟨(blk_cell BK119.out 0).trans rfl, (blk_cell BK119.out 1).trans rfl, (blk_cell BK101.out 0).trans rfl, (blk_cell BK101.out 1).trans rfl⟩ (fun hHeld => ?_)
   clear hK K
   refine norm_ (a' := ?_) ?_ ?_
   rotate_left
   ·
    show Act.put _ (some 44) _ = _
    simp only [Act.put, List.setIfInBounds_toArray, List.set_cons_zero, List.set_cons_succ, i64_w, i32_w]
    rfl
   refine pure_ (i := 4) (N := some 45) (v := ?_) (a' := ?_) #[true, true, true, true, true] rfl rfl (by kernel_rfl) (fun _ _ _ h => h) (Or.inl ⟨by rfl, ?_⟩) ?_ ?_
   rotate_left
   ·
    intro w'
    go_simp
    with_reducible rfl
   rotate_left
   ·
    simp only [Act.put, List.setIfInBounds_toArray, List.set_cons_zero, List.set_cons_succ, i64_w, i32_w]
    rfl
   refine done_ (by kernel_rfl) ?_
   try go_wp2
   go_ret
   exact ⟨by first | rfl | (simp [errW_none, errW_some] <;> rfl) | (simp [*, errW_none, errW_some] <;> rfl), pT HB.out⟩
def laws_FnExactCalibrationOf.Pure : Prop := ∀ (l0_0 : List Int) (l0_1 : List Int), (l0_0.length ≤ 9223372036854775807 ∧ ∀ z0 ∈ l0_0, (Lit.int .i64 z0).wf = true) → (l0_1.length ≤ 9223372036854775807 ∧ ∀ z0 ∈ l0_1, (Lit.int .i64 z0).wf = true) → ∃ k, laws_FnExactCalibrationOf.f k l0_0 l0_1 = some true
end Go.Proofs.Ytmfgjknffmjjjaa.P
namespace Go.Proofs.Ytmfgjknffmjjjaa.Open
open Go.ChangeShapes Go.WideShapes Go.RowKit Go.Deep Go.Joins Go.Proofs.YtmfgjknffmjjjaaW.PrintWords
def Opens {α : Type} (P : Program) (t : TypeId) (d : Kd α) (wf : α → Prop) : Prop :=
  ∀ {H : Type} {enc : TypeId × Value → H} {W : World} {fuel : Nat} {cs : List Value} {x : DataW H × List MemPlace},
    DataW.trod enc P W 0 (fun _ => true) true fuel t cs = some x → ∃ y, d.K W y cs ∧ wf y
theorem opens_int {P : Program} {t : TypeId} {k : IntKind} (h : P.underlying t = some (.int k)) : Opens P t (Kd.int k) (fun n => (Lit.int k n).wf = true) := by
  intro H enc W fuel cs x hx
  obtain ⟨n, rfl, _, hw⟩ := DataW.trod_int h hx
  exact ⟨n, rfl, hw⟩
theorem list_of {α : Type} {p : Nat → α → Prop} : ∀ (n : Nat), (∀ i, i < n → ∃ y, p i y) → ∃ ys : List α, ys.length = n ∧ ∀ (i : Nat) (y : α), ys[i]? = some y → p i y
  | 0, _ => ⟨[], rfl, fun i y h => by simp at h⟩
  | n + 1, h => by
    obtain ⟨ys, hl, hy⟩ := list_of n (fun i hi => h i (by omega))
    obtain ⟨y, hp⟩ := h n (by omega)
    refine ⟨ys ++ [y], by simp [hl], fun i z hz => ?_⟩
    by_cases hi : i < n
    · rw [List.getElem?_append_left (by omega)] at hz
      exact hy i z hz
    · have hi2 : i = n := by
        have := (List.getElem?_eq_some_iff.1 hz).1
        simp [hl] at this
        omega
      subst hi2
      rw [List.getElem?_append_right (by omega), hl] at hz
      simp at hz
      subst hz
      exact hp
theorem opens_slice {α : Type} {P : Program} {t e : TypeId} {d : Kd α} {wf : α → Prop} (h : P.underlying t = some (.slice e)) (hc : P.cellsOf e = d.sz) (he : Opens P e d wf) :
    Opens P t (Kd.slice e d) (fun l => l.length ≤ 9223372036854775807 ∧ ∀ x ∈ l, wf x) := by
  intro H enc W fuel cs x hx
  rcases open_slice h hx with ⟨rfl, _⟩ | ⟨a, len, cap, m, n, D, Pl, rfl, _, hl, hm, hmm, _, hx⟩
  · exact ⟨[], ⟨none, 0, rfl, by simp, Kd.C_nil d W⟩, by simp, by simp⟩
  · obtain ⟨ys, hlen, hy⟩ := list_of (p := fun i y => ∃ cs', W.cells? 0 (a.add (i * P.cellsOf e)) (P.cellsOf e) = some cs' ∧ d.K W y cs' ∧ wf y) len (fun i hi => by
      obtain ⟨cs', h1, h2⟩ := hx i (by rw [hmm]; split <;> omega)
      obtain ⟨y, hK, hw⟩ := he h2
      exact ⟨y, cs', h1, hK, hw⟩)
    have hm' : cap ≤ 9223372036854775807 := by simpa [maxLen] using hm
    refine ⟨ys, ⟨some a, cap, by rw [hlen], by omega, ⟨rfl, by omega, fun _ => ⟨a, rfl, fun j y hj => ?_⟩⟩⟩, by omega, fun y hmem => ?_⟩
    · obtain ⟨cs', h1, hK, _⟩ := hy j y hj
      obtain ⟨_, hl2, hcell⟩ := World.cells?_some h1
      refine ⟨cs', d.K_len hK, hK, fun i u hu => ?_⟩
      have hi : i < P.cellsOf e := by
        have := (List.getElem?_eq_some_iff.1 hu).1
        omega
      rw [← hc, ← Go.Deep.add_add, hcell i hi]
      exact hu
    · obtain ⟨j, hj⟩ := List.getElem?_of_mem hmem
      obtain ⟨_, _, _, hw⟩ := hy j y hj
      exact hw
theorem slice_cell {α : Type} {d : Kd α} {e : Nat} {W : World} {l : List α} {v : Value} (h : (Kd.slice e d).K W l [v]) : ∃ A c, v = .slice A l.length c ∧ l.length ≤ c ∧ d.C W A l.length l := by
  obtain ⟨A, c, hc, hl, hC⟩ := h
  exact ⟨A, c, by simpa using hc, hl, hC⟩
section
variable {P : Program} {t : TypeId} {W : World} {H : Type} {enc : TypeId × Value → H} {r : Reach} {b0 : Nat} {v : Value} {d : DataW H} {p : List MemPlace}
theorem agg2_at {α0 α1 : Type} {f0 f1 : Field} {d0 : Kd α0} {d1 : Kd α1} {w0 : α0 → Prop} {w1 : α1 → Prop} (hs : P.underlying t = some (.struct #[f0, f1])) (hone : oneCellFields P #[f0, f1] = true) (hC : P.cellsOf t = 2)
    (h0 : Opens P f0.type d0 w0) (h1 : Opens P f1.type d1 w1) (hv : Value.okWide P W r b0 t v) (h : DataW.Trod enc P W 0 (fun _ => true) true t v d p) :
    ∃ (v0 v1 : Value) (y0 : α0) (y1 : α1), v = .agg #[v0, v1] ∧ d0.K W y0 [v0] ∧ w0 y0 ∧ d1.K W y1 [v1] ∧ w1 y1 := by
  obtain ⟨v0, v1, _, _, _, rfl, _, _, e0, e1⟩ := open_agg2 hs hone hC hv h
  obtain ⟨y0, K0, W0⟩ := h0 e0
  obtain ⟨y1, K1, W1⟩ := h1 e1
  exact ⟨v0, v1, y0, y1, rfl, K0, W0, K1, W1⟩
end
end Go.Proofs.Ytmfgjknffmjjjaa.Open
namespace Go.Proofs.Ytmfgjknffmjjjaa.P
open Go.RowKit Go.Proofs.YtmfgjknffmjjjaaW.PrintWords Go.Proofs.YtmfgjknffmjjjaaW.PrintLast Go.Proofs.YtmfgjknffmjjjaaW.PrintMore
attribute [local go_sem] max2_int min2_int max_two min_two max_three min_three max_four min_four
set_option linter.unusedVariables false
set_option linter.unusedSimpArgs false
open Go.Proofs.Ytmfgjknffmjjjaa.Open
end Go.Proofs.Ytmfgjknffmjjjaa.P
namespace Go.Proofs.Ytmfgjknffmjjjaa.Pure
set_option linter.unusedVariables false
set_option linter.unusedSimpArgs false
open Go.RowKit Go.Proofs.YtmfgjknffmjjjaaW.PrintWords Go.Proofs.YtmfgjknffmjjjaaW.PrintLast Go.Proofs.YtmfgjknffmjjjaaW.PrintMore
theorem w64 {x : Int} (h0 : -9223372036854775808 ≤ x) (h1 : x ≤ 9223372036854775807) : wrap64 x = x := by
  unfold wrap64
  omega
theorem w64n {n : Nat} (h : n ≤ 9223372036854775807) : wrap64 (n : Int) = (n : Int) := w64 (by omega) (by omega)
theorem rd_nat (xs : List Int) (i : Nat) : rd xs (i : Int) = xs.getD i 0 := by simp [rd]
section
variable {α β : Type} {f g : Nat → Option α} {r : α}
theorem ev_some (r : α) : Ev (fun _ => some r) r := ⟨0, fun _ _ => rfl⟩
theorem ev_ifp {c : Prop} [Decidable c] (h : c) (k : Ev f r) : Ev (fun n => if c then f n else g n) r := Ev.congr (fun _ => if_pos h) k
theorem ev_ifn {c : Prop} [Decidable c] (h : ¬ c) (k : Ev g r) : Ev (fun n => if c then f n else g n) r := Ev.congr (fun _ => if_neg h) k
theorem ev_bind {F : Nat → α → Option β} {q : β} (h : Ev g r) (k : Ev (fun n => F n r) q) : Ev (fun n => (g n).bind (fun x => F n x)) q := by
  obtain ⟨K1, h1⟩ := h
  obtain ⟨K2, h2⟩ := k
  exact ⟨K1 + K2, fun n hn => by show (g n).bind (fun x => F n x) = some q; rw [h1 n (by omega)]; exact h2 n (by omega)⟩
theorem ev_const {a : Option α} (h : a = some r) : Ev (fun _ => a) r := ⟨0, fun _ _ => h⟩
theorem ev_step (h : ∀ k, g (k + 1) = f k) (k : Ev f r) : Ev g r := by
  obtain ⟨K, h1⟩ := k
  refine ⟨K + 1, fun n hn => ?_⟩
  obtain ⟨m, rfl⟩ : ∃ m, n = m + 1 := ⟨n - 1, by omega⟩
  rw [h m]
  exact h1 m (by omega)
end
def iter {σ : Type} (g : Nat → σ → σ) : Nat → Nat → σ → σ
  | _, 0, s => s
  | i, d + 1, s => iter g (i + 1) d (g i s)
theorem loop_ev {σ ρ : Type} (F : Nat → σ → Nat → Option ρ) (n : Nat) (g : Nat → σ → σ) (fin : σ → ρ) (I : Nat → σ → Prop)
    (hs : ∀ i s r, I i s → i < n → Ev (fun k => F k (g i s) (i + 1)) r → Ev (fun k => F k s i) r) (hI : ∀ i s, I i s → i < n → I (i + 1) (g i s))
    (he : ∀ s, I n s → Ev (fun k => F k s n) (fin s)) : ∀ i s, i ≤ n → I i s → Ev (fun k => F k s i) (fin (iter g i (n - i) s)) := by
  have key : ∀ d i s, n - i = d → i ≤ n → I i s → Ev (fun k => F k s i) (fin (iter g i d s)) := by
    intro d
    induction d with
    | zero =>
      intro i s h0 h1 h2
      obtain rfl : i = n := by omega
      exact he s h2
    | succ d ih =>
      intro i s h0 h1 h2
      exact hs i s _ h2 (by omega) (ih (i + 1) (g i s) (by omega) (by omega) (hI i s h2 (by omega)))
  exact fun i s h1 h2 => key (n - i) i s rfl h1 h2
theorem iter_inv {σ : Type} (g : Nat → σ → σ) (I : Nat → σ → Prop) (n : Nat) (hI : ∀ i s, I i s → i < n → I (i + 1) (g i s)) : ∀ d i s, i + d = n → I i s → I n (iter g i d s) := by
  intro d
  induction d with
  | zero => intro i s h0 h1; obtain rfl : i = n := by omega
            exact h1
  | succ d ih => intro i s h0 h1; exact ih (i + 1) _ (by omega) (hI i s h1 (by omega))
def rall (p : Nat → Bool) : Nat → Nat → Bool
  | _, 0 => true
  | i, d + 1 => p i && rall p (i + 1) d
theorem rall_iff (p : Nat → Bool) : ∀ d i, rall p i d = true ↔ ∀ j, i ≤ j → j < i + d → p j = true
  | 0, i => ⟨fun _ j h1 h2 => by omega, fun _ => rfl⟩
  | d + 1, i => by
    show (p i && rall p (i + 1) d) = true ↔ _
    rw [Bool.and_eq_true, rall_iff p d (i + 1)]
    constructor
    · rintro ⟨h0, h1⟩ j h2 h3
      by_cases e : j = i
      · rw [e]; exact h0
      · exact h1 j (by omega) (by omega)
    · intro h
      exact ⟨h i (Nat.le_refl _) (by omega), fun j h2 h3 => h j (by omega) (by omega)⟩
theorem all_ev {ρ : Type} (F : Nat → Nat → Option ρ) (n : Nat) (p : Nat → Bool) (no yes : ρ) (hs : ∀ i r, i < n → p i = true → Ev (fun k => F k (i + 1)) r → Ev (fun k => F k i) r)
    (hn : ∀ i, i < n → p i = false → Ev (fun k => F k i) no) (he : Ev (fun k => F k n) yes) :
    ∀ i, i ≤ n → Ev (fun k => F k i) (if rall p i (n - i) = true then yes else no) := by
  have key : ∀ d i, n - i = d → i ≤ n → Ev (fun k => F k i) (if rall p i d = true then yes else no) := by
    intro d
    induction d with
    | zero =>
      intro i h0 h1
      obtain rfl : i = n := by omega
      rw [show rall p i 0 = true from rfl, if_pos rfl]
      exact he
    | succ d ih =>
      intro i h0 h1
      have h := ih (i + 1) (by omega) (by omega)
      have e : rall p i (d + 1) = (p i && rall p (i + 1) d) := rfl
      cases hp : p i with
      | true =>
        rw [e, hp, Bool.true_and]
        exact hs i _ (by omega) hp h
      | false =>
        rw [e, hp, Bool.false_and, if_neg (by simp)]
        exact hn i (by omega) hp
  exact fun i h1 => key (n - i) i rfl h1
theorem allb_ev (F : Nat → Nat → Option Bool) (n : Nat) (p : Nat → Bool) (hs : ∀ i r, i < n → p i = true → Ev (fun k => F k (i + 1)) r → Ev (fun k => F k i) r)
    (hn : ∀ i, i < n → p i = false → Ev (fun k => F k i) false) (he : Ev (fun k => F k n) true) : Ev (fun k => F k 0) (rall p 0 n) := by
  have h := all_ev F n p false true hs hn he 0 (Nat.zero_le _)
  rw [Nat.sub_zero] at h
  cases e : rall p 0 n <;> simpa [e] using h
theorem getD_eq_get {α : Type} {xs : List α} {i : Nat} (z : α) (h : i < xs.length) : xs.getD i z = xs[i] := by simp [List.getD, List.getElem?_eq_getElem h]
theorem eq_index {α : Type} {xs ys : List α} (z : α) (h : xs.length = ys.length) (hh : ∀ j, j < xs.length → xs.getD j z = ys.getD j z) : xs = ys := by
  refine List.ext_getElem h (fun i h1 h2 => ?_)
  rw [← getD_eq_get z h1, ← getD_eq_get z h2]
  exact hh i h1
theorem rall_eq {α : Type} [DecidableEq α] {xs ys : List α} (z : α) (h : xs.length = ys.length) : rall (fun j => decide (xs.getD j z = ys.getD j z)) 0 xs.length = decide (xs = ys) := by
  rw [Bool.eq_iff_iff, rall_iff, decide_eq_true_eq]
  constructor
  · exact fun hh => eq_index z h (fun j hj => by simpa using hh j (Nat.zero_le _) (by omega))
  · rintro rfl j _ _
    simp
end Go.Proofs.Ytmfgjknffmjjjaa.Pure
namespace Go.Proofs.Ytmfgjknffmjjjaa.Pure
set_option linter.unusedVariables false
set_option linter.unusedSimpArgs false
open Go.RowKit Go.Proofs.Ytmfgjknffmjjjaa.P Go.Proofs.YtmfgjknffmjjjaaW.PrintWords Go.Proofs.YtmfgjknffmjjjaaW.PrintLast
def inb (x a b : Int) : Bool := decide (a ≤ x) && decide (x ≤ b)
theorem inb_iff {x a b : Int} : inb x a b = true ↔ a ≤ x ∧ x ≤ b := by simp [inb]
theorem l1In_is (x a b : Int) : spec_l1In.f x a b = some (inb x a b) := by
  unfold spec_l1In.f inb
  split
  · rename_i h; simp [show a ≤ x from h]
  · rename_i h; simp [show ¬ a ≤ x from h]
theorem within_is (x a b : Int) : impl_within.f x a b = some (inb x a b) := l1In_is x a b
def tallyOk (c h : List Int) : Bool := decide (c.length = 11) && (decide (h.length = 11) && rall (fun i => inb (c.getD i 0) 0 1000 && inb (h.getD i 0) 0 (c.getD i 0)) 0 11)
theorem tallyOk_iff {c h : List Int} : tallyOk c h = true ↔ c.length = 11 ∧ h.length = 11 ∧ ∀ i, i < 11 → 0 ≤ c.getD i 0 ∧ c.getD i 0 ≤ 1000 ∧ 0 ≤ h.getD i 0 ∧ h.getD i 0 ≤ c.getD i 0 := by
  unfold tallyOk
  rw [Bool.and_eq_true, Bool.and_eq_true, rall_iff, decide_eq_true_eq, decide_eq_true_eq]
  constructor
  · rintro ⟨h1, h2, h3⟩
    refine ⟨h1, h2, fun i hi => ?_⟩
    have := h3 i (Nat.zero_le _) (by omega)
    rw [Bool.and_eq_true, inb_iff, inb_iff] at this
    omega
  · rintro ⟨h1, h2, h3⟩
    refine ⟨h1, h2, fun i _ hi => ?_⟩
    rw [Bool.and_eq_true, inb_iff, inb_iff]
    have := h3 i (by omega)
    omega
theorem l10Good_ev (c h : List Int) : Ev (fun k => spec_l10Good.f k c h) (tallyOk c h) := by
  by_cases h1 : c.length = 11
  · by_cases h2 : h.length = 11
    · have := allb_ev (fun k i => spec_l10Good.l0 k (i : Int) c h) 11 (fun i => inb (c.getD i 0) 0 1000 && inb (h.getD i 0) 0 (c.getD i 0))
        (fun i r hi hp hh => ev_step (fun k => by
          rw [Bool.and_eq_true] at hp
          simp only [spec_l10Good.l0, l1In_is, Option.bind_some, rd_nat]
          rw [if_pos (by omega), if_pos (by omega), if_pos hp.1, if_pos (by omega), if_pos hp.2, w64 (by omega) (by omega)]
          rfl) hh)
        (fun i hi hp => ev_step (f := fun _ => some false) (fun k => by
          simp only [spec_l10Good.l0, l1In_is, Option.bind_some, rd_nat]
          rw [if_pos (by omega), if_pos (by omega)]
          cases e : inb (c.getD i 0) 0 1000 with
          | false => simp
          | true =>
            rw [e, Bool.true_and] at hp
            simp only [hp, if_true]
            rw [if_pos (by omega)]
            simp) (ev_some _))
        (ev_step (f := fun _ => some true) (fun k => by
          simp only [spec_l10Good.l0]
          rw [if_neg (by omega)]) (ev_some _))
      have e : tallyOk c h = rall (fun i => inb (c.getD i 0) 0 1000 && inb (h.getD i 0) 0 (c.getD i 0)) 0 11 := by simp [tallyOk, h1, h2]
      rw [e]
      refine Ev.congr (f := fun k => spec_l10Good.j0 k false c h) (fun k => ?_) (ev_step (f := fun k => spec_l10Good.l0 k 0 c h) (fun k => by simp [spec_l10Good.j0]) this)
      unfold spec_l10Good.f
      rw [if_pos (by omega)]
      simp [h2]
    · have e : tallyOk c h = false := by simp [tallyOk, h2]
      rw [e]
      refine Ev.congr (f := fun k => spec_l10Good.j0 k true c h) (fun k => ?_) (ev_step (f := fun k => some false) (fun k => by simp [spec_l10Good.j0]) (ev_some _))
      unfold spec_l10Good.f
      rw [if_pos (by omega), show ((h.length : Int) != 11) = true by rw [bne_iff_ne]; omega]
  · have e : tallyOk c h = false := by simp [tallyOk, h1]
    rw [e]
    refine Ev.congr (f := fun k => spec_l10Good.j0 k true c h) (fun k => ?_) (ev_step (f := fun k => some false) (fun k => by simp [spec_l10Good.j0]) (ev_some _))
    unfold spec_l10Good.f
    rw [if_neg (by omega)]
theorem isValidTally_ev (c h : List Int) : Ev (fun k => impl_IsValidTally.f k c h) (tallyOk c h) := by
  by_cases h1 : c.length = 11
  · by_cases h2 : h.length = 11
    · have := allb_ev (fun k i => impl_IsValidTally.l0 k c (c.length : Int) (i : Int) c h) 11 (fun i => inb (c.getD i 0) 0 1000 && inb (h.getD i 0) 0 (c.getD i 0))
        (fun i r hi hp hh => ev_step (fun k => by
          rw [Bool.and_eq_true] at hp
          simp only [impl_IsValidTally.l0, within_is, Option.bind_some, rd_nat]
          rw [if_pos (by omega), if_pos (by omega), if_pos (by omega), if_pos hp.1, if_pos (by omega), if_pos hp.2, w64 (by omega) (by omega)]
          rfl) hh)
        (fun i hi hp => ev_step (f := fun _ => some false) (fun k => by
          simp only [impl_IsValidTally.l0, within_is, Option.bind_some, rd_nat]
          rw [if_pos (by omega), if_pos (by omega), if_pos (by omega)]
          cases e : inb (c.getD i 0) 0 1000 with
          | false => simp
          | true =>
            rw [e, Bool.true_and] at hp
            simp only [hp, if_true]
            rw [if_pos (by omega)]
            simp) (ev_some _))
        (ev_step (f := fun _ => some true) (fun k => by
          simp only [impl_IsValidTally.l0]
          rw [if_neg (by omega)]) (ev_some _))
      have e : tallyOk c h = rall (fun i => inb (c.getD i 0) 0 1000 && inb (h.getD i 0) 0 (c.getD i 0)) 0 11 := by simp [tallyOk, h1, h2]
      rw [e]
      refine Ev.congr (f := fun k => impl_IsValidTally.j0 k false c h) (fun k => ?_) (ev_step (f := fun k => impl_IsValidTally.l0 k c (c.length : Int) 0 c h) (fun k => by simp [impl_IsValidTally.j0]) this)
      unfold impl_IsValidTally.f
      rw [if_pos (by omega)]
      simp [h2]
    · have e : tallyOk c h = false := by simp [tallyOk, h2]
      rw [e]
      refine Ev.congr (f := fun k => impl_IsValidTally.j0 k true c h) (fun k => ?_) (ev_step (f := fun k => some false) (fun k => by simp [impl_IsValidTally.j0]) (ev_some _))
      unfold impl_IsValidTally.f
      rw [if_pos (by omega), show ((h.length : Int) != 11) = true by rw [bne_iff_ne]; omega]
  · have e : tallyOk c h = false := by simp [tallyOk, h1]
    rw [e]
    refine Ev.congr (f := fun k => impl_IsValidTally.j0 k true c h) (fun k => ?_) (ev_step (f := fun k => some false) (fun k => by simp [impl_IsValidTally.j0]) (ev_some _))
    unfold impl_IsValidTally.f
    rw [if_neg (by omega)]
theorem tmod_nat (a b : Nat) : Int.tmod (a : Int) (b : Int) = ((a % b : Nat) : Int) := by
  rw [Int.tmod_eq_emod_of_nonneg (by omega)]
  rfl
theorem tdiv_nat (a b : Nat) : Int.tdiv (a : Int) (b : Int) = ((a / b : Nat) : Int) := by
  rw [Int.tdiv_eq_ediv_of_nonneg (by omega)]
  rfl
theorem common_ev (b : Nat) : ∀ a : Nat, Ev (fun k => spec_l10Common.l0 k (a : Int) (b : Int)) ((Nat.gcd b a : Nat) : Int) := by
  induction b using Nat.strongRecOn with
  | _ b ih =>
    intro a
    by_cases h : b = 0
    · subst h
      rw [Nat.gcd_zero_left]
      exact ev_step (f := fun _ => some (a : Int)) (fun k => by simp [spec_l10Common.l0]) (ev_some _)
    · have hm := Nat.mod_lt a (Nat.pos_of_ne_zero h)
      rw [Nat.gcd_rec]
      exact ev_step (fun k => by
        simp only [spec_l10Common.l0]
        rw [if_pos (by omega), if_neg (by omega), tmod_nat]) (ih (a % b) hm b)
theorem divisor_same : ∀ k a b, impl_divisorOf.l0 k a b = spec_l10Common.l0 k a b := by
  intro k
  induction k with
  | zero => intro a b; rfl
  | succ k ih => intro a b; simp only [impl_divisorOf.l0, spec_l10Common.l0, ih]
theorem l10Common_ev (a b : Nat) : Ev (fun k => spec_l10Common.f k (a : Int) (b : Int)) ((Nat.gcd a b : Nat) : Int) := by
  rw [Nat.gcd_comm]
  exact common_ev b a
theorem divisorOf_ev (a b : Nat) : Ev (fun k => impl_divisorOf.f k (a : Int) (b : Int)) ((Nat.gcd a b : Nat) : Int) := by
  rw [Nat.gcd_comm]
  exact Ev.congr (fun k => divisor_same k _ _) (common_ev b a)
def shareN (a b : Nat) : Int × Int := (((a / Nat.gcd a b : Nat) : Int), ((b / Nat.gcd a b : Nat) : Int))
theorem l10Share_ev (a b : Nat) (hb : 0 < b) (ha2 : a ≤ 9223372036854775807) (hb2 : b ≤ 9223372036854775807) : Ev (fun k => spec_l10Share.f k (a : Int) (b : Int)) (shareN a b) := by
  have hg : 0 < Nat.gcd a b := Nat.gcd_pos_of_pos_right a hb
  have h1 := Nat.div_le_self a (Nat.gcd a b)
  have h2 := Nat.div_le_self b (Nat.gcd a b)
  refine ev_bind (l10Common_ev a b) (ev_ifn (by omega) (ev_const ?_))
  rw [tdiv_nat, tdiv_nat, w64n (Nat.le_trans h1 ha2), w64n (Nat.le_trans h2 hb2)]
  rfl
theorem shareOf_ev (a b : Nat) (hb : 0 < b) (ha2 : a ≤ 9223372036854775807) (hb2 : b ≤ 9223372036854775807) : Ev (fun k => impl_shareOf.f k (a : Int) (b : Int)) (shareN a b) := by
  have hg : 0 < Nat.gcd a b := Nat.gcd_pos_of_pos_right a hb
  have h1 := Nat.div_le_self a (Nat.gcd a b)
  have h2 := Nat.div_le_self b (Nat.gcd a b)
  have hd := divisorOf_ev b a
  rw [Nat.gcd_comm] at hd
  refine ev_bind hd (ev_ifn (by omega) (ev_const ?_))
  rw [tdiv_nat, tdiv_nat, w64n (Nat.le_trans h1 ha2), w64n (Nat.le_trans h2 hb2)]
  rfl
end Go.Proofs.Ytmfgjknffmjjjaa.Pure
namespace Go.Proofs.Ytmfgjknffmjjjaa.Pure
set_option linter.unusedVariables false
set_option linter.unusedSimpArgs false
open Go.RowKit Go.Proofs.YtmfgjknffmjjjaaW.PrintWords Go.Proofs.YtmfgjknffmjjjaaW.PrintLast Go.Proofs.YtmfgjknffmjjjaaW.PrintMore
def tab {α : Type} (n : Nat) (q : Nat → α) : List α := (List.range n).map q
theorem tab_length {α : Type} (n : Nat) (q : Nat → α) : (tab n q).length = n := by simp [tab]
theorem tab_getD {α : Type} (n : Nat) (q : Nat → α) (z : α) {i : Nat} (h : i < n) : (tab n q).getD i z = q i := by simp [tab, List.getD, h]
theorem iter_set_tab {α : Type} (z : α) (q : Nat → α) (n : Nat) (s : List α) (hs : s.length = n) : iter (fun i (s : List α) => s.set i (q i)) 0 n s = tab n q := by
  have hi := iter_inv (fun i (s : List α) => s.set i (q i)) (fun i s => s.length = n ∧ ∀ j, j < i → s.getD j z = q j) n
    (fun i s hI hi => ⟨by simp [hI.1], fun j hj => by
      by_cases e : j = i
      · subst e
        have := hI.1
        simp [List.getD, List.getElem?_set_self (show j < s.length by omega)]
      · rw [← hI.2 j (by omega)]
        simp [List.getD, List.getElem?_set_ne (Ne.symm e)]⟩) n 0 s (by omega) ⟨hs, fun j hj => by omega⟩
  exact eq_index z (by rw [hi.1, tab_length]) (fun j hj => by rw [hi.2 j (by have := hi.1; omega), tab_getD _ _ z (by have := hi.1; omega)])
theorem iter_app_tab {α : Type} (q : Nat → α) : ∀ d i (s : List α), iter (fun i (s : List α) => s ++ [q i]) i d s = s ++ (List.range d).map (fun j => q (i + j)) := by
  intro d
  induction d with
  | zero => intro i s; simp [iter]
  | succ d ih =>
    intro i s
    show iter _ (i + 1) d (s ++ [q i]) = _
    rw [ih (i + 1) (s ++ [q i]), List.append_assoc, List.range_succ_eq_map, List.map_cons, List.map_map]
    congr 1
    show [q i] ++ _ = q (i + 0) :: _
    rw [List.singleton_append, Nat.add_zero]
    congr 1
    refine List.map_congr_left (fun j _ => ?_)
    show q (i + 1 + j) = q (i + (j + 1))
    congr 1
    omega
theorem iter_app0 {α : Type} (q : Nat → α) (n : Nat) : iter (fun i (s : List α) => s ++ [q i]) 0 n [] = tab n q := by
  rw [iter_app_tab, List.nil_append]
  unfold tab
  exact List.map_congr_left (fun j _ => by rw [Nat.zero_add])
end Go.Proofs.Ytmfgjknffmjjjaa.Pure
namespace Go.Proofs.Ytmfgjknffmjjjaa.Pure
set_option linter.unusedVariables false
set_option linter.unusedSimpArgs false
open Go.RowKit Go.Proofs.Ytmfgjknffmjjjaa.P Go.Proofs.YtmfgjknffmjjjaaW.PrintWords Go.Proofs.YtmfgjknffmjjjaaW.PrintLast
abbrev SG := S116
abbrev IG := S152
abbrev SHR := S89
def toI (s : SG) : IG := ⟨s.f0.getD 0 0, s.f1, s.f2⟩
theorem rdsg (xs : List SG) (i : Nat) : rd_T116 xs (i : Int) = xs.getD i z116 := by simp [rd_T116]
theorem rdig (xs : List IG) (i : Nat) : rd_T152 xs (i : Int) = xs.getD i z152 := by simp [rd_T152]
theorem map_get (xs : List SG) {i : Nat} (h : i < xs.length) : (xs.map toI).getD i z152 = toI (xs.getD i z116) := by
  rw [getD_eq_get _ (by rw [List.length_map]; exact h), getD_eq_get _ h, List.getElem_map]
def sm {α : Type} (h : α → Int) : List α → Int
  | [] => 0
  | x :: l => h x + sm h l
theorem sm_app {α : Type} (h : α → Int) : ∀ l m : List α, sm h (l ++ m) = sm h l + sm h m
  | [], m => by simp [sm]
  | x :: l, m => by simp only [List.cons_append, sm]; rw [sm_app h l m]; omega
theorem sm_one {α : Type} (h : α → Int) (x : α) : sm h [x] = h x := by simp [sm]
theorem sm_nn {α : Type} {h : α → Int} : ∀ {l : List α}, (∀ x ∈ l, 0 ≤ h x) → 0 ≤ sm h l
  | [], _ => Int.le_refl _
  | x :: l, hp => by
    have h1 := hp x (List.mem_cons_self ..)
    have h2 := sm_nn (l := l) (fun y hy => hp y (List.mem_cons_of_mem _ hy))
    simp only [sm]
    omega
theorem sm_mem {α : Type} {h : α → Int} : ∀ {l : List α} {x : α}, (∀ x ∈ l, 0 ≤ h x) → x ∈ l → h x ≤ sm h l
  | y :: l, x, hp, hx => by
    have h1 := hp y (List.mem_cons_self ..)
    have h2 := sm_nn (l := l) (fun z hz => hp z (List.mem_cons_of_mem _ hz))
    simp only [sm]
    rcases List.mem_cons.1 hx with e | e
    · subst e; omega
    · have := sm_mem (l := l) (fun z hz => hp z (List.mem_cons_of_mem _ hz)) e
      omega
theorem sm_len {α : Type} {h : α → Int} : ∀ {l : List α}, (∀ x ∈ l, 1 ≤ h x) → (l.length : Int) ≤ sm h l
  | [], _ => by simp [sm]
  | x :: l, hp => by
    have h1 := hp x (List.mem_cons_self ..)
    have h2 := sm_len (l := l) (fun y hy => hp y (List.mem_cons_of_mem _ hy))
    simp only [sm, List.length_cons]
    omega
structure GOk (s : SG) : Prop where
  ne : 1 ≤ s.f0.length
  a : 1 ≤ s.f1
  b : 0 ≤ s.f2
  c : s.f2 ≤ s.f1
def len0 (s : SG) : Int := (s.f0.length : Int)
structure GInv (m : Int) (l : List SG) : Prop where
  ok : ∀ s ∈ l, GOk s
  sum : sm (fun s : SG => s.f1) l ≤ 1000 * m
  len : sm len0 l ≤ m
theorem GInv.more {m m' : Int} {l : List SG} (h : GInv m l) (hm : m ≤ m') : GInv m' l := ⟨h.ok, by have := h.sum; omega, by have := h.len; omega⟩
theorem prod_bd {a b : Int} (a0 : 0 ≤ a) (a1 : a ≤ 11000) (b0 : 0 ≤ b) (b1 : b ≤ 11000) : 0 ≤ a * b ∧ a * b ≤ 121000000 := by
  have h1 : a * b ≤ 11000 * b := Int.mul_le_mul_of_nonneg_right a1 b0
  exact ⟨Int.mul_nonneg a0 b0, by omega⟩
theorem l1Own_is4 (l : List Int) (hl : l.length < 17592186044416) : spec_l1Own.f l = some l := by
  unfold spec_l1Own.f
  rw [Option.bind_some, if_pos (by simpa using hl)]
  rfl
theorem pop_sim (cs hs : List Int) (i : Nat) (hi : i < 11) : ∀ (n : Nat) (T : List SG) (q : SG), T.length = n → (∀ s ∈ T, GOk s) → GOk q → sm (fun s : SG => s.f1) T + q.f1 ≤ 1000 * ((i : Int) + 1) → sm len0 T + len0 q ≤ (i : Int) + 1 →
    ∃ T', GInv ((i + 1 : Nat) : Int) T' ∧ (∀ r, Ev (fun k => spec_l10Groups.l0 k T' ((i + 1 : Nat) : Int) cs hs) r → Ev (fun k => spec_l10Groups.l1 k T (i : Int) cs hs q.f0 q.f1 q.f2) r) ∧
      (∀ r, Ev (fun k => impl_calibrationOf.l0 k (T'.map toI) cs 11 ((i + 1 : Nat) : Int) cs hs) r → Ev (fun k => impl_calibrationOf.l1 k (T.map toI) ((T.map toI).length : Int) cs 11 (i : Int) cs hs (toI q).f0 (toI q).f1 (toI q).f2) r) := by
  have e1 := Aside0.mk (show wrap64 ((i : Int) + 1) = ((i + 1 : Nat) : Int) by rw [w64 (by omega) (by omega)]; rfl)
  have stop : ∀ (T : List SG) (q : SG), (∀ s ∈ T, GOk s) → GOk q → sm (fun s : SG => s.f1) T + q.f1 ≤ 1000 * ((i : Int) + 1) → sm len0 T + len0 q ≤ (i : Int) + 1 → GInv ((i + 1 : Nat) : Int) (T ++ [q]) := fun T q hT hq h1 h2 =>
    ⟨fun s hs => (List.mem_append.1 hs).elim (hT s) (fun h => by rw [List.mem_singleton.1 h]; exact hq), by rw [sm_app, sm_one]; omega, by rw [sm_app, sm_one]; omega⟩
  have short : ∀ T : List SG, (∀ s ∈ T, GOk s) → ∀ q : SG, GOk q → sm (fun s : SG => s.f1) T + q.f1 ≤ 1000 * ((i : Int) + 1) → T.length ≤ 11000 := fun T hT q hq h1 => by
    have := sm_len (h := fun s : SG => s.f1) (l := T) (fun s hs => (hT s hs).a)
    have := hq.a
    omega
  intro n
  induction n with
  | zero =>
    intro T q hn hT hq h1 h2
    obtain rfl := List.length_eq_zero_iff.1 hn
    refine ⟨[] ++ [q], stop [] q hT hq h1 h2, fun r h => ?_, fun r h => ?_⟩
    · refine ev_step (fun k => spec_l10Groups.l1.eq_2 _ _ _ _ _ _ _ k) (ev_ifn (by simp) (ev_ifp (by simp) ?_))
      rw [e1.out]
      exact h
    · refine ev_step (fun k => impl_calibrationOf.l1.eq_2 _ _ _ _ _ _ _ _ _ _ k) (ev_ifn (by simp) (ev_ifp (by simp) ?_))
      rw [e1.out]
      exact h
  | succ n ih =>
    intro T q hn hT hq h1 h2
    have hTs := short T hT q hq h1
    have hne : T ≠ [] := fun e => by rw [e] at hn; simp at hn
    obtain ⟨U, b, rfl⟩ : ∃ U b, T = U ++ [b] := ⟨T.dropLast, T.getLast hne, (List.dropLast_concat_getLast hne).symm⟩
    have hU : U.length = n := by rw [List.length_append, List.length_singleton] at hn; omega
    have hb := hT b (List.mem_append.2 (.inr (List.mem_singleton.2 rfl)))
    have hTU : ∀ s ∈ U, GOk s := fun s hs => hT s (List.mem_append.2 (.inl hs))
    rw [sm_app, sm_one] at h1 h2
    have n1 := sm_nn (h := fun s : SG => s.f1) (l := U) (fun s hs => by have := (hTU s hs).a; omega)
    have n2 := sm_nn (h := len0) (l := U) (fun s hs => by unfold len0; omega)
    have l1 : ((U ++ [b]).length : Int) = (U.length : Int) + 1 := by simp
    have l2 : (((U ++ [b]).map toI).length : Int) = (U.length : Int) + 1 := by simp
    have ei : wrap64 ((U.length : Int) + 1 - 1) = (U.length : Int) := by rw [w64 (by omega) (by omega)]; omega
    have g1 : (U ++ [b]).getD U.length z116 = b := by simp [List.getD]
    have g2 : ((U ++ [b]).map toI).getD U.length z152 = toI b := by rw [map_get _ (by simp), g1]
    have t1 : (U ++ [b]).take U.length = U := by simp
    have t2 : ((U ++ [b]).map toI).take U.length = U.map toI := by simp
    have ba := hb.a
    have bb := hb.b
    have bc := hb.c
    have qa := hq.a
    have qb := hq.b
    have qc := hq.c
    have p1 := prod_bd (a := b.f2) (b := q.f1) bb (by omega) (by omega) (by omega)
    have p2 := prod_bd (a := q.f2) (b := b.f1) qb (by omega) (by omega) (by omega)
    have w1 := Aside0.mk (show wrap64 (b.f2 * q.f1) = b.f2 * q.f1 from w64 (by omega) (by omega))
    have w2 := Aside0.mk (show wrap64 (q.f2 * b.f1) = q.f2 * b.f1 from w64 (by omega) (by omega))
    have w3 := Aside0.mk (show wrap64 (b.f1 + q.f1) = b.f1 + q.f1 from w64 (by omega) (by omega))
    have w4 := Aside0.mk (show wrap64 (b.f2 + q.f2) = b.f2 + q.f2 from w64 (by omega) (by omega))
    have v1 := Aside0.mk (show wrap64 ((toI b).f2 * (toI q).f1) = b.f2 * q.f1 from w1.out)
    have v2 := Aside0.mk (show wrap64 ((toI q).f2 * (toI b).f1) = q.f2 * b.f1 from w2.out)
    have v3 := Aside0.mk (show wrap64 ((toI b).f1 + (toI q).f1) = b.f1 + q.f1 from w3.out)
    have v4 := Aside0.mk (show wrap64 ((toI b).f2 + (toI q).f2) = b.f2 + q.f2 from w4.out)
    unfold len0 at h2 n2
    have bl : b.f0.length < 100 := by omega
    have ql : q.f0.length < 100 := by omega
    by_cases hc : b.f2 * q.f1 > q.f2 * b.f1
    · obtain ⟨T', i1, i2, i3⟩ := ih U ⟨b.f0 ++ q.f0, b.f1 + q.f1, b.f2 + q.f2⟩ hU hTU ⟨by have := hb.ne; simp; omega, by dsimp only; omega, by dsimp only; omega, by dsimp only; omega⟩ (by dsimp only; omega) (by unfold len0; simp only [List.length_append]; omega)
      have ef : (b.f0 ++ q.f0).getD 0 0 = b.f0.getD 0 0 := by
        have := hb.ne
        simp only [List.getD, List.getElem?_append_left (show 0 < b.f0.length by omega)]
      refine ⟨T', i1, fun r h => ?_, fun r h => ?_⟩
      · have h3 := i2 r h
        refine ev_step (fun k => spec_l10Groups.l1.eq_2 _ _ _ _ _ _ _ k) ?_
        rw [l1, ei, rdsg, g1, w1.out, w2.out, w3.out, w4.out, Int.toNat_natCast, t1]
        exact ev_ifp (by omega) (ev_ifp (by omega) (ev_ifp (by omega) (ev_ifp hc (ev_bind (ev_const (l1Own_is4 b.f0 (by omega))) (ev_ifp (by omega) (ev_ifp (by omega) h3))))))
      · have h3 := i3 r h
        refine ev_step (fun k => impl_calibrationOf.l1.eq_2 _ _ _ _ _ _ _ _ _ _ k) ?_
        rw [l2, ei, rdig, g2, v1.out, v2.out, v3.out, v4.out, Int.toNat_natCast, t2]
        refine ev_ifp (by omega) (ev_ifp (by omega) (ev_ifp (by omega) (ev_ifn (by omega) (ev_ifp (by omega) (ev_bind (ev_some _) ?_)))))
        show Ev (fun k => impl_calibrationOf.l1 k (U.map toI) ((U.map toI).length : Int) cs 11 (i : Int) cs hs (b.f0.getD 0 0) (b.f1 + q.f1) (b.f2 + q.f2)) r
        rw [← ef]
        exact h3
    · refine ⟨(U ++ [b]) ++ [q], stop _ q hT hq (by rw [sm_app, sm_one]; omega) (by rw [sm_app, sm_one]; unfold len0; omega), fun r h => ?_, fun r h => ?_⟩
      · refine ev_step (fun k => spec_l10Groups.l1.eq_2 _ _ _ _ _ _ _ k) ?_
        rw [l1, ei, rdsg, g1, w1.out, w2.out, e1.out]
        exact ev_ifp (by omega) (ev_ifp (by omega) (ev_ifp (by omega) (ev_ifn hc (ev_ifp (by omega) h))))
      · refine ev_step (fun k => impl_calibrationOf.l1.eq_2 _ _ _ _ _ _ _ _ _ _ k) ?_
        rw [l2, ei, rdig, g2, e1.out, v1.out, v2.out]
        have h' : Ev (fun k => impl_calibrationOf.l0 k ((U ++ [b]).map toI ++ [toI q]) cs 11 ((i + 1 : Nat) : Int) cs hs) r := by
          rw [List.map_append] at h
          exact h
        exact ev_ifp (by omega) (ev_ifp (by omega) (ev_ifp (by omega) (ev_ifp (by omega) (ev_ifp (by rw [List.length_map]; omega) h'))))
theorem groups_sim {cs hs : List Int} (ok : tallyOk cs hs = true) : ∀ (d i : Nat) (T : List SG), i + d = 11 → GInv (i : Int) T →
    ∃ G, GInv 11 G ∧ Ev (fun k => spec_l10Groups.l0 k T (i : Int) cs hs) G ∧ (∀ r, Ev (fun k => impl_calibrationOf.l0 k (G.map toI) cs 11 11 cs hs) r → Ev (fun k => impl_calibrationOf.l0 k (T.map toI) cs 11 (i : Int) cs hs) r) := by
  obtain ⟨hc, hh, hv⟩ := tallyOk_iff.1 ok
  intro d
  induction d with
  | zero =>
    intro i T h0 hT
    obtain rfl : i = 11 := by omega
    exact ⟨T, hT, ev_step (fun k => spec_l10Groups.l0.eq_2 _ _ _ _ k) (ev_ifn (by omega) (ev_some _)), fun r h => h⟩
  | succ d ih =>
    intro i T h0 hT
    have hi : i < 11 := by omega
    obtain ⟨v1, v2, v3, v4⟩ := hv i hi
    have e1 := Aside0.mk (show wrap64 ((i : Int) + 1) = ((i + 1 : Nat) : Int) by rw [w64 (by omega) (by omega)]; rfl)
    by_cases h1 : cs.getD i 0 = 0
    · obtain ⟨G, g1, g2, g3⟩ := ih (i + 1) T (by omega) (hT.more (by omega))
      refine ⟨G, g1, ?_, fun r h => ?_⟩
      · refine ev_step (fun k => spec_l10Groups.l0.eq_2 _ _ _ _ k) (ev_ifp (by omega) (ev_ifp (by omega) ?_))
        rw [rd_nat, e1.out]
        exact ev_ifp h1 g2
      · refine ev_step (fun k => impl_calibrationOf.l0.eq_2 _ _ _ _ _ _ k) (ev_ifp (by omega) (ev_ifp (by omega) (ev_ifp (by omega) ?_)))
        rw [rd_nat, e1.out]
        exact ev_ifp h1 (g3 r h)
    · obtain ⟨T', t1, t2, t3⟩ := pop_sim cs hs i hi T.length T ⟨[(i : Int)], cs.getD i 0, hs.getD i 0⟩ rfl hT.ok ⟨by simp, by dsimp only; omega, v3, v4⟩ (by have := hT.sum; dsimp only; omega) (by have := hT.len; unfold len0; simp only [List.length_singleton]; unfold len0 at this; omega)
      obtain ⟨G, g1, g2, g3⟩ := ih (i + 1) T' (by omega) t1
      refine ⟨G, g1, ?_, fun r h => ?_⟩
      · refine ev_step (fun k => spec_l10Groups.l0.eq_2 _ _ _ _ k) (ev_ifp (by omega) (ev_ifp (by omega) ?_))
        rw [rd_nat, rd_nat]
        exact ev_ifn h1 (ev_ifp (by omega) (t2 G g2))
      · refine ev_step (fun k => impl_calibrationOf.l0.eq_2 _ _ _ _ _ _ k) (ev_ifp (by omega) (ev_ifp (by omega) (ev_ifp (by omega) ?_)))
        rw [rd_nat, rd_nat]
        exact ev_ifn h1 (ev_ifp (by omega) (t3 r (g3 r h)))
def pkG (G : List SG) (c : Int) : Nat → Nat
  | 0 => 0
  | i + 1 => if (G.getD i z116).f0.getD 0 0 ≤ c then i else pkG G c i
theorem pkG_lt (G : List SG) (c : Int) : ∀ i, 1 ≤ G.length → i ≤ G.length → pkG G c i < G.length
  | 0, h, _ => h
  | i + 1, h, h1 => by
    unfold pkG
    split
    · omega
    · exact pkG_lt G c i h (by omega)
def grp (G : List SG) (c : Int) : SG := G.getD (pkG G c G.length) z116
def shG (G : List SG) (c : Int) : SHR := ⟨(shareN (grp G c).f2.toNat (grp G c).f1.toNat).1, (shareN (grp G c).f2.toNat (grp G c).f1.toNat).2⟩
section
variable {G : List SG} (hG : GInv 11 G) (h1 : 1 ≤ G.length)
include hG h1
theorem grp_ok (c : Int) : GOk (grp G c) := by
  unfold grp
  rw [getD_eq_get _ (pkG_lt G c G.length h1 (Nat.le_refl _))]
  exact hG.ok _ (List.getElem_mem _)
omit h1 in
theorem G_short : G.length ≤ 11000 := by
  have := sm_len (h := fun s : SG => s.f1) (l := G) (fun s hs => (hG.ok s hs).a)
  have := hG.sum
  omega
theorem grp_bd (c : Int) : (grp G c).f1 ≤ 11000 := by
  have hm : grp G c ∈ G := by
    unfold grp
    rw [getD_eq_get _ (pkG_lt G c G.length h1 (Nat.le_refl _))]
    exact List.getElem_mem _
  have := sm_mem (h := fun s : SG => s.f1) (l := G) (fun s hs => by have := (hG.ok s hs).a; omega) hm
  have := hG.sum
  omega
theorem share_spec (c : Int) : Ev (fun k => spec_l10Share.f k (grp G c).f2 (grp G c).f1) (shareN (grp G c).f2.toNat (grp G c).f1.toNat) := by
  have o := grp_ok hG h1 c
  have b := grp_bd hG h1 c
  have oa := o.a
  have ob := o.b
  have oc := o.c
  have h := l10Share_ev (grp G c).f2.toNat (grp G c).f1.toNat (by omega) (by omega) (by omega)
  rw [Int.toNat_of_nonneg ob, Int.toNat_of_nonneg (show 0 ≤ (grp G c).f1 by omega)] at h
  exact h
theorem share_impl (c : Int) : Ev (fun k => impl_shareOf.f k (grp G c).f2 (grp G c).f1) (shareN (grp G c).f2.toNat (grp G c).f1.toNat) := by
  have o := grp_ok hG h1 c
  have b := grp_bd hG h1 c
  have oa := o.a
  have ob := o.b
  have oc := o.c
  have h := shareOf_ev (grp G c).f2.toNat (grp G c).f1.toNat (by omega) (by omega) (by omega)
  rw [Int.toNat_of_nonneg ob, Int.toNat_of_nonneg (show 0 ≤ (grp G c).f1 by omega)] at h
  exact h
theorem pick_spec (c : Int) : Ev (fun k => spec_l10Shares.l1 k G c (G.getD 0 z116).f1 (G.getD 0 z116).f2 0) ((grp G c).f1, (grp G c).f2) := by
  have hs := G_short hG
  have h := loop_ev (fun k (a : Nat) i => spec_l10Shares.l1 k G c (G.getD a z116).f1 (G.getD a z116).f2 (i : Int)) G.length (fun i a => if (G.getD i z116).f0.getD 0 0 ≤ c then i else a) (fun _ => ((grp G c).f1, (grp G c).f2)) (fun i a => a = pkG G c i)
    (fun i a r hI hi hh => by
      have e1 := Aside0.mk (show wrap64 ((i : Int) + 1) = ((i + 1 : Nat) : Int) by rw [w64 (by omega) (by omega)]; rfl)
      have hne : 1 ≤ (G.getD i z116).f0.length := by
        rw [getD_eq_get _ hi]
        exact (hG.ok _ (List.getElem_mem hi)).ne
      refine ev_step (fun k => spec_l10Shares.l1.eq_2 _ _ _ _ _ k) (ev_ifp (by omega) (ev_ifp (by omega) ?_))
      rw [rdsg, e1.out]
      refine ev_ifp (by omega) ?_
      have r0 : rd (G.getD i z116).f0 0 = (G.getD i z116).f0.getD 0 0 := rfl
      rw [r0]
      by_cases hle : (G.getD i z116).f0.getD 0 0 ≤ c
      · simp only [if_pos hle] at hh
        exact ev_ifp hle hh
      · simp only [if_neg hle] at hh
        exact ev_ifn hle hh)
    (fun i a hI hi => by show (if (G.getD i z116).f0.getD 0 0 ≤ c then i else a) = pkG G c (i + 1); rw [hI]; rfl)
    (fun a hI => ev_step (fun k => spec_l10Shares.l1.eq_2 _ _ _ _ _ k) (ev_ifn (by omega) (ev_const (by rw [hI]; rfl)))) 0 0 (Nat.zero_le _) rfl
  exact h
theorem pick_impl (c : Nat) (hc : c < 11) (out : List SHR) (r : List SHR × Bool) (ho : out.length = 11) (h : Ev (fun k => impl_calibrationOf.l2 k (G.map toI) (out.set c (shG G (c : Int))) 11 ((c + 1 : Nat) : Int)) r) :
    Ev (fun k => impl_calibrationOf.l3 k (G.map toI) out (c : Int) 0 11 (c : Int) (G.map toI) ((G.map toI).length : Int) 0) r := by
  have hs := G_short hG
  have hl : ((G.map toI).length : Int) = (G.length : Int) := by rw [List.length_map]
  rw [hl]
  have e2 := Aside0.mk (show wrap64 ((c : Int) + 1) = ((c + 1 : Nat) : Int) by rw [w64 (by omega) (by omega)]; rfl)
  have h2 := loop_ev (fun k (a : Nat) i => impl_calibrationOf.l3 k (G.map toI) out (c : Int) (a : Int) 11 (c : Int) (G.map toI) (G.length : Int) (i : Int)) G.length (fun i a => if (G.getD i z116).f0.getD 0 0 ≤ (c : Int) then i else a) (fun _ => r) (fun i a => a = pkG G (c : Int) i)
    (fun i a r hI hi hh => by
      have e1 := Aside0.mk (show wrap64 ((i : Int) + 1) = ((i + 1 : Nat) : Int) by rw [w64 (by omega) (by omega)]; rfl)
      refine ev_step (fun k => impl_calibrationOf.l3.eq_2 _ _ _ _ _ _ _ _ _ k) (ev_ifp (by omega) (ev_ifp (by omega) (ev_ifp (by omega) ?_)))
      rw [rdig, map_get _ hi, e1.out]
      have r0 : (toI (G.getD i z116)).f0 = (G.getD i z116).f0.getD 0 0 := rfl
      rw [r0]
      by_cases hle : (G.getD i z116).f0.getD 0 0 ≤ (c : Int)
      · simp only [if_pos hle] at hh
        exact ev_ifp hle hh
      · simp only [if_neg hle] at hh
        exact ev_ifn hle hh)
    (fun i a hI hi => by show (if (G.getD i z116).f0.getD 0 0 ≤ (c : Int) then i else a) = pkG G (c : Int) (i + 1); rw [hI]; rfl)
    (fun a hI => by
      have hlt := pkG_lt G (c : Int) G.length h1 (Nat.le_refl _)
      rw [← hI] at hlt
      refine ev_step (fun k => impl_calibrationOf.l3.eq_2 _ _ _ _ _ _ _ _ _ k) (ev_ifn (by omega) (ev_ifp (by omega) (ev_ifp (by omega) ?_)))
      rw [rdig, map_get _ hlt, e2.out]
      have eg : G.getD a z116 = grp G (c : Int) := by rw [hI]; rfl
      rw [eg]
      refine ev_bind (share_impl hG h1 (c : Int)) (ev_ifp (by omega) (ev_ifp (by omega) ?_))
      rw [Int.toNat_natCast]
      exact h) 0 0 (Nat.zero_le _) rfl
  exact h2
theorem shares_spec : Ev (fun k => spec_l10Shares.l0 k G 0 []) (tab 11 (fun c => shG G (c : Int))) := by
  have h := loop_ev (fun k (out : List SHR) i => spec_l10Shares.l0 k G (i : Int) out) 11 (fun i out => out ++ [shG G (i : Int)]) (fun s => s) (fun i out => out.length = i)
    (fun i out r hI hi hh => by
      have e1 := Aside0.mk (show wrap64 ((i : Int) + 1) = ((i + 1 : Nat) : Int) by rw [w64 (by omega) (by omega)]; rfl)
      refine ev_step (fun k => spec_l10Shares.l0.eq_2 _ _ _ k) (ev_ifp (by omega) (ev_ifp (by omega) ?_))
      rw [show rd_T116 G 0 = G.getD 0 z116 from rdsg G 0, e1.out]
      exact ev_bind (pick_spec hG h1 (i : Int)) (ev_bind (share_spec hG h1 (i : Int)) (ev_ifp (by omega) hh)))
    (fun i out hI hi => by rw [List.length_append, hI]; rfl)
    (fun s hI => ev_step (fun k => spec_l10Shares.l0.eq_2 _ _ _ k) (ev_ifn (by omega) (ev_some _))) 0 [] (Nat.zero_le _) rfl
  rw [Nat.sub_zero, iter_app0] at h
  exact h
theorem shares_impl : Ev (fun k => impl_calibrationOf.l2 k (G.map toI) (List.replicate 11 z89) 11 0) (tab 11 (fun c => shG G (c : Int)), true) := by
  have h := loop_ev (fun k (out : List SHR) i => impl_calibrationOf.l2 k (G.map toI) out 11 (i : Int)) 11 (fun i out => out.set i (shG G (i : Int))) (fun s => (s, true)) (fun _ out => out.length = 11)
    (fun i out r hI hi hh => ev_step (fun k => impl_calibrationOf.l2.eq_2 _ _ _ _ k) (ev_ifp (by omega) (pick_impl hG h1 i hi out r hI hh)))
    (fun i out hI hi => by simpa using hI)
    (fun s hI => ev_step (fun k => impl_calibrationOf.l2.eq_2 _ _ _ _ k) (ev_ifn (by omega) (ev_some _))) 0 (List.replicate 11 z89) (Nat.zero_le _) (by simp)
  rw [Nat.sub_zero, iter_set_tab z89 (fun c : Nat => shG G (c : Int)) 11 _ (by simp)] at h
  exact h
end
theorem calib_both {cs hs : List Int} (ok : tallyOk cs hs = true) : ∃ G, GInv 11 G ∧ Ev (fun k => spec_l10Groups.f k cs hs) G ∧
    ((G = [] ∧ Ev (fun k => spec_l10Shares.f k cs hs) [] ∧ Ev (fun k => impl_calibrationOf.f k cs hs) ([], false)) ∨
     (1 ≤ G.length ∧ Ev (fun k => spec_l10Shares.f k cs hs) (tab 11 (fun c => shG G (c : Int))) ∧ Ev (fun k => impl_calibrationOf.f k cs hs) (tab 11 (fun c => shG G (c : Int)), true))) := by
  obtain ⟨hc, hh, hv⟩ := tallyOk_iff.1 ok
  obtain ⟨G, g1, g2, g3⟩ := groups_sim ok 11 0 [] rfl ⟨fun s hs => absurd hs (by simp), by simp [sm], by simp [sm]⟩
  refine ⟨G, g1, g2, ?_⟩
  have h11 : ((cs.length : Nat) : Int) = 11 := by omega
  by_cases h : G.length = 0
  · obtain rfl := List.length_eq_zero_iff.1 h
    refine .inl ⟨rfl, ?_, ?_⟩
    · unfold spec_l10Shares.f spec_l10Groups.f
      exact ev_bind g2 (ev_ifp rfl (ev_some _))
    · unfold impl_calibrationOf.f
      rw [h11]
      exact g3 _ (ev_step (fun k => impl_calibrationOf.l0.eq_2 _ _ _ _ _ _ k) (ev_ifn (by omega) (ev_ifp (by simp) (ev_some _))))
  · refine .inr ⟨by omega, ?_, ?_⟩
    · unfold spec_l10Shares.f spec_l10Groups.f
      exact ev_bind g2 (ev_ifn (by omega) (shares_spec g1 (by omega)))
    · unfold impl_calibrationOf.f
      rw [h11]
      refine g3 _ (ev_step (fun k => impl_calibrationOf.l0.eq_2 _ _ _ _ _ _ k) (ev_ifn (by omega) (ev_ifn (by rw [List.length_map]; omega) (ev_ifp (by omega) (ev_bind (ev_some _) ?_)))))
      simp only [List.length_replicate]
      exact shares_impl g1 (by omega)
theorem calibrationOf_both (c h : List Int) : ∃ r : List SHR × Bool, Ev (fun k => spec_CalibrationOf.f k c h) r ∧ Ev (fun k => impl_CalibrationOf.f k c h) r ∧ r.1.length ≤ 64 := by
  have g1 := l10Good_ev c h
  have g2 := isValidTally_ev c h
  unfold spec_CalibrationOf.f impl_CalibrationOf.f
  cases ok : tallyOk c h with
  | false =>
    rw [ok] at g1 g2
    exact ⟨([], false), ev_bind g1 (ev_ifn (by simp) (ev_some _)), ev_bind g2 (ev_ifn (by simp) (ev_some _)), by simp⟩
  | true =>
    rw [ok] at g1 g2
    obtain ⟨G, _, _, ⟨_, h1, h2⟩ | ⟨_, h1, h2⟩⟩ := calib_both ok
    · exact ⟨([], false), ev_bind g1 (ev_ifp rfl (ev_bind h1 (ev_ifp rfl (ev_some _)))), ev_bind g2 (ev_ifp rfl (ev_bind h2 (ev_some _))), by simp⟩
    · refine ⟨(tab 11 (fun c => shG G (c : Int)), true), ev_bind g1 (ev_ifp rfl (ev_bind h1 (ev_ifn (by rw [tab_length]; decide) (ev_bind h1 (ev_some _))))), ev_bind g2 (ev_ifp rfl (ev_bind h2 (ev_some _))), ?_⟩
      show (tab 11 (fun c : Nat => shG G (c : Int))).length ≤ 64
      rw [tab_length]
      decide
abbrev SH := S89
theorem rdsh (xs : List SH) (i : Nat) : rd_T89 xs (i : Int) = xs.getD i z89 := by simp [rd_T89]
def scnt (a : Int) (n : Nat) : List SH := tab n (fun i => (⟨a + 2 * (i : Int), a + 2 * (i : Int) + 1⟩ : SH))
theorem scnt_length (a : Int) (n : Nat) : (scnt a n).length = n := tab_length _ _
theorem scnt_get (a : Int) (n i : Nat) (h : i < n) : (scnt a n).getD i z89 = ⟨a + 2 * (i : Int), a + 2 * (i : Int) + 1⟩ := tab_getD _ _ _ h
theorem markShareS_ev (l : List SH) (a : Int) (h0 : 0 ≤ a) (h1 : a + 2 * l.length ≤ 9223372036854775800) : Ev (fun k => laws_markShareS.f k l a) (a + 2 * l.length, scnt a l.length) := by
  have h := loop_ev (fun k s i => laws_markShareS.l0 k s (a + 2 * (i : Int)) (i : Int)) l.length (fun i s => s.set i (⟨a + 2 * (i : Int), a + 2 * (i : Int) + 1⟩ : SH)) (fun s => (a + 2 * (l.length : Int), s)) (fun _ s => s.length = l.length)
    (fun i s r hI hi h => by
      have e1 := Aside0.mk (show wrap64 ((i : Int) + 1) = ((i + 1 : Nat) : Int) by rw [w64 (by omega) (by omega)]; rfl)
      have e2 := Aside0.mk (show wrap64 (a + 2 * (i : Int) + 1) = a + 2 * (i : Int) + 1 from w64 (by omega) (by omega))
      have e3 := Aside0.mk (show wrap64 (a + 2 * (i : Int) + 1 + 1) = a + 2 * ((i + 1 : Nat) : Int) by rw [w64 (by omega) (by omega)]; omega)
      have e4 : ∀ x : SH, (s.set i x).getD i z89 = x := fun x => by simp [List.getD, List.getElem?_set_self (show i < s.length by omega)]
      refine ev_step (fun k => laws_markShareS.l0.eq_2 _ _ _ k) (ev_ifp (by omega) (ev_ifp (by omega) (ev_bind (ev_some _) ?_)))
      rw [Int.toNat_natCast, rdsh, rdsh, e4, List.set_set, e2.out, e3.out, e1.out]
      exact h)
    (fun i s hI _ => by simpa using hI)
    (fun s hI => ev_step (fun k => laws_markShareS.l0.eq_2 _ _ _ k) (ev_ifn (by omega) (ev_some _))) 0 l (Nat.zero_le _) rfl
  rw [Nat.sub_zero, iter_set_tab z89 (fun i : Nat => (⟨a + 2 * (i : Int), a + 2 * (i : Int) + 1⟩ : SH)) l.length l rfl] at h
  refine Ev.congr (fun k => ?_) h
  unfold laws_markShareS.f
  simp
theorem heldShareS_ev (a : Int) (n : Nat) (h0 : 0 ≤ a) (h1 : a + 2 * n ≤ 9223372036854775800) : Ev (fun k => laws_heldShareS.f k (scnt a n) a) (a + 2 * n) := by
  have hl := scnt_length a n
  have h := loop_ev (σ := Unit) (fun k _ i => laws_heldShareS.l0 k (scnt a n) (a + 2 * (i : Int)) (i : Int)) n (fun _ _ => ()) (fun _ => a + 2 * (n : Int)) (fun _ _ => True)
    (fun i s r _ hi h => by
      have e1 := Aside0.mk (show wrap64 ((i : Int) + 1) = ((i + 1 : Nat) : Int) by rw [w64 (by omega) (by omega)]; rfl)
      have e2 := Aside0.mk (show wrap64 (a + 2 * (i : Int) + 1) = a + 2 * (i : Int) + 1 from w64 (by omega) (by omega))
      have e3 := Aside0.mk (show wrap64 (a + 2 * (i : Int) + 1 + 1) = a + 2 * ((i + 1 : Nat) : Int) by rw [w64 (by omega) (by omega)]; omega)
      refine ev_step (fun k => laws_heldShareS.l0.eq_2 _ _ _ k) (ev_ifp (by omega) (ev_ifp (by omega) ?_))
      rw [rdsh, scnt_get a n i hi, e2.out, e3.out, e1.out]
      exact ev_ifp rfl (ev_ifp rfl h))
    (fun _ _ _ _ => trivial)
    (fun _ _ => ev_step (fun k => laws_heldShareS.l0.eq_2 _ _ _ k) (ev_ifn (by omega) (ev_some _))) 0 () (Nat.zero_le _) trivial
  refine Ev.congr (fun k => ?_) h
  unfold laws_heldShareS.f
  simp
theorem eqShareS_self (xs : List SH) (hm : xs.length ≤ 9223372036854775806) : Ev (fun k => laws_eqShareS.f k xs xs) true := by
  have h := allb_ev (fun k i => laws_eqShareS.l0 k xs xs (i : Int)) xs.length (fun _ => true)
    (fun i r hi _ h => ev_step (fun k => by
      simp only [laws_eqShareS.l0, laws_eqShare.f]
      rw [if_pos (by omega), if_pos (by omega), if_pos (by omega), if_pos trivial, if_pos trivial, Option.bind_some, if_pos rfl, w64 (by omega) (by omega)]
      rfl) h)
    (fun i hi hp => by cases hp)
    (ev_step (f := fun _ => some true) (fun k => by
      simp only [laws_eqShareS.l0]
      rw [if_neg (by omega)]) (ev_some _))
  rw [(rall_iff (fun _ => true) xs.length 0).2 (fun _ _ _ => rfl)] at h
  refine Ev.congr (fun k => ?_) h
  unfold laws_eqShareS.f
  rw [if_pos rfl]
  rfl
theorem toIntS_ev (xs : List Int) (hm : xs.length ≤ 35184372088832) : Ev (fun k => laws_toIntS.f k xs) xs := by
  have h := loop_ev (fun k ys i => laws_toIntS.l0 k xs ys (i : Int)) xs.length (fun i ys => ys.set i (xs.getD i 0)) (fun ys => ys)
    (fun i ys => ys.length = xs.length ∧ ∀ j, j < i → ys.getD j 0 = xs.getD j 0)
    (fun i ys r hI hi h => ev_step (fun k => by
      show laws_toIntS.l0 (k + 1) xs ys (i : Int) = laws_toIntS.l0 k xs (ys.set i (xs.getD i 0)) ((i + 1 : Nat) : Int)
      have hl := hI.1
      simp only [laws_toIntS.l0]
      rw [if_pos (by omega), if_pos (by omega), if_pos (by omega), w64 (by omega) (by omega), rd_nat]
      simp) h)
    (fun i ys hI hi => ⟨by simp [hI.1], fun j hj => by
      by_cases e : j = i
      · subst e
        have := hI.1
        simp [List.getD, List.getElem?_set_self (show j < ys.length by omega)]
      · have := hI.2 j (by omega)
        rw [← this]
        simp [List.getD, List.getElem?_set_ne (Ne.symm e)]⟩)
    (fun ys hI => ev_step (f := fun _ => some ys) (fun k => by
      simp only [laws_toIntS.l0]
      rw [if_neg (by omega)]) (ev_some _)) 0 (List.replicate xs.length 0) (Nat.zero_le _) ⟨by simp, fun j hj => by omega⟩
  have e : iter (fun i (ys : List Int) => ys.set i (xs.getD i 0)) 0 (xs.length - 0) (List.replicate xs.length 0) = xs := by
    have hi := iter_inv (fun i (ys : List Int) => ys.set i (xs.getD i 0)) (fun i ys => ys.length = xs.length ∧ ∀ j, j < i → ys.getD j 0 = xs.getD j 0) xs.length
      (fun i ys hI hi => ⟨by simp [hI.1], fun j hj => by
        by_cases e : j = i
        · subst e
          have := hI.1
          simp [List.getD, List.getElem?_set_self (show j < ys.length by omega)]
        · have := hI.2 j (by omega)
          rw [← this]
          simp [List.getD, List.getElem?_set_ne (Ne.symm e)]⟩) (xs.length - 0) 0 (List.replicate xs.length 0) (by omega) ⟨by simp, fun j hj => by omega⟩
    exact eq_index 0 hi.1 (fun j hj => hi.2 j (by have := hi.1; omega))
  rw [e] at h
  refine Ev.congr (fun k => ?_) h
  unfold laws_toIntS.f
  rw [if_pos (by omega), if_pos (by omega)]
  simp
theorem eqIntS_ev (xs ys : List Int) (hm : xs.length ≤ 9223372036854775806) : Ev (fun k => laws_eqIntS.f k xs ys) (decide (xs = ys)) := by
  by_cases hl : xs.length = ys.length
  · have h := allb_ev (fun k i => laws_eqIntS.l0 k xs ys (i : Int)) xs.length (fun i => decide (xs.getD i 0 = ys.getD i 0))
      (fun i r hi hp h => ev_step (fun k => by
        simp only [laws_eqIntS.l0]
        rw [if_pos (by omega), if_pos (by omega), if_pos (by omega), rd_nat, rd_nat, if_pos (by simpa using hp), w64 (by omega) (by omega)]
        rfl) h)
      (fun i hi hp => ev_step (f := fun _ => some false) (fun k => by
        simp only [laws_eqIntS.l0]
        rw [if_pos (by omega), if_pos (by omega), if_pos (by omega), rd_nat, rd_nat, if_neg (by simpa using hp)]) (ev_some _))
      (ev_step (f := fun _ => some true) (fun k => by
        simp only [laws_eqIntS.l0]
        rw [if_neg (by omega)]) (ev_some _))
    rw [rall_eq 0 hl] at h
    refine Ev.congr (fun k => ?_) h
    unfold laws_eqIntS.f
    rw [if_pos (by omega)]
    rfl
  · refine Ev.congr (f := fun _ => some false) (fun k => ?_) (by rw [decide_eq_false (fun e => hl (by rw [e]))]; exact ev_some _)
    unfold laws_eqIntS.f
    rw [if_neg (by omega)]
theorem toTally_ev (c h : List Int) (hc : c.length ≤ 35184372088832) (hh : h.length ≤ 35184372088832) : Ev (fun k => laws_toTally.f k c h) (c, h) :=
  ev_bind (toIntS_ev c hc) (ev_bind (toIntS_ev h hh) (ev_some _))
theorem eqTally_ev (c h c' h' : List Int) (hc : c.length ≤ 9223372036854775806) (hh : h.length ≤ 9223372036854775806) : Ev (fun k => laws_eqTally.f k c h c' h') (decide (c = c') && decide (h = h')) := by
  unfold laws_eqTally.f
  refine ev_bind (eqIntS_ev c c' hc) ?_
  by_cases e : c = c'
  · rw [decide_eq_true e, Bool.true_and]
    refine ev_ifp rfl (ev_bind (eqIntS_ev h h' hh) ?_)
    by_cases e' : h = h'
    · rw [decide_eq_true e']; exact ev_ifp rfl (ev_some _)
    · rw [decide_eq_false e']; exact ev_ifn (by simp) (ev_some _)
  · rw [decide_eq_false e, Bool.false_and]
    exact ev_ifn (by simp) (ev_some _)
theorem eqTally_self (c h : List Int) (hc : c.length ≤ 9223372036854775806) (hh : h.length ≤ 9223372036854775806) : Ev (fun k => laws_eqTally.f k c h c h) true := by
  have := eqTally_ev c h c h hc hh
  simpa using this
theorem szIntS_is (l : List Int) (a : Int) (ha : 0 ≤ a) (ha2 : a ≤ 1048576) (hl : l.length ≤ 9223372036854775807) : laws_szIntS.f l a = some (if a < l.length then -1 else a - l.length) := by
  unfold laws_szIntS.f
  rw [w64 (by omega) (by omega)]
  split
  · rw [if_pos (by omega)]
  · rw [if_neg (by omega)]
end Go.Proofs.Ytmfgjknffmjjjaa.Pure
namespace Go.Proofs.Ytmfgjknffmjjjaa.P
open Go.RowKit Go.Proofs.YtmfgjknffmjjjaaW.PrintWords Go.Proofs.YtmfgjknffmjjjaaW.PrintLast Go.Proofs.YtmfgjknffmjjjaaW.PrintMore
attribute [local go_sem] max2_int min2_int max_two min_two max_three min_three max_four min_four
set_option linter.unusedVariables false
set_option linter.unusedSimpArgs false
end Go.Proofs.Ytmfgjknffmjjjaa.P
namespace Go.Proofs.Ytmfgjknffmjjjaa.Pure
set_option linter.unusedVariables false
set_option linter.unusedSimpArgs false
open Go.RowKit Go.Proofs.Ytmfgjknffmjjjaa.P Go.Proofs.YtmfgjknffmjjjaaW.PrintWords Go.Proofs.YtmfgjknffmjjjaaW.PrintLast
def cnt (a : Int) (n : Nat) : List Int := (List.range n).map (fun i : Nat => a + (i : Int))
theorem cnt_length (a : Int) (n : Nat) : (cnt a n).length = n := by simp [cnt]
theorem cnt_getD (a : Int) (n i : Nat) (h : i < n) : (cnt a n).getD i 0 = a + i := by simp [cnt, List.getD, h]
theorem markIntS_ev (l : List Int) (a : Int) (h0 : 0 ≤ a) (h1 : a + l.length ≤ 9223372036854775806) : Ev (fun k => laws_markIntS.f k l a) (a + l.length, cnt a l.length) := by
  have h := loop_ev (fun k s i => laws_markIntS.l0 k s (a + (i : Int)) (i : Int)) l.length (fun i s => s.set i (a + i)) (fun s => (a + (l.length : Int), s))
    (fun i s => s.length = l.length ∧ ∀ j, j < i → s.getD j 0 = a + j)
    (fun i s r hI hi h => ev_step (fun k => by
      show laws_markIntS.l0 (k + 1) s (a + (i : Int)) (i : Int) = laws_markIntS.l0 k (s.set i (a + i)) (a + ((i + 1 : Nat) : Int)) ((i + 1 : Nat) : Int)
      have := hI.1
      simp only [laws_markIntS.l0]
      rw [if_pos (by omega), if_pos (by omega), w64 (by omega) (by omega), w64 (by omega) (by omega)]
      simp [Int.add_assoc]) h)
    (fun i s hI hi => ⟨by simp [hI.1], fun j hj => by
      by_cases e : j = i
      · subst e
        have := hI.1
        simp [List.getD, List.getElem?_set_self (show j < s.length by omega)]
      · have := hI.2 j (by omega)
        rw [← this]
        simp [List.getD, List.getElem?_set_ne (Ne.symm e)]⟩)
    (fun s hI => ev_step (f := fun _ => some (a + (l.length : Int), s)) (fun k => by
      have := hI.1
      simp only [laws_markIntS.l0]
      rw [if_neg (by omega)]) (ev_some _)) 0 l (Nat.zero_le _) ⟨rfl, fun j hj => by omega⟩
  have e : iter (fun i (s : List Int) => s.set i (a + i)) 0 (l.length - 0) l = cnt a l.length := by
    have hi := iter_inv (fun i (s : List Int) => s.set i (a + i)) (fun i s => s.length = l.length ∧ ∀ j, j < i → s.getD j 0 = a + j) l.length
      (fun i s hI hi => ⟨by simp [hI.1], fun j hj => by
        by_cases e : j = i
        · subst e
          have := hI.1
          simp [List.getD, List.getElem?_set_self (show j < s.length by omega)]
        · have := hI.2 j (by omega)
          rw [← this]
          simp [List.getD, List.getElem?_set_ne (Ne.symm e)]⟩) (l.length - 0) 0 l (by omega) ⟨rfl, fun j hj => by omega⟩
    exact eq_index 0 (by rw [hi.1, cnt_length]) (fun j hj => by rw [hi.2 j (by have := hi.1; omega), cnt_getD a _ j (by have := hi.1; omega)])
  rw [e] at h
  refine Ev.congr (fun k => ?_) h
  unfold laws_markIntS.f
  simp
theorem markTally_ev (c h : List Int) (a : Int) (h0 : 0 ≤ a) (h1 : a + c.length + h.length ≤ 9223372036854775806) : Ev (fun k => laws_markTally.f k c h a) (a + c.length + h.length, cnt a c.length, cnt (a + c.length) h.length) :=
  ev_bind (markIntS_ev c a h0 (by omega)) (ev_bind (markIntS_ev h (a + c.length) (by omega) (by omega)) (ev_some _))
theorem szTally_go (c h : List Int) (s : Int) (hs : 0 ≤ s) (hs2 : s ≤ 1048576) (hl : c.length ≤ 9223372036854775807 ∧ h.length ≤ 9223372036854775807) :
    (∃ r, laws_szTally.f c h s = some r ∧ r < 0) ∨ ∃ r, laws_szTally.f c h s = some r ∧ ¬ r < 0 ∧ 0 ≤ r ∧ r ≤ s ∧ (c.length : Int) + h.length ≤ s := by
  unfold laws_szTally.f
  rw [szIntS_is c _ hs hs2 hl.1]
  by_cases h1 : s < c.length
  · rw [if_pos h1]
    exact .inl ⟨-1, by simp, by omega⟩
  · rw [if_neg h1, Option.bind_some, if_neg (by omega), szIntS_is h _ (by omega) (by omega) hl.2]
    by_cases h2 : s - c.length < h.length
    · rw [if_pos h2]
      exact .inl ⟨-1, by simp, by omega⟩
    · rw [if_neg h2, Option.bind_some, if_neg (by omega)]
      exact .inr ⟨_, rfl, by omega, by omega, by omega, by omega⟩
theorem FnExactCalibrationOf : laws_FnExactCalibrationOf.Pure := by
  intro c h hl hm
  refine Ev.rounds ?_
  unfold laws_FnExactCalibrationOf.f
  rcases szTally_go c h 1048576 (by first | omega | (dsimp only; omega) | (simp; omega)) (by first | omega | (dsimp only; omega) | (simp; omega)) (⟨hl.1, hm.1⟩) with ⟨rz1, ez1, hz1⟩ | ⟨rz1, ez1, hz1, hza1, hzb1, hlz1⟩
  · exact ev_bind (ev_const ez1) (ev_ifp hz1 (ev_some _))
  refine ev_bind (ev_const ez1) ?_
  refine ev_ifn hz1 ?_
  obtain ⟨⟨r1, g⟩, hs, hi, hr⟩ := calibrationOf_both c h; have hr2 : r1.length ≤ 64 := hr
  refine ev_bind (toTally_ev _ _ (by first | omega | (dsimp only; omega) | (simp; omega)) (by first | omega | (dsimp only; omega) | (simp; omega))) ?_
  refine ev_bind hs ?_
  refine ev_bind (toTally_ev _ _ (by first | omega | (dsimp only; omega) | (simp; omega)) (by first | omega | (dsimp only; omega) | (simp; omega))) ?_
  refine ev_bind hi ?_
  refine ev_bind (eqShareS_self _ (by first | omega | (dsimp only; omega) | (simp; omega))) ?_
  refine ev_ifp rfl ?_
  refine ev_step (fun k => laws_FnExactCalibrationOf.j0.eq_2 _ _ _ _ _ _ _ _ _ k) ?_
  refine ev_ifn (by simp) ?_
  refine ev_bind (toTally_ev _ _ (by first | omega | (dsimp only; omega) | (simp; omega)) (by first | omega | (dsimp only; omega) | (simp; omega))) ?_
  refine ev_bind (eqTally_self _ _ (by first | omega | (dsimp only; omega) | (simp; omega)) (by first | omega | (dsimp only; omega) | (simp; omega))) ?_
  refine ev_ifp rfl ?_
  refine ev_bind (markTally_ev _ _ _ (by first | omega | (dsimp only; omega) | (simp; omega)) (by first | omega | (dsimp only; omega) | (simp; omega))) ?_
  refine ev_ifn (by first | (simp; done) | (simp; omega) | omega) ?_
  refine ev_bind (eqShareS_self _ (by first | omega | (dsimp only; omega) | (simp; omega))) ?_
  refine ev_ifp rfl ?_
  refine ev_step (fun k => laws_FnExactCalibrationOf.j1.eq_2 _ _ _ _ _ _ k) ?_
  refine ev_ifn (by simp) ?_
  refine ev_bind (markShareS_ev _ _ (by first | omega | (dsimp only; omega) | (simp; omega)) (by first | omega | (dsimp only; omega) | (simp; omega))) ?_
  refine ev_bind (heldShareS_ev _ _ (by first | omega | (dsimp only; omega) | (simp; omega)) (by first | omega | (dsimp only; omega) | (simp; omega))) ?_
  refine ev_ifn (by first | (simp; done) | (simp; omega) | omega) ?_
  refine ev_ifp (by first | rfl | (simp; done)) ?_
  refine ev_bind (toTally_ev _ _ (by first | omega | (dsimp only; omega) | (simp; omega)) (by first | omega | (dsimp only; omega) | (simp; omega))) ?_
  refine ev_bind hi ?_
  refine ev_bind (eqShareS_self _ (by first | omega | (dsimp only; omega) | (simp; omega))) ?_
  refine ev_ifp rfl ?_
  refine ev_step (fun k => laws_FnExactCalibrationOf.j2.eq_2 _ _ _ k) ?_
  refine ev_ifn (by simp) ?_
  refine ev_bind (heldShareS_ev _ _ (by first | omega | (dsimp only; omega) | (simp; omega)) (by first | omega | (dsimp only; omega) | (simp; omega))) ?_
  refine ev_ifn (by first | (simp; done) | (simp; omega) | omega) ?_
  refine ev_ifp (by first | rfl | (simp; done)) ?_
  exact ev_some _
end Go.Proofs.Ytmfgjknffmjjjaa.Pure
