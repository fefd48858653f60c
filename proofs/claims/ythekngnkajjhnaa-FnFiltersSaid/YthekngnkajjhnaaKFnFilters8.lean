/- Texts of the claim FnFilters, merged: part 8 of 9: the program's and the reference's functions as Lean functions, the walks that show it, and plain lemmas; no conditions. -/
import Derived.Test.YthekngnkajjhnaaKFnFilters3
import Derived.Test.YthekngnkajjhnaaKFnFilters4
import Derived.Test.YthekngnkajjhnaaKFnFilters5
import Derived.Test.YthekngnkajjhnaaKFnFilters6
import Derived.Test.YthekngnkajjhnaaKFnFilters7
namespace Go.Proofs.Ythekngnkajjhnaa.P
open Go.RowKit Go.Proofs.YthekngnkajjhnaaW.PrintWords Go.Proofs.YthekngnkajjhnaaW.PrintLast Go.Proofs.YthekngnkajjhnaaW.PrintMore
attribute [local go_sem] max2_int min2_int max_two min_two max_three min_three max_four min_four
set_option linter.unusedVariables false
set_option linter.unusedSimpArgs false
mutual
def laws_FnFilters.j0 : Nat → List Int → Int → Bool → Bool → Int → Int → List Int → Int → Int → List Int → Int → Int → List Int → Int → Int → List Int → Int → Int → List Int → Option (Bool)
 | 0, _, _, _, _, _, _, _, _, _, _, _, _, _, _, _, _, _, _, _ => none
 | k + 1, x0, x4, x6, x89, x109000, x109001, x109002, x116000, x116001, x116002, x123000, x123001, x123002, x130000, x130001, x130002, x137000, x137001, x137002 => if x89 = true then (some false) else ((spec_MinimumFilter.f k x109000 x109001 x109002 x4).bind fun bt145 => ((spec_MeanFilter.f k x109000 x109001 x109002 x4).bind fun bt152 => ((spec_MedianFilter.f k x109000 x109001 x109002 x4).bind fun bt159 => ((laws_rFields.f k x123000 x123001 x123002 bt145.1 bt145.2.1 bt145.2.2.1).bind fun t166 => (if t166 = true then ((laws_rFields.f k x130000 x130001 x130002 bt152.1 bt152.2.1 bt152.2.2.1).bind fun t167 => (if t167 = true then ((laws_rFields.f k x137000 x137001 x137002 bt159.1 bt159.2.1 bt159.2.2.1).bind fun t168 => (laws_FnFilters.j1 k x0 x6 (!t168) x109000 x109001 x109002 x116000 x116001 x116002 x123000 x123001 x123002 x130000 x130001 x130002 x137000 x137001 x137002)) else (laws_FnFilters.j1 k x0 x6 true x109000 x109001 x109002 x116000 x116001 x116002 x123000 x123001 x123002 x130000 x130001 x130002 x137000 x137001 x137002))) else (laws_FnFilters.j1 k x0 x6 true x109000 x109001 x109002 x116000 x116001 x116002 x123000 x123001 x123002 x130000 x130001 x130002 x137000 x137001 x137002))))))
def laws_FnFilters.j1 : Nat → List Int → Bool → Bool → Int → Int → List Int → Int → Int → List Int → Int → Int → List Int → Int → Int → List Int → Int → Int → List Int → Option (Bool)
 | 0, _, _, _, _, _, _, _, _, _, _, _, _, _, _, _, _, _, _ => none
 | k + 1, x0, x6, x123, x109000, x109001, x109002, x116000, x116001, x116002, x123000, x123001, x123002, x130000, x130001, x130002, x137000, x137001, x137002 => if x123 = true then (some false) else (laws_FnFilters.l0 k x0 x6 0 x109000 x109001 x109002 x116000 x116001 x116002 x123000 x123001 x123002 x130000 x130001 x130002 x137000 x137001 x137002)
def laws_FnFilters.l0 : Nat → List Int → Bool → Int → Int → Int → List Int → Int → Int → List Int → Int → Int → List Int → Int → Int → List Int → Int → Int → List Int → Option (Bool)
 | 0, _, _, _, _, _, _, _, _, _, _, _, _, _, _, _, _, _, _ => none
 | k + 1, x0, x6, x21, x109000, x109001, x109002, x116000, x116001, x116002, x123000, x123001, x123002, x130000, x130001, x130002, x137000, x137001, x137002 => if x21 < (x109002.length : Int) then (laws_FnFilters.j3 k x0 x6 x21 x6 x109000 x109001 x109002 x116000 x116001 x116002 x123000 x123001 x123002 x130000 x130001 x130002 x137000 x137001 x137002) else (laws_FnFilters.j3 k x0 x6 x21 false x109000 x109001 x109002 x116000 x116001 x116002 x123000 x123001 x123002 x130000 x130001 x130002 x137000 x137001 x137002)
def laws_FnFilters.j3 : Nat → List Int → Bool → Int → Bool → Int → Int → List Int → Int → Int → List Int → Int → Int → List Int → Int → Int → List Int → Int → Int → List Int → Option (Bool)
 | 0, _, _, _, _, _, _, _, _, _, _, _, _, _, _, _, _, _, _, _ => none
 | k + 1, x0, x6, x21, x131, x109000, x109001, x109002, x116000, x116001, x116002, x123000, x123001, x123002, x130000, x130001, x130002, x137000, x137001, x137002 => if x131 = true then (if 0 ≤ x21 then (if x21 < (x123002.length : Int) then (if x21 < (x137002.length : Int) then (if (rd x123002 x21) > (rd x137002 x21) then (laws_FnFilters.j4 k x0 x6 x21 true x109000 x109001 x109002 x116000 x116001 x116002 x123000 x123001 x123002 x130000 x130001 x130002 x137000 x137001 x137002) else (if x21 < (x116002.length : Int) then (if (rd x137002 x21) > (rd x116002 x21) then (laws_FnFilters.j4 k x0 x6 x21 true x109000 x109001 x109002 x116000 x116001 x116002 x123000 x123001 x123002 x130000 x130001 x130002 x137000 x137001 x137002) else (if x21 < (x130002.length : Int) then (if (rd x123002 x21) > (rd x130002 x21) then (laws_FnFilters.j4 k x0 x6 x21 true x109000 x109001 x109002 x116000 x116001 x116002 x123000 x123001 x123002 x130000 x130001 x130002 x137000 x137001 x137002) else (laws_FnFilters.j4 k x0 x6 x21 (decide ((rd x130002 x21) > (rd x116002 x21))) x109000 x109001 x109002 x116000 x116001 x116002 x123000 x123001 x123002 x130000 x130001 x130002 x137000 x137001 x137002)) else (none))) else (none))) else (none)) else (none)) else (none)) else ((spec_DrawCoverageFilter.f k x0).bind fun bt182 => ((impl_CoverageFilter.f k bt182.1 bt182.2.1 bt182.2.2.1 bt182.2.2.2.1 bt182.2.2.2.2).bind fun bt190 => ((spec_CoverageFilter.f k bt182.1 bt182.2.1 bt182.2.2.1 bt182.2.2.2.1 bt182.2.2.2.2).bind fun bt197 => (if (bt190.2.2.2 == bt197.2.2.2) = true then ((laws_rFields.f k bt190.1 bt190.2.1 bt190.2.2.1 bt197.1 bt197.2.1 bt197.2.2.1).bind fun t204 => (some t204)) else (some false)))))
def laws_FnFilters.j4 : Nat → List Int → Bool → Int → Bool → Int → Int → List Int → Int → Int → List Int → Int → Int → List Int → Int → Int → List Int → Int → Int → List Int → Option (Bool)
 | 0, _, _, _, _, _, _, _, _, _, _, _, _, _, _, _, _, _, _, _ => none
 | k + 1, x0, x6, x21, x183, x109000, x109001, x109002, x116000, x116001, x116002, x123000, x123001, x123002, x130000, x130001, x130002, x137000, x137001, x137002 => if x183 = true then (some false) else (if 0 ≤ x21 then (if x21 < (x109002.length : Int) then (if (rd x109002 x21) = (-9999) then (laws_FnFilters.l0 k x0 x6 (wrap64 (x21 + 1)) x109000 x109001 x109002 x116000 x116001 x116002 x123000 x123001 x123002 x130000 x130001 x130002 x137000 x137001 x137002) else (if x21 < (x116002.length : Int) then (if (rd x109002 x21) > (rd x116002 x21) then (some false) else (if x21 < (x123002.length : Int) then (if (rd x109002 x21) < (rd x123002 x21) then (some false) else (laws_FnFilters.l0 k x0 x6 (wrap64 (x21 + 1)) x109000 x109001 x109002 x116000 x116001 x116002 x123000 x123001 x123002 x130000 x130001 x130002 x137000 x137001 x137002)) else (none))) else (none))) else (none)) else (none))
end
def laws_FnFilters.f (k : Nat) (l0 : List Int) : Option (Bool) := (laws_rBig.f l0).bind fun t101 => (if t101 = true then (some true) else ((spec_DrawMaximumFilter.f k l0).bind fun bt102 => ((impl_MaximumFilter.f k bt102.1 bt102.2.1 bt102.2.2.1 bt102.2.2.2).bind fun bt109 => ((impl_MinimumFilter.f k bt102.1 bt102.2.1 bt102.2.2.1 bt102.2.2.2).bind fun bt116 => ((impl_MeanFilter.f k bt102.1 bt102.2.1 bt102.2.2.1 bt102.2.2.2).bind fun bt123 => ((impl_MedianFilter.f k bt102.1 bt102.2.1 bt102.2.2.1 bt102.2.2.2).bind fun bt130 => ((spec_MaximumFilter.f k bt102.1 bt102.2.1 bt102.2.2.1 bt102.2.2.2).bind fun bt137 => (if (bt109.2.2.2 != bt137.2.2.2) = true then (laws_FnFilters.j0 k l0 bt102.2.2.2 bt109.2.2.2 true bt102.1 bt102.2.1 bt102.2.2.1 bt109.1 bt109.2.1 bt109.2.2.1 bt116.1 bt116.2.1 bt116.2.2.1 bt123.1 bt123.2.1 bt123.2.2.1 bt130.1 bt130.2.1 bt130.2.2.1) else (if (bt116.2.2.2 != bt137.2.2.2) = true then (laws_FnFilters.j0 k l0 bt102.2.2.2 bt109.2.2.2 true bt102.1 bt102.2.1 bt102.2.2.1 bt109.1 bt109.2.1 bt109.2.2.1 bt116.1 bt116.2.1 bt116.2.2.1 bt123.1 bt123.2.1 bt123.2.2.1 bt130.1 bt130.2.1 bt130.2.2.1) else (if (bt123.2.2.2 != bt137.2.2.2) = true then (laws_FnFilters.j0 k l0 bt102.2.2.2 bt109.2.2.2 true bt102.1 bt102.2.1 bt102.2.2.1 bt109.1 bt109.2.1 bt109.2.2.1 bt116.1 bt116.2.1 bt116.2.2.1 bt123.1 bt123.2.1 bt123.2.2.1 bt130.1 bt130.2.1 bt130.2.2.1) else (if (bt130.2.2.2 != bt137.2.2.2) = true then (laws_FnFilters.j0 k l0 bt102.2.2.2 bt109.2.2.2 true bt102.1 bt102.2.1 bt102.2.2.1 bt109.1 bt109.2.1 bt109.2.2.1 bt116.1 bt116.2.1 bt116.2.2.1 bt123.1 bt123.2.1 bt123.2.2.1 bt130.1 bt130.2.1 bt130.2.2.1) else ((laws_rFields.f k bt109.1 bt109.2.1 bt109.2.2.1 bt137.1 bt137.2.1 bt137.2.2.1).bind fun t144 => (laws_FnFilters.j0 k l0 bt102.2.2.2 bt109.2.2.2 (!t144) bt102.1 bt102.2.1 bt102.2.2.1 bt109.1 bt109.2.1 bt109.2.2.1 bt116.1 bt116.2.1 bt116.2.2.1 bt123.1 bt123.2.1 bt123.2.2.1 bt130.1 bt130.2.1 bt130.2.2.1)))))))))))))
set_option maxHeartbeats 8000000 in
set_option maxRecDepth 100000 in
theorem laws_FnFilters.calls (k : Nat) (A0 : Option Addr) (c0 : Nat) (l0 : List Int) (r : Bool) (w : World) (hr0 : Kd.C (Kd.int .u8) w A0 l0.length l0) (hc0 : l0.length ≤ c0) (h : laws_FnFilters.f k l0 = some r) :
  Calls Try.prog 3 #[.slice A0 l0.length c0] w fun e w' => e = .returned (.bool r) ∧ Below w.heap.size w w' := by
 have hu26 := Try.underlying26
 have HR0 := Aside0.mk hr0
 have HC0 := Aside0.mk hc0
 clear hr0 hc0
 have HB := aK (Below.refl w.heap.size w)
 have H : ((laws_rBig.f l0).bind fun t101 => (if t101 = true then (some true) else ((spec_DrawMaximumFilter.f k l0).bind fun bt102 => ((impl_MaximumFilter.f k bt102.1 bt102.2.1 bt102.2.2.1 bt102.2.2.2).bind fun bt109 => ((impl_MinimumFilter.f k bt102.1 bt102.2.1 bt102.2.2.1 bt102.2.2.2).bind fun bt116 => ((impl_MeanFilter.f k bt102.1 bt102.2.1 bt102.2.2.1 bt102.2.2.2).bind fun bt123 => ((impl_MedianFilter.f k bt102.1 bt102.2.1 bt102.2.2.1 bt102.2.2.2).bind fun bt130 => ((spec_MaximumFilter.f k bt102.1 bt102.2.1 bt102.2.2.1 bt102.2.2.2).bind fun bt137 => (if (bt109.2.2.2 != bt137.2.2.2) = true then (laws_FnFilters.j0 k l0 bt102.2.2.2 bt109.2.2.2 true bt102.1 bt102.2.1 bt102.2.2.1 bt109.1 bt109.2.1 bt109.2.2.1 bt116.1 bt116.2.1 bt116.2.2.1 bt123.1 bt123.2.1 bt123.2.2.1 bt130.1 bt130.2.1 bt130.2.2.1) else (if (bt116.2.2.2 != bt137.2.2.2) = true then (laws_FnFilters.j0 k l0 bt102.2.2.2 bt109.2.2.2 true bt102.1 bt102.2.1 bt102.2.2.1 bt109.1 bt109.2.1 bt109.2.2.1 bt116.1 bt116.2.1 bt116.2.2.1 bt123.1 bt123.2.1 bt123.2.2.1 bt130.1 bt130.2.1 bt130.2.2.1) else (if (bt123.2.2.2 != bt137.2.2.2) = true then (laws_FnFilters.j0 k l0 bt102.2.2.2 bt109.2.2.2 true bt102.1 bt102.2.1 bt102.2.2.1 bt109.1 bt109.2.1 bt109.2.2.1 bt116.1 bt116.2.1 bt116.2.2.1 bt123.1 bt123.2.1 bt123.2.2.1 bt130.1 bt130.2.1 bt130.2.2.1) else (if (bt130.2.2.2 != bt137.2.2.2) = true then (laws_FnFilters.j0 k l0 bt102.2.2.2 bt109.2.2.2 true bt102.1 bt102.2.1 bt102.2.2.1 bt109.1 bt109.2.1 bt109.2.2.1 bt116.1 bt116.2.1 bt116.2.2.1 bt123.1 bt123.2.1 bt123.2.2.1 bt130.1 bt130.2.1 bt130.2.2.1) else ((laws_rFields.f k bt109.1 bt109.2.1 bt109.2.2.1 bt137.1 bt137.2.1 bt137.2.2.1).bind fun t144 => (laws_FnFilters.j0 k l0 bt102.2.2.2 bt109.2.2.2 (!t144) bt102.1 bt102.2.1 bt102.2.2.1 bt109.1 bt109.2.1 bt109.2.2.1 bt116.1 bt116.2.1 bt116.2.2.1 bt123.1 bt123.2.1 bt123.2.2.1 bt130.1 bt130.2.1 bt130.2.2.1)))))))))))))) = some r := h
 clear h
 replace H := Option.bind_eq_some_iff.mp H
 obtain ⟨t101, A20, H⟩ := H
 replace H : (if t101 = true then (some true) else ((spec_DrawMaximumFilter.f k l0).bind fun bt102 => ((impl_MaximumFilter.f k bt102.1 bt102.2.1 bt102.2.2.1 bt102.2.2.2).bind fun bt109 => ((impl_MinimumFilter.f k bt102.1 bt102.2.1 bt102.2.2.1 bt102.2.2.2).bind fun bt116 => ((impl_MeanFilter.f k bt102.1 bt102.2.1 bt102.2.2.1 bt102.2.2.2).bind fun bt123 => ((impl_MedianFilter.f k bt102.1 bt102.2.1 bt102.2.2.1 bt102.2.2.2).bind fun bt130 => ((spec_MaximumFilter.f k bt102.1 bt102.2.1 bt102.2.2.1 bt102.2.2.2).bind fun bt137 => (if (bt109.2.2.2 != bt137.2.2.2) = true then (laws_FnFilters.j0 k l0 bt102.2.2.2 bt109.2.2.2 true bt102.1 bt102.2.1 bt102.2.2.1 bt109.1 bt109.2.1 bt109.2.2.1 bt116.1 bt116.2.1 bt116.2.2.1 bt123.1 bt123.2.1 bt123.2.2.1 bt130.1 bt130.2.1 bt130.2.2.1) else (if (bt116.2.2.2 != bt137.2.2.2) = true then (laws_FnFilters.j0 k l0 bt102.2.2.2 bt109.2.2.2 true bt102.1 bt102.2.1 bt102.2.2.1 bt109.1 bt109.2.1 bt109.2.2.1 bt116.1 bt116.2.1 bt116.2.2.1 bt123.1 bt123.2.1 bt123.2.2.1 bt130.1 bt130.2.1 bt130.2.2.1) else (if (bt123.2.2.2 != bt137.2.2.2) = true then (laws_FnFilters.j0 k l0 bt102.2.2.2 bt109.2.2.2 true bt102.1 bt102.2.1 bt102.2.2.1 bt109.1 bt109.2.1 bt109.2.2.1 bt116.1 bt116.2.1 bt116.2.2.1 bt123.1 bt123.2.1 bt123.2.2.1 bt130.1 bt130.2.1 bt130.2.2.1) else (if (bt130.2.2.2 != bt137.2.2.2) = true then (laws_FnFilters.j0 k l0 bt102.2.2.2 bt109.2.2.2 true bt102.1 bt102.2.1 bt102.2.2.1 bt109.1 bt109.2.1 bt109.2.2.1 bt116.1 bt116.2.1 bt116.2.2.1 bt123.1 bt123.2.1 bt123.2.2.1 bt130.1 bt130.2.1 bt130.2.2.1) else ((laws_rFields.f k bt109.1 bt109.2.1 bt109.2.2.1 bt137.1 bt137.2.1 bt137.2.2.1).bind fun t144 => (laws_FnFilters.j0 k l0 bt102.2.2.2 bt109.2.2.2 (!t144) bt102.1 bt102.2.1 bt102.2.2.1 bt109.1 bt109.2.1 bt109.2.2.1 bt116.1 bt116.2.1 bt116.2.2.1 bt123.1 bt123.2.1 bt123.2.2.1 bt130.1 bt130.2.1 bt130.2.2.1))))))))))))) = some r := H
 have A2 := Aside0.mk A20
 clear A20
 by_cases c3 : t101 = true
 ·
  subst c3
  have H1 : (some true) = some r := by rw [if_pos rfl] at H; exact H
  clear H
  have H := H1
  clear H1
  obtain rfl := Option.some.inj H
  go_enter Try.func3, Try.ntmps3
  go_wp2_with (first | (go_at_call 15; (with_reducible refine (laws_rBig.calls _ _ l0 true _ ?side1 ?side2 A2.out).mono ?_); (case side1 => exact pC HR0.out); (case side2 => exact HC0.out); rintro e w' ⟨rfl, ⟨nd, rfl⟩⟩; (try first | exact ⟨rfl, _, World.drewN_drewN _ _ _⟩ | exact ⟨rfl, _, Eq.trans (World.drewN_drewN _ _ _) (congrArg (World.drewN _) (Nat.add_assoc _ _ _))⟩)))
  go_ret
  exact ⟨by first | rfl | (simp [errW_none, errW_some] <;> rfl) | (simp [*, errW_none, errW_some] <;> rfl), pT HB.out⟩
 replace c3 := Bool.eq_false_iff.mpr c3
 subst c3
 have H1 : ((spec_DrawMaximumFilter.f k l0).bind fun bt102 => ((impl_MaximumFilter.f k bt102.1 bt102.2.1 bt102.2.2.1 bt102.2.2.2).bind fun bt109 => ((impl_MinimumFilter.f k bt102.1 bt102.2.1 bt102.2.2.1 bt102.2.2.2).bind fun bt116 => ((impl_MeanFilter.f k bt102.1 bt102.2.1 bt102.2.2.1 bt102.2.2.2).bind fun bt123 => ((impl_MedianFilter.f k bt102.1 bt102.2.1 bt102.2.2.1 bt102.2.2.2).bind fun bt130 => ((spec_MaximumFilter.f k bt102.1 bt102.2.1 bt102.2.2.1 bt102.2.2.2).bind fun bt137 => (if (bt109.2.2.2 != bt137.2.2.2) = true then (laws_FnFilters.j0 k l0 bt102.2.2.2 bt109.2.2.2 true bt102.1 bt102.2.1 bt102.2.2.1 bt109.1 bt109.2.1 bt109.2.2.1 bt116.1 bt116.2.1 bt116.2.2.1 bt123.1 bt123.2.1 bt123.2.2.1 bt130.1 bt130.2.1 bt130.2.2.1) else (if (bt116.2.2.2 != bt137.2.2.2) = true then (laws_FnFilters.j0 k l0 bt102.2.2.2 bt109.2.2.2 true bt102.1 bt102.2.1 bt102.2.2.1 bt109.1 bt109.2.1 bt109.2.2.1 bt116.1 bt116.2.1 bt116.2.2.1 bt123.1 bt123.2.1 bt123.2.2.1 bt130.1 bt130.2.1 bt130.2.2.1) else (if (bt123.2.2.2 != bt137.2.2.2) = true then (laws_FnFilters.j0 k l0 bt102.2.2.2 bt109.2.2.2 true bt102.1 bt102.2.1 bt102.2.2.1 bt109.1 bt109.2.1 bt109.2.2.1 bt116.1 bt116.2.1 bt116.2.2.1 bt123.1 bt123.2.1 bt123.2.2.1 bt130.1 bt130.2.1 bt130.2.2.1) else (if (bt130.2.2.2 != bt137.2.2.2) = true then (laws_FnFilters.j0 k l0 bt102.2.2.2 bt109.2.2.2 true bt102.1 bt102.2.1 bt102.2.2.1 bt109.1 bt109.2.1 bt109.2.2.1 bt116.1 bt116.2.1 bt116.2.2.1 bt123.1 bt123.2.1 bt123.2.2.1 bt130.1 bt130.2.1 bt130.2.2.1) else ((laws_rFields.f k bt109.1 bt109.2.1 bt109.2.2.1 bt137.1 bt137.2.1 bt137.2.2.1).bind fun t144 => (laws_FnFilters.j0 k l0 bt102.2.2.2 bt109.2.2.2 (!t144) bt102.1 bt102.2.1 bt102.2.2.1 bt109.1 bt109.2.1 bt109.2.2.1 bt116.1 bt116.2.1 bt116.2.2.1 bt123.1 bt123.2.1 bt123.2.2.1 bt130.1 bt130.2.1 bt130.2.2.1)))))))))))) = some r := by rw [if_neg (show ¬ (false = true) by decide)] at H; exact H
 clear H
 have H := H1
 clear H1
 replace H := Option.bind_eq_some_iff.mp H
 obtain ⟨⟨t102, t103, t104, t107⟩, A40, H⟩ := H
 replace H : ((impl_MaximumFilter.f k t102 t103 t104 t107).bind fun bt109 => ((impl_MinimumFilter.f k t102 t103 t104 t107).bind fun bt116 => ((impl_MeanFilter.f k t102 t103 t104 t107).bind fun bt123 => ((impl_MedianFilter.f k t102 t103 t104 t107).bind fun bt130 => ((spec_MaximumFilter.f k t102 t103 t104 t107).bind fun bt137 => (if (bt109.2.2.2 != bt137.2.2.2) = true then (laws_FnFilters.j0 k l0 t107 bt109.2.2.2 true t102 t103 t104 bt109.1 bt109.2.1 bt109.2.2.1 bt116.1 bt116.2.1 bt116.2.2.1 bt123.1 bt123.2.1 bt123.2.2.1 bt130.1 bt130.2.1 bt130.2.2.1) else (if (bt116.2.2.2 != bt137.2.2.2) = true then (laws_FnFilters.j0 k l0 t107 bt109.2.2.2 true t102 t103 t104 bt109.1 bt109.2.1 bt109.2.2.1 bt116.1 bt116.2.1 bt116.2.2.1 bt123.1 bt123.2.1 bt123.2.2.1 bt130.1 bt130.2.1 bt130.2.2.1) else (if (bt123.2.2.2 != bt137.2.2.2) = true then (laws_FnFilters.j0 k l0 t107 bt109.2.2.2 true t102 t103 t104 bt109.1 bt109.2.1 bt109.2.2.1 bt116.1 bt116.2.1 bt116.2.2.1 bt123.1 bt123.2.1 bt123.2.2.1 bt130.1 bt130.2.1 bt130.2.2.1) else (if (bt130.2.2.2 != bt137.2.2.2) = true then (laws_FnFilters.j0 k l0 t107 bt109.2.2.2 true t102 t103 t104 bt109.1 bt109.2.1 bt109.2.2.1 bt116.1 bt116.2.1 bt116.2.2.1 bt123.1 bt123.2.1 bt123.2.2.1 bt130.1 bt130.2.1 bt130.2.2.1) else ((laws_rFields.f k bt109.1 bt109.2.1 bt109.2.2.1 bt137.1 bt137.2.1 bt137.2.2.1).bind fun t144 => (laws_FnFilters.j0 k l0 t107 bt109.2.2.2 (!t144) t102 t103 t104 bt109.1 bt109.2.1 bt109.2.2.1 bt116.1 bt116.2.1 bt116.2.2.1 bt123.1 bt123.2.1 bt123.2.2.1 bt130.1 bt130.2.1 bt130.2.2.1))))))))))) = some r := H
 have A4 := Aside0.mk A40
 clear A40
 replace H := Option.bind_eq_some_iff.mp H
 obtain ⟨⟨t109, t110, t111, t114⟩, A50, H⟩ := H
 replace H : ((impl_MinimumFilter.f k t102 t103 t104 t107).bind fun bt116 => ((impl_MeanFilter.f k t102 t103 t104 t107).bind fun bt123 => ((impl_MedianFilter.f k t102 t103 t104 t107).bind fun bt130 => ((spec_MaximumFilter.f k t102 t103 t104 t107).bind fun bt137 => (if (t114 != bt137.2.2.2) = true then (laws_FnFilters.j0 k l0 t107 t114 true t102 t103 t104 t109 t110 t111 bt116.1 bt116.2.1 bt116.2.2.1 bt123.1 bt123.2.1 bt123.2.2.1 bt130.1 bt130.2.1 bt130.2.2.1) else (if (bt116.2.2.2 != bt137.2.2.2) = true then (laws_FnFilters.j0 k l0 t107 t114 true t102 t103 t104 t109 t110 t111 bt116.1 bt116.2.1 bt116.2.2.1 bt123.1 bt123.2.1 bt123.2.2.1 bt130.1 bt130.2.1 bt130.2.2.1) else (if (bt123.2.2.2 != bt137.2.2.2) = true then (laws_FnFilters.j0 k l0 t107 t114 true t102 t103 t104 t109 t110 t111 bt116.1 bt116.2.1 bt116.2.2.1 bt123.1 bt123.2.1 bt123.2.2.1 bt130.1 bt130.2.1 bt130.2.2.1) else (if (bt130.2.2.2 != bt137.2.2.2) = true then (laws_FnFilters.j0 k l0 t107 t114 true t102 t103 t104 t109 t110 t111 bt116.1 bt116.2.1 bt116.2.2.1 bt123.1 bt123.2.1 bt123.2.2.1 bt130.1 bt130.2.1 bt130.2.2.1) else ((laws_rFields.f k t109 t110 t111 bt137.1 bt137.2.1 bt137.2.2.1).bind fun t144 => (laws_FnFilters.j0 k l0 t107 t114 (!t144) t102 t103 t104 t109 t110 t111 bt116.1 bt116.2.1 bt116.2.2.1 bt123.1 bt123.2.1 bt123.2.2.1 bt130.1 bt130.2.1 bt130.2.2.1)))))))))) = some r := H
 have A5 := Aside0.mk A50
 clear A50
 replace H := Option.bind_eq_some_iff.mp H
 obtain ⟨⟨t116, t117, t118, t121⟩, A60, H⟩ := H
 replace H : ((impl_MeanFilter.f k t102 t103 t104 t107).bind fun bt123 => ((impl_MedianFilter.f k t102 t103 t104 t107).bind fun bt130 => ((spec_MaximumFilter.f k t102 t103 t104 t107).bind fun bt137 => (if (t114 != bt137.2.2.2) = true then (laws_FnFilters.j0 k l0 t107 t114 true t102 t103 t104 t109 t110 t111 t116 t117 t118 bt123.1 bt123.2.1 bt123.2.2.1 bt130.1 bt130.2.1 bt130.2.2.1) else (if (t121 != bt137.2.2.2) = true then (laws_FnFilters.j0 k l0 t107 t114 true t102 t103 t104 t109 t110 t111 t116 t117 t118 bt123.1 bt123.2.1 bt123.2.2.1 bt130.1 bt130.2.1 bt130.2.2.1) else (if (bt123.2.2.2 != bt137.2.2.2) = true then (laws_FnFilters.j0 k l0 t107 t114 true t102 t103 t104 t109 t110 t111 t116 t117 t118 bt123.1 bt123.2.1 bt123.2.2.1 bt130.1 bt130.2.1 bt130.2.2.1) else (if (bt130.2.2.2 != bt137.2.2.2) = true then (laws_FnFilters.j0 k l0 t107 t114 true t102 t103 t104 t109 t110 t111 t116 t117 t118 bt123.1 bt123.2.1 bt123.2.2.1 bt130.1 bt130.2.1 bt130.2.2.1) else ((laws_rFields.f k t109 t110 t111 bt137.1 bt137.2.1 bt137.2.2.1).bind fun t144 => (laws_FnFilters.j0 k l0 t107 t114 (!t144) t102 t103 t104 t109 t110 t111 t116 t117 t118 bt123.1 bt123.2.1 bt123.2.2.1 bt130.1 bt130.2.1 bt130.2.2.1))))))))) = some r := H
 have A6 := Aside0.mk A60
 clear A60
 replace H := Option.bind_eq_some_iff.mp H
 obtain ⟨⟨t123, t124, t125, t128⟩, A70, H⟩ := H
 replace H : ((impl_MedianFilter.f k t102 t103 t104 t107).bind fun bt130 => ((spec_MaximumFilter.f k t102 t103 t104 t107).bind fun bt137 => (if (t114 != bt137.2.2.2) = true then (laws_FnFilters.j0 k l0 t107 t114 true t102 t103 t104 t109 t110 t111 t116 t117 t118 t123 t124 t125 bt130.1 bt130.2.1 bt130.2.2.1) else (if (t121 != bt137.2.2.2) = true then (laws_FnFilters.j0 k l0 t107 t114 true t102 t103 t104 t109 t110 t111 t116 t117 t118 t123 t124 t125 bt130.1 bt130.2.1 bt130.2.2.1) else (if (t128 != bt137.2.2.2) = true then (laws_FnFilters.j0 k l0 t107 t114 true t102 t103 t104 t109 t110 t111 t116 t117 t118 t123 t124 t125 bt130.1 bt130.2.1 bt130.2.2.1) else (if (bt130.2.2.2 != bt137.2.2.2) = true then (laws_FnFilters.j0 k l0 t107 t114 true t102 t103 t104 t109 t110 t111 t116 t117 t118 t123 t124 t125 bt130.1 bt130.2.1 bt130.2.2.1) else ((laws_rFields.f k t109 t110 t111 bt137.1 bt137.2.1 bt137.2.2.1).bind fun t144 => (laws_FnFilters.j0 k l0 t107 t114 (!t144) t102 t103 t104 t109 t110 t111 t116 t117 t118 t123 t124 t125 bt130.1 bt130.2.1 bt130.2.2.1)))))))) = some r := H
 have A7 := Aside0.mk A70
 clear A70
 replace H := Option.bind_eq_some_iff.mp H
 obtain ⟨⟨t130, t131, t132, t135⟩, A80, H⟩ := H
 replace H : ((spec_MaximumFilter.f k t102 t103 t104 t107).bind fun bt137 => (if (t114 != bt137.2.2.2) = true then (laws_FnFilters.j0 k l0 t107 t114 true t102 t103 t104 t109 t110 t111 t116 t117 t118 t123 t124 t125 t130 t131 t132) else (if (t121 != bt137.2.2.2) = true then (laws_FnFilters.j0 k l0 t107 t114 true t102 t103 t104 t109 t110 t111 t116 t117 t118 t123 t124 t125 t130 t131 t132) else (if (t128 != bt137.2.2.2) = true then (laws_FnFilters.j0 k l0 t107 t114 true t102 t103 t104 t109 t110 t111 t116 t117 t118 t123 t124 t125 t130 t131 t132) else (if (t135 != bt137.2.2.2) = true then (laws_FnFilters.j0 k l0 t107 t114 true t102 t103 t104 t109 t110 t111 t116 t117 t118 t123 t124 t125 t130 t131 t132) else ((laws_rFields.f k t109 t110 t111 bt137.1 bt137.2.1 bt137.2.2.1).bind fun t144 => (laws_FnFilters.j0 k l0 t107 t114 (!t144) t102 t103 t104 t109 t110 t111 t116 t117 t118 t123 t124 t125 t130 t131 t132))))))) = some r := H
 have A8 := Aside0.mk A80
 clear A80
 replace H := Option.bind_eq_some_iff.mp H
 obtain ⟨⟨t137, t138, t139, t142⟩, A90, H⟩ := H
 replace H : (if (t114 != t142) = true then (laws_FnFilters.j0 k l0 t107 t114 true t102 t103 t104 t109 t110 t111 t116 t117 t118 t123 t124 t125 t130 t131 t132) else (if (t121 != t142) = true then (laws_FnFilters.j0 k l0 t107 t114 true t102 t103 t104 t109 t110 t111 t116 t117 t118 t123 t124 t125 t130 t131 t132) else (if (t128 != t142) = true then (laws_FnFilters.j0 k l0 t107 t114 true t102 t103 t104 t109 t110 t111 t116 t117 t118 t123 t124 t125 t130 t131 t132) else (if (t135 != t142) = true then (laws_FnFilters.j0 k l0 t107 t114 true t102 t103 t104 t109 t110 t111 t116 t117 t118 t123 t124 t125 t130 t131 t132) else ((laws_rFields.f k t109 t110 t111 t137 t138 t139).bind fun t144 => (laws_FnFilters.j0 k l0 t107 t114 (!t144) t102 t103 t104 t109 t110 t111 t116 t117 t118 t123 t124 t125 t130 t131 t132)))))) = some r := H
 have A9 := Aside0.mk A90
 clear A90
 have HC10 := Aside0.mk H
 clear H
 go_enter Try.func3, Try.ntmps3
 go_upto_region 9 with (first | (go_at_call 15; (with_reducible refine (laws_rBig.calls _ _ l0 false _ ?side1 ?side2 A2.out).mono ?_); (case side1 => exact pC HR0.out); (case side2 => exact HC0.out); rintro e w' ⟨rfl, ⟨nd, rfl⟩⟩; (try first | exact ⟨rfl, _, World.drewN_drewN _ _ _⟩ | exact ⟨rfl, _, Eq.trans (World.drewN_drewN _ _ _) (congrArg (World.drewN _) (Nat.add_assoc _ _ _))⟩)) | (go_at_call 16; (with_reducible refine (spec_DrawMaximumFilter.calls k _ _ l0 t102 t103 t104 t107 _ ?side1 ?side2 A4.out).mono ?_); (case side1 => exact pC HR0.out); (case side2 => exact HC0.out); rintro e w11 ⟨v105, rfl, ho0, hb⟩; have HO106 := aK (Kd.Q_lower ho0 (below_size (pS HB.out))); replace HB := bS HB hb; (try clear hb); (try clear hb2); (try clear hk); (try clear hi); (try clear ho0)) | ((with_reducible refine gate_dst (N := 3) rfl ?_); refine bxe (cs := #[.int .i64 0, .int .i64 0, .slice none 0 0]) (t := 26) ?_; intro gb108 hg w12 hbox hb; have n0_ := aK (Kd.Q_below (pQ HO106.out) hb); have BK108 := aK (hbox); have GW108 := aK (gE hg (pS HB.out)); have GE108 := aK (gE hg (pS HB.out)); replace HB := bS HB hb; clear HO106; have HO106 := n0_; clear n0_ hb hbox hg; obtain ⟨hcz13_0, hcz13_1, hcz13_2, hfz13_0, hfz13_1, hfz13_2⟩ := bc3 BK108.out; obtain ⟨Ao14, co14, eo14, _⟩ := Kd.Q_slice HO106.out; subst eo14) | (go_at_call 17; (with_reducible refine (impl_MaximumFilter.calls k t102 t103 _ _ t104 t107 t109 t110 t111 t114 _ ?side1 ?side2 A5.out).mono ?_); (case side1 => refine (Kd.Q_reads' (e := 3) (base := w.heap.size) (ok := fun k_ => True) (n := t104.length) (c := co14) ?_).2.2; exact (pQ ((Kd.Q_mono (Kd.Q_far (p := ⟨gb108, 2, none⟩) (Kd.Q_far (p := ⟨gb108, 1, none⟩) (Kd.Q_far (p := ⟨gb108, 0, none⟩) (Kd.Q_types HO106.out BK108.out (by decide)) (fun _ hk => hk.2) (.int .i64 t102)) (fun _ hk => hk.2) (.int .i64 t103)) (fun _ hk => hk.2) (.slice Ao14 t104.length co14)) (fun _ h_ => h_.1))))); (case side2 => exact (Kd.Q_reads' HO106.out).2.1); rintro e w15 ⟨v112, rfl, ho0, hb⟩; have e1_ := aQ hb (pQ ((Kd.Q_mono (Kd.Q_far (p := ⟨gb108, 2, none⟩) (Kd.Q_far (p := ⟨gb108, 1, none⟩) (Kd.Q_far (p := ⟨gb108, 0, none⟩) (Kd.Q_types HO106.out BK108.out (by decide)) (fun _ hk => hk.2) (.int .i64 t102)) (fun _ hk => hk.2) (.int .i64 t103)) (fun _ hk => hk.2) (.slice Ao14 t104.length co14)) (fun _ h_ => h_.1)))); have n0_ := aK (Kd.Q_elder' e1_.out (Kd.R_base ho0) hb); have HO113 := aK (Kd.R_lower (Kd.R_new' ho0 (Kd.Q_lt e1_.out)) (below_size (pS HB.out))); clear e1_; have n2_ := aK (blk_below (g := gb108) (o := .cells #[.int .i64 t102, .int .i64 t103, .slice Ao14 t104.length co14] 26 (0, 0)) (by refine bk ?_; refine blk_put (cs := #[.int .i64 t102, .int .i64 t103, .slice none 0 0]) ?_ 2 _ rfl; refine bk ?_; refine blk_put (cs := #[.int .i64 t102, .int .i64 0, .slice none 0 0]) ?_ 1 _ rfl; refine bk ?_; refine blk_put (cs := #[.int .i64 0, .int .i64 0, .slice none 0 0]) ?_ 0 _ rfl; refine bk ?_; exact BK108.out) hb); replace HB := bS HB hb; clear HO106 BK108; have HO106 := n0_; have BK108 := n2_; clear n0_ n2_; (try clear hb); (try clear hb2); (try clear hk); (try clear hi); (try clear ho0)) | ((with_reducible refine gate_dst (N := 5) rfl ?_); refine bxe (cs := #[.int .i64 0, .int .i64 0, .slice none 0 0]) (t := 26) ?_; intro gb115 hg w16 hbox hb; have n0_ := aK (Kd.Q_below (pQ HO106.out) hb); have n1_ := aK (Kd.R_below (pR HO113.out) hb); have BK115 := aK (hbox); have GW115 := aK (gE hg (pS HB.out)); have GE115 := aK (gE hg (pS HB.out)); have NB108_115 := aK (nL hg (pB BK108.out)); have NB115_108 := aK (nG hg (pB BK108.out)); replace BK108 := bB BK108 hb; replace HB := bS HB hb; clear HO106 HO113; have HO106 := n0_; have HO113 := n1_; clear n0_ n1_ hb hbox hg; have hnb17 := NB115_108.out; have hnc17 := NB108_115.out; obtain ⟨hcz18_0, hcz18_1, hcz18_2, hfz18_0, hfz18_1, hfz18_2⟩ := bc3 BK115.out; obtain ⟨Ao19, co19, eo19⟩ := Kd.R_slice HO113.out; subst eo19; obtain ⟨hcz20_0, hcz20_1, hcz20_2, hfz20_0, hfz20_1, hfz20_2⟩ := bc3 BK108.out) | (go_at_call 18; (with_reducible refine (impl_MinimumFilter.calls k t102 t103 _ _ t104 t107 t116 t117 t118 t121 _ ?side1 ?side2 A6.out).mono ?_); (case side1 => refine (Kd.Q_reads' (e := 3) (base := w.heap.size) (ok := fun k_ => (True ∧ some k_ ≠ (.slice Ao19 t111.length co19 : Value).ownBlock)) (n := t104.length) (c := co14) ?_).2.2; exact (pQ ((Kd.Q_mono (Kd.Q_far (p := ⟨gb115, 2, none⟩) (Kd.Q_far (p := ⟨gb115, 1, none⟩) (Kd.Q_far (p := ⟨gb115, 0, none⟩) (Kd.Q_types HO106.out BK115.out (by decide)) (fun _ hk => hk.2) (.int .i64 t109)) (fun _ hk => hk.2) (.int .i64 t110)) (fun _ hk => hk.2) (.slice Ao19 t111.length co19)) (fun _ h_ => h_.1))))); (case side2 => exact (Kd.Q_reads' HO106.out).2.1); rintro e w21 ⟨v119, rfl, ho0, hb⟩; have e2_ := aQ hb (pQ ((Kd.Q_mono (Kd.Q_far (p := ⟨gb115, 2, none⟩) (Kd.Q_far (p := ⟨gb115, 1, none⟩) (Kd.Q_far (p := ⟨gb115, 0, none⟩) (Kd.Q_types HO106.out BK115.out (by decide)) (fun _ hk => hk.2) (.int .i64 t109)) (fun _ hk => hk.2) (.int .i64 t110)) (fun _ hk => hk.2) (.slice Ao19 t111.length co19)) (fun _ h_ => h_.1)))); have n0_ := aK (Kd.Q_elder' e2_.out (Kd.R_base ho0) hb); have e1_ := aR hb (pR ((Kd.R_mono (Kd.R_far (p := ⟨gb115, 2, none⟩) (Kd.R_far (p := ⟨gb115, 1, none⟩) (Kd.R_far (p := ⟨gb115, 0, none⟩) (Kd.R_types HO113.out BK115.out (by decide)) (fun _ hk => hk.2) (.int .i64 t109)) (fun _ hk => hk.2) (.int .i64 t110)) (fun _ hk => hk.2) (.slice Ao19 t111.length co19)) (fun _ h_ => h_.1)))); have n1_ := aK (Kd.R_elder' e1_.out (Kd.R_base ho0) hb); have HO120 := aK (Kd.R_lower (Kd.R_new' (Kd.R_new' ho0 (Kd.Q_lt e2_.out)) (Kd.R_lt e1_.out)) (below_size (pS HB.out))); clear e2_; clear e1_; have n3_ := aK (blk_below (g := gb108) (o := .cells #[.int .i64 t102, .int .i64 t103, .slice Ao14 t104.length co14] 26 (0, 0)) (by refine bk ?_; refine blk_far ?_ NB108_115.out _; refine bk ?_; refine blk_far ?_ NB108_115.out _; refine bk ?_; refine blk_far ?_ NB108_115.out _; refine bk ?_; exact BK108.out) hb); have n4_ := aK (blk_below (g := gb115) (o := .cells #[.int .i64 t109, .int .i64 t110, .slice Ao19 t111.length co19] 26 (0, 0)) (by refine bk ?_; refine blk_put (cs := #[.int .i64 t109, .int .i64 t110, .slice none 0 0]) ?_ 2 _ rfl; refine bk ?_; refine blk_put (cs := #[.int .i64 t109, .int .i64 0, .slice none 0 0]) ?_ 1 _ rfl; refine bk ?_; refine blk_put (cs := #[.int .i64 0, .int .i64 0, .slice none 0 0]) ?_ 0 _ rfl; refine bk ?_; exact BK115.out) hb); replace HB := bS HB hb; clear HO106 HO113 BK108 BK115; have HO106 := n0_; have HO113 := n1_; have BK108 := n3_; have BK115 := n4_; clear n0_ n1_ n3_ n4_; (try clear hb); (try clear hb2); (try clear hk); (try clear hi); (try clear ho0)) | ((with_reducible refine gate_dst (N := 7) rfl ?_); refine bxe (cs := #[.int .i64 0, .int .i64 0, .slice none 0 0]) (t := 26) ?_; intro gb122 hg w22 hbox hb; have n0_ := aK (Kd.Q_below (pQ HO106.out) hb); have n1_ := aK (Kd.R_below (pR HO113.out) hb); have n2_ := aK (Kd.R_below (pR HO120.out) hb); have BK122 := aK (hbox); have GW122 := aK (gE hg (pS HB.out)); have GE122 := aK (gE hg (pS HB.out)); have NB108_122 := aK (nL hg (pB BK108.out)); have NB122_108 := aK (nG hg (pB BK108.out)); have NB115_122 := aK (nL hg (pB BK115.out)); have NB122_115 := aK (nG hg (pB BK115.out)); replace BK108 := bB BK108 hb; replace BK115 := bB BK115 hb; replace HB := bS HB hb; clear HO106 HO113 HO120; have HO106 := n0_; have HO113 := n1_; have HO120 := n2_; clear n0_ n1_ n2_ hb hbox hg; have hnb23 := NB122_108.out; have hnc23 := NB108_122.out; have hnb24 := NB122_115.out; have hnc24 := NB115_122.out; obtain ⟨hcz25_0, hcz25_1, hcz25_2, hfz25_0, hfz25_1, hfz25_2⟩ := bc3 BK122.out; obtain ⟨Ao26, co26, eo26⟩ := Kd.R_slice HO120.out; subst eo26; obtain ⟨hcz27_0, hcz27_1, hcz27_2, hfz27_0, hfz27_1, hfz27_2⟩ := bc3 BK108.out) | (go_at_call 19; (with_reducible refine (impl_MeanFilter.calls k t102 t103 _ _ t104 t107 t123 t124 t125 t128 _ ?side1 ?side2 A7.out).mono ?_); (case side1 => refine (Kd.Q_reads' (e := 3) (base := w.heap.size) (ok := fun k_ => ((True ∧ some k_ ≠ (.slice Ao19 t111.length co19 : Value).ownBlock) ∧ some k_ ≠ (.slice Ao26 t118.length co26 : Value).ownBlock)) (n := t104.length) (c := co14) ?_).2.2; exact (pQ ((Kd.Q_mono (Kd.Q_far (p := ⟨gb122, 2, none⟩) (Kd.Q_far (p := ⟨gb122, 1, none⟩) (Kd.Q_far (p := ⟨gb122, 0, none⟩) (Kd.Q_types HO106.out BK122.out (by decide)) (fun _ hk => hk.2) (.int .i64 t116)) (fun _ hk => hk.2) (.int .i64 t117)) (fun _ hk => hk.2) (.slice Ao26 t118.length co26)) (fun _ h_ => h_.1))))); (case side2 => exact (Kd.Q_reads' HO106.out).2.1); rintro e w28 ⟨v126, rfl, ho0, hb⟩; have e3_ := aQ hb (pQ ((Kd.Q_mono (Kd.Q_far (p := ⟨gb122, 2, none⟩) (Kd.Q_far (p := ⟨gb122, 1, none⟩) (Kd.Q_far (p := ⟨gb122, 0, none⟩) (Kd.Q_types HO106.out BK122.out (by decide)) (fun _ hk => hk.2) (.int .i64 t116)) (fun _ hk => hk.2) (.int .i64 t117)) (fun _ hk => hk.2) (.slice Ao26 t118.length co26)) (fun _ h_ => h_.1)))); have n0_ := aK (Kd.Q_elder' e3_.out (Kd.R_base ho0) hb); have e2_ := aR hb (pR ((Kd.R_mono (Kd.R_far (p := ⟨gb122, 2, none⟩) (Kd.R_far (p := ⟨gb122, 1, none⟩) (Kd.R_far (p := ⟨gb122, 0, none⟩) (Kd.R_types HO113.out BK122.out (by decide)) (fun _ hk => hk.2) (.int .i64 t116)) (fun _ hk => hk.2) (.int .i64 t117)) (fun _ hk => hk.2) (.slice Ao26 t118.length co26)) (fun _ h_ => h_.1)))); have n1_ := aK (Kd.R_elder' e2_.out (Kd.R_base ho0) hb); have e1_ := aR hb (pR ((Kd.R_mono (Kd.R_far (p := ⟨gb122, 2, none⟩) (Kd.R_far (p := ⟨gb122, 1, none⟩) (Kd.R_far (p := ⟨gb122, 0, none⟩) (Kd.R_types HO120.out BK122.out (by decide)) (fun _ hk => hk.2) (.int .i64 t116)) (fun _ hk => hk.2) (.int .i64 t117)) (fun _ hk => hk.2) (.slice Ao26 t118.length co26)) (fun _ h_ => h_.1)))); have n2_ := aK (Kd.R_elder' e1_.out (Kd.R_base ho0) hb); have HO127 := aK (Kd.R_lower (Kd.R_new' (Kd.R_new' (Kd.R_new' ho0 (Kd.Q_lt e3_.out)) (Kd.R_lt e2_.out)) (Kd.R_lt e1_.out)) (below_size (pS HB.out))); clear e3_; clear e2_; clear e1_; have n4_ := aK (blk_below (g := gb108) (o := .cells #[.int .i64 t102, .int .i64 t103, .slice Ao14 t104.length co14] 26 (0, 0)) (by refine bk ?_; refine blk_far ?_ NB108_122.out _; refine bk ?_; refine blk_far ?_ NB108_122.out _; refine bk ?_; refine blk_far ?_ NB108_122.out _; refine bk ?_; exact BK108.out) hb); have n5_ := aK (blk_below (g := gb115) (o := .cells #[.int .i64 t109, .int .i64 t110, .slice Ao19 t111.length co19] 26 (0, 0)) (by refine bk ?_; refine blk_far ?_ NB115_122.out _; refine bk ?_; refine blk_far ?_ NB115_122.out _; refine bk ?_; refine blk_far ?_ NB115_122.out _; refine bk ?_; exact BK115.out) hb); have n6_ := aK (blk_below (g := gb122) (o := .cells #[.int .i64 t116, .int .i64 t117, .slice Ao26 t118.length co26] 26 (0, 0)) (by refine bk ?_; refine blk_put (cs := #[.int .i64 t116, .int .i64 t117, .slice none 0 0]) ?_ 2 _ rfl; refine bk ?_; refine blk_put (cs := #[.int .i64 t116, .int .i64 0, .slice none 0 0]) ?_ 1 _ rfl; refine bk ?_; refine blk_put (cs := #[.int .i64 0, .int .i64 0, .slice none 0 0]) ?_ 0 _ rfl; refine bk ?_; exact BK122.out) hb); replace HB := bS HB hb; clear HO106 HO113 HO120 BK108 BK115 BK122; have HO106 := n0_; have HO113 := n1_; have HO120 := n2_; have BK108 := n4_; have BK115 := n5_; have BK122 := n6_; clear n0_ n1_ n2_ n4_ n5_ n6_; (try clear hb); (try clear hb2); (try clear hk); (try clear hi); (try clear ho0)) | ((with_reducible refine gate_dst (N := 9) rfl ?_); refine bxe (cs := #[.int .i64 0, .int .i64 0, .slice none 0 0]) (t := 26) ?_; intro gb129 hg w29 hbox hb; have n0_ := aK (Kd.Q_below (pQ HO106.out) hb); have n1_ := aK (Kd.R_below (pR HO113.out) hb); have n2_ := aK (Kd.R_below (pR HO120.out) hb); have n3_ := aK (Kd.R_below (pR HO127.out) hb); have BK129 := aK (hbox); have GW129 := aK (gE hg (pS HB.out)); have GE129 := aK (gE hg (pS HB.out)); have NB108_129 := aK (nL hg (pB BK108.out)); have NB129_108 := aK (nG hg (pB BK108.out)); have NB115_129 := aK (nL hg (pB BK115.out)); have NB129_115 := aK (nG hg (pB BK115.out)); have NB122_129 := aK (nL hg (pB BK122.out)); have NB129_122 := aK (nG hg (pB BK122.out)); replace BK108 := bB BK108 hb; replace BK115 := bB BK115 hb; replace BK122 := bB BK122 hb; replace HB := bS HB hb; clear HO106 HO113 HO120 HO127; have HO106 := n0_; have HO113 := n1_; have HO120 := n2_; have HO127 := n3_; clear n0_ n1_ n2_ n3_ hb hbox hg; have hnb30 := NB129_108.out; have hnc30 := NB108_129.out; have hnb31 := NB129_115.out; have hnc31 := NB115_129.out; have hnb32 := NB129_122.out; have hnc32 := NB122_129.out; obtain ⟨hcz33_0, hcz33_1, hcz33_2, hfz33_0, hfz33_1, hfz33_2⟩ := bc3 BK129.out; obtain ⟨Ao34, co34, eo34⟩ := Kd.R_slice HO127.out; subst eo34; obtain ⟨hcz35_0, hcz35_1, hcz35_2, hfz35_0, hfz35_1, hfz35_2⟩ := bc3 BK108.out) | (go_at_call 20; (with_reducible refine (impl_MedianFilter.calls k t102 t103 _ _ t104 t107 t130 t131 t132 t135 _ ?side1 ?side2 A8.out).mono ?_); (case side1 => refine (Kd.Q_reads' (e := 3) (base := w.heap.size) (ok := fun k_ => (((True ∧ some k_ ≠ (.slice Ao19 t111.length co19 : Value).ownBlock) ∧ some k_ ≠ (.slice Ao26 t118.length co26 : Value).ownBlock) ∧ some k_ ≠ (.slice Ao34 t125.length co34 : Value).ownBlock)) (n := t104.length) (c := co14) ?_).2.2; exact (pQ ((Kd.Q_mono (Kd.Q_far (p := ⟨gb129, 2, none⟩) (Kd.Q_far (p := ⟨gb129, 1, none⟩) (Kd.Q_far (p := ⟨gb129, 0, none⟩) (Kd.Q_types HO106.out BK129.out (by decide)) (fun _ hk => hk.2) (.int .i64 t123)) (fun _ hk => hk.2) (.int .i64 t124)) (fun _ hk => hk.2) (.slice Ao34 t125.length co34)) (fun _ h_ => h_.1))))); (case side2 => exact (Kd.Q_reads' HO106.out).2.1); rintro e w36 ⟨v133, rfl, ho0, hb⟩; have e4_ := aQ hb (pQ ((Kd.Q_mono (Kd.Q_far (p := ⟨gb129, 2, none⟩) (Kd.Q_far (p := ⟨gb129, 1, none⟩) (Kd.Q_far (p := ⟨gb129, 0, none⟩) (Kd.Q_types HO106.out BK129.out (by decide)) (fun _ hk => hk.2) (.int .i64 t123)) (fun _ hk => hk.2) (.int .i64 t124)) (fun _ hk => hk.2) (.slice Ao34 t125.length co34)) (fun _ h_ => h_.1)))); have n0_ := aK (Kd.Q_elder' e4_.out (Kd.R_base ho0) hb); have e3_ := aR hb (pR ((Kd.R_mono (Kd.R_far (p := ⟨gb129, 2, none⟩) (Kd.R_far (p := ⟨gb129, 1, none⟩) (Kd.R_far (p := ⟨gb129, 0, none⟩) (Kd.R_types HO113.out BK129.out (by decide)) (fun _ hk => hk.2) (.int .i64 t123)) (fun _ hk => hk.2) (.int .i64 t124)) (fun _ hk => hk.2) (.slice Ao34 t125.length co34)) (fun _ h_ => h_.1)))); have n1_ := aK (Kd.R_elder' e3_.out (Kd.R_base ho0) hb); have e2_ := aR hb (pR ((Kd.R_mono (Kd.R_far (p := ⟨gb129, 2, none⟩) (Kd.R_far (p := ⟨gb129, 1, none⟩) (Kd.R_far (p := ⟨gb129, 0, none⟩) (Kd.R_types HO120.out BK129.out (by decide)) (fun _ hk => hk.2) (.int .i64 t123)) (fun _ hk => hk.2) (.int .i64 t124)) (fun _ hk => hk.2) (.slice Ao34 t125.length co34)) (fun _ h_ => h_.1)))); have n2_ := aK (Kd.R_elder' e2_.out (Kd.R_base ho0) hb); have e1_ := aR hb (pR ((Kd.R_mono (Kd.R_far (p := ⟨gb129, 2, none⟩) (Kd.R_far (p := ⟨gb129, 1, none⟩) (Kd.R_far (p := ⟨gb129, 0, none⟩) (Kd.R_types HO127.out BK129.out (by decide)) (fun _ hk => hk.2) (.int .i64 t123)) (fun _ hk => hk.2) (.int .i64 t124)) (fun _ hk => hk.2) (.slice Ao34 t125.length co34)) (fun _ h_ => h_.1)))); have n3_ := aK (Kd.R_elder' e1_.out (Kd.R_base ho0) hb); have HO134 := aK (Kd.R_lower (Kd.R_new' (Kd.R_new' (Kd.R_new' (Kd.R_new' ho0 (Kd.Q_lt e4_.out)) (Kd.R_lt e3_.out)) (Kd.R_lt e2_.out)) (Kd.R_lt e1_.out)) (below_size (pS HB.out))); clear e4_; clear e3_; clear e2_; clear e1_; have n5_ := aK (blk_below (g := gb108) (o := .cells #[.int .i64 t102, .int .i64 t103, .slice Ao14 t104.length co14] 26 (0, 0)) (by refine bk ?_; refine blk_far ?_ NB108_129.out _; refine bk ?_; refine blk_far ?_ NB108_129.out _; refine bk ?_; refine blk_far ?_ NB108_129.out _; refine bk ?_; exact BK108.out) hb); have n6_ := aK (blk_below (g := gb115) (o := .cells #[.int .i64 t109, .int .i64 t110, .slice Ao19 t111.length co19] 26 (0, 0)) (by refine bk ?_; refine blk_far ?_ NB115_129.out _; refine bk ?_; refine blk_far ?_ NB115_129.out _; refine bk ?_; refine blk_far ?_ NB115_129.out _; refine bk ?_; exact BK115.out) hb); have n7_ := aK (blk_below (g := gb122) (o := .cells #[.int .i64 t116, .int .i64 t117, .slice Ao26 t118.length co26] 26 (0, 0)) (by refine bk ?_; refine blk_far ?_ NB122_129.out _; refine bk ?_; refine blk_far ?_ NB122_129.out _; refine bk ?_; refine blk_far ?_ NB122_129.out _; refine bk ?_; exact BK122.out) hb); have n8_ := aK (blk_below (g := gb129) (o := .cells #[.int .i64 t123, .int .i64 t124, .slice Ao34 t125.length co34] 26 (0, 0)) (by refine bk ?_; refine blk_put (cs := #[.int .i64 t123, .int .i64 t124, .slice none 0 0]) ?_ 2 _ rfl; refine bk ?_; refine blk_put (cs := #[.int .i64 t123, .int .i64 0, .slice none 0 0]) ?_ 1 _ rfl; refine bk ?_; refine blk_put (cs := #[.int .i64 0, .int .i64 0, .slice none 0 0]) ?_ 0 _ rfl; refine bk ?_; exact BK129.out) hb); replace HB := bS HB hb; clear HO106 HO113 HO120 HO127 BK108 BK115 BK122 BK129; have HO106 := n0_; have HO113 := n1_; have HO120 := n2_; have HO127 := n3_; have BK108 := n5_; have BK115 := n6_; have BK122 := n7_; have BK129 := n8_; clear n0_ n1_ n2_ n3_ n5_ n6_ n7_ n8_; (try clear hb); (try clear hb2); (try clear hk); (try clear hi); (try clear ho0)) | ((with_reducible refine gate_dst (N := 11) rfl ?_); refine bxe (cs := #[.int .i64 0, .int .i64 0, .slice none 0 0]) (t := 26) ?_; intro gb136 hg w37 hbox hb; have n0_ := aK (Kd.Q_below (pQ HO106.out) hb); have n1_ := aK (Kd.R_below (pR HO113.out) hb); have n2_ := aK (Kd.R_below (pR HO120.out) hb); have n3_ := aK (Kd.R_below (pR HO127.out) hb); have n4_ := aK (Kd.R_below (pR HO134.out) hb); have BK136 := aK (hbox); have GW136 := aK (gE hg (pS HB.out)); have GE136 := aK (gE hg (pS HB.out)); have NB108_136 := aK (nL hg (pB BK108.out)); have NB136_108 := aK (nG hg (pB BK108.out)); have NB115_136 := aK (nL hg (pB BK115.out)); have NB136_115 := aK (nG hg (pB BK115.out)); have NB122_136 := aK (nL hg (pB BK122.out)); have NB136_122 := aK (nG hg (pB BK122.out)); have NB129_136 := aK (nL hg (pB BK129.out)); have NB136_129 := aK (nG hg (pB BK129.out)); replace BK108 := bB BK108 hb; replace BK115 := bB BK115 hb; replace BK122 := bB BK122 hb; replace BK129 := bB BK129 hb; replace HB := bS HB hb; clear HO106 HO113 HO120 HO127 HO134; have HO106 := n0_; have HO113 := n1_; have HO120 := n2_; have HO127 := n3_; have HO134 := n4_; clear n0_ n1_ n2_ n3_ n4_ hb hbox hg; have hnb38 := NB136_108.out; have hnc38 := NB108_136.out; have hnb39 := NB136_115.out; have hnc39 := NB115_136.out; have hnb40 := NB136_122.out; have hnc40 := NB122_136.out; have hnb41 := NB136_129.out; have hnc41 := NB129_136.out; obtain ⟨hcz42_0, hcz42_1, hcz42_2, hfz42_0, hfz42_1, hfz42_2⟩ := bc3 BK136.out; obtain ⟨Ao43, co43, eo43⟩ := Kd.R_slice HO134.out; subst eo43; obtain ⟨hcz44_0, hcz44_1, hcz44_2, hfz44_0, hfz44_1, hfz44_2⟩ := bc3 BK108.out) | (go_at_call 21; (with_reducible refine (spec_MaximumFilter.calls k t102 t103 _ _ t104 t107 t137 t138 t139 t142 _ ?side1 ?side2 A9.out).mono ?_); (case side1 => refine (Kd.Q_reads' (e := 3) (base := w.heap.size) (ok := fun k_ => ((((True ∧ some k_ ≠ (.slice Ao19 t111.length co19 : Value).ownBlock) ∧ some k_ ≠ (.slice Ao26 t118.length co26 : Value).ownBlock) ∧ some k_ ≠ (.slice Ao34 t125.length co34 : Value).ownBlock) ∧ some k_ ≠ (.slice Ao43 t132.length co43 : Value).ownBlock)) (n := t104.length) (c := co14) ?_).2.2; exact (pQ ((Kd.Q_mono (Kd.Q_far (p := ⟨gb136, 2, none⟩) (Kd.Q_far (p := ⟨gb136, 1, none⟩) (Kd.Q_far (p := ⟨gb136, 0, none⟩) (Kd.Q_types HO106.out BK136.out (by decide)) (fun _ hk => hk.2) (.int .i64 t130)) (fun _ hk => hk.2) (.int .i64 t131)) (fun _ hk => hk.2) (.slice Ao43 t132.length co43)) (fun _ h_ => h_.1))))); (case side2 => exact (Kd.Q_reads' HO106.out).2.1); rintro e w45 ⟨v140, rfl, ho0, hb⟩; have e5_ := aQ hb (pQ ((Kd.Q_mono (Kd.Q_far (p := ⟨gb136, 2, none⟩) (Kd.Q_far (p := ⟨gb136, 1, none⟩) (Kd.Q_far (p := ⟨gb136, 0, none⟩) (Kd.Q_types HO106.out BK136.out (by decide)) (fun _ hk => hk.2) (.int .i64 t130)) (fun _ hk => hk.2) (.int .i64 t131)) (fun _ hk => hk.2) (.slice Ao43 t132.length co43)) (fun _ h_ => h_.1)))); have n0_ := aK (Kd.Q_elder' e5_.out (Kd.R_base ho0) hb); have e4_ := aR hb (pR ((Kd.R_mono (Kd.R_far (p := ⟨gb136, 2, none⟩) (Kd.R_far (p := ⟨gb136, 1, none⟩) (Kd.R_far (p := ⟨gb136, 0, none⟩) (Kd.R_types HO113.out BK136.out (by decide)) (fun _ hk => hk.2) (.int .i64 t130)) (fun _ hk => hk.2) (.int .i64 t131)) (fun _ hk => hk.2) (.slice Ao43 t132.length co43)) (fun _ h_ => h_.1)))); have n1_ := aK (Kd.R_elder' e4_.out (Kd.R_base ho0) hb); have e3_ := aR hb (pR ((Kd.R_mono (Kd.R_far (p := ⟨gb136, 2, none⟩) (Kd.R_far (p := ⟨gb136, 1, none⟩) (Kd.R_far (p := ⟨gb136, 0, none⟩) (Kd.R_types HO120.out BK136.out (by decide)) (fun _ hk => hk.2) (.int .i64 t130)) (fun _ hk => hk.2) (.int .i64 t131)) (fun _ hk => hk.2) (.slice Ao43 t132.length co43)) (fun _ h_ => h_.1)))); have n2_ := aK (Kd.R_elder' e3_.out (Kd.R_base ho0) hb); have e2_ := aR hb (pR ((Kd.R_mono (Kd.R_far (p := ⟨gb136, 2, none⟩) (Kd.R_far (p := ⟨gb136, 1, none⟩) (Kd.R_far (p := ⟨gb136, 0, none⟩) (Kd.R_types HO127.out BK136.out (by decide)) (fun _ hk => hk.2) (.int .i64 t130)) (fun _ hk => hk.2) (.int .i64 t131)) (fun _ hk => hk.2) (.slice Ao43 t132.length co43)) (fun _ h_ => h_.1)))); have n3_ := aK (Kd.R_elder' e2_.out (Kd.R_base ho0) hb); have e1_ := aR hb (pR ((Kd.R_mono (Kd.R_far (p := ⟨gb136, 2, none⟩) (Kd.R_far (p := ⟨gb136, 1, none⟩) (Kd.R_far (p := ⟨gb136, 0, none⟩) (Kd.R_types HO134.out BK136.out (by decide)) (fun _ hk => hk.2) (.int .i64 t130)) (fun _ hk => hk.2) (.int .i64 t131)) (fun _ hk => hk.2) (.slice Ao43 t132.length co43)) (fun _ h_ => h_.1)))); have n4_ := aK (Kd.R_elder' e1_.out (Kd.R_base ho0) hb); have HO141 := aK (Kd.R_lower (Kd.R_new' (Kd.R_new' (Kd.R_new' (Kd.R_new' (Kd.R_new' ho0 (Kd.Q_lt e5_.out)) (Kd.R_lt e4_.out)) (Kd.R_lt e3_.out)) (Kd.R_lt e2_.out)) (Kd.R_lt e1_.out)) (below_size (pS HB.out))); clear e5_; clear e4_; clear e3_; clear e2_; clear e1_; have n6_ := aK (blk_below (g := gb108) (o := .cells #[.int .i64 t102, .int .i64 t103, .slice Ao14 t104.length co14] 26 (0, 0)) (by refine bk ?_; refine blk_far ?_ NB108_136.out _; refine bk ?_; refine blk_far ?_ NB108_136.out _; refine bk ?_; refine blk_far ?_ NB108_136.out _; refine bk ?_; exact BK108.out) hb); have n7_ := aK (blk_below (g := gb115) (o := .cells #[.int .i64 t109, .int .i64 t110, .slice Ao19 t111.length co19] 26 (0, 0)) (by refine bk ?_; refine blk_far ?_ NB115_136.out _; refine bk ?_; refine blk_far ?_ NB115_136.out _; refine bk ?_; refine blk_far ?_ NB115_136.out _; refine bk ?_; exact BK115.out) hb); have n8_ := aK (blk_below (g := gb122) (o := .cells #[.int .i64 t116, .int .i64 t117, .slice Ao26 t118.length co26] 26 (0, 0)) (by refine bk ?_; refine blk_far ?_ NB122_136.out _; refine bk ?_; refine blk_far ?_ NB122_136.out _; refine bk ?_; refine blk_far ?_ NB122_136.out _; refine bk ?_; exact BK122.out) hb); have n9_ := aK (blk_below (g := gb129) (o := .cells #[.int .i64 t123, .int .i64 t124, .slice Ao34 t125.length co34] 26 (0, 0)) (by refine bk ?_; refine blk_far ?_ NB129_136.out _; refine bk ?_; refine blk_far ?_ NB129_136.out _; refine bk ?_; refine blk_far ?_ NB129_136.out _; refine bk ?_; exact BK129.out) hb); have n10_ := aK (blk_below (g := gb136) (o := .cells #[.int .i64 t130, .int .i64 t131, .slice Ao43 t132.length co43] 26 (0, 0)) (by refine bk ?_; refine blk_put (cs := #[.int .i64 t130, .int .i64 t131, .slice none 0 0]) ?_ 2 _ rfl; refine bk ?_; refine blk_put (cs := #[.int .i64 t130, .int .i64 0, .slice none 0 0]) ?_ 1 _ rfl; refine bk ?_; refine blk_put (cs := #[.int .i64 0, .int .i64 0, .slice none 0 0]) ?_ 0 _ rfl; refine bk ?_; exact BK136.out) hb); replace HB := bS HB hb; clear HO106 HO113 HO120 HO127 HO134 BK108 BK115 BK122 BK129 BK136; have HO106 := n0_; have HO113 := n1_; have HO120 := n2_; have HO127 := n3_; have HO134 := n4_; have BK108 := n6_; have BK115 := n7_; have BK122 := n8_; have BK129 := n9_; have BK136 := n10_; clear n0_ n1_ n2_ n3_ n4_ n6_ n7_ n8_ n9_ n10_; (try clear hb); (try clear hb2); (try clear hk); (try clear hi); (try clear ho0)) | ((with_reducible refine gate_dst (N := 13) rfl ?_); refine bxe (cs := #[.int .i64 0, .int .i64 0, .slice none 0 0]) (t := 26) ?_; intro gb143 hg w46 hbox hb; have n0_ := aK (Kd.Q_below (pQ HO106.out) hb); have n1_ := aK (Kd.R_below (pR HO113.out) hb); have n2_ := aK (Kd.R_below (pR HO120.out) hb); have n3_ := aK (Kd.R_below (pR HO127.out) hb); have n4_ := aK (Kd.R_below (pR HO134.out) hb); have n5_ := aK (Kd.R_below (pR HO141.out) hb); have BK143 := aK (hbox); have GW143 := aK (gE hg (pS HB.out)); have GE143 := aK (gE hg (pS HB.out)); have NB108_143 := aK (nL hg (pB BK108.out)); have NB143_108 := aK (nG hg (pB BK108.out)); have NB115_143 := aK (nL hg (pB BK115.out)); have NB143_115 := aK (nG hg (pB BK115.out)); have NB122_143 := aK (nL hg (pB BK122.out)); have NB143_122 := aK (nG hg (pB BK122.out)); have NB129_143 := aK (nL hg (pB BK129.out)); have NB143_129 := aK (nG hg (pB BK129.out)); have NB136_143 := aK (nL hg (pB BK136.out)); have NB143_136 := aK (nG hg (pB BK136.out)); replace BK108 := bB BK108 hb; replace BK115 := bB BK115 hb; replace BK122 := bB BK122 hb; replace BK129 := bB BK129 hb; replace BK136 := bB BK136 hb; replace HB := bS HB hb; clear HO106 HO113 HO120 HO127 HO134 HO141; have HO106 := n0_; have HO113 := n1_; have HO120 := n2_; have HO127 := n3_; have HO134 := n4_; have HO141 := n5_; clear n0_ n1_ n2_ n3_ n4_ n5_ hb hbox hg; have hnb47 := NB143_108.out; have hnc47 := NB108_143.out; have hnb48 := NB143_115.out; have hnc48 := NB115_143.out; have hnb49 := NB143_122.out; have hnc49 := NB122_143.out; have hnb50 := NB143_129.out; have hnc50 := NB129_143.out; have hnb51 := NB143_136.out; have hnc51 := NB136_143.out; obtain ⟨hcz52_0, hcz52_1, hcz52_2, hfz52_0, hfz52_1, hfz52_2⟩ := bc3 BK143.out; obtain ⟨Ao53, co53, eo53⟩ := Kd.R_slice HO141.out; subst eo53))
 (try simp only [Act.put, List.setIfInBounds_toArray, List.set_cons_zero, List.set_cons_succ])
 go_cut [89] (fun v89 wc => ∃ (kq : Nat) (x89_9 : Bool), v89 = .bool x89_9 ∧ Aside0 (laws_FnFilters.j0 kq l0 t107 t114 x89_9 t102 t103 t104 t109 t110 t111 t116 t117 t118 t123 t124 t125 t130 t131 t132 = some r) ∧ Aside0 (kq ≤ k) ∧ Aside0 (Kd.Q (Kd.int .i64) 3 wc w.heap.size (fun k_ => some k_ ≠ ((.slice Ao19 t111.length co19) : Value).ownBlock ∧ some k_ ≠ ((.slice Ao26 t118.length co26) : Value).ownBlock ∧ some k_ ≠ ((.slice Ao34 t125.length co34) : Value).ownBlock ∧ some k_ ≠ ((.slice Ao43 t132.length co43) : Value).ownBlock) (.slice Ao14 t104.length co14) t104) ∧ Aside0 (Kd.Q (Kd.int .i64) 3 wc w.heap.size (fun k_ => some k_ ≠ ((.slice Ao14 t104.length co14) : Value).ownBlock ∧ some k_ ≠ ((.slice Ao26 t118.length co26) : Value).ownBlock ∧ some k_ ≠ ((.slice Ao34 t125.length co34) : Value).ownBlock ∧ some k_ ≠ ((.slice Ao43 t132.length co43) : Value).ownBlock) (.slice Ao19 t111.length co19) t111) ∧ Aside0 (Kd.Q (Kd.int .i64) 3 wc w.heap.size (fun k_ => some k_ ≠ ((.slice Ao14 t104.length co14) : Value).ownBlock ∧ some k_ ≠ ((.slice Ao19 t111.length co19) : Value).ownBlock ∧ some k_ ≠ ((.slice Ao34 t125.length co34) : Value).ownBlock ∧ some k_ ≠ ((.slice Ao43 t132.length co43) : Value).ownBlock) (.slice Ao26 t118.length co26) t118) ∧ Aside0 (Kd.Q (Kd.int .i64) 3 wc w.heap.size (fun k_ => some k_ ≠ ((.slice Ao14 t104.length co14) : Value).ownBlock ∧ some k_ ≠ ((.slice Ao19 t111.length co19) : Value).ownBlock ∧ some k_ ≠ ((.slice Ao26 t118.length co26) : Value).ownBlock ∧ some k_ ≠ ((.slice Ao43 t132.length co43) : Value).ownBlock) (.slice Ao34 t125.length co34) t125) ∧ Aside0 (Kd.Q (Kd.int .i64) 3 wc w.heap.size (fun k_ => some k_ ≠ ((.slice Ao14 t104.length co14) : Value).ownBlock ∧ some k_ ≠ ((.slice Ao19 t111.length co19) : Value).ownBlock ∧ some k_ ≠ ((.slice Ao26 t118.length co26) : Value).ownBlock ∧ some k_ ≠ ((.slice Ao34 t125.length co34) : Value).ownBlock) (.slice Ao43 t132.length co43) t132) ∧ Aside0 (wc.heap[gb108]? = some (.cells #[.int .i64 t102, .int .i64 t103, (.slice Ao14 t104.length co14)] 26 (0, 0))) ∧ Aside0 (wc.heap[gb115]? = some (.cells #[.int .i64 t109, .int .i64 t110, (.slice Ao19 t111.length co19)] 26 (0, 0))) ∧ Aside0 (wc.heap[gb122]? = some (.cells #[.int .i64 t116, .int .i64 t117, (.slice Ao26 t118.length co26)] 26 (0, 0))) ∧ Aside0 (wc.heap[gb129]? = some (.cells #[.int .i64 t123, .int .i64 t124, (.slice Ao34 t125.length co34)] 26 (0, 0))) ∧ Aside0 (wc.heap[gb136]? = some (.cells #[.int .i64 t130, .int .i64 t131, (.slice Ao43 t132.length co43)] 26 (0, 0))) ∧ Aside0 (Below w.heap.size w wc))
 case first => as_aux_lemma =>
  have H := HC10.out
  clear HC10
  by_cases c54 : (t114 != t142) = true
  ·
   rw [if_pos c54] at H
   have c54b0 : (t114 != t142) = true := c54
   (try (have c54b1 : decide (t114 = t142) = false := by simpa using c54))
   (try (have c54b2 : (t114 == t142) = false := by simpa using c54))
   (try (have c54b3 : ¬ (t114 = t142) := by simpa using c54))
   clear c54
   (first | rw [c54b0] | (simp only [i64_w, i32_w]; rw [c54b0]) | skip)
   have H' := Aside0.mk H
   clear H
   go_wp2
   repeat (go_quiet (fail); try go_wp2)
   go_meet
   case rel => exact ⟨_, (true), (by first | rfl | (simp; done) | (simp [*]; done)), H', ⟨by first | omega | exact Nat.le_refl _⟩, ⟨by (with_reducible repeat (first | apply Kd.Q_alloc | apply Kd.Q_drewN | apply Kd.Q_drew)); exact Kd.Q_mono (Kd.Q_far (p := ⟨gb143, 2, none⟩) (Kd.Q_far (p := ⟨gb143, 1, none⟩) (Kd.Q_far (p := ⟨gb143, 0, none⟩) (Kd.Q_types HO106.out BK143.out (by decide)) (fun _ hk => hk.2) (.int .i64 t137)) (fun _ hk => hk.2) (.int .i64 t138)) (fun _ hk => hk.2) (.slice Ao53 t139.length co53)) (fun _ hk => ⟨hk.1.1.1.1.1.2, ⟨hk.1.1.1.1.2, ⟨hk.1.1.1.2, hk.1.1.2⟩⟩⟩)⟩, ⟨Kd.Q_of_R (pR (Kd.R_mono (Kd.R_far (p := ⟨gb143, 2, none⟩) (Kd.R_far (p := ⟨gb143, 1, none⟩) (Kd.R_far (p := ⟨gb143, 0, none⟩) (Kd.R_types HO113.out BK143.out (by decide)) (fun _ hk => hk.2) (.int .i64 t137)) (fun _ hk => hk.2) (.int .i64 t138)) (fun _ hk => hk.2) (.slice Ao53 t139.length co53)) (fun _ hk => ⟨hk.1.1.1.1.1.2, ⟨hk.1.1.1.1.2, ⟨hk.1.1.1.2, hk.1.1.2⟩⟩⟩)))⟩, ⟨Kd.Q_of_R (pR (Kd.R_mono (Kd.R_far (p := ⟨gb143, 2, none⟩) (Kd.R_far (p := ⟨gb143, 1, none⟩) (Kd.R_far (p := ⟨gb143, 0, none⟩) (Kd.R_types HO120.out BK143.out (by decide)) (fun _ hk => hk.2) (.int .i64 t137)) (fun _ hk => hk.2) (.int .i64 t138)) (fun _ hk => hk.2) (.slice Ao53 t139.length co53)) (fun _ hk => ⟨hk.1.1.1.1.1.2, ⟨hk.1.1.1.1.2, ⟨hk.1.1.1.2, hk.1.1.2⟩⟩⟩)))⟩, ⟨Kd.Q_of_R (pR (Kd.R_mono (Kd.R_far (p := ⟨gb143, 2, none⟩) (Kd.R_far (p := ⟨gb143, 1, none⟩) (Kd.R_far (p := ⟨gb143, 0, none⟩) (Kd.R_types HO127.out BK143.out (by decide)) (fun _ hk => hk.2) (.int .i64 t137)) (fun _ hk => hk.2) (.int .i64 t138)) (fun _ hk => hk.2) (.slice Ao53 t139.length co53)) (fun _ hk => ⟨hk.1.1.1.1.1.2, ⟨hk.1.1.1.1.2, ⟨hk.1.1.1.2, hk.1.1.2⟩⟩⟩)))⟩, ⟨Kd.Q_of_R (pR (Kd.R_mono (Kd.R_far (p := ⟨gb143, 2, none⟩) (Kd.R_far (p := ⟨gb143, 1, none⟩) (Kd.R_far (p := ⟨gb143, 0, none⟩) (Kd.R_types HO134.out BK143.out (by decide)) (fun _ hk => hk.2) (.int .i64 t137)) (fun _ hk => hk.2) (.int .i64 t138)) (fun _ hk => hk.2) (.slice Ao53 t139.length co53)) (fun _ hk => ⟨hk.1.1.1.1.1.2, ⟨hk.1.1.1.1.2, ⟨hk.1.1.1.2, hk.1.1.2⟩⟩⟩)))⟩, ⟨by refine bk ?_; refine blk_far ?_ NB108_143.out _; refine bk ?_; refine blk_far ?_ NB108_143.out _; refine bk ?_; refine blk_far ?_ NB108_143.out _; refine bk ?_; exact BK108.out⟩, ⟨by refine bk ?_; refine blk_far ?_ NB115_143.out _; refine bk ?_; refine blk_far ?_ NB115_143.out _; refine bk ?_; refine blk_far ?_ NB115_143.out _; refine bk ?_; exact BK115.out⟩, ⟨by refine bk ?_; refine blk_far ?_ NB122_143.out _; refine bk ?_; refine blk_far ?_ NB122_143.out _; refine bk ?_; refine blk_far ?_ NB122_143.out _; refine bk ?_; exact BK122.out⟩, ⟨by refine bk ?_; refine blk_far ?_ NB129_143.out _; refine bk ?_; refine blk_far ?_ NB129_143.out _; refine bk ?_; refine blk_far ?_ NB129_143.out _; refine bk ?_; exact BK129.out⟩, ⟨by refine bk ?_; refine blk_far ?_ NB136_143.out _; refine bk ?_; refine blk_far ?_ NB136_143.out _; refine bk ?_; refine blk_far ?_ NB136_143.out _; refine bk ?_; exact BK136.out⟩, ⟨pT HB.out⟩⟩
  rw [if_neg c54] at H
  have c54b0 : (t114 != t142) = false := by simpa using c54
  (try (have c54b1 : decide (t114 = t142) = true := by simpa using c54))
  (try (have c54b2 : (t114 == t142) = true := by simpa using c54))
  clear c54
  (first | rw [c54b0] | (simp only [i64_w, i32_w]; rw [c54b0]) | skip)
  by_cases c55 : (t121 != t142) = true
  ·
   rw [if_pos c55] at H
   have c55b0 : (t121 != t142) = true := c55
   (try (have c55b1 : decide (t121 = t142) = false := by simpa using c55))
   (try (have c55b2 : (t121 == t142) = false := by simpa using c55))
   (try (have c55b3 : ¬ (t121 = t142) := by simpa using c55))
   clear c55
   have H' := Aside0.mk H
   clear H
   go_wp2
   repeat (go_quiet (fail); try go_wp2)
   go_meet
   case rel => exact ⟨_, (true), (by first | rfl | (simp; done) | (simp [*]; done)), H', ⟨by first | omega | exact Nat.le_refl _⟩, ⟨by (with_reducible repeat (first | apply Kd.Q_alloc | apply Kd.Q_drewN | apply Kd.Q_drew)); exact Kd.Q_mono (Kd.Q_far (p := ⟨gb143, 2, none⟩) (Kd.Q_far (p := ⟨gb143, 1, none⟩) (Kd.Q_far (p := ⟨gb143, 0, none⟩) (Kd.Q_types HO106.out BK143.out (by decide)) (fun _ hk => hk.2) (.int .i64 t137)) (fun _ hk => hk.2) (.int .i64 t138)) (fun _ hk => hk.2) (.slice Ao53 t139.length co53)) (fun _ hk => ⟨hk.1.1.1.1.1.2, ⟨hk.1.1.1.1.2, ⟨hk.1.1.1.2, hk.1.1.2⟩⟩⟩)⟩, ⟨Kd.Q_of_R (pR (Kd.R_mono (Kd.R_far (p := ⟨gb143, 2, none⟩) (Kd.R_far (p := ⟨gb143, 1, none⟩) (Kd.R_far (p := ⟨gb143, 0, none⟩) (Kd.R_types HO113.out BK143.out (by decide)) (fun _ hk => hk.2) (.int .i64 t137)) (fun _ hk => hk.2) (.int .i64 t138)) (fun _ hk => hk.2) (.slice Ao53 t139.length co53)) (fun _ hk => ⟨hk.1.1.1.1.1.2, ⟨hk.1.1.1.1.2, ⟨hk.1.1.1.2, hk.1.1.2⟩⟩⟩)))⟩, ⟨Kd.Q_of_R (pR (Kd.R_mono (Kd.R_far (p := ⟨gb143, 2, none⟩) (Kd.R_far (p := ⟨gb143, 1, none⟩) (Kd.R_far (p := ⟨gb143, 0, none⟩) (Kd.R_types HO120.out BK143.out (by decide)) (fun _ hk => hk.2) (.int .i64 t137)) (fun _ hk => hk.2) (.int .i64 t138)) (fun _ hk => hk.2) (.slice Ao53 t139.length co53)) (fun _ hk => ⟨hk.1.1.1.1.1.2, ⟨hk.1.1.1.1.2, ⟨hk.1.1.1.2, hk.1.1.2⟩⟩⟩)))⟩, ⟨Kd.Q_of_R (pR (Kd.R_mono (Kd.R_far (p := ⟨gb143, 2, none⟩) (Kd.R_far (p := ⟨gb143, 1, none⟩) (Kd.R_far (p := ⟨gb143, 0, none⟩) (Kd.R_types HO127.out BK143.out (by decide)) (fun _ hk => hk.2) (.int .i64 t137)) (fun _ hk => hk.2) (.int .i64 t138)) (fun _ hk => hk.2) (.slice Ao53 t139.length co53)) (fun _ hk => ⟨hk.1.1.1.1.1.2, ⟨hk.1.1.1.1.2, ⟨hk.1.1.1.2, hk.1.1.2⟩⟩⟩)))⟩, ⟨Kd.Q_of_R (pR (Kd.R_mono (Kd.R_far (p := ⟨gb143, 2, none⟩) (Kd.R_far (p := ⟨gb143, 1, none⟩) (Kd.R_far (p := ⟨gb143, 0, none⟩) (Kd.R_types HO134.out BK143.out (by decide)) (fun _ hk => hk.2) (.int .i64 t137)) (fun _ hk => hk.2) (.int .i64 t138)) (fun _ hk => hk.2) (.slice Ao53 t139.length co53)) (fun _ hk => ⟨hk.1.1.1.1.1.2, ⟨hk.1.1.1.1.2, ⟨hk.1.1.1.2, hk.1.1.2⟩⟩⟩)))⟩, ⟨by refine bk ?_; refine blk_far ?_ NB108_143.out _; refine bk ?_; refine blk_far ?_ NB108_143.out _; refine bk ?_; refine blk_far ?_ NB108_143.out _; refine bk ?_; exact BK108.out⟩, ⟨by refine bk ?_; refine blk_far ?_ NB115_143.out _; refine bk ?_; refine blk_far ?_ NB115_143.out _; refine bk ?_; refine blk_far ?_ NB115_143.out _; refine bk ?_; exact BK115.out⟩, ⟨by refine bk ?_; refine blk_far ?_ NB122_143.out _; refine bk ?_; refine blk_far ?_ NB122_143.out _; refine bk ?_; refine blk_far ?_ NB122_143.out _; refine bk ?_; exact BK122.out⟩, ⟨by refine bk ?_; refine blk_far ?_ NB129_143.out _; refine bk ?_; refine blk_far ?_ NB129_143.out _; refine bk ?_; refine blk_far ?_ NB129_143.out _; refine bk ?_; exact BK129.out⟩, ⟨by refine bk ?_; refine blk_far ?_ NB136_143.out _; refine bk ?_; refine blk_far ?_ NB136_143.out _; refine bk ?_; refine blk_far ?_ NB136_143.out _; refine bk ?_; exact BK136.out⟩, ⟨pT HB.out⟩⟩
  rw [if_neg c55] at H
  have c55b0 : (t121 != t142) = false := by simpa using c55
  (try (have c55b1 : decide (t121 = t142) = true := by simpa using c55))
  (try (have c55b2 : (t121 == t142) = true := by simpa using c55))
  clear c55
  by_cases c56 : (t128 != t142) = true
  ·
   rw [if_pos c56] at H
   have c56b0 : (t128 != t142) = true := c56
   (try (have c56b1 : decide (t128 = t142) = false := by simpa using c56))
   (try (have c56b2 : (t128 == t142) = false := by simpa using c56))
   (try (have c56b3 : ¬ (t128 = t142) := by simpa using c56))
   clear c56
   have H' := Aside0.mk H
   clear H
   go_wp2
   repeat (go_quiet (fail); try go_wp2)
   go_meet
   case rel => exact ⟨_, (true), (by first | rfl | (simp; done) | (simp [*]; done)), H', ⟨by first | omega | exact Nat.le_refl _⟩, ⟨by (with_reducible repeat (first | apply Kd.Q_alloc | apply Kd.Q_drewN | apply Kd.Q_drew)); exact Kd.Q_mono (Kd.Q_far (p := ⟨gb143, 2, none⟩) (Kd.Q_far (p := ⟨gb143, 1, none⟩) (Kd.Q_far (p := ⟨gb143, 0, none⟩) (Kd.Q_types HO106.out BK143.out (by decide)) (fun _ hk => hk.2) (.int .i64 t137)) (fun _ hk => hk.2) (.int .i64 t138)) (fun _ hk => hk.2) (.slice Ao53 t139.length co53)) (fun _ hk => ⟨hk.1.1.1.1.1.2, ⟨hk.1.1.1.1.2, ⟨hk.1.1.1.2, hk.1.1.2⟩⟩⟩)⟩, ⟨Kd.Q_of_R (pR (Kd.R_mono (Kd.R_far (p := ⟨gb143, 2, none⟩) (Kd.R_far (p := ⟨gb143, 1, none⟩) (Kd.R_far (p := ⟨gb143, 0, none⟩) (Kd.R_types HO113.out BK143.out (by decide)) (fun _ hk => hk.2) (.int .i64 t137)) (fun _ hk => hk.2) (.int .i64 t138)) (fun _ hk => hk.2) (.slice Ao53 t139.length co53)) (fun _ hk => ⟨hk.1.1.1.1.1.2, ⟨hk.1.1.1.1.2, ⟨hk.1.1.1.2, hk.1.1.2⟩⟩⟩)))⟩, ⟨Kd.Q_of_R (pR (Kd.R_mono (Kd.R_far (p := ⟨gb143, 2, none⟩) (Kd.R_far (p := ⟨gb143, 1, none⟩) (Kd.R_far (p := ⟨gb143, 0, none⟩) (Kd.R_types HO120.out BK143.out (by decide)) (fun _ hk => hk.2) (.int .i64 t137)) (fun _ hk => hk.2) (.int .i64 t138)) (fun _ hk => hk.2) (.slice Ao53 t139.length co53)) (fun _ hk => ⟨hk.1.1.1.1.1.2, ⟨hk.1.1.1.1.2, ⟨hk.1.1.1.2, hk.1.1.2⟩⟩⟩)))⟩, ⟨Kd.Q_of_R (pR (Kd.R_mono (Kd.R_far (p := ⟨gb143, 2, none⟩) (Kd.R_far (p := ⟨gb143, 1, none⟩) (Kd.R_far (p := ⟨gb143, 0, none⟩) (Kd.R_types HO127.out BK143.out (by decide)) (fun _ hk => hk.2) (.int .i64 t137)) (fun _ hk => hk.2) (.int .i64 t138)) (fun _ hk => hk.2) (.slice Ao53 t139.length co53)) (fun _ hk => ⟨hk.1.1.1.1.1.2, ⟨hk.1.1.1.1.2, ⟨hk.1.1.1.2, hk.1.1.2⟩⟩⟩)))⟩, ⟨Kd.Q_of_R (pR (Kd.R_mono (Kd.R_far (p := ⟨gb143, 2, none⟩) (Kd.R_far (p := ⟨gb143, 1, none⟩) (Kd.R_far (p := ⟨gb143, 0, none⟩) (Kd.R_types HO134.out BK143.out (by decide)) (fun _ hk => hk.2) (.int .i64 t137)) (fun _ hk => hk.2) (.int .i64 t138)) (fun _ hk => hk.2) (.slice Ao53 t139.length co53)) (fun _ hk => ⟨hk.1.1.1.1.1.2, ⟨hk.1.1.1.1.2, ⟨hk.1.1.1.2, hk.1.1.2⟩⟩⟩)))⟩, ⟨by refine bk ?_; refine blk_far ?_ NB108_143.out _; refine bk ?_; refine blk_far ?_ NB108_143.out _; refine bk ?_; refine blk_far ?_ NB108_143.out _; refine bk ?_; exact BK108.out⟩, ⟨by refine bk ?_; refine blk_far ?_ NB115_143.out _; refine bk ?_; refine blk_far ?_ NB115_143.out _; refine bk ?_; refine blk_far ?_ NB115_143.out _; refine bk ?_; exact BK115.out⟩, ⟨by refine bk ?_; refine blk_far ?_ NB122_143.out _; refine bk ?_; refine blk_far ?_ NB122_143.out _; refine bk ?_; refine blk_far ?_ NB122_143.out _; refine bk ?_; exact BK122.out⟩, ⟨by refine bk ?_; refine blk_far ?_ NB129_143.out _; refine bk ?_; refine blk_far ?_ NB129_143.out _; refine bk ?_; refine blk_far ?_ NB129_143.out _; refine bk ?_; exact BK129.out⟩, ⟨by refine bk ?_; refine blk_far ?_ NB136_143.out _; refine bk ?_; refine blk_far ?_ NB136_143.out _; refine bk ?_; refine blk_far ?_ NB136_143.out _; refine bk ?_; exact BK136.out⟩, ⟨pT HB.out⟩⟩
  rw [if_neg c56] at H
  have c56b0 : (t128 != t142) = false := by simpa using c56
  (try (have c56b1 : decide (t128 = t142) = true := by simpa using c56))
  (try (have c56b2 : (t128 == t142) = true := by simpa using c56))
  clear c56
  by_cases c57 : (t135 != t142) = true
  ·
   rw [if_pos c57] at H
   have c57b0 : (t135 != t142) = true := c57
   (try (have c57b1 : decide (t135 = t142) = false := by simpa using c57))
   (try (have c57b2 : (t135 == t142) = false := by simpa using c57))
   (try (have c57b3 : ¬ (t135 = t142) := by simpa using c57))
   clear c57
   have H' := Aside0.mk H
   clear H
   go_wp2
   repeat (go_quiet (fail); try go_wp2)
   go_meet
   case rel => exact ⟨_, (true), (by first | rfl | (simp; done) | (simp [*]; done)), H', ⟨by first | omega | exact Nat.le_refl _⟩, ⟨by (with_reducible repeat (first | apply Kd.Q_alloc | apply Kd.Q_drewN | apply Kd.Q_drew)); exact Kd.Q_mono (Kd.Q_far (p := ⟨gb143, 2, none⟩) (Kd.Q_far (p := ⟨gb143, 1, none⟩) (Kd.Q_far (p := ⟨gb143, 0, none⟩) (Kd.Q_types HO106.out BK143.out (by decide)) (fun _ hk => hk.2) (.int .i64 t137)) (fun _ hk => hk.2) (.int .i64 t138)) (fun _ hk => hk.2) (.slice Ao53 t139.length co53)) (fun _ hk => ⟨hk.1.1.1.1.1.2, ⟨hk.1.1.1.1.2, ⟨hk.1.1.1.2, hk.1.1.2⟩⟩⟩)⟩, ⟨Kd.Q_of_R (pR (Kd.R_mono (Kd.R_far (p := ⟨gb143, 2, none⟩) (Kd.R_far (p := ⟨gb143, 1, none⟩) (Kd.R_far (p := ⟨gb143, 0, none⟩) (Kd.R_types HO113.out BK143.out (by decide)) (fun _ hk => hk.2) (.int .i64 t137)) (fun _ hk => hk.2) (.int .i64 t138)) (fun _ hk => hk.2) (.slice Ao53 t139.length co53)) (fun _ hk => ⟨hk.1.1.1.1.1.2, ⟨hk.1.1.1.1.2, ⟨hk.1.1.1.2, hk.1.1.2⟩⟩⟩)))⟩, ⟨Kd.Q_of_R (pR (Kd.R_mono (Kd.R_far (p := ⟨gb143, 2, none⟩) (Kd.R_far (p := ⟨gb143, 1, none⟩) (Kd.R_far (p := ⟨gb143, 0, none⟩) (Kd.R_types HO120.out BK143.out (by decide)) (fun _ hk => hk.2) (.int .i64 t137)) (fun _ hk => hk.2) (.int .i64 t138)) (fun _ hk => hk.2) (.slice Ao53 t139.length co53)) (fun _ hk => ⟨hk.1.1.1.1.1.2, ⟨hk.1.1.1.1.2, ⟨hk.1.1.1.2, hk.1.1.2⟩⟩⟩)))⟩, ⟨Kd.Q_of_R (pR (Kd.R_mono (Kd.R_far (p := ⟨gb143, 2, none⟩) (Kd.R_far (p := ⟨gb143, 1, none⟩) (Kd.R_far (p := ⟨gb143, 0, none⟩) (Kd.R_types HO127.out BK143.out (by decide)) (fun _ hk => hk.2) (.int .i64 t137)) (fun _ hk => hk.2) (.int .i64 t138)) (fun _ hk => hk.2) (.slice Ao53 t139.length co53)) (fun _ hk => ⟨hk.1.1.1.1.1.2, ⟨hk.1.1.1.1.2, ⟨hk.1.1.1.2, hk.1.1.2⟩⟩⟩)))⟩, ⟨Kd.Q_of_R (pR (Kd.R_mono (Kd.R_far (p := ⟨gb143, 2, none⟩) (Kd.R_far (p := ⟨gb143, 1, none⟩) (Kd.R_far (p := ⟨gb143, 0, none⟩) (Kd.R_types HO134.out BK143.out (by decide)) (fun _ hk => hk.2) (.int .i64 t137)) (fun _ hk => hk.2) (.int .i64 t138)) (fun _ hk => hk.2) (.slice Ao53 t139.length co53)) (fun _ hk => ⟨hk.1.1.1.1.1.2, ⟨hk.1.1.1.1.2, ⟨hk.1.1.1.2, hk.1.1.2⟩⟩⟩)))⟩, ⟨by refine bk ?_; refine blk_far ?_ NB108_143.out _; refine bk ?_; refine blk_far ?_ NB108_143.out _; refine bk ?_; refine blk_far ?_ NB108_143.out _; refine bk ?_; exact BK108.out⟩, ⟨by refine bk ?_; refine blk_far ?_ NB115_143.out _; refine bk ?_; refine blk_far ?_ NB115_143.out _; refine bk ?_; refine blk_far ?_ NB115_143.out _; refine bk ?_; exact BK115.out⟩, ⟨by refine bk ?_; refine blk_far ?_ NB122_143.out _; refine bk ?_; refine blk_far ?_ NB122_143.out _; refine bk ?_; refine blk_far ?_ NB122_143.out _; refine bk ?_; exact BK122.out⟩, ⟨by refine bk ?_; refine blk_far ?_ NB129_143.out _; refine bk ?_; refine blk_far ?_ NB129_143.out _; refine bk ?_; refine blk_far ?_ NB129_143.out _; refine bk ?_; exact BK129.out⟩, ⟨by refine bk ?_; refine blk_far ?_ NB136_143.out _; refine bk ?_; refine blk_far ?_ NB136_143.out _; refine bk ?_; refine blk_far ?_ NB136_143.out _; refine bk ?_; exact BK136.out⟩, ⟨pT HB.out⟩⟩
  rw [if_neg c57] at H
  have c57b0 : (t135 != t142) = false := by simpa using c57
  (try (have c57b1 : decide (t135 = t142) = true := by simpa using c57))
  (try (have c57b2 : (t135 == t142) = true := by simpa using c57))
  clear c57
  replace H := Option.bind_eq_some_iff.mp H
  obtain ⟨t144, A580, H⟩ := H
  replace H : (laws_FnFilters.j0 k l0 t107 t114 (!t144) t102 t103 t104 t109 t110 t111 t116 t117 t118 t123 t124 t125 t130 t131 t132) = some r := H
  have A58 := Aside0.mk A580
  clear A580
  have H' := Aside0.mk H
  clear H
  have hnb59 := NB115_108.out
  have hnc59 := NB108_115.out
  have hnb60 := NB115_122.out
  have hnc60 := NB122_115.out
  have hnb61 := NB115_129.out
  have hnc61 := NB129_115.out
  have hnb62 := NB115_136.out
  have hnc62 := NB136_115.out
  have hnb63 := NB115_143.out
  have hnc63 := NB143_115.out
  obtain ⟨hcz64_0, hcz64_1, hcz64_2, hfz64_0, hfz64_1, hfz64_2⟩ := bc3 BK115.out
  have hnb65 := NB143_108.out
  have hnc65 := NB108_143.out
  have hnb66 := NB143_122.out
  have hnc66 := NB122_143.out
  have hnb67 := NB143_129.out
  have hnc67 := NB129_143.out
  have hnb68 := NB143_136.out
  have hnc68 := NB136_143.out
  obtain ⟨hcz69_0, hcz69_1, hcz69_2, hfz69_0, hfz69_1, hfz69_2⟩ := bc3 BK143.out
  go_wp2_with (first | (go_at_call 22; (with_reducible refine (laws_rFields.calls k t109 t110 _ _ t111 t137 t138 _ _ t139 t144 _ ?side1 ?side2 ?side3 ?side4 A58.out).mono ?_); (case side1 => refine (Kd.R_reads' (e := 3) (base := w.heap.size) (ok := fun k_ => (((((True ∧ some k_ ≠ (.slice Ao14 t104.length co14 : Value).ownBlock) ∧ some k_ ≠ (.slice Ao26 t118.length co26 : Value).ownBlock) ∧ some k_ ≠ (.slice Ao34 t125.length co34 : Value).ownBlock) ∧ some k_ ≠ (.slice Ao43 t132.length co43 : Value).ownBlock) ∧ some k_ ≠ (.slice Ao53 t139.length co53 : Value).ownBlock)) (n := t111.length) (c := co19) ?_).2.2; exact (pR ((Kd.R_mono (Kd.R_far (p := ⟨gb143, 2, none⟩) (Kd.R_far (p := ⟨gb143, 1, none⟩) (Kd.R_far (p := ⟨gb143, 0, none⟩) (Kd.R_types HO113.out BK143.out (by decide)) (fun _ hk => hk.2) (.int .i64 t137)) (fun _ hk => hk.2) (.int .i64 t138)) (fun _ hk => hk.2) (.slice Ao53 t139.length co53)) (fun _ h_ => h_.1))))); (case side2 => exact (Kd.R_reads' HO113.out).2.1); (case side3 => refine (Kd.R_reads' (e := 3) (base := w.heap.size) (ok := fun k_ => (((((True ∧ some k_ ≠ (.slice Ao14 t104.length co14 : Value).ownBlock) ∧ some k_ ≠ (.slice Ao19 t111.length co19 : Value).ownBlock) ∧ some k_ ≠ (.slice Ao26 t118.length co26 : Value).ownBlock) ∧ some k_ ≠ (.slice Ao34 t125.length co34 : Value).ownBlock) ∧ some k_ ≠ (.slice Ao43 t132.length co43 : Value).ownBlock)) (n := t139.length) (c := co53) ?_).2.2; exact (pR ((Kd.R_mono (Kd.R_far (p := ⟨gb143, 2, none⟩) (Kd.R_far (p := ⟨gb143, 1, none⟩) (Kd.R_far (p := ⟨gb143, 0, none⟩) (Kd.R_types HO141.out BK143.out (by decide)) (fun _ hk => hk.2) (.int .i64 t137)) (fun _ hk => hk.2) (.int .i64 t138)) (fun _ hk => hk.2) (.slice Ao53 t139.length co53)) (fun _ h_ => h_.1))))); (case side4 => exact (Kd.R_reads' HO141.out).2.1); rintro e w70 ⟨rfl, hb⟩; have n0_ := aK (Kd.Q_below (pQ ((Kd.Q_mono (Kd.Q_far (p := ⟨gb143, 2, none⟩) (Kd.Q_far (p := ⟨gb143, 1, none⟩) (Kd.Q_far (p := ⟨gb143, 0, none⟩) (Kd.Q_types HO106.out BK143.out (by decide)) (fun _ hk => hk.2) (.int .i64 t137)) (fun _ hk => hk.2) (.int .i64 t138)) (fun _ hk => hk.2) (.slice Ao53 t139.length co53)) (fun _ h_ => h_.1)))) hb); have n1_ := aK (Kd.R_below (pR ((Kd.R_mono (Kd.R_far (p := ⟨gb143, 2, none⟩) (Kd.R_far (p := ⟨gb143, 1, none⟩) (Kd.R_far (p := ⟨gb143, 0, none⟩) (Kd.R_types HO113.out BK143.out (by decide)) (fun _ hk => hk.2) (.int .i64 t137)) (fun _ hk => hk.2) (.int .i64 t138)) (fun _ hk => hk.2) (.slice Ao53 t139.length co53)) (fun _ h_ => h_.1)))) hb); have n2_ := aK (Kd.R_below (pR ((Kd.R_mono (Kd.R_far (p := ⟨gb143, 2, none⟩) (Kd.R_far (p := ⟨gb143, 1, none⟩) (Kd.R_far (p := ⟨gb143, 0, none⟩) (Kd.R_types HO120.out BK143.out (by decide)) (fun _ hk => hk.2) (.int .i64 t137)) (fun _ hk => hk.2) (.int .i64 t138)) (fun _ hk => hk.2) (.slice Ao53 t139.length co53)) (fun _ h_ => h_.1)))) hb); have n3_ := aK (Kd.R_below (pR ((Kd.R_mono (Kd.R_far (p := ⟨gb143, 2, none⟩) (Kd.R_far (p := ⟨gb143, 1, none⟩) (Kd.R_far (p := ⟨gb143, 0, none⟩) (Kd.R_types HO127.out BK143.out (by decide)) (fun _ hk => hk.2) (.int .i64 t137)) (fun _ hk => hk.2) (.int .i64 t138)) (fun _ hk => hk.2) (.slice Ao53 t139.length co53)) (fun _ h_ => h_.1)))) hb); have n4_ := aK (Kd.R_below (pR ((Kd.R_mono (Kd.R_far (p := ⟨gb143, 2, none⟩) (Kd.R_far (p := ⟨gb143, 1, none⟩) (Kd.R_far (p := ⟨gb143, 0, none⟩) (Kd.R_types HO134.out BK143.out (by decide)) (fun _ hk => hk.2) (.int .i64 t137)) (fun _ hk => hk.2) (.int .i64 t138)) (fun _ hk => hk.2) (.slice Ao53 t139.length co53)) (fun _ h_ => h_.1)))) hb); have n5_ := aK (Kd.R_below (pR ((Kd.R_mono (Kd.R_far (p := ⟨gb143, 2, none⟩) (Kd.R_far (p := ⟨gb143, 1, none⟩) (Kd.R_far (p := ⟨gb143, 0, none⟩) (Kd.R_types HO141.out BK143.out (by decide)) (fun _ hk => hk.2) (.int .i64 t137)) (fun _ hk => hk.2) (.int .i64 t138)) (fun _ hk => hk.2) (.slice Ao53 t139.length co53)) (fun _ h_ => h_.1)))) hb); have n6_ := aK (blk_below (g := gb108) (o := .cells #[.int .i64 t102, .int .i64 t103, .slice Ao14 t104.length co14] 26 (0, 0)) (by refine bk ?_; refine blk_far ?_ NB108_143.out _; refine bk ?_; refine blk_far ?_ NB108_143.out _; refine bk ?_; refine blk_far ?_ NB108_143.out _; refine bk ?_; exact BK108.out) hb); have n7_ := aK (blk_below (g := gb115) (o := .cells #[.int .i64 t109, .int .i64 t110, .slice Ao19 t111.length co19] 26 (0, 0)) (by refine bk ?_; refine blk_far ?_ NB115_143.out _; refine bk ?_; refine blk_far ?_ NB115_143.out _; refine bk ?_; refine blk_far ?_ NB115_143.out _; refine bk ?_; exact BK115.out) hb); have n8_ := aK (blk_below (g := gb122) (o := .cells #[.int .i64 t116, .int .i64 t117, .slice Ao26 t118.length co26] 26 (0, 0)) (by refine bk ?_; refine blk_far ?_ NB122_143.out _; refine bk ?_; refine blk_far ?_ NB122_143.out _; refine bk ?_; refine blk_far ?_ NB122_143.out _; refine bk ?_; exact BK122.out) hb); have n9_ := aK (blk_below (g := gb129) (o := .cells #[.int .i64 t123, .int .i64 t124, .slice Ao34 t125.length co34] 26 (0, 0)) (by refine bk ?_; refine blk_far ?_ NB129_143.out _; refine bk ?_; refine blk_far ?_ NB129_143.out _; refine bk ?_; refine blk_far ?_ NB129_143.out _; refine bk ?_; exact BK129.out) hb); have n10_ := aK (blk_below (g := gb136) (o := .cells #[.int .i64 t130, .int .i64 t131, .slice Ao43 t132.length co43] 26 (0, 0)) (by refine bk ?_; refine blk_far ?_ NB136_143.out _; refine bk ?_; refine blk_far ?_ NB136_143.out _; refine bk ?_; refine blk_far ?_ NB136_143.out _; refine bk ?_; exact BK136.out) hb); have n11_ := aK (blk_below (g := gb143) (o := .cells #[.int .i64 t137, .int .i64 t138, .slice Ao53 t139.length co53] 26 (0, 0)) (by refine bk ?_; refine blk_put (cs := #[.int .i64 t137, .int .i64 t138, .slice none 0 0]) ?_ 2 _ rfl; refine bk ?_; refine blk_put (cs := #[.int .i64 t137, .int .i64 0, .slice none 0 0]) ?_ 1 _ rfl; refine bk ?_; refine blk_put (cs := #[.int .i64 0, .int .i64 0, .slice none 0 0]) ?_ 0 _ rfl; refine bk ?_; exact BK143.out) hb); replace HB := bS HB hb; clear HO106 HO113 HO120 HO127 HO134 HO141 BK108 BK115 BK122 BK129 BK136 BK143; have HO106 := n0_; have HO113 := n1_; have HO120 := n2_; have HO127 := n3_; have HO134 := n4_; have HO141 := n5_; have BK108 := n6_; have BK115 := n7_; have BK122 := n8_; have BK129 := n9_; have BK136 := n10_; have BK143 := n11_; clear n0_ n1_ n2_ n3_ n4_ n5_ n6_ n7_ n8_ n9_ n10_ n11_; (try clear hb); (try clear hb2); (try clear hk); (try clear hi)))
  go_meet
  case rel => exact ⟨_, (!t144), (by first | rfl | (simp; done) | (simp [*]; done)), H', ⟨by first | omega | exact Nat.le_refl _⟩, ⟨by (with_reducible repeat (first | apply Kd.Q_alloc | apply Kd.Q_drewN | apply Kd.Q_drew)); exact Kd.Q_mono HO106.out (fun _ hk => ⟨hk.1.1.1.1.2, ⟨hk.1.1.1.2, ⟨hk.1.1.2, hk.1.2⟩⟩⟩)⟩, ⟨Kd.Q_of_R (pR (Kd.R_mono HO113.out (fun _ hk => ⟨hk.1.1.1.1.2, ⟨hk.1.1.1.2, ⟨hk.1.1.2, hk.1.2⟩⟩⟩)))⟩, ⟨Kd.Q_of_R (pR (Kd.R_mono HO120.out (fun _ hk => ⟨hk.1.1.1.1.2, ⟨hk.1.1.1.2, ⟨hk.1.1.2, hk.1.2⟩⟩⟩)))⟩, ⟨Kd.Q_of_R (pR (Kd.R_mono HO127.out (fun _ hk => ⟨hk.1.1.1.1.2, ⟨hk.1.1.1.2, ⟨hk.1.1.2, hk.1.2⟩⟩⟩)))⟩, ⟨Kd.Q_of_R (pR (Kd.R_mono HO134.out (fun _ hk => ⟨hk.1.1.1.1.2, ⟨hk.1.1.1.2, ⟨hk.1.1.2, hk.1.2⟩⟩⟩)))⟩, ⟨by refine bk ?_; exact BK108.out⟩, ⟨by refine bk ?_; exact BK115.out⟩, ⟨by refine bk ?_; exact BK122.out⟩, ⟨by refine bk ?_; exact BK129.out⟩, ⟨by refine bk ?_; exact BK136.out⟩, ⟨pT HB.out⟩⟩
 case rest => as_aux_lemma =>
  clear HC10
  try clear c1
  try clear c2
  try clear p2
  try clear c3
  try clear c4
  try clear c5
  try clear c6
  try clear c17
  try clear c23
  try clear c24
  try clear c30
  try clear c31
  try clear c32
  try clear c38
  try clear c39
  try clear c40
  try clear c41
  try clear c47
  try clear c48
  try clear c49
  try clear c50
  try clear c51
  try clear c54
  try clear c54b0
  try clear c54b1
  try clear c54b2
  try clear c55
  try clear c55b0
  try clear c55b1
  try clear c55b2
  try clear c56
  try clear c56b0
  try clear c56b1
  try clear c56b2
  try clear c57
  try clear c57b0
  try clear c57b1
  try clear c57b2
  try clear c59
  try clear c60
  try clear c61
  try clear c62
  try clear c63
  try clear c65
  try clear c66
  try clear c67
  try clear c68
  try clear hcz13_0
  try clear hcz13_1
  try clear hcz13_2
  try clear hcz18_0
  try clear hcz18_1
  try clear hcz18_2
  try clear hcz20_0
  try clear hcz20_1
  try clear hcz20_2
  try clear hcz25_0
  try clear hcz25_1
  try clear hcz25_2
  try clear hcz27_0
  try clear hcz27_1
  try clear hcz27_2
  try clear hcz33_0
  try clear hcz33_1
  try clear hcz33_2
  try clear hcz35_0
  try clear hcz35_1
  try clear hcz35_2
  try clear hcz42_0
  try clear hcz42_1
  try clear hcz42_2
  try clear hcz44_0
  try clear hcz44_1
  try clear hcz44_2
  try clear hcz52_0
  try clear hcz52_1
  try clear hcz52_2
  try clear hcz64_0
  try clear hcz64_1
  try clear hcz64_2
  try clear hcz69_0
  try clear hcz69_1
  try clear hcz69_2
  try clear hfz13_0
  try clear hfz13_1
  try clear hfz13_2
  try clear hfz18_0
  try clear hfz18_1
  try clear hfz18_2
  try clear hfz20_0
  try clear hfz20_1
  try clear hfz20_2
  try clear hfz25_0
  try clear hfz25_1
  try clear hfz25_2
  try clear hfz27_0
  try clear hfz27_1
  try clear hfz27_2
  try clear hfz33_0
  try clear hfz33_1
  try clear hfz33_2
  try clear hfz35_0
  try clear hfz35_1
  try clear hfz35_2
  try clear hfz42_0
  try clear hfz42_1
  try clear hfz42_2
  try clear hfz44_0
  try clear hfz44_1
  try clear hfz44_2
  try clear hfz52_0
  try clear hfz52_1
  try clear hfz52_2
  try clear hfz64_0
  try clear hfz64_1
  try clear hfz64_2
  try clear hfz69_0
  try clear hfz69_1
  try clear hfz69_2
  obtain ⟨kq, x89_9, rfl, HA, HJ9, HO_109002, HO_116002, HO_123002, HO_130002, HO_137002, BK108, BK115, BK122, BK129, BK136, HB⟩ := hcut
  cases kq with
  | zero => exact absurd HA.out (by simp [laws_FnFilters.j0])
  | succ kj9 =>
   have H := HA.out
   clear HA
   simp only [laws_FnFilters.j0] at H
   by_cases c71 : x89_9 = true
   ·
    subst c71
    have H1 : (some false) = some r := by rw [if_pos rfl] at H; exact H
    clear H
    have H := H1
    clear H1
    obtain rfl := Option.some.inj H
    go_wp2
    repeat (go_quiet (fail); try go_wp2)
    go_ret
    exact ⟨by first | rfl | (simp [errW_none, errW_some] <;> rfl) | (simp [*, errW_none, errW_some] <;> rfl), pT HB.out⟩
   replace c71 := Bool.eq_false_iff.mpr c71
   subst c71
   have H1 : ((spec_MinimumFilter.f kj9 t102 t103 t104 t107).bind fun bt145 => ((spec_MeanFilter.f kj9 t102 t103 t104 t107).bind fun bt152 => ((spec_MedianFilter.f kj9 t102 t103 t104 t107).bind fun bt159 => ((laws_rFields.f kj9 t116 t117 t118 bt145.1 bt145.2.1 bt145.2.2.1).bind fun t166 => (if t166 = true then ((laws_rFields.f kj9 t123 t124 t125 bt152.1 bt152.2.1 bt152.2.2.1).bind fun t167 => (if t167 = true then ((laws_rFields.f kj9 t130 t131 t132 bt159.1 bt159.2.1 bt159.2.2.1).bind fun t168 => (laws_FnFilters.j1 kj9 l0 t114 (!t168) t102 t103 t104 t109 t110 t111 t116 t117 t118 t123 t124 t125 t130 t131 t132)) else (laws_FnFilters.j1 kj9 l0 t114 true t102 t103 t104 t109 t110 t111 t116 t117 t118 t123 t124 t125 t130 t131 t132))) else (laws_FnFilters.j1 kj9 l0 t114 true t102 t103 t104 t109 t110 t111 t116 t117 t118 t123 t124 t125 t130 t131 t132)))))) = some r := by rw [if_neg (show ¬ (false = true) by decide)] at H; exact H
   clear H
   have H := H1
   clear H1
   replace H := Option.bind_eq_some_iff.mp H
   obtain ⟨⟨t145, t146, t147, t150⟩, A720, H⟩ := H
   replace H : ((spec_MeanFilter.f kj9 t102 t103 t104 t107).bind fun bt152 => ((spec_MedianFilter.f kj9 t102 t103 t104 t107).bind fun bt159 => ((laws_rFields.f kj9 t116 t117 t118 t145 t146 t147).bind fun t166 => (if t166 = true then ((laws_rFields.f kj9 t123 t124 t125 bt152.1 bt152.2.1 bt152.2.2.1).bind fun t167 => (if t167 = true then ((laws_rFields.f kj9 t130 t131 t132 bt159.1 bt159.2.1 bt159.2.2.1).bind fun t168 => (laws_FnFilters.j1 kj9 l0 t114 (!t168) t102 t103 t104 t109 t110 t111 t116 t117 t118 t123 t124 t125 t130 t131 t132)) else (laws_FnFilters.j1 kj9 l0 t114 true t102 t103 t104 t109 t110 t111 t116 t117 t118 t123 t124 t125 t130 t131 t132))) else (laws_FnFilters.j1 kj9 l0 t114 true t102 t103 t104 t109 t110 t111 t116 t117 t118 t123 t124 t125 t130 t131 t132))))) = some r := H
   have A72 := Aside0.mk A720
   clear A720
   replace H := Option.bind_eq_some_iff.mp H
   obtain ⟨⟨t152, t153, t154, t157⟩, A730, H⟩ := H
   replace H : ((spec_MedianFilter.f kj9 t102 t103 t104 t107).bind fun bt159 => ((laws_rFields.f kj9 t116 t117 t118 t145 t146 t147).bind fun t166 => (if t166 = true then ((laws_rFields.f kj9 t123 t124 t125 t152 t153 t154).bind fun t167 => (if t167 = true then ((laws_rFields.f kj9 t130 t131 t132 bt159.1 bt159.2.1 bt159.2.2.1).bind fun t168 => (laws_FnFilters.j1 kj9 l0 t114 (!t168) t102 t103 t104 t109 t110 t111 t116 t117 t118 t123 t124 t125 t130 t131 t132)) else (laws_FnFilters.j1 kj9 l0 t114 true t102 t103 t104 t109 t110 t111 t116 t117 t118 t123 t124 t125 t130 t131 t132))) else (laws_FnFilters.j1 kj9 l0 t114 true t102 t103 t104 t109 t110 t111 t116 t117 t118 t123 t124 t125 t130 t131 t132)))) = some r := H
   have A73 := Aside0.mk A730
   clear A730
   replace H := Option.bind_eq_some_iff.mp H
   obtain ⟨⟨t159, t160, t161, t164⟩, A740, H⟩ := H
   replace H : ((laws_rFields.f kj9 t116 t117 t118 t145 t146 t147).bind fun t166 => (if t166 = true then ((laws_rFields.f kj9 t123 t124 t125 t152 t153 t154).bind fun t167 => (if t167 = true then ((laws_rFields.f kj9 t130 t131 t132 t159 t160 t161).bind fun t168 => (laws_FnFilters.j1 kj9 l0 t114 (!t168) t102 t103 t104 t109 t110 t111 t116 t117 t118 t123 t124 t125 t130 t131 t132)) else (laws_FnFilters.j1 kj9 l0 t114 true t102 t103 t104 t109 t110 t111 t116 t117 t118 t123 t124 t125 t130 t131 t132))) else (laws_FnFilters.j1 kj9 l0 t114 true t102 t103 t104 t109 t110 t111 t116 t117 t118 t123 t124 t125 t130 t131 t132))) = some r := H
   have A74 := Aside0.mk A740
   clear A740
   have HC75 := Aside0.mk H
   clear H
   have hnb76 := NB108_115.out
   have hnc76 := NB115_108.out
   have hnb77 := NB108_122.out
   have hnc77 := NB122_108.out
   have hnb78 := NB108_129.out
   have hnc78 := NB129_108.out
   have hnb79 := NB108_136.out
   have hnc79 := NB136_108.out
   obtain ⟨hcz80_0, hcz80_1, hcz80_2, hfz80_0, hfz80_1, hfz80_2⟩ := bc3 BK108.out
   go_upto_region 14 with (first | (go_at_call 23; (with_reducible refine (spec_MinimumFilter.calls kj9 t102 t103 _ _ t104 t107 t145 t146 t147 t150 _ ?side1 ?side2 A72.out).mono ?_); (case side1 => repeat (first | exact (Kd.Q_reads' HO_109002.out).2.2 | (with_reducible refine Kd.C_alloc ?_ _) | (with_reducible refine Kd.C_drewN ?_ _) | (with_reducible refine Kd.C_drew ?_))); (case side2 => exact (Kd.Q_reads' HO_109002.out).2.1); rintro e w81 ⟨v148, rfl, ho0, hb⟩; have n0_ := aK (Kd.Q_elder' (pQ HO_109002.out) (Kd.R_base ho0) hb); have n1_ := aK (Kd.Q_elder' (pQ HO_116002.out) (Kd.R_base ho0) hb); have n2_ := aK (Kd.Q_elder' (pQ HO_123002.out) (Kd.R_base ho0) hb); have n3_ := aK (Kd.Q_elder' (pQ HO_130002.out) (Kd.R_base ho0) hb); have n4_ := aK (Kd.Q_elder' (pQ HO_137002.out) (Kd.R_base ho0) hb); have HO149 := aK (Kd.R_lower (Kd.R_new' (Kd.R_new' (Kd.R_new' (Kd.R_new' (Kd.R_new' ho0 (Kd.Q_lt (pQ HO_109002.out))) (Kd.Q_lt (pQ HO_116002.out))) (Kd.Q_lt (pQ HO_123002.out))) (Kd.Q_lt (pQ HO_130002.out))) (Kd.Q_lt (pQ HO_137002.out))) (below_size (pS HB.out))); replace BK108 := bB BK108 hb; replace BK115 := bB BK115 hb; replace BK122 := bB BK122 hb; replace BK129 := bB BK129 hb; replace BK136 := bB BK136 hb; replace HB := bS HB hb; clear HO_109002 HO_116002 HO_123002 HO_130002 HO_137002; have HO_109002 := n0_; have HO_116002 := n1_; have HO_123002 := n2_; have HO_130002 := n3_; have HO_137002 := n4_; clear n0_ n1_ n2_ n3_ n4_; (try clear hb); (try clear hb2); (try clear hk); (try clear hi); (try clear ho0)) | ((with_reducible refine gate_dst (N := 15) rfl ?_); refine bxe (cs := #[.int .i64 0, .int .i64 0, .slice none 0 0]) (t := 26) ?_; intro gb151 hg w82 hbox hb; have n0_ := aK (Kd.Q_below (pQ HO_109002.out) hb); have n1_ := aK (Kd.Q_below (pQ HO_116002.out) hb); have n2_ := aK (Kd.Q_below (pQ HO_123002.out) hb); have n3_ := aK (Kd.Q_below (pQ HO_130002.out) hb); have n4_ := aK (Kd.Q_below (pQ HO_137002.out) hb); have n5_ := aK (Kd.R_below (pR HO149.out) hb); have BK151 := aK (hbox); have GW151 := aK (gE hg (pS HB.out)); have GE151 := aK (gE hg (pS HB.out)); have NB108_151 := aK (nL hg (pB BK108.out)); have NB151_108 := aK (nG hg (pB BK108.out)); have NB115_151 := aK (nL hg (pB BK115.out)); have NB151_115 := aK (nG hg (pB BK115.out)); have NB122_151 := aK (nL hg (pB BK122.out)); have NB151_122 := aK (nG hg (pB BK122.out)); have NB129_151 := aK (nL hg (pB BK129.out)); have NB151_129 := aK (nG hg (pB BK129.out)); have NB136_151 := aK (nL hg (pB BK136.out)); have NB151_136 := aK (nG hg (pB BK136.out)); replace BK108 := bB BK108 hb; replace BK115 := bB BK115 hb; replace BK122 := bB BK122 hb; replace BK129 := bB BK129 hb; replace BK136 := bB BK136 hb; replace HB := bS HB hb; clear HO_109002 HO_116002 HO_123002 HO_130002 HO_137002 HO149; have HO_109002 := n0_; have HO_116002 := n1_; have HO_123002 := n2_; have HO_130002 := n3_; have HO_137002 := n4_; have HO149 := n5_; clear n0_ n1_ n2_ n3_ n4_ n5_ hb hbox hg; have hnb83 := NB151_108.out; have hnc83 := NB108_151.out; have hnb84 := NB151_115.out; have hnc84 := NB115_151.out; have hnb85 := NB151_122.out; have hnc85 := NB122_151.out; have hnb86 := NB151_129.out; have hnc86 := NB129_151.out; have hnb87 := NB151_136.out; have hnc87 := NB136_151.out; obtain ⟨hcz88_0, hcz88_1, hcz88_2, hfz88_0, hfz88_1, hfz88_2⟩ := bc3 BK151.out; obtain ⟨Ao89, co89, eo89⟩ := Kd.R_slice HO149.out; subst eo89; obtain ⟨hcz90_0, hcz90_1, hcz90_2, hfz90_0, hfz90_1, hfz90_2⟩ := bc3 BK108.out) | (go_at_call 24; (with_reducible refine (spec_MeanFilter.calls kj9 t102 t103 _ _ t104 t107 t152 t153 t154 t157 _ ?side1 ?side2 A73.out).mono ?_); (case side1 => refine (Kd.Q_reads' (e := 3) (base := w.heap.size) (ok := fun k_ => ((some k_ ≠ (.slice Ao19 t111.length co19 : Value).ownBlock ∧ (some k_ ≠ (.slice Ao26 t118.length co26 : Value).ownBlock ∧ (some k_ ≠ (.slice Ao34 t125.length co34 : Value).ownBlock ∧ some k_ ≠ (.slice Ao43 t132.length co43 : Value).ownBlock))) ∧ some k_ ≠ (.slice Ao89 t147.length co89 : Value).ownBlock)) (n := t104.length) (c := co14) ?_).2.2; exact (pQ ((Kd.Q_mono (Kd.Q_far (p := ⟨gb151, 2, none⟩) (Kd.Q_far (p := ⟨gb151, 1, none⟩) (Kd.Q_far (p := ⟨gb151, 0, none⟩) (Kd.Q_types HO_109002.out BK151.out (by decide)) (fun _ hk => hk.2) (.int .i64 t145)) (fun _ hk => hk.2) (.int .i64 t146)) (fun _ hk => hk.2) (.slice Ao89 t147.length co89)) (fun _ h_ => h_.1))))); (case side2 => exact (Kd.Q_reads' HO_109002.out).2.1); rintro e w91 ⟨v155, rfl, ho0, hb⟩; have e5_ := aQ hb (pQ ((Kd.Q_mono (Kd.Q_far (p := ⟨gb151, 2, none⟩) (Kd.Q_far (p := ⟨gb151, 1, none⟩) (Kd.Q_far (p := ⟨gb151, 0, none⟩) (Kd.Q_types HO_109002.out BK151.out (by decide)) (fun _ hk => hk.2) (.int .i64 t145)) (fun _ hk => hk.2) (.int .i64 t146)) (fun _ hk => hk.2) (.slice Ao89 t147.length co89)) (fun _ h_ => h_.1)))); have n0_ := aK (Kd.Q_elder' e5_.out (Kd.R_base ho0) hb); have e4_ := aQ hb (pQ ((Kd.Q_mono (Kd.Q_far (p := ⟨gb151, 2, none⟩) (Kd.Q_far (p := ⟨gb151, 1, none⟩) (Kd.Q_far (p := ⟨gb151, 0, none⟩) (Kd.Q_types HO_116002.out BK151.out (by decide)) (fun _ hk => hk.2) (.int .i64 t145)) (fun _ hk => hk.2) (.int .i64 t146)) (fun _ hk => hk.2) (.slice Ao89 t147.length co89)) (fun _ h_ => h_.1)))); have n1_ := aK (Kd.Q_elder' e4_.out (Kd.R_base ho0) hb); have e3_ := aQ hb (pQ ((Kd.Q_mono (Kd.Q_far (p := ⟨gb151, 2, none⟩) (Kd.Q_far (p := ⟨gb151, 1, none⟩) (Kd.Q_far (p := ⟨gb151, 0, none⟩) (Kd.Q_types HO_123002.out BK151.out (by decide)) (fun _ hk => hk.2) (.int .i64 t145)) (fun _ hk => hk.2) (.int .i64 t146)) (fun _ hk => hk.2) (.slice Ao89 t147.length co89)) (fun _ h_ => h_.1)))); have n2_ := aK (Kd.Q_elder' e3_.out (Kd.R_base ho0) hb); have e2_ := aQ hb (pQ ((Kd.Q_mono (Kd.Q_far (p := ⟨gb151, 2, none⟩) (Kd.Q_far (p := ⟨gb151, 1, none⟩) (Kd.Q_far (p := ⟨gb151, 0, none⟩) (Kd.Q_types HO_130002.out BK151.out (by decide)) (fun _ hk => hk.2) (.int .i64 t145)) (fun _ hk => hk.2) (.int .i64 t146)) (fun _ hk => hk.2) (.slice Ao89 t147.length co89)) (fun _ h_ => h_.1)))); have n3_ := aK (Kd.Q_elder' e2_.out (Kd.R_base ho0) hb); have e1_ := aQ hb (pQ ((Kd.Q_mono (Kd.Q_far (p := ⟨gb151, 2, none⟩) (Kd.Q_far (p := ⟨gb151, 1, none⟩) (Kd.Q_far (p := ⟨gb151, 0, none⟩) (Kd.Q_types HO_137002.out BK151.out (by decide)) (fun _ hk => hk.2) (.int .i64 t145)) (fun _ hk => hk.2) (.int .i64 t146)) (fun _ hk => hk.2) (.slice Ao89 t147.length co89)) (fun _ h_ => h_.1)))); have n4_ := aK (Kd.Q_elder' e1_.out (Kd.R_base ho0) hb); have e6_ := aR hb (pR ((Kd.R_mono (Kd.R_far (p := ⟨gb151, 2, none⟩) (Kd.R_far (p := ⟨gb151, 1, none⟩) (Kd.R_far (p := ⟨gb151, 0, none⟩) (Kd.R_types HO149.out BK151.out (by decide)) (fun _ hk => hk.2) (.int .i64 t145)) (fun _ hk => hk.2) (.int .i64 t146)) (fun _ hk => hk.2) (.slice Ao89 t147.length co89)) (fun _ h_ => h_.1)))); have n5_ := aK (Kd.R_elder' e6_.out (Kd.R_base ho0) hb); have HO156 := aK (Kd.R_lower (Kd.R_new' (Kd.R_new' (Kd.R_new' (Kd.R_new' (Kd.R_new' (Kd.R_new' ho0 (Kd.Q_lt e5_.out)) (Kd.Q_lt e4_.out)) (Kd.Q_lt e3_.out)) (Kd.Q_lt e2_.out)) (Kd.Q_lt e1_.out)) (Kd.R_lt e6_.out)) (below_size (pS HB.out))); clear e6_; clear e5_; clear e4_; clear e3_; clear e2_; clear e1_; have n7_ := aK (blk_below (g := gb108) (o := .cells #[.int .i64 t102, .int .i64 t103, .slice Ao14 t104.length co14] 26 (0, 0)) (by refine bk ?_; refine blk_far ?_ NB108_151.out _; refine bk ?_; refine blk_far ?_ NB108_151.out _; refine bk ?_; refine blk_far ?_ NB108_151.out _; refine bk ?_; exact BK108.out) hb); have n8_ := aK (blk_below (g := gb115) (o := .cells #[.int .i64 t109, .int .i64 t110, .slice Ao19 t111.length co19] 26 (0, 0)) (by refine bk ?_; refine blk_far ?_ NB115_151.out _; refine bk ?_; refine blk_far ?_ NB115_151.out _; refine bk ?_; refine blk_far ?_ NB115_151.out _; refine bk ?_; exact BK115.out) hb); have n9_ := aK (blk_below (g := gb122) (o := .cells #[.int .i64 t116, .int .i64 t117, .slice Ao26 t118.length co26] 26 (0, 0)) (by refine bk ?_; refine blk_far ?_ NB122_151.out _; refine bk ?_; refine blk_far ?_ NB122_151.out _; refine bk ?_; refine blk_far ?_ NB122_151.out _; refine bk ?_; exact BK122.out) hb); have n10_ := aK (blk_below (g := gb129) (o := .cells #[.int .i64 t123, .int .i64 t124, .slice Ao34 t125.length co34] 26 (0, 0)) (by refine bk ?_; refine blk_far ?_ NB129_151.out _; refine bk ?_; refine blk_far ?_ NB129_151.out _; refine bk ?_; refine blk_far ?_ NB129_151.out _; refine bk ?_; exact BK129.out) hb); have n11_ := aK (blk_below (g := gb136) (o := .cells #[.int .i64 t130, .int .i64 t131, .slice Ao43 t132.length co43] 26 (0, 0)) (by refine bk ?_; refine blk_far ?_ NB136_151.out _; refine bk ?_; refine blk_far ?_ NB136_151.out _; refine bk ?_; refine blk_far ?_ NB136_151.out _; refine bk ?_; exact BK136.out) hb); have n12_ := aK (blk_below (g := gb151) (o := .cells #[.int .i64 t145, .int .i64 t146, .slice Ao89 t147.length co89] 26 (0, 0)) (by refine bk ?_; refine blk_put (cs := #[.int .i64 t145, .int .i64 t146, .slice none 0 0]) ?_ 2 _ rfl; refine bk ?_; refine blk_put (cs := #[.int .i64 t145, .int .i64 0, .slice none 0 0]) ?_ 1 _ rfl; refine bk ?_; refine blk_put (cs := #[.int .i64 0, .int .i64 0, .slice none 0 0]) ?_ 0 _ rfl; refine bk ?_; exact BK151.out) hb); replace HB := bS HB hb; clear HO_109002 HO_116002 HO_123002 HO_130002 HO_137002 HO149 BK108 BK115 BK122 BK129 BK136 BK151; have HO_109002 := n0_; have HO_116002 := n1_; have HO_123002 := n2_; have HO_130002 := n3_; have HO_137002 := n4_; have HO149 := n5_; have BK108 := n7_; have BK115 := n8_; have BK122 := n9_; have BK129 := n10_; have BK136 := n11_; have BK151 := n12_; clear n0_ n1_ n2_ n3_ n4_ n5_ n7_ n8_ n9_ n10_ n11_ n12_; (try clear hb); (try clear hb2); (try clear hk); (try clear hi); (try clear ho0)) | ((with_reducible refine gate_dst (N := 17) rfl ?_); refine bxe (cs := #[.int .i64 0, .int .i64 0, .slice none 0 0]) (t := 26) ?_; intro gb158 hg w92 hbox hb; have n0_ := aK (Kd.Q_below (pQ HO_109002.out) hb); have n1_ := aK (Kd.Q_below (pQ HO_116002.out) hb); have n2_ := aK (Kd.Q_below (pQ HO_123002.out) hb); have n3_ := aK (Kd.Q_below (pQ HO_130002.out) hb); have n4_ := aK (Kd.Q_below (pQ HO_137002.out) hb); have n5_ := aK (Kd.R_below (pR HO149.out) hb); have n6_ := aK (Kd.R_below (pR HO156.out) hb); have BK158 := aK (hbox); have GW158 := aK (gE hg (pS HB.out)); have GE158 := aK (gE hg (pS HB.out)); have NB108_158 := aK (nL hg (pB BK108.out)); have NB158_108 := aK (nG hg (pB BK108.out)); have NB115_158 := aK (nL hg (pB BK115.out)); have NB158_115 := aK (nG hg (pB BK115.out)); have NB122_158 := aK (nL hg (pB BK122.out)); have NB158_122 := aK (nG hg (pB BK122.out)); have NB129_158 := aK (nL hg (pB BK129.out)); have NB158_129 := aK (nG hg (pB BK129.out)); have NB136_158 := aK (nL hg (pB BK136.out)); have NB158_136 := aK (nG hg (pB BK136.out)); have NB151_158 := aK (nL hg (pB BK151.out)); have NB158_151 := aK (nG hg (pB BK151.out)); replace BK108 := bB BK108 hb; replace BK115 := bB BK115 hb; replace BK122 := bB BK122 hb; replace BK129 := bB BK129 hb; replace BK136 := bB BK136 hb; replace BK151 := bB BK151 hb; replace HB := bS HB hb; clear HO_109002 HO_116002 HO_123002 HO_130002 HO_137002 HO149 HO156; have HO_109002 := n0_; have HO_116002 := n1_; have HO_123002 := n2_; have HO_130002 := n3_; have HO_137002 := n4_; have HO149 := n5_; have HO156 := n6_; clear n0_ n1_ n2_ n3_ n4_ n5_ n6_ hb hbox hg; have hnb93 := NB158_108.out; have hnc93 := NB108_158.out; have hnb94 := NB158_115.out; have hnc94 := NB115_158.out; have hnb95 := NB158_122.out; have hnc95 := NB122_158.out; have hnb96 := NB158_129.out; have hnc96 := NB129_158.out; have hnb97 := NB158_136.out; have hnc97 := NB136_158.out; have hnb98 := NB158_151.out; have hnc98 := NB151_158.out; obtain ⟨hcz99_0, hcz99_1, hcz99_2, hfz99_0, hfz99_1, hfz99_2⟩ := bc3 BK158.out; obtain ⟨Ao100, co100, eo100⟩ := Kd.R_slice HO156.out; subst eo100; obtain ⟨hcz101_0, hcz101_1, hcz101_2, hfz101_0, hfz101_1, hfz101_2⟩ := bc3 BK108.out) | (go_at_call 25; (with_reducible refine (spec_MedianFilter.calls kj9 t102 t103 _ _ t104 t107 t159 t160 t161 t164 _ ?side1 ?side2 A74.out).mono ?_); (case side1 => refine (Kd.Q_reads' (e := 3) (base := w.heap.size) (ok := fun k_ => (((some k_ ≠ (.slice Ao19 t111.length co19 : Value).ownBlock ∧ (some k_ ≠ (.slice Ao26 t118.length co26 : Value).ownBlock ∧ (some k_ ≠ (.slice Ao34 t125.length co34 : Value).ownBlock ∧ some k_ ≠ (.slice Ao43 t132.length co43 : Value).ownBlock))) ∧ some k_ ≠ (.slice Ao89 t147.length co89 : Value).ownBlock) ∧ some k_ ≠ (.slice Ao100 t154.length co100 : Value).ownBlock)) (n := t104.length) (c := co14) ?_).2.2; exact (pQ ((Kd.Q_mono (Kd.Q_far (p := ⟨gb158, 2, none⟩) (Kd.Q_far (p := ⟨gb158, 1, none⟩) (Kd.Q_far (p := ⟨gb158, 0, none⟩) (Kd.Q_types HO_109002.out BK158.out (by decide)) (fun _ hk => hk.2) (.int .i64 t152)) (fun _ hk => hk.2) (.int .i64 t153)) (fun _ hk => hk.2) (.slice Ao100 t154.length co100)) (fun _ h_ => h_.1))))); (case side2 => exact (Kd.Q_reads' HO_109002.out).2.1); rintro e w102 ⟨v162, rfl, ho0, hb⟩; have e5_ := aQ hb (pQ ((Kd.Q_mono (Kd.Q_far (p := ⟨gb158, 2, none⟩) (Kd.Q_far (p := ⟨gb158, 1, none⟩) (Kd.Q_far (p := ⟨gb158, 0, none⟩) (Kd.Q_types HO_109002.out BK158.out (by decide)) (fun _ hk => hk.2) (.int .i64 t152)) (fun _ hk => hk.2) (.int .i64 t153)) (fun _ hk => hk.2) (.slice Ao100 t154.length co100)) (fun _ h_ => h_.1)))); have n0_ := aK (Kd.Q_elder' e5_.out (Kd.R_base ho0) hb); have e4_ := aQ hb (pQ ((Kd.Q_mono (Kd.Q_far (p := ⟨gb158, 2, none⟩) (Kd.Q_far (p := ⟨gb158, 1, none⟩) (Kd.Q_far (p := ⟨gb158, 0, none⟩) (Kd.Q_types HO_116002.out BK158.out (by decide)) (fun _ hk => hk.2) (.int .i64 t152)) (fun _ hk => hk.2) (.int .i64 t153)) (fun _ hk => hk.2) (.slice Ao100 t154.length co100)) (fun _ h_ => h_.1)))); have n1_ := aK (Kd.Q_elder' e4_.out (Kd.R_base ho0) hb); have e3_ := aQ hb (pQ ((Kd.Q_mono (Kd.Q_far (p := ⟨gb158, 2, none⟩) (Kd.Q_far (p := ⟨gb158, 1, none⟩) (Kd.Q_far (p := ⟨gb158, 0, none⟩) (Kd.Q_types HO_123002.out BK158.out (by decide)) (fun _ hk => hk.2) (.int .i64 t152)) (fun _ hk => hk.2) (.int .i64 t153)) (fun _ hk => hk.2) (.slice Ao100 t154.length co100)) (fun _ h_ => h_.1)))); have n2_ := aK (Kd.Q_elder' e3_.out (Kd.R_base ho0) hb); have e2_ := aQ hb (pQ ((Kd.Q_mono (Kd.Q_far (p := ⟨gb158, 2, none⟩) (Kd.Q_far (p := ⟨gb158, 1, none⟩) (Kd.Q_far (p := ⟨gb158, 0, none⟩) (Kd.Q_types HO_130002.out BK158.out (by decide)) (fun _ hk => hk.2) (.int .i64 t152)) (fun _ hk => hk.2) (.int .i64 t153)) (fun _ hk => hk.2) (.slice Ao100 t154.length co100)) (fun _ h_ => h_.1)))); have n3_ := aK (Kd.Q_elder' e2_.out (Kd.R_base ho0) hb); have e1_ := aQ hb (pQ ((Kd.Q_mono (Kd.Q_far (p := ⟨gb158, 2, none⟩) (Kd.Q_far (p := ⟨gb158, 1, none⟩) (Kd.Q_far (p := ⟨gb158, 0, none⟩) (Kd.Q_types HO_137002.out BK158.out (by decide)) (fun _ hk => hk.2) (.int .i64 t152)) (fun _ hk => hk.2) (.int .i64 t153)) (fun _ hk => hk.2) (.slice Ao100 t154.length co100)) (fun _ h_ => h_.1)))); have n4_ := aK (Kd.Q_elder' e1_.out (Kd.R_base ho0) hb); have e7_ := aR hb (pR ((Kd.R_mono (Kd.R_far (p := ⟨gb158, 2, none⟩) (Kd.R_far (p := ⟨gb158, 1, none⟩) (Kd.R_far (p := ⟨gb158, 0, none⟩) (Kd.R_types HO149.out BK158.out (by decide)) (fun _ hk => hk.2) (.int .i64 t152)) (fun _ hk => hk.2) (.int .i64 t153)) (fun _ hk => hk.2) (.slice Ao100 t154.length co100)) (fun _ h_ => h_.1)))); have n5_ := aK (Kd.R_elder' e7_.out (Kd.R_base ho0) hb); have e6_ := aR hb (pR ((Kd.R_mono (Kd.R_far (p := ⟨gb158, 2, none⟩) (Kd.R_far (p := ⟨gb158, 1, none⟩) (Kd.R_far (p := ⟨gb158, 0, none⟩) (Kd.R_types HO156.out BK158.out (by decide)) (fun _ hk => hk.2) (.int .i64 t152)) (fun _ hk => hk.2) (.int .i64 t153)) (fun _ hk => hk.2) (.slice Ao100 t154.length co100)) (fun _ h_ => h_.1)))); have n6_ := aK (Kd.R_elder' e6_.out (Kd.R_base ho0) hb); have HO163 := aK (Kd.R_lower (Kd.R_new' (Kd.R_new' (Kd.R_new' (Kd.R_new' (Kd.R_new' (Kd.R_new' (Kd.R_new' ho0 (Kd.Q_lt e5_.out)) (Kd.Q_lt e4_.out)) (Kd.Q_lt e3_.out)) (Kd.Q_lt e2_.out)) (Kd.Q_lt e1_.out)) (Kd.R_lt e7_.out)) (Kd.R_lt e6_.out)) (below_size (pS HB.out))); clear e7_; clear e6_; clear e5_; clear e4_; clear e3_; clear e2_; clear e1_; have n8_ := aK (blk_below (g := gb108) (o := .cells #[.int .i64 t102, .int .i64 t103, .slice Ao14 t104.length co14] 26 (0, 0)) (by refine bk ?_; refine blk_far ?_ NB108_158.out _; refine bk ?_; refine blk_far ?_ NB108_158.out _; refine bk ?_; refine blk_far ?_ NB108_158.out _; refine bk ?_; exact BK108.out) hb); have n9_ := aK (blk_below (g := gb115) (o := .cells #[.int .i64 t109, .int .i64 t110, .slice Ao19 t111.length co19] 26 (0, 0)) (by refine bk ?_; refine blk_far ?_ NB115_158.out _; refine bk ?_; refine blk_far ?_ NB115_158.out _; refine bk ?_; refine blk_far ?_ NB115_158.out _; refine bk ?_; exact BK115.out) hb); have n10_ := aK (blk_below (g := gb122) (o := .cells #[.int .i64 t116, .int .i64 t117, .slice Ao26 t118.length co26] 26 (0, 0)) (by refine bk ?_; refine blk_far ?_ NB122_158.out _; refine bk ?_; refine blk_far ?_ NB122_158.out _; refine bk ?_; refine blk_far ?_ NB122_158.out _; refine bk ?_; exact BK122.out) hb); have n11_ := aK (blk_below (g := gb129) (o := .cells #[.int .i64 t123, .int .i64 t124, .slice Ao34 t125.length co34] 26 (0, 0)) (by refine bk ?_; refine blk_far ?_ NB129_158.out _; refine bk ?_; refine blk_far ?_ NB129_158.out _; refine bk ?_; refine blk_far ?_ NB129_158.out _; refine bk ?_; exact BK129.out) hb); have n12_ := aK (blk_below (g := gb136) (o := .cells #[.int .i64 t130, .int .i64 t131, .slice Ao43 t132.length co43] 26 (0, 0)) (by refine bk ?_; refine blk_far ?_ NB136_158.out _; refine bk ?_; refine blk_far ?_ NB136_158.out _; refine bk ?_; refine blk_far ?_ NB136_158.out _; refine bk ?_; exact BK136.out) hb); have n13_ := aK (blk_below (g := gb151) (o := .cells #[.int .i64 t145, .int .i64 t146, .slice Ao89 t147.length co89] 26 (0, 0)) (by refine bk ?_; refine blk_far ?_ NB151_158.out _; refine bk ?_; refine blk_far ?_ NB151_158.out _; refine bk ?_; refine blk_far ?_ NB151_158.out _; refine bk ?_; exact BK151.out) hb); have n14_ := aK (blk_below (g := gb158) (o := .cells #[.int .i64 t152, .int .i64 t153, .slice Ao100 t154.length co100] 26 (0, 0)) (by refine bk ?_; refine blk_put (cs := #[.int .i64 t152, .int .i64 t153, .slice none 0 0]) ?_ 2 _ rfl; refine bk ?_; refine blk_put (cs := #[.int .i64 t152, .int .i64 0, .slice none 0 0]) ?_ 1 _ rfl; refine bk ?_; refine blk_put (cs := #[.int .i64 0, .int .i64 0, .slice none 0 0]) ?_ 0 _ rfl; refine bk ?_; exact BK158.out) hb); replace HB := bS HB hb; clear HO_109002 HO_116002 HO_123002 HO_130002 HO_137002 HO149 HO156 BK108 BK115 BK122 BK129 BK136 BK151 BK158; have HO_109002 := n0_; have HO_116002 := n1_; have HO_123002 := n2_; have HO_130002 := n3_; have HO_137002 := n4_; have HO149 := n5_; have HO156 := n6_; have BK108 := n8_; have BK115 := n9_; have BK122 := n10_; have BK129 := n11_; have BK136 := n12_; have BK151 := n13_; have BK158 := n14_; clear n0_ n1_ n2_ n3_ n4_ n5_ n6_ n8_ n9_ n10_ n11_ n12_ n13_ n14_; (try clear hb); (try clear hb2); (try clear hk); (try clear hi); (try clear ho0)) | ((with_reducible refine gate_dst (N := 19) rfl ?_); refine bxe (cs := #[.int .i64 0, .int .i64 0, .slice none 0 0]) (t := 26) ?_; intro gb165 hg w103 hbox hb; have n0_ := aK (Kd.Q_below (pQ HO_109002.out) hb); have n1_ := aK (Kd.Q_below (pQ HO_116002.out) hb); have n2_ := aK (Kd.Q_below (pQ HO_123002.out) hb); have n3_ := aK (Kd.Q_below (pQ HO_130002.out) hb); have n4_ := aK (Kd.Q_below (pQ HO_137002.out) hb); have n5_ := aK (Kd.R_below (pR HO149.out) hb); have n6_ := aK (Kd.R_below (pR HO156.out) hb); have n7_ := aK (Kd.R_below (pR HO163.out) hb); have BK165 := aK (hbox); have GW165 := aK (gE hg (pS HB.out)); have GE165 := aK (gE hg (pS HB.out)); have NB108_165 := aK (nL hg (pB BK108.out)); have NB165_108 := aK (nG hg (pB BK108.out)); have NB115_165 := aK (nL hg (pB BK115.out)); have NB165_115 := aK (nG hg (pB BK115.out)); have NB122_165 := aK (nL hg (pB BK122.out)); have NB165_122 := aK (nG hg (pB BK122.out)); have NB129_165 := aK (nL hg (pB BK129.out)); have NB165_129 := aK (nG hg (pB BK129.out)); have NB136_165 := aK (nL hg (pB BK136.out)); have NB165_136 := aK (nG hg (pB BK136.out)); have NB151_165 := aK (nL hg (pB BK151.out)); have NB165_151 := aK (nG hg (pB BK151.out)); have NB158_165 := aK (nL hg (pB BK158.out)); have NB165_158 := aK (nG hg (pB BK158.out)); replace BK108 := bB BK108 hb; replace BK115 := bB BK115 hb; replace BK122 := bB BK122 hb; replace BK129 := bB BK129 hb; replace BK136 := bB BK136 hb; replace BK151 := bB BK151 hb; replace BK158 := bB BK158 hb; replace HB := bS HB hb; clear HO_109002 HO_116002 HO_123002 HO_130002 HO_137002 HO149 HO156 HO163; have HO_109002 := n0_; have HO_116002 := n1_; have HO_123002 := n2_; have HO_130002 := n3_; have HO_137002 := n4_; have HO149 := n5_; have HO156 := n6_; have HO163 := n7_; clear n0_ n1_ n2_ n3_ n4_ n5_ n6_ n7_ hb hbox hg; have hnb104 := NB165_108.out; have hnc104 := NB108_165.out; have hnb105 := NB165_115.out; have hnc105 := NB115_165.out; have hnb106 := NB165_122.out; have hnc106 := NB122_165.out; have hnb107 := NB165_129.out; have hnc107 := NB129_165.out; have hnb108 := NB165_136.out; have hnc108 := NB136_165.out; have hnb109 := NB165_151.out; have hnc109 := NB151_165.out; have hnb110 := NB165_158.out; have hnc110 := NB158_165.out; obtain ⟨hcz111_0, hcz111_1, hcz111_2, hfz111_0, hfz111_1, hfz111_2⟩ := bc3 BK165.out; obtain ⟨Ao112, co112, eo112⟩ := Kd.R_slice HO163.out; subst eo112))
   (try simp only [Act.put, List.setIfInBounds_toArray, List.set_cons_zero, List.set_cons_succ])
   go_cut [123] (fun v123 wc => ∃ (kq : Nat) (x123_74 : Bool), v123 = .bool x123_74 ∧ Aside0 (laws_FnFilters.j1 kq l0 t114 x123_74 t102 t103 t104 t109 t110 t111 t116 t117 t118 t123 t124 t125 t130 t131 t132 = some r) ∧ Aside0 (kq ≤ kj9) ∧ Aside0 (Kd.Q (Kd.int .i64) 3 wc w.heap.size (fun k_ => some k_ ≠ ((.slice Ao19 t111.length co19) : Value).ownBlock ∧ some k_ ≠ ((.slice Ao26 t118.length co26) : Value).ownBlock ∧ some k_ ≠ ((.slice Ao34 t125.length co34) : Value).ownBlock ∧ some k_ ≠ ((.slice Ao43 t132.length co43) : Value).ownBlock) (.slice Ao14 t104.length co14) t104) ∧ Aside0 (Kd.Q (Kd.int .i64) 3 wc w.heap.size (fun k_ => some k_ ≠ ((.slice Ao14 t104.length co14) : Value).ownBlock ∧ some k_ ≠ ((.slice Ao26 t118.length co26) : Value).ownBlock ∧ some k_ ≠ ((.slice Ao34 t125.length co34) : Value).ownBlock ∧ some k_ ≠ ((.slice Ao43 t132.length co43) : Value).ownBlock) (.slice Ao19 t111.length co19) t111) ∧ Aside0 (Kd.Q (Kd.int .i64) 3 wc w.heap.size (fun k_ => some k_ ≠ ((.slice Ao14 t104.length co14) : Value).ownBlock ∧ some k_ ≠ ((.slice Ao19 t111.length co19) : Value).ownBlock ∧ some k_ ≠ ((.slice Ao34 t125.length co34) : Value).ownBlock ∧ some k_ ≠ ((.slice Ao43 t132.length co43) : Value).ownBlock) (.slice Ao26 t118.length co26) t118) ∧ Aside0 (Kd.Q (Kd.int .i64) 3 wc w.heap.size (fun k_ => some k_ ≠ ((.slice Ao14 t104.length co14) : Value).ownBlock ∧ some k_ ≠ ((.slice Ao19 t111.length co19) : Value).ownBlock ∧ some k_ ≠ ((.slice Ao26 t118.length co26) : Value).ownBlock ∧ some k_ ≠ ((.slice Ao43 t132.length co43) : Value).ownBlock) (.slice Ao34 t125.length co34) t125) ∧ Aside0 (Kd.Q (Kd.int .i64) 3 wc w.heap.size (fun k_ => some k_ ≠ ((.slice Ao14 t104.length co14) : Value).ownBlock ∧ some k_ ≠ ((.slice Ao19 t111.length co19) : Value).ownBlock ∧ some k_ ≠ ((.slice Ao26 t118.length co26) : Value).ownBlock ∧ some k_ ≠ ((.slice Ao34 t125.length co34) : Value).ownBlock) (.slice Ao43 t132.length co43) t132) ∧ Aside0 (wc.heap[gb108]? = some (.cells #[.int .i64 t102, .int .i64 t103, (.slice Ao14 t104.length co14)] 26 (0, 0))) ∧ Aside0 (wc.heap[gb115]? = some (.cells #[.int .i64 t109, .int .i64 t110, (.slice Ao19 t111.length co19)] 26 (0, 0))) ∧ Aside0 (wc.heap[gb122]? = some (.cells #[.int .i64 t116, .int .i64 t117, (.slice Ao26 t118.length co26)] 26 (0, 0))) ∧ Aside0 (wc.heap[gb129]? = some (.cells #[.int .i64 t123, .int .i64 t124, (.slice Ao34 t125.length co34)] 26 (0, 0))) ∧ Aside0 (wc.heap[gb136]? = some (.cells #[.int .i64 t130, .int .i64 t131, (.slice Ao43 t132.length co43)] 26 (0, 0))) ∧ Aside0 (Below w.heap.size w wc))
   case first => as_aux_lemma =>
    have H := HC75.out
    clear HC75
    replace H := Option.bind_eq_some_iff.mp H
    obtain ⟨t166, A1130, H⟩ := H
    replace H : (if t166 = true then ((laws_rFields.f kj9 t123 t124 t125 t152 t153 t154).bind fun t167 => (if t167 = true then ((laws_rFields.f kj9 t130 t131 t132 t159 t160 t161).bind fun t168 => (laws_FnFilters.j1 kj9 l0 t114 (!t168) t102 t103 t104 t109 t110 t111 t116 t117 t118 t123 t124 t125 t130 t131 t132)) else (laws_FnFilters.j1 kj9 l0 t114 true t102 t103 t104 t109 t110 t111 t116 t117 t118 t123 t124 t125 t130 t131 t132))) else (laws_FnFilters.j1 kj9 l0 t114 true t102 t103 t104 t109 t110 t111 t116 t117 t118 t123 t124 t125 t130 t131 t132)) = some r := H
    have A113 := Aside0.mk A1130
    clear A1130
    by_cases c114 : t166 = true
    ·
     subst c114
     have H1 : ((laws_rFields.f kj9 t123 t124 t125 t152 t153 t154).bind fun t167 => (if t167 = true then ((laws_rFields.f kj9 t130 t131 t132 t159 t160 t161).bind fun t168 => (laws_FnFilters.j1 kj9 l0 t114 (!t168) t102 t103 t104 t109 t110 t111 t116 t117 t118 t123 t124 t125 t130 t131 t132)) else (laws_FnFilters.j1 kj9 l0 t114 true t102 t103 t104 t109 t110 t111 t116 t117 t118 t123 t124 t125 t130 t131 t132))) = some r := by rw [if_pos rfl] at H; exact H
     clear H
     have H := H1
     clear H1
     replace H := Option.bind_eq_some_iff.mp H
     obtain ⟨t167, A1150, H⟩ := H
     replace H : (if t167 = true then ((laws_rFields.f kj9 t130 t131 t132 t159 t160 t161).bind fun t168 => (laws_FnFilters.j1 kj9 l0 t114 (!t168) t102 t103 t104 t109 t110 t111 t116 t117 t118 t123 t124 t125 t130 t131 t132)) else (laws_FnFilters.j1 kj9 l0 t114 true t102 t103 t104 t109 t110 t111 t116 t117 t118 t123 t124 t125 t130 t131 t132)) = some r := H
     have A115 := Aside0.mk A1150
     clear A1150
     by_cases c116 : t167 = true
     ·
      subst c116
      have H1 : ((laws_rFields.f kj9 t130 t131 t132 t159 t160 t161).bind fun t168 => (laws_FnFilters.j1 kj9 l0 t114 (!t168) t102 t103 t104 t109 t110 t111 t116 t117 t118 t123 t124 t125 t130 t131 t132)) = some r := by rw [if_pos rfl] at H; exact H
      clear H
      have H := H1
      clear H1
      replace H := Option.bind_eq_some_iff.mp H
      obtain ⟨t168, A1170, H⟩ := H
      replace H : (laws_FnFilters.j1 kj9 l0 t114 (!t168) t102 t103 t104 t109 t110 t111 t116 t117 t118 t123 t124 t125 t130 t131 t132) = some r := H
      have A117 := Aside0.mk A1170
      clear A1170
      have H' := Aside0.mk H
      clear H
      have hnb118 := NB122_108.out
      have hnc118 := NB108_122.out
      have hnb119 := NB122_115.out
      have hnc119 := NB115_122.out
      have hnb120 := NB122_129.out
      have hnc120 := NB129_122.out
      have hnb121 := NB122_136.out
      have hnc121 := NB136_122.out
      have hnb122 := NB122_151.out
      have hnc122 := NB151_122.out
      have hnb123 := NB122_158.out
      have hnc123 := NB158_122.out
      have hnb124 := NB122_165.out
      have hnc124 := NB165_122.out
      obtain ⟨hcz125_0, hcz125_1, hcz125_2, hfz125_0, hfz125_1, hfz125_2⟩ := bc3 BK122.out
      have hnb126 := NB151_108.out
      have hnc126 := NB108_151.out
      have hnb127 := NB151_115.out
      have hnc127 := NB115_151.out
      have hnb128 := NB151_129.out
      have hnc128 := NB129_151.out
      have hnb129 := NB151_136.out
      have hnc129 := NB136_151.out
      have hnb130 := NB151_158.out
      have hnc130 := NB158_151.out
      have hnb131 := NB151_165.out
      have hnc131 := NB165_151.out
      obtain ⟨hcz132_0, hcz132_1, hcz132_2, hfz132_0, hfz132_1, hfz132_2⟩ := bc3 BK151.out
      go_wp2_with (first | (go_at_call 22; (with_reducible refine (laws_rFields.calls kj9 t116 t117 _ _ t118 t145 t146 _ _ t147 true _ ?side1 ?side2 ?side3 ?side4 A113.out).mono ?_); (case side1 => refine (Kd.Q_reads' (e := 3) (base := w.heap.size) (ok := fun k_ => ((((some k_ ≠ (.slice Ao14 t104.length co14 : Value).ownBlock ∧ (some k_ ≠ (.slice Ao19 t111.length co19 : Value).ownBlock ∧ (some k_ ≠ (.slice Ao34 t125.length co34 : Value).ownBlock ∧ some k_ ≠ (.slice Ao43 t132.length co43 : Value).ownBlock))) ∧ some k_ ≠ (.slice Ao89 t147.length co89 : Value).ownBlock) ∧ some k_ ≠ (.slice Ao100 t154.length co100 : Value).ownBlock) ∧ some k_ ≠ (.slice Ao112 t161.length co112 : Value).ownBlock)) (n := t118.length) (c := co26) ?_).2.2; exact (pQ ((Kd.Q_mono (Kd.Q_far (p := ⟨gb165, 2, none⟩) (Kd.Q_far (p := ⟨gb165, 1, none⟩) (Kd.Q_far (p := ⟨gb165, 0, none⟩) (Kd.Q_types HO_123002.out BK165.out (by decide)) (fun _ hk => hk.2) (.int .i64 t159)) (fun _ hk => hk.2) (.int .i64 t160)) (fun _ hk => hk.2) (.slice Ao112 t161.length co112)) (fun _ h_ => h_.1))))); (case side2 => exact (Kd.Q_reads' HO_123002.out).2.1); (case side3 => refine (Kd.R_reads' (e := 3) (base := w.heap.size) (ok := fun k_ => (((((((True ∧ some k_ ≠ (.slice Ao14 t104.length co14 : Value).ownBlock) ∧ some k_ ≠ (.slice Ao19 t111.length co19 : Value).ownBlock) ∧ some k_ ≠ (.slice Ao26 t118.length co26 : Value).ownBlock) ∧ some k_ ≠ (.slice Ao34 t125.length co34 : Value).ownBlock) ∧ some k_ ≠ (.slice Ao43 t132.length co43 : Value).ownBlock) ∧ some k_ ≠ (.slice Ao100 t154.length co100 : Value).ownBlock) ∧ some k_ ≠ (.slice Ao112 t161.length co112 : Value).ownBlock)) (n := t147.length) (c := co89) ?_).2.2; exact (pR ((Kd.R_mono (Kd.R_far (p := ⟨gb165, 2, none⟩) (Kd.R_far (p := ⟨gb165, 1, none⟩) (Kd.R_far (p := ⟨gb165, 0, none⟩) (Kd.R_types HO149.out BK165.out (by decide)) (fun _ hk => hk.2) (.int .i64 t159)) (fun _ hk => hk.2) (.int .i64 t160)) (fun _ hk => hk.2) (.slice Ao112 t161.length co112)) (fun _ h_ => h_.1))))); (case side4 => exact (Kd.R_reads' HO149.out).2.1); rintro e w133 ⟨rfl, hb⟩; have n0_ := aK (Kd.Q_below (pQ ((Kd.Q_mono (Kd.Q_far (p := ⟨gb165, 2, none⟩) (Kd.Q_far (p := ⟨gb165, 1, none⟩) (Kd.Q_far (p := ⟨gb165, 0, none⟩) (Kd.Q_types HO_109002.out BK165.out (by decide)) (fun _ hk => hk.2) (.int .i64 t159)) (fun _ hk => hk.2) (.int .i64 t160)) (fun _ hk => hk.2) (.slice Ao112 t161.length co112)) (fun _ h_ => h_.1)))) hb); have n1_ := aK (Kd.Q_below (pQ ((Kd.Q_mono (Kd.Q_far (p := ⟨gb165, 2, none⟩) (Kd.Q_far (p := ⟨gb165, 1, none⟩) (Kd.Q_far (p := ⟨gb165, 0, none⟩) (Kd.Q_types HO_116002.out BK165.out (by decide)) (fun _ hk => hk.2) (.int .i64 t159)) (fun _ hk => hk.2) (.int .i64 t160)) (fun _ hk => hk.2) (.slice Ao112 t161.length co112)) (fun _ h_ => h_.1)))) hb); have n2_ := aK (Kd.Q_below (pQ ((Kd.Q_mono (Kd.Q_far (p := ⟨gb165, 2, none⟩) (Kd.Q_far (p := ⟨gb165, 1, none⟩) (Kd.Q_far (p := ⟨gb165, 0, none⟩) (Kd.Q_types HO_123002.out BK165.out (by decide)) (fun _ hk => hk.2) (.int .i64 t159)) (fun _ hk => hk.2) (.int .i64 t160)) (fun _ hk => hk.2) (.slice Ao112 t161.length co112)) (fun _ h_ => h_.1)))) hb); have n3_ := aK (Kd.Q_below (pQ ((Kd.Q_mono (Kd.Q_far (p := ⟨gb165, 2, none⟩) (Kd.Q_far (p := ⟨gb165, 1, none⟩) (Kd.Q_far (p := ⟨gb165, 0, none⟩) (Kd.Q_types HO_130002.out BK165.out (by decide)) (fun _ hk => hk.2) (.int .i64 t159)) (fun _ hk => hk.2) (.int .i64 t160)) (fun _ hk => hk.2) (.slice Ao112 t161.length co112)) (fun _ h_ => h_.1)))) hb); have n4_ := aK (Kd.Q_below (pQ ((Kd.Q_mono (Kd.Q_far (p := ⟨gb165, 2, none⟩) (Kd.Q_far (p := ⟨gb165, 1, none⟩) (Kd.Q_far (p := ⟨gb165, 0, none⟩) (Kd.Q_types HO_137002.out BK165.out (by decide)) (fun _ hk => hk.2) (.int .i64 t159)) (fun _ hk => hk.2) (.int .i64 t160)) (fun _ hk => hk.2) (.slice Ao112 t161.length co112)) (fun _ h_ => h_.1)))) hb); have n5_ := aK (Kd.R_below (pR ((Kd.R_mono (Kd.R_far (p := ⟨gb165, 2, none⟩) (Kd.R_far (p := ⟨gb165, 1, none⟩) (Kd.R_far (p := ⟨gb165, 0, none⟩) (Kd.R_types HO149.out BK165.out (by decide)) (fun _ hk => hk.2) (.int .i64 t159)) (fun _ hk => hk.2) (.int .i64 t160)) (fun _ hk => hk.2) (.slice Ao112 t161.length co112)) (fun _ h_ => h_.1)))) hb); have n6_ := aK (Kd.R_below (pR ((Kd.R_mono (Kd.R_far (p := ⟨gb165, 2, none⟩) (Kd.R_far (p := ⟨gb165, 1, none⟩) (Kd.R_far (p := ⟨gb165, 0, none⟩) (Kd.R_types HO156.out BK165.out (by decide)) (fun _ hk => hk.2) (.int .i64 t159)) (fun _ hk => hk.2) (.int .i64 t160)) (fun _ hk => hk.2) (.slice Ao112 t161.length co112)) (fun _ h_ => h_.1)))) hb); have n7_ := aK (Kd.R_below (pR ((Kd.R_mono (Kd.R_far (p := ⟨gb165, 2, none⟩) (Kd.R_far (p := ⟨gb165, 1, none⟩) (Kd.R_far (p := ⟨gb165, 0, none⟩) (Kd.R_types HO163.out BK165.out (by decide)) (fun _ hk => hk.2) (.int .i64 t159)) (fun _ hk => hk.2) (.int .i64 t160)) (fun _ hk => hk.2) (.slice Ao112 t161.length co112)) (fun _ h_ => h_.1)))) hb); have n8_ := aK (blk_below (g := gb108) (o := .cells #[.int .i64 t102, .int .i64 t103, .slice Ao14 t104.length co14] 26 (0, 0)) (by refine bk ?_; refine blk_far ?_ NB108_165.out _; refine bk ?_; refine blk_far ?_ NB108_165.out _; refine bk ?_; refine blk_far ?_ NB108_165.out _; refine bk ?_; exact BK108.out) hb); have n9_ := aK (blk_below (g := gb115) (o := .cells #[.int .i64 t109, .int .i64 t110, .slice Ao19 t111.length co19] 26 (0, 0)) (by refine bk ?_; refine blk_far ?_ NB115_165.out _; refine bk ?_; refine blk_far ?_ NB115_165.out _; refine bk ?_; refine blk_far ?_ NB115_165.out _; refine bk ?_; exact BK115.out) hb); have n10_ := aK (blk_below (g := gb122) (o := .cells #[.int .i64 t116, .int .i64 t117, .slice Ao26 t118.length co26] 26 (0, 0)) (by refine bk ?_; refine blk_far ?_ NB122_165.out _; refine bk ?_; refine blk_far ?_ NB122_165.out _; refine bk ?_; refine blk_far ?_ NB122_165.out _; refine bk ?_; exact BK122.out) hb); have n11_ := aK (blk_below (g := gb129) (o := .cells #[.int .i64 t123, .int .i64 t124, .slice Ao34 t125.length co34] 26 (0, 0)) (by refine bk ?_; refine blk_far ?_ NB129_165.out _; refine bk ?_; refine blk_far ?_ NB129_165.out _; refine bk ?_; refine blk_far ?_ NB129_165.out _; refine bk ?_; exact BK129.out) hb); have n12_ := aK (blk_below (g := gb136) (o := .cells #[.int .i64 t130, .int .i64 t131, .slice Ao43 t132.length co43] 26 (0, 0)) (by refine bk ?_; refine blk_far ?_ NB136_165.out _; refine bk ?_; refine blk_far ?_ NB136_165.out _; refine bk ?_; refine blk_far ?_ NB136_165.out _; refine bk ?_; exact BK136.out) hb); have n13_ := aK (blk_below (g := gb158) (o := .cells #[.int .i64 t152, .int .i64 t153, .slice Ao100 t154.length co100] 26 (0, 0)) (by refine bk ?_; refine blk_far ?_ NB158_165.out _; refine bk ?_; refine blk_far ?_ NB158_165.out _; refine bk ?_; refine blk_far ?_ NB158_165.out _; refine bk ?_; exact BK158.out) hb); have n14_ := aK (blk_below (g := gb165) (o := .cells #[.int .i64 t159, .int .i64 t160, .slice Ao112 t161.length co112] 26 (0, 0)) (by refine bk ?_; refine blk_put (cs := #[.int .i64 t159, .int .i64 t160, .slice none 0 0]) ?_ 2 _ rfl; refine bk ?_; refine blk_put (cs := #[.int .i64 t159, .int .i64 0, .slice none 0 0]) ?_ 1 _ rfl; refine bk ?_; refine blk_put (cs := #[.int .i64 0, .int .i64 0, .slice none 0 0]) ?_ 0 _ rfl; refine bk ?_; exact BK165.out) hb); replace HB := bS HB hb; clear HO_109002 HO_116002 HO_123002 HO_130002 HO_137002 HO149 HO156 HO163 BK108 BK115 BK122 BK129 BK136 BK158 BK165; have HO_109002 := n0_; have HO_116002 := n1_; have HO_123002 := n2_; have HO_130002 := n3_; have HO_137002 := n4_; have HO149 := n5_; have HO156 := n6_; have HO163 := n7_; have BK108 := n8_; have BK115 := n9_; have BK122 := n10_; have BK129 := n11_; have BK136 := n12_; have BK158 := n13_; have BK165 := n14_; clear n0_ n1_ n2_ n3_ n4_ n5_ n6_ n7_ n8_ n9_ n10_ n11_ n12_ n13_ n14_; (try clear hb); (try clear hb2); (try clear hk); (try clear hi); have hnb134 := NB129_108.out; have hnc134 := NB108_129.out; have hnb135 := NB129_115.out; have hnc135 := NB115_129.out; have hnb136 := NB129_136.out; have hnc136 := NB136_129.out; have hnb137 := NB129_158.out; have hnc137 := NB158_129.out; have hnb138 := NB129_165.out; have hnc138 := NB165_129.out; obtain ⟨hcz139_0, hcz139_1, hcz139_2, hfz139_0, hfz139_1, hfz139_2⟩ := bc3 BK129.out; have hnb140 := NB158_108.out; have hnc140 := NB108_158.out; have hnb141 := NB158_115.out; have hnc141 := NB115_158.out; have hnb142 := NB158_136.out; have hnc142 := NB136_158.out; have hnb143 := NB158_165.out; have hnc143 := NB165_158.out; obtain ⟨hcz144_0, hcz144_1, hcz144_2, hfz144_0, hfz144_1, hfz144_2⟩ := bc3 BK158.out) | (go_at_call 22; (with_reducible refine (laws_rFields.calls kj9 t123 t124 _ _ t125 t152 t153 _ _ t154 true _ ?side1 ?side2 ?side3 ?side4 A115.out).mono ?_); (case side1 => repeat (first | exact (Kd.Q_reads' HO_130002.out).2.2 | (with_reducible refine Kd.C_alloc ?_ _) | (with_reducible refine Kd.C_drewN ?_ _) | (with_reducible refine Kd.C_drew ?_))); (case side2 => exact (Kd.Q_reads' HO_130002.out).2.1); (case side3 => repeat (first | exact (Kd.R_reads' HO156.out).2.2 | (with_reducible refine Kd.C_alloc ?_ _) | (with_reducible refine Kd.C_drewN ?_ _) | (with_reducible refine Kd.C_drew ?_))); (case side4 => exact (Kd.R_reads' HO156.out).2.1); rintro e w145 ⟨rfl, hb⟩; have n0_ := aK (Kd.Q_below (pQ HO_109002.out) hb); have n1_ := aK (Kd.Q_below (pQ HO_116002.out) hb); have n2_ := aK (Kd.Q_below (pQ HO_123002.out) hb); have n3_ := aK (Kd.Q_below (pQ HO_130002.out) hb); have n4_ := aK (Kd.Q_below (pQ HO_137002.out) hb); have n5_ := aK (Kd.R_below (pR HO149.out) hb); have n6_ := aK (Kd.R_below (pR HO156.out) hb); have n7_ := aK (Kd.R_below (pR HO163.out) hb); replace BK108 := bB BK108 hb; replace BK115 := bB BK115 hb; replace BK122 := bB BK122 hb; replace BK129 := bB BK129 hb; replace BK136 := bB BK136 hb; replace BK165 := bB BK165 hb; replace HB := bS HB hb; clear HO_109002 HO_116002 HO_123002 HO_130002 HO_137002 HO149 HO156 HO163; have HO_109002 := n0_; have HO_116002 := n1_; have HO_123002 := n2_; have HO_130002 := n3_; have HO_137002 := n4_; have HO149 := n5_; have HO156 := n6_; have HO163 := n7_; clear n0_ n1_ n2_ n3_ n4_ n5_ n6_ n7_; (try clear hb); (try clear hb2); (try clear hk); (try clear hi); have hnb146 := NB136_108.out; have hnc146 := NB108_136.out; have hnb147 := NB136_115.out; have hnc147 := NB115_136.out; have hnb148 := NB136_165.out; have hnc148 := NB165_136.out; obtain ⟨hcz149_0, hcz149_1, hcz149_2, hfz149_0, hfz149_1, hfz149_2⟩ := bc3 BK136.out; have hnb150 := NB165_108.out; have hnc150 := NB108_165.out; have hnb151 := NB165_115.out; have hnc151 := NB115_165.out; obtain ⟨hcz152_0, hcz152_1, hcz152_2, hfz152_0, hfz152_1, hfz152_2⟩ := bc3 BK165.out) | (go_at_call 22; (with_reducible refine (laws_rFields.calls kj9 t130 t131 _ _ t132 t159 t160 _ _ t161 t168 _ ?side1 ?side2 ?side3 ?side4 A117.out).mono ?_); (case side1 => repeat (first | exact (Kd.Q_reads' HO_137002.out).2.2 | (with_reducible refine Kd.C_alloc ?_ _) | (with_reducible refine Kd.C_drewN ?_ _) | (with_reducible refine Kd.C_drew ?_))); (case side2 => exact (Kd.Q_reads' HO_137002.out).2.1); (case side3 => repeat (first | exact (Kd.R_reads' HO163.out).2.2 | (with_reducible refine Kd.C_alloc ?_ _) | (with_reducible refine Kd.C_drewN ?_ _) | (with_reducible refine Kd.C_drew ?_))); (case side4 => exact (Kd.R_reads' HO163.out).2.1); rintro e w153 ⟨rfl, hb⟩; have n0_ := aK (Kd.Q_below (pQ HO_109002.out) hb); have n1_ := aK (Kd.Q_below (pQ HO_116002.out) hb); have n2_ := aK (Kd.Q_below (pQ HO_123002.out) hb); have n3_ := aK (Kd.Q_below (pQ HO_130002.out) hb); have n4_ := aK (Kd.Q_below (pQ HO_137002.out) hb); have n5_ := aK (Kd.R_below (pR HO149.out) hb); have n6_ := aK (Kd.R_below (pR HO156.out) hb); have n7_ := aK (Kd.R_below (pR HO163.out) hb); replace BK108 := bB BK108 hb; replace BK115 := bB BK115 hb; replace BK122 := bB BK122 hb; replace BK129 := bB BK129 hb; replace BK136 := bB BK136 hb; replace HB := bS HB hb; clear HO_109002 HO_116002 HO_123002 HO_130002 HO_137002 HO149 HO156 HO163; have HO_109002 := n0_; have HO_116002 := n1_; have HO_123002 := n2_; have HO_130002 := n3_; have HO_137002 := n4_; have HO149 := n5_; have HO156 := n6_; have HO163 := n7_; clear n0_ n1_ n2_ n3_ n4_ n5_ n6_ n7_; (try clear hb); (try clear hb2); (try clear hk); (try clear hi)))
      go_meet
      case rel => exact ⟨_, (!t168), (by first | rfl | (simp; done) | (simp [*]; done)), H', ⟨by have := HJ9.out; first | omega | exact Nat.le_refl _⟩, ⟨by (with_reducible repeat (first | apply Kd.Q_alloc | apply Kd.Q_drewN | apply Kd.Q_drew)); exact Kd.Q_mono HO_109002.out (fun _ hk => ⟨hk.1.1.1.1, ⟨hk.1.1.1.2.1, ⟨hk.1.1.1.2.2.1, hk.1.1.1.2.2.2⟩⟩⟩)⟩, ⟨by (with_reducible repeat (first | apply Kd.Q_alloc | apply Kd.Q_drewN | apply Kd.Q_drew)); exact Kd.Q_mono HO_116002.out (fun _ hk => ⟨hk.1.1.1.1, ⟨hk.1.1.1.2.1, ⟨hk.1.1.1.2.2.1, hk.1.1.1.2.2.2⟩⟩⟩)⟩, ⟨by (with_reducible repeat (first | apply Kd.Q_alloc | apply Kd.Q_drewN | apply Kd.Q_drew)); exact Kd.Q_mono HO_123002.out (fun _ hk => ⟨hk.1.1.1.1, ⟨hk.1.1.1.2.1, ⟨hk.1.1.1.2.2.1, hk.1.1.1.2.2.2⟩⟩⟩)⟩, ⟨by (with_reducible repeat (first | apply Kd.Q_alloc | apply Kd.Q_drewN | apply Kd.Q_drew)); exact Kd.Q_mono HO_130002.out (fun _ hk => ⟨hk.1.1.1.1, ⟨hk.1.1.1.2.1, ⟨hk.1.1.1.2.2.1, hk.1.1.1.2.2.2⟩⟩⟩)⟩, ⟨by (with_reducible repeat (first | apply Kd.Q_alloc | apply Kd.Q_drewN | apply Kd.Q_drew)); exact Kd.Q_mono HO_137002.out (fun _ hk => ⟨hk.1.1.1.1, ⟨hk.1.1.1.2.1, ⟨hk.1.1.1.2.2.1, hk.1.1.1.2.2.2⟩⟩⟩)⟩, ⟨by refine bk ?_; exact BK108.out⟩, ⟨by refine bk ?_; exact BK115.out⟩, ⟨by refine bk ?_; exact BK122.out⟩, ⟨by refine bk ?_; exact BK129.out⟩, ⟨by refine bk ?_; exact BK136.out⟩, ⟨pT HB.out⟩⟩
     replace c116 := Bool.eq_false_iff.mpr c116
     subst c116
     have H1 : (laws_FnFilters.j1 kj9 l0 t114 true t102 t103 t104 t109 t110 t111 t116 t117 t118 t123 t124 t125 t130 t131 t132) = some r := by rw [if_neg (show ¬ (false = true) by decide)] at H; exact H
     clear H
     have H := H1
     clear H1
     have H' := Aside0.mk H
     clear H
     have hnb154 := NB122_108.out
     have hnc154 := NB108_122.out
     have hnb155 := NB122_115.out
     have hnc155 := NB115_122.out
     have hnb156 := NB122_129.out
     have hnc156 := NB129_122.out
     have hnb157 := NB122_136.out
     have hnc157 := NB136_122.out
     have hnb158 := NB122_151.out
     have hnc158 := NB151_122.out
     have hnb159 := NB122_158.out
     have hnc159 := NB158_122.out
     have hnb160 := NB122_165.out
     have hnc160 := NB165_122.out
     obtain ⟨hcz161_0, hcz161_1, hcz161_2, hfz161_0, hfz161_1, hfz161_2⟩ := bc3 BK122.out
     have hnb162 := NB151_108.out
     have hnc162 := NB108_151.out
     have hnb163 := NB151_115.out
     have hnc163 := NB115_151.out
     have hnb164 := NB151_129.out
     have hnc164 := NB129_151.out
     have hnb165 := NB151_136.out
     have hnc165 := NB136_151.out
     have hnb166 := NB151_158.out
     have hnc166 := NB158_151.out
     have hnb167 := NB151_165.out
     have hnc167 := NB165_151.out
     obtain ⟨hcz168_0, hcz168_1, hcz168_2, hfz168_0, hfz168_1, hfz168_2⟩ := bc3 BK151.out
     go_wp2_with (first | (go_at_call 22; (with_reducible refine (laws_rFields.calls kj9 t116 t117 _ _ t118 t145 t146 _ _ t147 true _ ?side1 ?side2 ?side3 ?side4 A113.out).mono ?_); (case side1 => refine (Kd.Q_reads' (e := 3) (base := w.heap.size) (ok := fun k_ => ((((some k_ ≠ (.slice Ao14 t104.length co14 : Value).ownBlock ∧ (some k_ ≠ (.slice Ao19 t111.length co19 : Value).ownBlock ∧ (some k_ ≠ (.slice Ao34 t125.length co34 : Value).ownBlock ∧ some k_ ≠ (.slice Ao43 t132.length co43 : Value).ownBlock))) ∧ some k_ ≠ (.slice Ao89 t147.length co89 : Value).ownBlock) ∧ some k_ ≠ (.slice Ao100 t154.length co100 : Value).ownBlock) ∧ some k_ ≠ (.slice Ao112 t161.length co112 : Value).ownBlock)) (n := t118.length) (c := co26) ?_).2.2; exact (pQ ((Kd.Q_mono (Kd.Q_far (p := ⟨gb165, 2, none⟩) (Kd.Q_far (p := ⟨gb165, 1, none⟩) (Kd.Q_far (p := ⟨gb165, 0, none⟩) (Kd.Q_types HO_123002.out BK165.out (by decide)) (fun _ hk => hk.2) (.int .i64 t159)) (fun _ hk => hk.2) (.int .i64 t160)) (fun _ hk => hk.2) (.slice Ao112 t161.length co112)) (fun _ h_ => h_.1))))); (case side2 => exact (Kd.Q_reads' HO_123002.out).2.1); (case side3 => refine (Kd.R_reads' (e := 3) (base := w.heap.size) (ok := fun k_ => (((((((True ∧ some k_ ≠ (.slice Ao14 t104.length co14 : Value).ownBlock) ∧ some k_ ≠ (.slice Ao19 t111.length co19 : Value).ownBlock) ∧ some k_ ≠ (.slice Ao26 t118.length co26 : Value).ownBlock) ∧ some k_ ≠ (.slice Ao34 t125.length co34 : Value).ownBlock) ∧ some k_ ≠ (.slice Ao43 t132.length co43 : Value).ownBlock) ∧ some k_ ≠ (.slice Ao100 t154.length co100 : Value).ownBlock) ∧ some k_ ≠ (.slice Ao112 t161.length co112 : Value).ownBlock)) (n := t147.length) (c := co89) ?_).2.2; exact (pR ((Kd.R_mono (Kd.R_far (p := ⟨gb165, 2, none⟩) (Kd.R_far (p := ⟨gb165, 1, none⟩) (Kd.R_far (p := ⟨gb165, 0, none⟩) (Kd.R_types HO149.out BK165.out (by decide)) (fun _ hk => hk.2) (.int .i64 t159)) (fun _ hk => hk.2) (.int .i64 t160)) (fun _ hk => hk.2) (.slice Ao112 t161.length co112)) (fun _ h_ => h_.1))))); (case side4 => exact (Kd.R_reads' HO149.out).2.1); rintro e w169 ⟨rfl, hb⟩; have n0_ := aK (Kd.Q_below (pQ ((Kd.Q_mono (Kd.Q_far (p := ⟨gb165, 2, none⟩) (Kd.Q_far (p := ⟨gb165, 1, none⟩) (Kd.Q_far (p := ⟨gb165, 0, none⟩) (Kd.Q_types HO_109002.out BK165.out (by decide)) (fun _ hk => hk.2) (.int .i64 t159)) (fun _ hk => hk.2) (.int .i64 t160)) (fun _ hk => hk.2) (.slice Ao112 t161.length co112)) (fun _ h_ => h_.1)))) hb); have n1_ := aK (Kd.Q_below (pQ ((Kd.Q_mono (Kd.Q_far (p := ⟨gb165, 2, none⟩) (Kd.Q_far (p := ⟨gb165, 1, none⟩) (Kd.Q_far (p := ⟨gb165, 0, none⟩) (Kd.Q_types HO_116002.out BK165.out (by decide)) (fun _ hk => hk.2) (.int .i64 t159)) (fun _ hk => hk.2) (.int .i64 t160)) (fun _ hk => hk.2) (.slice Ao112 t161.length co112)) (fun _ h_ => h_.1)))) hb); have n2_ := aK (Kd.Q_below (pQ ((Kd.Q_mono (Kd.Q_far (p := ⟨gb165, 2, none⟩) (Kd.Q_far (p := ⟨gb165, 1, none⟩) (Kd.Q_far (p := ⟨gb165, 0, none⟩) (Kd.Q_types HO_123002.out BK165.out (by decide)) (fun _ hk => hk.2) (.int .i64 t159)) (fun _ hk => hk.2) (.int .i64 t160)) (fun _ hk => hk.2) (.slice Ao112 t161.length co112)) (fun _ h_ => h_.1)))) hb); have n3_ := aK (Kd.Q_below (pQ ((Kd.Q_mono (Kd.Q_far (p := ⟨gb165, 2, none⟩) (Kd.Q_far (p := ⟨gb165, 1, none⟩) (Kd.Q_far (p := ⟨gb165, 0, none⟩) (Kd.Q_types HO_130002.out BK165.out (by decide)) (fun _ hk => hk.2) (.int .i64 t159)) (fun _ hk => hk.2) (.int .i64 t160)) (fun _ hk => hk.2) (.slice Ao112 t161.length co112)) (fun _ h_ => h_.1)))) hb); have n4_ := aK (Kd.Q_below (pQ ((Kd.Q_mono (Kd.Q_far (p := ⟨gb165, 2, none⟩) (Kd.Q_far (p := ⟨gb165, 1, none⟩) (Kd.Q_far (p := ⟨gb165, 0, none⟩) (Kd.Q_types HO_137002.out BK165.out (by decide)) (fun _ hk => hk.2) (.int .i64 t159)) (fun _ hk => hk.2) (.int .i64 t160)) (fun _ hk => hk.2) (.slice Ao112 t161.length co112)) (fun _ h_ => h_.1)))) hb); have n5_ := aK (Kd.R_below (pR ((Kd.R_mono (Kd.R_far (p := ⟨gb165, 2, none⟩) (Kd.R_far (p := ⟨gb165, 1, none⟩) (Kd.R_far (p := ⟨gb165, 0, none⟩) (Kd.R_types HO149.out BK165.out (by decide)) (fun _ hk => hk.2) (.int .i64 t159)) (fun _ hk => hk.2) (.int .i64 t160)) (fun _ hk => hk.2) (.slice Ao112 t161.length co112)) (fun _ h_ => h_.1)))) hb); have n6_ := aK (Kd.R_below (pR ((Kd.R_mono (Kd.R_far (p := ⟨gb165, 2, none⟩) (Kd.R_far (p := ⟨gb165, 1, none⟩) (Kd.R_far (p := ⟨gb165, 0, none⟩) (Kd.R_types HO156.out BK165.out (by decide)) (fun _ hk => hk.2) (.int .i64 t159)) (fun _ hk => hk.2) (.int .i64 t160)) (fun _ hk => hk.2) (.slice Ao112 t161.length co112)) (fun _ h_ => h_.1)))) hb); have n7_ := aK (Kd.R_below (pR ((Kd.R_mono (Kd.R_far (p := ⟨gb165, 2, none⟩) (Kd.R_far (p := ⟨gb165, 1, none⟩) (Kd.R_far (p := ⟨gb165, 0, none⟩) (Kd.R_types HO163.out BK165.out (by decide)) (fun _ hk => hk.2) (.int .i64 t159)) (fun _ hk => hk.2) (.int .i64 t160)) (fun _ hk => hk.2) (.slice Ao112 t161.length co112)) (fun _ h_ => h_.1)))) hb); have n8_ := aK (blk_below (g := gb108) (o := .cells #[.int .i64 t102, .int .i64 t103, .slice Ao14 t104.length co14] 26 (0, 0)) (by refine bk ?_; refine blk_far ?_ NB108_165.out _; refine bk ?_; refine blk_far ?_ NB108_165.out _; refine bk ?_; refine blk_far ?_ NB108_165.out _; refine bk ?_; exact BK108.out) hb); have n9_ := aK (blk_below (g := gb115) (o := .cells #[.int .i64 t109, .int .i64 t110, .slice Ao19 t111.length co19] 26 (0, 0)) (by refine bk ?_; refine blk_far ?_ NB115_165.out _; refine bk ?_; refine blk_far ?_ NB115_165.out _; refine bk ?_; refine blk_far ?_ NB115_165.out _; refine bk ?_; exact BK115.out) hb); have n10_ := aK (blk_below (g := gb122) (o := .cells #[.int .i64 t116, .int .i64 t117, .slice Ao26 t118.length co26] 26 (0, 0)) (by refine bk ?_; refine blk_far ?_ NB122_165.out _; refine bk ?_; refine blk_far ?_ NB122_165.out _; refine bk ?_; refine blk_far ?_ NB122_165.out _; refine bk ?_; exact BK122.out) hb); have n11_ := aK (blk_below (g := gb129) (o := .cells #[.int .i64 t123, .int .i64 t124, .slice Ao34 t125.length co34] 26 (0, 0)) (by refine bk ?_; refine blk_far ?_ NB129_165.out _; refine bk ?_; refine blk_far ?_ NB129_165.out _; refine bk ?_; refine blk_far ?_ NB129_165.out _; refine bk ?_; exact BK129.out) hb); have n12_ := aK (blk_below (g := gb136) (o := .cells #[.int .i64 t130, .int .i64 t131, .slice Ao43 t132.length co43] 26 (0, 0)) (by refine bk ?_; refine blk_far ?_ NB136_165.out _; refine bk ?_; refine blk_far ?_ NB136_165.out _; refine bk ?_; refine blk_far ?_ NB136_165.out _; refine bk ?_; exact BK136.out) hb); have n13_ := aK (blk_below (g := gb158) (o := .cells #[.int .i64 t152, .int .i64 t153, .slice Ao100 t154.length co100] 26 (0, 0)) (by refine bk ?_; refine blk_far ?_ NB158_165.out _; refine bk ?_; refine blk_far ?_ NB158_165.out _; refine bk ?_; refine blk_far ?_ NB158_165.out _; refine bk ?_; exact BK158.out) hb); have n14_ := aK (blk_below (g := gb165) (o := .cells #[.int .i64 t159, .int .i64 t160, .slice Ao112 t161.length co112] 26 (0, 0)) (by refine bk ?_; refine blk_put (cs := #[.int .i64 t159, .int .i64 t160, .slice none 0 0]) ?_ 2 _ rfl; refine bk ?_; refine blk_put (cs := #[.int .i64 t159, .int .i64 0, .slice none 0 0]) ?_ 1 _ rfl; refine bk ?_; refine blk_put (cs := #[.int .i64 0, .int .i64 0, .slice none 0 0]) ?_ 0 _ rfl; refine bk ?_; exact BK165.out) hb); replace HB := bS HB hb; clear HO_109002 HO_116002 HO_123002 HO_130002 HO_137002 HO149 HO156 HO163 BK108 BK115 BK122 BK129 BK136 BK158 BK165; have HO_109002 := n0_; have HO_116002 := n1_; have HO_123002 := n2_; have HO_130002 := n3_; have HO_137002 := n4_; have HO149 := n5_; have HO156 := n6_; have HO163 := n7_; have BK108 := n8_; have BK115 := n9_; have BK122 := n10_; have BK129 := n11_; have BK136 := n12_; have BK158 := n13_; have BK165 := n14_; clear n0_ n1_ n2_ n3_ n4_ n5_ n6_ n7_ n8_ n9_ n10_ n11_ n12_ n13_ n14_; (try clear hb); (try clear hb2); (try clear hk); (try clear hi); have hnb170 := NB129_108.out; have hnc170 := NB108_129.out; have hnb171 := NB129_115.out; have hnc171 := NB115_129.out; have hnb172 := NB129_136.out; have hnc172 := NB136_129.out; have hnb173 := NB129_158.out; have hnc173 := NB158_129.out; obtain ⟨hcz174_0, hcz174_1, hcz174_2, hfz174_0, hfz174_1, hfz174_2⟩ := bc3 BK129.out; have hnb175 := NB158_108.out; have hnc175 := NB108_158.out; have hnb176 := NB158_115.out; have hnc176 := NB115_158.out; have hnb177 := NB158_136.out; have hnc177 := NB136_158.out; obtain ⟨hcz178_0, hcz178_1, hcz178_2, hfz178_0, hfz178_1, hfz178_2⟩ := bc3 BK158.out) | (go_at_call 22; (with_reducible refine (laws_rFields.calls kj9 t123 t124 _ _ t125 t152 t153 _ _ t154 false _ ?side1 ?side2 ?side3 ?side4 A115.out).mono ?_); (case side1 => repeat (first | exact (Kd.Q_reads' HO_130002.out).2.2 | (with_reducible refine Kd.C_alloc ?_ _) | (with_reducible refine Kd.C_drewN ?_ _) | (with_reducible refine Kd.C_drew ?_))); (case side2 => exact (Kd.Q_reads' HO_130002.out).2.1); (case side3 => repeat (first | exact (Kd.R_reads' HO156.out).2.2 | (with_reducible refine Kd.C_alloc ?_ _) | (with_reducible refine Kd.C_drewN ?_ _) | (with_reducible refine Kd.C_drew ?_))); (case side4 => exact (Kd.R_reads' HO156.out).2.1); rintro e w179 ⟨rfl, hb⟩; have n0_ := aK (Kd.Q_below (pQ HO_109002.out) hb); have n1_ := aK (Kd.Q_below (pQ HO_116002.out) hb); have n2_ := aK (Kd.Q_below (pQ HO_123002.out) hb); have n3_ := aK (Kd.Q_below (pQ HO_130002.out) hb); have n4_ := aK (Kd.Q_below (pQ HO_137002.out) hb); have n5_ := aK (Kd.R_below (pR HO149.out) hb); have n6_ := aK (Kd.R_below (pR HO156.out) hb); have n7_ := aK (Kd.R_below (pR HO163.out) hb); replace BK108 := bB BK108 hb; replace BK115 := bB BK115 hb; replace BK122 := bB BK122 hb; replace BK129 := bB BK129 hb; replace BK136 := bB BK136 hb; replace HB := bS HB hb; clear HO_109002 HO_116002 HO_123002 HO_130002 HO_137002 HO149 HO156 HO163; have HO_109002 := n0_; have HO_116002 := n1_; have HO_123002 := n2_; have HO_130002 := n3_; have HO_137002 := n4_; have HO149 := n5_; have HO156 := n6_; have HO163 := n7_; clear n0_ n1_ n2_ n3_ n4_ n5_ n6_ n7_; (try clear hb); (try clear hb2); (try clear hk); (try clear hi)))
     go_meet
     case rel => exact ⟨_, (true), (by first | rfl | (simp; done) | (simp [*]; done)), H', ⟨by have := HJ9.out; first | omega | exact Nat.le_refl _⟩, ⟨by (with_reducible repeat (first | apply Kd.Q_alloc | apply Kd.Q_drewN | apply Kd.Q_drew)); exact Kd.Q_mono HO_109002.out (fun _ hk => ⟨hk.1.1.1.1, ⟨hk.1.1.1.2.1, ⟨hk.1.1.1.2.2.1, hk.1.1.1.2.2.2⟩⟩⟩)⟩, ⟨by (with_reducible repeat (first | apply Kd.Q_alloc | apply Kd.Q_drewN | apply Kd.Q_drew)); exact Kd.Q_mono HO_116002.out (fun _ hk => ⟨hk.1.1.1.1, ⟨hk.1.1.1.2.1, ⟨hk.1.1.1.2.2.1, hk.1.1.1.2.2.2⟩⟩⟩)⟩, ⟨by (with_reducible repeat (first | apply Kd.Q_alloc | apply Kd.Q_drewN | apply Kd.Q_drew)); exact Kd.Q_mono HO_123002.out (fun _ hk => ⟨hk.1.1.1.1, ⟨hk.1.1.1.2.1, ⟨hk.1.1.1.2.2.1, hk.1.1.1.2.2.2⟩⟩⟩)⟩, ⟨by (with_reducible repeat (first | apply Kd.Q_alloc | apply Kd.Q_drewN | apply Kd.Q_drew)); exact Kd.Q_mono HO_130002.out (fun _ hk => ⟨hk.1.1.1.1, ⟨hk.1.1.1.2.1, ⟨hk.1.1.1.2.2.1, hk.1.1.1.2.2.2⟩⟩⟩)⟩, ⟨by (with_reducible repeat (first | apply Kd.Q_alloc | apply Kd.Q_drewN | apply Kd.Q_drew)); exact Kd.Q_mono HO_137002.out (fun _ hk => ⟨hk.1.1.1.1, ⟨hk.1.1.1.2.1, ⟨hk.1.1.1.2.2.1, hk.1.1.1.2.2.2⟩⟩⟩)⟩, ⟨by refine bk ?_; exact BK108.out⟩, ⟨by refine bk ?_; exact BK115.out⟩, ⟨by refine bk ?_; exact BK122.out⟩, ⟨by refine bk ?_; exact BK129.out⟩, ⟨by refine bk ?_; exact BK136.out⟩, ⟨pT HB.out⟩⟩
    replace c114 := Bool.eq_false_iff.mpr c114
    subst c114
    have H1 : (laws_FnFilters.j1 kj9 l0 t114 true t102 t103 t104 t109 t110 t111 t116 t117 t118 t123 t124 t125 t130 t131 t132) = some r := by rw [if_neg (show ¬ (false = true) by decide)] at H; exact H
    clear H
    have H := H1
    clear H1
    have H' := Aside0.mk H
    clear H
    have hnb180 := NB122_108.out
    have hnc180 := NB108_122.out
    have hnb181 := NB122_115.out
    have hnc181 := NB115_122.out
    have hnb182 := NB122_129.out
    have hnc182 := NB129_122.out
    have hnb183 := NB122_136.out
    have hnc183 := NB136_122.out
    have hnb184 := NB122_151.out
    have hnc184 := NB151_122.out
    have hnb185 := NB122_165.out
    have hnc185 := NB165_122.out
    obtain ⟨hcz186_0, hcz186_1, hcz186_2, hfz186_0, hfz186_1, hfz186_2⟩ := bc3 BK122.out
    have hnb187 := NB151_108.out
    have hnc187 := NB108_151.out
    have hnb188 := NB151_115.out
    have hnc188 := NB115_151.out
    have hnb189 := NB151_129.out
    have hnc189 := NB129_151.out
    have hnb190 := NB151_136.out
    have hnc190 := NB136_151.out
    have hnb191 := NB151_165.out
    have hnc191 := NB165_151.out
    obtain ⟨hcz192_0, hcz192_1, hcz192_2, hfz192_0, hfz192_1, hfz192_2⟩ := bc3 BK151.out
    go_wp2_with (first | (go_at_call 22; (with_reducible refine (laws_rFields.calls kj9 t116 t117 _ _ t118 t145 t146 _ _ t147 false _ ?side1 ?side2 ?side3 ?side4 A113.out).mono ?_); (case side1 => refine (Kd.Q_reads' (e := 3) (base := w.heap.size) (ok := fun k_ => ((((some k_ ≠ (.slice Ao14 t104.length co14 : Value).ownBlock ∧ (some k_ ≠ (.slice Ao19 t111.length co19 : Value).ownBlock ∧ (some k_ ≠ (.slice Ao34 t125.length co34 : Value).ownBlock ∧ some k_ ≠ (.slice Ao43 t132.length co43 : Value).ownBlock))) ∧ some k_ ≠ (.slice Ao89 t147.length co89 : Value).ownBlock) ∧ some k_ ≠ (.slice Ao100 t154.length co100 : Value).ownBlock) ∧ some k_ ≠ (.slice Ao112 t161.length co112 : Value).ownBlock)) (n := t118.length) (c := co26) ?_).2.2; exact (pQ ((Kd.Q_mono (Kd.Q_far (p := ⟨gb165, 2, none⟩) (Kd.Q_far (p := ⟨gb165, 1, none⟩) (Kd.Q_far (p := ⟨gb165, 0, none⟩) (Kd.Q_types HO_123002.out BK165.out (by decide)) (fun _ hk => hk.2) (.int .i64 t159)) (fun _ hk => hk.2) (.int .i64 t160)) (fun _ hk => hk.2) (.slice Ao112 t161.length co112)) (fun _ h_ => h_.1))))); (case side2 => exact (Kd.Q_reads' HO_123002.out).2.1); (case side3 => refine (Kd.R_reads' (e := 3) (base := w.heap.size) (ok := fun k_ => (((((((True ∧ some k_ ≠ (.slice Ao14 t104.length co14 : Value).ownBlock) ∧ some k_ ≠ (.slice Ao19 t111.length co19 : Value).ownBlock) ∧ some k_ ≠ (.slice Ao26 t118.length co26 : Value).ownBlock) ∧ some k_ ≠ (.slice Ao34 t125.length co34 : Value).ownBlock) ∧ some k_ ≠ (.slice Ao43 t132.length co43 : Value).ownBlock) ∧ some k_ ≠ (.slice Ao100 t154.length co100 : Value).ownBlock) ∧ some k_ ≠ (.slice Ao112 t161.length co112 : Value).ownBlock)) (n := t147.length) (c := co89) ?_).2.2; exact (pR ((Kd.R_mono (Kd.R_far (p := ⟨gb165, 2, none⟩) (Kd.R_far (p := ⟨gb165, 1, none⟩) (Kd.R_far (p := ⟨gb165, 0, none⟩) (Kd.R_types HO149.out BK165.out (by decide)) (fun _ hk => hk.2) (.int .i64 t159)) (fun _ hk => hk.2) (.int .i64 t160)) (fun _ hk => hk.2) (.slice Ao112 t161.length co112)) (fun _ h_ => h_.1))))); (case side4 => exact (Kd.R_reads' HO149.out).2.1); rintro e w193 ⟨rfl, hb⟩; have n0_ := aK (Kd.Q_below (pQ ((Kd.Q_mono (Kd.Q_far (p := ⟨gb165, 2, none⟩) (Kd.Q_far (p := ⟨gb165, 1, none⟩) (Kd.Q_far (p := ⟨gb165, 0, none⟩) (Kd.Q_types HO_109002.out BK165.out (by decide)) (fun _ hk => hk.2) (.int .i64 t159)) (fun _ hk => hk.2) (.int .i64 t160)) (fun _ hk => hk.2) (.slice Ao112 t161.length co112)) (fun _ h_ => h_.1)))) hb); have n1_ := aK (Kd.Q_below (pQ ((Kd.Q_mono (Kd.Q_far (p := ⟨gb165, 2, none⟩) (Kd.Q_far (p := ⟨gb165, 1, none⟩) (Kd.Q_far (p := ⟨gb165, 0, none⟩) (Kd.Q_types HO_116002.out BK165.out (by decide)) (fun _ hk => hk.2) (.int .i64 t159)) (fun _ hk => hk.2) (.int .i64 t160)) (fun _ hk => hk.2) (.slice Ao112 t161.length co112)) (fun _ h_ => h_.1)))) hb); have n2_ := aK (Kd.Q_below (pQ ((Kd.Q_mono (Kd.Q_far (p := ⟨gb165, 2, none⟩) (Kd.Q_far (p := ⟨gb165, 1, none⟩) (Kd.Q_far (p := ⟨gb165, 0, none⟩) (Kd.Q_types HO_123002.out BK165.out (by decide)) (fun _ hk => hk.2) (.int .i64 t159)) (fun _ hk => hk.2) (.int .i64 t160)) (fun _ hk => hk.2) (.slice Ao112 t161.length co112)) (fun _ h_ => h_.1)))) hb); have n3_ := aK (Kd.Q_below (pQ ((Kd.Q_mono (Kd.Q_far (p := ⟨gb165, 2, none⟩) (Kd.Q_far (p := ⟨gb165, 1, none⟩) (Kd.Q_far (p := ⟨gb165, 0, none⟩) (Kd.Q_types HO_130002.out BK165.out (by decide)) (fun _ hk => hk.2) (.int .i64 t159)) (fun _ hk => hk.2) (.int .i64 t160)) (fun _ hk => hk.2) (.slice Ao112 t161.length co112)) (fun _ h_ => h_.1)))) hb); have n4_ := aK (Kd.Q_below (pQ ((Kd.Q_mono (Kd.Q_far (p := ⟨gb165, 2, none⟩) (Kd.Q_far (p := ⟨gb165, 1, none⟩) (Kd.Q_far (p := ⟨gb165, 0, none⟩) (Kd.Q_types HO_137002.out BK165.out (by decide)) (fun _ hk => hk.2) (.int .i64 t159)) (fun _ hk => hk.2) (.int .i64 t160)) (fun _ hk => hk.2) (.slice Ao112 t161.length co112)) (fun _ h_ => h_.1)))) hb); have n5_ := aK (Kd.R_below (pR ((Kd.R_mono (Kd.R_far (p := ⟨gb165, 2, none⟩) (Kd.R_far (p := ⟨gb165, 1, none⟩) (Kd.R_far (p := ⟨gb165, 0, none⟩) (Kd.R_types HO149.out BK165.out (by decide)) (fun _ hk => hk.2) (.int .i64 t159)) (fun _ hk => hk.2) (.int .i64 t160)) (fun _ hk => hk.2) (.slice Ao112 t161.length co112)) (fun _ h_ => h_.1)))) hb); have n6_ := aK (Kd.R_below (pR ((Kd.R_mono (Kd.R_far (p := ⟨gb165, 2, none⟩) (Kd.R_far (p := ⟨gb165, 1, none⟩) (Kd.R_far (p := ⟨gb165, 0, none⟩) (Kd.R_types HO156.out BK165.out (by decide)) (fun _ hk => hk.2) (.int .i64 t159)) (fun _ hk => hk.2) (.int .i64 t160)) (fun _ hk => hk.2) (.slice Ao112 t161.length co112)) (fun _ h_ => h_.1)))) hb); have n7_ := aK (Kd.R_below (pR ((Kd.R_mono (Kd.R_far (p := ⟨gb165, 2, none⟩) (Kd.R_far (p := ⟨gb165, 1, none⟩) (Kd.R_far (p := ⟨gb165, 0, none⟩) (Kd.R_types HO163.out BK165.out (by decide)) (fun _ hk => hk.2) (.int .i64 t159)) (fun _ hk => hk.2) (.int .i64 t160)) (fun _ hk => hk.2) (.slice Ao112 t161.length co112)) (fun _ h_ => h_.1)))) hb); have n8_ := aK (blk_below (g := gb108) (o := .cells #[.int .i64 t102, .int .i64 t103, .slice Ao14 t104.length co14] 26 (0, 0)) (by refine bk ?_; refine blk_far ?_ NB108_165.out _; refine bk ?_; refine blk_far ?_ NB108_165.out _; refine bk ?_; refine blk_far ?_ NB108_165.out _; refine bk ?_; exact BK108.out) hb); have n9_ := aK (blk_below (g := gb115) (o := .cells #[.int .i64 t109, .int .i64 t110, .slice Ao19 t111.length co19] 26 (0, 0)) (by refine bk ?_; refine blk_far ?_ NB115_165.out _; refine bk ?_; refine blk_far ?_ NB115_165.out _; refine bk ?_; refine blk_far ?_ NB115_165.out _; refine bk ?_; exact BK115.out) hb); have n10_ := aK (blk_below (g := gb122) (o := .cells #[.int .i64 t116, .int .i64 t117, .slice Ao26 t118.length co26] 26 (0, 0)) (by refine bk ?_; refine blk_far ?_ NB122_165.out _; refine bk ?_; refine blk_far ?_ NB122_165.out _; refine bk ?_; refine blk_far ?_ NB122_165.out _; refine bk ?_; exact BK122.out) hb); have n11_ := aK (blk_below (g := gb129) (o := .cells #[.int .i64 t123, .int .i64 t124, .slice Ao34 t125.length co34] 26 (0, 0)) (by refine bk ?_; refine blk_far ?_ NB129_165.out _; refine bk ?_; refine blk_far ?_ NB129_165.out _; refine bk ?_; refine blk_far ?_ NB129_165.out _; refine bk ?_; exact BK129.out) hb); have n12_ := aK (blk_below (g := gb136) (o := .cells #[.int .i64 t130, .int .i64 t131, .slice Ao43 t132.length co43] 26 (0, 0)) (by refine bk ?_; refine blk_far ?_ NB136_165.out _; refine bk ?_; refine blk_far ?_ NB136_165.out _; refine bk ?_; refine blk_far ?_ NB136_165.out _; refine bk ?_; exact BK136.out) hb); have n13_ := aK (blk_below (g := gb165) (o := .cells #[.int .i64 t159, .int .i64 t160, .slice Ao112 t161.length co112] 26 (0, 0)) (by refine bk ?_; refine blk_put (cs := #[.int .i64 t159, .int .i64 t160, .slice none 0 0]) ?_ 2 _ rfl; refine bk ?_; refine blk_put (cs := #[.int .i64 t159, .int .i64 0, .slice none 0 0]) ?_ 1 _ rfl; refine bk ?_; refine blk_put (cs := #[.int .i64 0, .int .i64 0, .slice none 0 0]) ?_ 0 _ rfl; refine bk ?_; exact BK165.out) hb); replace HB := bS HB hb; clear HO_109002 HO_116002 HO_123002 HO_130002 HO_137002 HO149 HO156 HO163 BK108 BK115 BK122 BK129 BK136 BK165; have HO_109002 := n0_; have HO_116002 := n1_; have HO_123002 := n2_; have HO_130002 := n3_; have HO_137002 := n4_; have HO149 := n5_; have HO156 := n6_; have HO163 := n7_; have BK108 := n8_; have BK115 := n9_; have BK122 := n10_; have BK129 := n11_; have BK136 := n12_; have BK165 := n13_; clear n0_ n1_ n2_ n3_ n4_ n5_ n6_ n7_ n8_ n9_ n10_ n11_ n12_ n13_; (try clear hb); (try clear hb2); (try clear hk); (try clear hi)))
    go_meet
    case rel => exact ⟨_, (true), (by first | rfl | (simp; done) | (simp [*]; done)), H', ⟨by have := HJ9.out; first | omega | exact Nat.le_refl _⟩, ⟨by (with_reducible repeat (first | apply Kd.Q_alloc | apply Kd.Q_drewN | apply Kd.Q_drew)); exact Kd.Q_mono HO_109002.out (fun _ hk => ⟨hk.1.1.1.1, ⟨hk.1.1.1.2.1, ⟨hk.1.1.1.2.2.1, hk.1.1.1.2.2.2⟩⟩⟩)⟩, ⟨by (with_reducible repeat (first | apply Kd.Q_alloc | apply Kd.Q_drewN | apply Kd.Q_drew)); exact Kd.Q_mono HO_116002.out (fun _ hk => ⟨hk.1.1.1.1, ⟨hk.1.1.1.2.1, ⟨hk.1.1.1.2.2.1, hk.1.1.1.2.2.2⟩⟩⟩)⟩, ⟨by (with_reducible repeat (first | apply Kd.Q_alloc | apply Kd.Q_drewN | apply Kd.Q_drew)); exact Kd.Q_mono HO_123002.out (fun _ hk => ⟨hk.1.1.1.1, ⟨hk.1.1.1.2.1, ⟨hk.1.1.1.2.2.1, hk.1.1.1.2.2.2⟩⟩⟩)⟩, ⟨by (with_reducible repeat (first | apply Kd.Q_alloc | apply Kd.Q_drewN | apply Kd.Q_drew)); exact Kd.Q_mono HO_130002.out (fun _ hk => ⟨hk.1.1.1.1, ⟨hk.1.1.1.2.1, ⟨hk.1.1.1.2.2.1, hk.1.1.1.2.2.2⟩⟩⟩)⟩, ⟨by (with_reducible repeat (first | apply Kd.Q_alloc | apply Kd.Q_drewN | apply Kd.Q_drew)); exact Kd.Q_mono HO_137002.out (fun _ hk => ⟨hk.1.1.1.1, ⟨hk.1.1.1.2.1, ⟨hk.1.1.1.2.2.1, hk.1.1.1.2.2.2⟩⟩⟩)⟩, ⟨by refine bk ?_; exact BK108.out⟩, ⟨by refine bk ?_; exact BK115.out⟩, ⟨by refine bk ?_; exact BK122.out⟩, ⟨by refine bk ?_; exact BK129.out⟩, ⟨by refine bk ?_; exact BK136.out⟩, ⟨pT HB.out⟩⟩
   case rest => as_aux_lemma =>
    clear HC75
    try clear c1
    try clear c2
    try clear p2
    try clear c3
    try clear c4
    try clear c5
    try clear c6
    try clear c7
    try clear c8
    try clear c9
    try clear c10
    try clear c11
    try clear c12
    try clear c13
    try clear c14
    try clear c15
    try clear c16
    try clear c17
    try clear c18
    try clear c19
    try clear c23
    try clear c24
    try clear c30
    try clear c31
    try clear c32
    try clear c38
    try clear c39
    try clear c40
    try clear c41
    try clear c47
    try clear c48
    try clear c49
    try clear c50
    try clear c51
    try clear c54
    try clear c54b0
    try clear c54b1
    try clear c54b2
    try clear c55
    try clear c55b0
    try clear c55b1
    try clear c55b2
    try clear c56
    try clear c56b0
    try clear c56b1
    try clear c56b2
    try clear c57
    try clear c57b0
    try clear c57b1
    try clear c57b2
    try clear c59
    try clear c60
    try clear c61
    try clear c62
    try clear c63
    try clear c65
    try clear c66
    try clear c67
    try clear c68
    try clear c71
    try clear c76
    try clear c77
    try clear c78
    try clear c79
    try clear c83
    try clear c84
    try clear c85
    try clear c86
    try clear c87
    try clear c93
    try clear c94
    try clear c95
    try clear c96
    try clear c97
    try clear c98
    try clear c104
    try clear c105
    try clear c106
    try clear c107
    try clear c108
    try clear c109
    try clear c110
    try clear c114
    try clear c116
    try clear c118
    try clear c119
    try clear c120
    try clear c121
    try clear c122
    try clear c123
    try clear c124
    try clear c126
    try clear c127
    try clear c128
    try clear c129
    try clear c130
    try clear c131
    try clear c134
    try clear c135
    try clear c136
    try clear c137
    try clear c138
    try clear c140
    try clear c141
    try clear c142
    try clear c143
    try clear c146
    try clear c147
    try clear c148
    try clear c150
    try clear c151
    try clear c154
    try clear c155
    try clear c156
    try clear c157
    try clear c158
    try clear c159
    try clear c160
    try clear c162
    try clear c163
    try clear c164
    try clear c165
    try clear c166
    try clear c167
    try clear c170
    try clear c171
    try clear c172
    try clear c173
    try clear c175
    try clear c176
    try clear c177
    try clear c180
    try clear c181
    try clear c182
    try clear c183
    try clear c184
    try clear c185
    try clear c187
    try clear c188
    try clear c189
    try clear c190
    try clear c191
    try clear hcz101_0
    try clear hcz101_1
    try clear hcz101_2
    try clear hcz111_0
    try clear hcz111_1
    try clear hcz111_2
    try clear hcz125_0
    try clear hcz125_1
    try clear hcz125_2
    try clear hcz132_0
    try clear hcz132_1
    try clear hcz132_2
    try clear hcz139_0
    try clear hcz139_1
    try clear hcz139_2
    try clear hcz13_0
    try clear hcz13_1
    try clear hcz13_2
    try clear hcz144_0
    try clear hcz144_1
    try clear hcz144_2
    try clear hcz149_0
    try clear hcz149_1
    try clear hcz149_2
    try clear hcz152_0
    try clear hcz152_1
    try clear hcz152_2
    try clear hcz161_0
    try clear hcz161_1
    try clear hcz161_2
    try clear hcz168_0
    try clear hcz168_1
    try clear hcz168_2
    try clear hcz174_0
    try clear hcz174_1
    try clear hcz174_2
    try clear hcz178_0
    try clear hcz178_1
    try clear hcz178_2
    try clear hcz186_0
    try clear hcz186_1
    try clear hcz186_2
    try clear hcz18_0
    try clear hcz18_1
    try clear hcz18_2
    try clear hcz192_0
    try clear hcz192_1
    try clear hcz192_2
    try clear hcz20_0
    try clear hcz20_1
    try clear hcz20_2
    try clear hcz25_0
    try clear hcz25_1
    try clear hcz25_2
    try clear hcz27_0
    try clear hcz27_1
    try clear hcz27_2
    try clear hcz33_0
    try clear hcz33_1
    try clear hcz33_2
    try clear hcz35_0
    try clear hcz35_1
    try clear hcz35_2
    try clear hcz42_0
    try clear hcz42_1
    try clear hcz42_2
    try clear hcz44_0
    try clear hcz44_1
    try clear hcz44_2
    try clear hcz52_0
    try clear hcz52_1
    try clear hcz52_2
    try clear hcz64_0
    try clear hcz64_1
    try clear hcz64_2
    try clear hcz69_0
    try clear hcz69_1
    try clear hcz69_2
    try clear hcz80_0
    try clear hcz80_1
    try clear hcz80_2
    try clear hcz88_0
    try clear hcz88_1
    try clear hcz88_2
    try clear hcz90_0
    try clear hcz90_1
    try clear hcz90_2
    try clear hcz99_0
    try clear hcz99_1
    try clear hcz99_2
    try clear hfz101_0
    try clear hfz101_1
    try clear hfz101_2
    try clear hfz111_0
    try clear hfz111_1
    try clear hfz111_2
    try clear hfz125_0
    try clear hfz125_1
    try clear hfz125_2
    try clear hfz132_0
    try clear hfz132_1
    try clear hfz132_2
    try clear hfz139_0
    try clear hfz139_1
    try clear hfz139_2
    try clear hfz13_0
    try clear hfz13_1
    try clear hfz13_2
    try clear hfz144_0
    try clear hfz144_1
    try clear hfz144_2
    try clear hfz149_0
    try clear hfz149_1
    try clear hfz149_2
    try clear hfz152_0
    try clear hfz152_1
    try clear hfz152_2
    try clear hfz161_0
    try clear hfz161_1
    try clear hfz161_2
    try clear hfz168_0
    try clear hfz168_1
    try clear hfz168_2
    try clear hfz174_0
    try clear hfz174_1
    try clear hfz174_2
    try clear hfz178_0
    try clear hfz178_1
    try clear hfz178_2
    try clear hfz186_0
    try clear hfz186_1
    try clear hfz186_2
    try clear hfz18_0
    try clear hfz18_1
    try clear hfz18_2
    try clear hfz192_0
    try clear hfz192_1
    try clear hfz192_2
    try clear hfz20_0
    try clear hfz20_1
    try clear hfz20_2
    try clear hfz25_0
    try clear hfz25_1
    try clear hfz25_2
    try clear hfz27_0
    try clear hfz27_1
    try clear hfz27_2
    try clear hfz33_0
    try clear hfz33_1
    try clear hfz33_2
    try clear hfz35_0
    try clear hfz35_1
    try clear hfz35_2
    try clear hfz42_0
    try clear hfz42_1
    try clear hfz42_2
    try clear hfz44_0
    try clear hfz44_1
    try clear hfz44_2
    try clear hfz52_0
    try clear hfz52_1
    try clear hfz52_2
    try clear hfz64_0
    try clear hfz64_1
    try clear hfz64_2
    try clear hfz69_0
    try clear hfz69_1
    try clear hfz69_2
    try clear hfz80_0
    try clear hfz80_1
    try clear hfz80_2
    try clear hfz88_0
    try clear hfz88_1
    try clear hfz88_2
    try clear hfz90_0
    try clear hfz90_1
    try clear hfz90_2
    try clear hfz99_0
    try clear hfz99_1
    try clear hfz99_2
    try clear p2
    obtain ⟨kq, x123_74, rfl, HA, HJ74, HO_109002, HO_116002, HO_123002, HO_130002, HO_137002, BK108, BK115, BK122, BK129, BK136, HB⟩ := hcut
    cases kq with
    | zero => exact absurd HA.out (by simp [laws_FnFilters.j1])
    | succ kj74 =>
     have H := HA.out
     clear HA
     simp only [laws_FnFilters.j1] at H
     by_cases c194 : x123_74 = true
     ·
      subst c194
      have H1 : (some false) = some r := by rw [if_pos rfl] at H; exact H
      clear H
      have H := H1
      clear H1
      obtain rfl := Option.some.inj H
      go_wp2
      repeat (go_quiet (fail); try go_wp2)
      go_ret
      exact ⟨by first | rfl | (simp [errW_none, errW_some] <;> rfl) | (simp [*, errW_none, errW_some] <;> rfl), pT HB.out⟩
     replace c194 := Bool.eq_false_iff.mpr c194
     subst c194
     have H1 : (laws_FnFilters.l0 kj74 l0 t114 0 t102 t103 t104 t109 t110 t111 t116 t117 t118 t123 t124 t125 t130 t131 t132) = some r := by rw [if_neg (show ¬ (false = true) by decide)] at H; exact H
     clear H
     have H := H1
     clear H1
     have H' := Aside0.mk H
     clear H
     go_wp2
     repeat (go_quiet (fail); try go_wp2)
     go_loopg [21] kj74 (fun kq v21 w' => ∃ (x21_3 : Int), v21 = .int .i64 x21_3 ∧ Aside0 (laws_FnFilters.l0 kq l0 t114 x21_3 t102 t103 t104 t109 t110 t111 t116 t117 t118 t123 t124 t125 t130 t131 t132 = some r) ∧ Aside0 (kq ≤ kj74) ∧ Aside0 (Kd.Q (Kd.int .i64) 3 w' w.heap.size (fun k_ => some k_ ≠ ((.slice Ao19 t111.length co19) : Value).ownBlock ∧ some k_ ≠ ((.slice Ao26 t118.length co26) : Value).ownBlock ∧ some k_ ≠ ((.slice Ao34 t125.length co34) : Value).ownBlock ∧ some k_ ≠ ((.slice Ao43 t132.length co43) : Value).ownBlock) (.slice Ao14 t104.length co14) t104) ∧ Aside0 (Kd.Q (Kd.int .i64) 3 w' w.heap.size (fun k_ => some k_ ≠ ((.slice Ao14 t104.length co14) : Value).ownBlock ∧ some k_ ≠ ((.slice Ao26 t118.length co26) : Value).ownBlock ∧ some k_ ≠ ((.slice Ao34 t125.length co34) : Value).ownBlock ∧ some k_ ≠ ((.slice Ao43 t132.length co43) : Value).ownBlock) (.slice Ao19 t111.length co19) t111) ∧ Aside0 (Kd.Q (Kd.int .i64) 3 w' w.heap.size (fun k_ => some k_ ≠ ((.slice Ao14 t104.length co14) : Value).ownBlock ∧ some k_ ≠ ((.slice Ao19 t111.length co19) : Value).ownBlock ∧ some k_ ≠ ((.slice Ao34 t125.length co34) : Value).ownBlock ∧ some k_ ≠ ((.slice Ao43 t132.length co43) : Value).ownBlock) (.slice Ao26 t118.length co26) t118) ∧ Aside0 (Kd.Q (Kd.int .i64) 3 w' w.heap.size (fun k_ => some k_ ≠ ((.slice Ao14 t104.length co14) : Value).ownBlock ∧ some k_ ≠ ((.slice Ao19 t111.length co19) : Value).ownBlock ∧ some k_ ≠ ((.slice Ao26 t118.length co26) : Value).ownBlock ∧ some k_ ≠ ((.slice Ao43 t132.length co43) : Value).ownBlock) (.slice Ao34 t125.length co34) t125) ∧ Aside0 (Kd.Q (Kd.int .i64) 3 w' w.heap.size (fun k_ => some k_ ≠ ((.slice Ao14 t104.length co14) : Value).ownBlock ∧ some k_ ≠ ((.slice Ao19 t111.length co19) : Value).ownBlock ∧ some k_ ≠ ((.slice Ao26 t118.length co26) : Value).ownBlock ∧ some k_ ≠ ((.slice Ao34 t125.length co34) : Value).ownBlock) (.slice Ao43 t132.length co43) t132) ∧ Aside0 (w'.heap[gb108]? = some (.cells #[.int .i64 t102, .int .i64 t103, (.slice Ao14 t104.length co14)] 26 (0, 0))) ∧ Aside0 (w'.heap[gb115]? = some (.cells #[.int .i64 t109, .int .i64 t110, (.slice Ao19 t111.length co19)] 26 (0, 0))) ∧ Aside0 (w'.heap[gb122]? = some (.cells #[.int .i64 t116, .int .i64 t117, (.slice Ao26 t118.length co26)] 26 (0, 0))) ∧ Aside0 (w'.heap[gb129]? = some (.cells #[.int .i64 t123, .int .i64 t124, (.slice Ao34 t125.length co34)] 26 (0, 0))) ∧ Aside0 (w'.heap[gb136]? = some (.cells #[.int .i64 t130, .int .i64 t131, (.slice Ao43 t132.length co43)] 26 (0, 0))) ∧ Aside0 (Below w.heap.size w w'))
     case atStart => exact ⟨(0), (by first | rfl | (simp; done) | (simp [*]; done)), H', ⟨Nat.le_refl _⟩, ⟨by (with_reducible repeat (first | apply Kd.Q_alloc | apply Kd.Q_drewN | apply Kd.Q_drew)); exact HO_109002.out⟩, ⟨by (with_reducible repeat (first | apply Kd.Q_alloc | apply Kd.Q_drewN | apply Kd.Q_drew)); exact HO_116002.out⟩, ⟨by (with_reducible repeat (first | apply Kd.Q_alloc | apply Kd.Q_drewN | apply Kd.Q_drew)); exact HO_123002.out⟩, ⟨by (with_reducible repeat (first | apply Kd.Q_alloc | apply Kd.Q_drewN | apply Kd.Q_drew)); exact HO_130002.out⟩, ⟨by (with_reducible repeat (first | apply Kd.Q_alloc | apply Kd.Q_drewN | apply Kd.Q_drew)); exact HO_137002.out⟩, ⟨by refine bk ?_; exact BK108.out⟩, ⟨by refine bk ?_; exact BK115.out⟩, ⟨by refine bk ?_; exact BK122.out⟩, ⟨by refine bk ?_; exact BK129.out⟩, ⟨by refine bk ?_; exact BK136.out⟩, ⟨pT HB.out⟩⟩
     case round => as_aux_lemma =>
      clear H'
      try clear c1
      try clear c2
      try clear p2
      try clear c3
      try clear c4
      try clear c5
      try clear c6
      try clear c7
      try clear c8
      try clear c9
      try clear c10
      try clear c11
      try clear c12
      try clear c13
      try clear c14
      try clear c15
      try clear c16
      try clear c17
      try clear c18
      try clear c19
      try clear c23
      try clear c24
      try clear c30
      try clear c31
      try clear c32
      try clear c38
      try clear c39
      try clear c40
      try clear c41
      try clear c47
      try clear c48
      try clear c49
      try clear c50
      try clear c51
      try clear c54
      try clear c54b0
      try clear c54b1
      try clear c54b2
      try clear c55
      try clear c55b0
      try clear c55b1
      try clear c55b2
      try clear c56
      try clear c56b0
      try clear c56b1
      try clear c56b2
      try clear c57
      try clear c57b0
      try clear c57b1
      try clear c57b2
      try clear c59
      try clear c60
      try clear c61
      try clear c62
      try clear c63
      try clear c65
      try clear c66
      try clear c67
      try clear c68
      try clear c71
      try clear c76
      try clear c77
      try clear c78
      try clear c79
      try clear c83
      try clear c84
      try clear c85
      try clear c86
      try clear c87
      try clear c93
      try clear c94
      try clear c95
      try clear c96
      try clear c97
      try clear c98
      try clear c104
      try clear c105
      try clear c106
      try clear c107
      try clear c108
      try clear c109
      try clear c110
      try clear c114
      try clear c116
      try clear c118
      try clear c119
      try clear c120
      try clear c121
      try clear c122
      try clear c123
      try clear c124
      try clear c126
      try clear c127
      try clear c128
      try clear c129
      try clear c130
      try clear c131
      try clear c134
      try clear c135
      try clear c136
      try clear c137
      try clear c138
      try clear c140
      try clear c141
      try clear c142
      try clear c143
      try clear c146
      try clear c147
      try clear c148
      try clear c150
      try clear c151
      try clear c154
      try clear c155
      try clear c156
      try clear c157
      try clear c158
      try clear c159
      try clear c160
      try clear c162
      try clear c163
      try clear c164
      try clear c165
      try clear c166
      try clear c167
      try clear c170
      try clear c171
      try clear c172
      try clear c173
      try clear c175
      try clear c176
      try clear c177
      try clear c180
      try clear c181
      try clear c182
      try clear c183
      try clear c184
      try clear c185
      try clear c187
      try clear c188
      try clear c189
      try clear c190
      try clear c191
      try clear c194
      try clear hcz101_0
      try clear hcz101_1
      try clear hcz101_2
      try clear hcz111_0
      try clear hcz111_1
      try clear hcz111_2
      try clear hcz125_0
      try clear hcz125_1
      try clear hcz125_2
      try clear hcz132_0
      try clear hcz132_1
      try clear hcz132_2
      try clear hcz139_0
      try clear hcz139_1
      try clear hcz139_2
      try clear hcz13_0
      try clear hcz13_1
      try clear hcz13_2
      try clear hcz144_0
      try clear hcz144_1
      try clear hcz144_2
      try clear hcz149_0
      try clear hcz149_1
      try clear hcz149_2
      try clear hcz152_0
      try clear hcz152_1
      try clear hcz152_2
      try clear hcz161_0
      try clear hcz161_1
      try clear hcz161_2
      try clear hcz168_0
      try clear hcz168_1
      try clear hcz168_2
      try clear hcz174_0
      try clear hcz174_1
      try clear hcz174_2
      try clear hcz178_0
      try clear hcz178_1
      try clear hcz178_2
      try clear hcz186_0
      try clear hcz186_1
      try clear hcz186_2
      try clear hcz18_0
      try clear hcz18_1
      try clear hcz18_2
      try clear hcz192_0
      try clear hcz192_1
      try clear hcz192_2
      try clear hcz20_0
      try clear hcz20_1
      try clear hcz20_2
      try clear hcz25_0
      try clear hcz25_1
      try clear hcz25_2
      try clear hcz27_0
      try clear hcz27_1
      try clear hcz27_2
      try clear hcz33_0
      try clear hcz33_1
      try clear hcz33_2
      try clear hcz35_0
      try clear hcz35_1
      try clear hcz35_2
      try clear hcz42_0
      try clear hcz42_1
      try clear hcz42_2
      try clear hcz44_0
      try clear hcz44_1
      try clear hcz44_2
      try clear hcz52_0
      try clear hcz52_1
      try clear hcz52_2
      try clear hcz64_0
      try clear hcz64_1
      try clear hcz64_2
      try clear hcz69_0
      try clear hcz69_1
      try clear hcz69_2
      try clear hcz80_0
      try clear hcz80_1
      try clear hcz80_2
      try clear hcz88_0
      try clear hcz88_1
      try clear hcz88_2
      try clear hcz90_0
      try clear hcz90_1
      try clear hcz90_2
      try clear hcz99_0
      try clear hcz99_1
      try clear hcz99_2
      try clear hfz101_0
      try clear hfz101_1
      try clear hfz101_2
      try clear hfz111_0
      try clear hfz111_1
      try clear hfz111_2
      try clear hfz125_0
      try clear hfz125_1
      try clear hfz125_2
      try clear hfz132_0
      try clear hfz132_1
      try clear hfz132_2
      try clear hfz139_0
      try clear hfz139_1
      try clear hfz139_2
      try clear hfz13_0
      try clear hfz13_1
      try clear hfz13_2
      try clear hfz144_0
      try clear hfz144_1
      try clear hfz144_2
      try clear hfz149_0
      try clear hfz149_1
      try clear hfz149_2
      try clear hfz152_0
      try clear hfz152_1
      try clear hfz152_2
      try clear hfz161_0
      try clear hfz161_1
      try clear hfz161_2
      try clear hfz168_0
      try clear hfz168_1
      try clear hfz168_2
      try clear hfz174_0
      try clear hfz174_1
      try clear hfz174_2
      try clear hfz178_0
      try clear hfz178_1
      try clear hfz178_2
      try clear hfz186_0
      try clear hfz186_1
      try clear hfz186_2
      try clear hfz18_0
      try clear hfz18_1
      try clear hfz18_2
      try clear hfz192_0
      try clear hfz192_1
      try clear hfz192_2
      try clear hfz20_0
      try clear hfz20_1
      try clear hfz20_2
      try clear hfz25_0
      try clear hfz25_1
      try clear hfz25_2
      try clear hfz27_0
      try clear hfz27_1
      try clear hfz27_2
      try clear hfz33_0
      try clear hfz33_1
      try clear hfz33_2
      try clear hfz35_0
      try clear hfz35_1
      try clear hfz35_2
      try clear hfz42_0
      try clear hfz42_1
      try clear hfz42_2
      try clear hfz44_0
      try clear hfz44_1
      try clear hfz44_2
      try clear hfz52_0
      try clear hfz52_1
      try clear hfz52_2
      try clear hfz64_0
      try clear hfz64_1
      try clear hfz64_2
      try clear hfz69_0
      try clear hfz69_1
      try clear hfz69_2
      try clear hfz80_0
      try clear hfz80_1
      try clear hfz80_2
      try clear hfz88_0
      try clear hfz88_1
      try clear hfz88_2
      try clear hfz90_0
      try clear hfz90_1
      try clear hfz90_2
      try clear hfz99_0
      try clear hfz99_1
      try clear hfz99_2
      try clear p2
      obtain ⟨x21_3, rfl, HA, HK3, HO_109002, HO_116002, HO_123002, HO_130002, HO_137002, BK108, BK115, BK122, BK129, BK136, HB⟩ := hrel
      cases gk with
      | zero => exact absurd HA.out (by simp [laws_FnFilters.l0])
      | succ k3 =>
       have H := HA.out
       clear HA
       simp only [laws_FnFilters.l0] at H
       have HC195 := Aside0.mk H
       clear H
       go_upto_region 17 with (fail)
       go_cut [131] (fun v131 wc => ∃ (kq : Nat) (x131_194 : Bool), v131 = .bool x131_194 ∧ Aside0 (laws_FnFilters.j3 kq l0 t114 x21_3 x131_194 t102 t103 t104 t109 t110 t111 t116 t117 t118 t123 t124 t125 t130 t131 t132 = some r) ∧ Aside0 (kq ≤ k3) ∧ Aside0 (Kd.Q (Kd.int .i64) 3 wc w.heap.size (fun k_ => some k_ ≠ ((.slice Ao19 t111.length co19) : Value).ownBlock ∧ some k_ ≠ ((.slice Ao26 t118.length co26) : Value).ownBlock ∧ some k_ ≠ ((.slice Ao34 t125.length co34) : Value).ownBlock ∧ some k_ ≠ ((.slice Ao43 t132.length co43) : Value).ownBlock) (.slice Ao14 t104.length co14) t104) ∧ Aside0 (Kd.Q (Kd.int .i64) 3 wc w.heap.size (fun k_ => some k_ ≠ ((.slice Ao14 t104.length co14) : Value).ownBlock ∧ some k_ ≠ ((.slice Ao26 t118.length co26) : Value).ownBlock ∧ some k_ ≠ ((.slice Ao34 t125.length co34) : Value).ownBlock ∧ some k_ ≠ ((.slice Ao43 t132.length co43) : Value).ownBlock) (.slice Ao19 t111.length co19) t111) ∧ Aside0 (Kd.Q (Kd.int .i64) 3 wc w.heap.size (fun k_ => some k_ ≠ ((.slice Ao14 t104.length co14) : Value).ownBlock ∧ some k_ ≠ ((.slice Ao19 t111.length co19) : Value).ownBlock ∧ some k_ ≠ ((.slice Ao34 t125.length co34) : Value).ownBlock ∧ some k_ ≠ ((.slice Ao43 t132.length co43) : Value).ownBlock) (.slice Ao26 t118.length co26) t118) ∧ Aside0 (Kd.Q (Kd.int .i64) 3 wc w.heap.size (fun k_ => some k_ ≠ ((.slice Ao14 t104.length co14) : Value).ownBlock ∧ some k_ ≠ ((.slice Ao19 t111.length co19) : Value).ownBlock ∧ some k_ ≠ ((.slice Ao26 t118.length co26) : Value).ownBlock ∧ some k_ ≠ ((.slice Ao43 t132.length co43) : Value).ownBlock) (.slice Ao34 t125.length co34) t125) ∧ Aside0 (Kd.Q (Kd.int .i64) 3 wc w.heap.size (fun k_ => some k_ ≠ ((.slice Ao14 t104.length co14) : Value).ownBlock ∧ some k_ ≠ ((.slice Ao19 t111.length co19) : Value).ownBlock ∧ some k_ ≠ ((.slice Ao26 t118.length co26) : Value).ownBlock ∧ some k_ ≠ ((.slice Ao34 t125.length co34) : Value).ownBlock) (.slice Ao43 t132.length co43) t132) ∧ Aside0 (wc.heap[gb108]? = some (.cells #[.int .i64 t102, .int .i64 t103, (.slice Ao14 t104.length co14)] 26 (0, 0))) ∧ Aside0 (wc.heap[gb115]? = some (.cells #[.int .i64 t109, .int .i64 t110, (.slice Ao19 t111.length co19)] 26 (0, 0))) ∧ Aside0 (wc.heap[gb122]? = some (.cells #[.int .i64 t116, .int .i64 t117, (.slice Ao26 t118.length co26)] 26 (0, 0))) ∧ Aside0 (wc.heap[gb129]? = some (.cells #[.int .i64 t123, .int .i64 t124, (.slice Ao34 t125.length co34)] 26 (0, 0))) ∧ Aside0 (wc.heap[gb136]? = some (.cells #[.int .i64 t130, .int .i64 t131, (.slice Ao43 t132.length co43)] 26 (0, 0))) ∧ Aside0 (Below w.heap.size w wc))
       case first => as_aux_lemma =>
        have H := HC195.out
        clear HC195
        by_cases c196 : x21_3 < (t104.length : Int)
        ·
         rw [if_pos c196] at H
         have c196b0 : decide (x21_3 < (t104.length : Int)) = true := decide_eq_true c196
         clear c196
         (first | rw [c196b0] | (simp only [i64_w, i32_w]; rw [c196b0]) | skip)
         have H' := Aside0.mk H
         clear H
         have hnb197 := NB108_115.out
         have hnc197 := NB115_108.out
         have hnb198 := NB108_122.out
         have hnc198 := NB122_108.out
         have hnb199 := NB108_129.out
         have hnc199 := NB129_108.out
         have hnb200 := NB108_136.out
         have hnc200 := NB136_108.out
         obtain ⟨hcz201_0, hcz201_1, hcz201_2, hfz201_0, hfz201_1, hfz201_2⟩ := bc3 BK108.out
         go_wp2
         repeat (go_quiet (fail); try go_wp2)
         go_meet
         case rel => exact ⟨_, (t114), (by first | rfl | (simp; done) | (simp [*]; done)), H', ⟨by have := HJ9.out; have := HJ74.out; have := HK3.out; first | omega | exact Nat.le_refl _⟩, ⟨by (with_reducible repeat (first | apply Kd.Q_alloc | apply Kd.Q_drewN | apply Kd.Q_drew)); exact HO_109002.out⟩, ⟨by (with_reducible repeat (first | apply Kd.Q_alloc | apply Kd.Q_drewN | apply Kd.Q_drew)); exact HO_116002.out⟩, ⟨by (with_reducible repeat (first | apply Kd.Q_alloc | apply Kd.Q_drewN | apply Kd.Q_drew)); exact HO_123002.out⟩, ⟨by (with_reducible repeat (first | apply Kd.Q_alloc | apply Kd.Q_drewN | apply Kd.Q_drew)); exact HO_130002.out⟩, ⟨by (with_reducible repeat (first | apply Kd.Q_alloc | apply Kd.Q_drewN | apply Kd.Q_drew)); exact HO_137002.out⟩, ⟨by refine bk ?_; exact BK108.out⟩, ⟨by refine bk ?_; exact BK115.out⟩, ⟨by refine bk ?_; exact BK122.out⟩, ⟨by refine bk ?_; exact BK129.out⟩, ⟨by refine bk ?_; exact BK136.out⟩, ⟨pT HB.out⟩⟩
        rw [if_neg c196] at H
        have c196b0 : decide (x21_3 < (t104.length : Int)) = false := decide_eq_false c196
        clear c196
        (first | rw [c196b0] | (simp only [i64_w, i32_w]; rw [c196b0]) | skip)
        have H' := Aside0.mk H
        clear H
        have hnb202 := NB108_115.out
        have hnc202 := NB115_108.out
        have hnb203 := NB108_122.out
        have hnc203 := NB122_108.out
        have hnb204 := NB108_129.out
        have hnc204 := NB129_108.out
        have hnb205 := NB108_136.out
        have hnc205 := NB136_108.out
        obtain ⟨hcz206_0, hcz206_1, hcz206_2, hfz206_0, hfz206_1, hfz206_2⟩ := bc3 BK108.out
        go_wp2
        go_meet
        case rel => exact ⟨_, (false), (by first | rfl | (simp; done) | (simp [*]; done)), H', ⟨by have := HJ9.out; have := HJ74.out; have := HK3.out; first | omega | exact Nat.le_refl _⟩, ⟨by (with_reducible repeat (first | apply Kd.Q_alloc | apply Kd.Q_drewN | apply Kd.Q_drew)); exact HO_109002.out⟩, ⟨by (with_reducible repeat (first | apply Kd.Q_alloc | apply Kd.Q_drewN | apply Kd.Q_drew)); exact HO_116002.out⟩, ⟨by (with_reducible repeat (first | apply Kd.Q_alloc | apply Kd.Q_drewN | apply Kd.Q_drew)); exact HO_123002.out⟩, ⟨by (with_reducible repeat (first | apply Kd.Q_alloc | apply Kd.Q_drewN | apply Kd.Q_drew)); exact HO_130002.out⟩, ⟨by (with_reducible repeat (first | apply Kd.Q_alloc | apply Kd.Q_drewN | apply Kd.Q_drew)); exact HO_137002.out⟩, ⟨by refine bk ?_; exact BK108.out⟩, ⟨by refine bk ?_; exact BK115.out⟩, ⟨by refine bk ?_; exact BK122.out⟩, ⟨by refine bk ?_; exact BK129.out⟩, ⟨by refine bk ?_; exact BK136.out⟩, ⟨pT HB.out⟩⟩
       case rest => as_aux_lemma =>
        clear HC195
        try clear c1
        try clear c2
        try clear p2
        try clear c3
        try clear c4
        try clear c5
        try clear c6
        try clear c7
        try clear c8
        try clear c9
        try clear c10
        try clear c11
        try clear c12
        try clear c13
        try clear c14
        try clear c15
        try clear c16
        try clear c17
        try clear c18
        try clear c19
        try clear c20
        try clear c23
        try clear c24
        try clear c30
        try clear c31
        try clear c32
        try clear c38
        try clear c39
        try clear c40
        try clear c41
        try clear c47
        try clear c48
        try clear c49
        try clear c50
        try clear c51
        try clear c54
        try clear c54b0
        try clear c54b1
        try clear c54b2
        try clear c55
        try clear c55b0
        try clear c55b1
        try clear c55b2
        try clear c56
        try clear c56b0
        try clear c56b1
        try clear c56b2
        try clear c57
        try clear c57b0
        try clear c57b1
        try clear c57b2
        try clear c59
        try clear c60
        try clear c61
        try clear c62
        try clear c63
        try clear c65
        try clear c66
        try clear c67
        try clear c68
        try clear c71
        try clear c76
        try clear c77
        try clear c78
        try clear c79
        try clear c83
        try clear c84
        try clear c85
        try clear c86
        try clear c87
        try clear c93
        try clear c94
        try clear c95
        try clear c96
        try clear c97
        try clear c98
        try clear c104
        try clear c105
        try clear c106
        try clear c107
        try clear c108
        try clear c109
        try clear c110
        try clear c114
        try clear c116
        try clear c118
        try clear c119
        try clear c120
        try clear c121
        try clear c122
        try clear c123
        try clear c124
        try clear c126
        try clear c127
        try clear c128
        try clear c129
        try clear c130
        try clear c131
        try clear c134
        try clear c135
        try clear c136
        try clear c137
        try clear c138
        try clear c140
        try clear c141
        try clear c142
        try clear c143
        try clear c146
        try clear c147
        try clear c148
        try clear c150
        try clear c151
        try clear c154
        try clear c155
        try clear c156
        try clear c157
        try clear c158
        try clear c159
        try clear c160
        try clear c162
        try clear c163
        try clear c164
        try clear c165
        try clear c166
        try clear c167
        try clear c170
        try clear c171
        try clear c172
        try clear c173
        try clear c175
        try clear c176
        try clear c177
        try clear c180
        try clear c181
        try clear c182
        try clear c183
        try clear c184
        try clear c185
        try clear c187
        try clear c188
        try clear c189
        try clear c190
        try clear c191
        try clear c194
        try clear c196
        try clear c196b0
        try clear c197
        try clear c198
        try clear c199
        try clear c200
        try clear c202
        try clear c203
        try clear c204
        try clear c205
        try clear hcz101_0
        try clear hcz101_1
        try clear hcz101_2
        try clear hcz111_0
        try clear hcz111_1
        try clear hcz111_2
        try clear hcz125_0
        try clear hcz125_1
        try clear hcz125_2
        try clear hcz132_0
        try clear hcz132_1
        try clear hcz132_2
        try clear hcz139_0
        try clear hcz139_1
        try clear hcz139_2
        try clear hcz13_0
        try clear hcz13_1
        try clear hcz13_2
        try clear hcz144_0
        try clear hcz144_1
        try clear hcz144_2
        try clear hcz149_0
        try clear hcz149_1
        try clear hcz149_2
        try clear hcz152_0
        try clear hcz152_1
        try clear hcz152_2
        try clear hcz161_0
        try clear hcz161_1
        try clear hcz161_2
        try clear hcz168_0
        try clear hcz168_1
        try clear hcz168_2
        try clear hcz174_0
        try clear hcz174_1
        try clear hcz174_2
        try clear hcz178_0
        try clear hcz178_1
        try clear hcz178_2
        try clear hcz186_0
        try clear hcz186_1
        try clear hcz186_2
        try clear hcz18_0
        try clear hcz18_1
        try clear hcz18_2
        try clear hcz192_0
        try clear hcz192_1
        try clear hcz192_2
        try clear hcz201_0
        try clear hcz201_1
        try clear hcz201_2
        try clear hcz206_0
        try clear hcz206_1
        try clear hcz206_2
        try clear hcz20_0
        try clear hcz20_1
        try clear hcz20_2
        try clear hcz25_0
        try clear hcz25_1
        try clear hcz25_2
        try clear hcz27_0
        try clear hcz27_1
        try clear hcz27_2
        try clear hcz33_0
        try clear hcz33_1
        try clear hcz33_2
        try clear hcz35_0
        try clear hcz35_1
        try clear hcz35_2
        try clear hcz42_0
        try clear hcz42_1
        try clear hcz42_2
        try clear hcz44_0
        try clear hcz44_1
        try clear hcz44_2
        try clear hcz52_0
        try clear hcz52_1
        try clear hcz52_2
        try clear hcz64_0
        try clear hcz64_1
        try clear hcz64_2
        try clear hcz69_0
        try clear hcz69_1
        try clear hcz69_2
        try clear hcz80_0
        try clear hcz80_1
        try clear hcz80_2
        try clear hcz88_0
        try clear hcz88_1
        try clear hcz88_2
        try clear hcz90_0
        try clear hcz90_1
        try clear hcz90_2
        try clear hcz99_0
        try clear hcz99_1
        try clear hcz99_2
        try clear hfz101_0
        try clear hfz101_1
        try clear hfz101_2
        try clear hfz111_0
        try clear hfz111_1
        try clear hfz111_2
        try clear hfz125_0
        try clear hfz125_1
        try clear hfz125_2
        try clear hfz132_0
        try clear hfz132_1
        try clear hfz132_2
        try clear hfz139_0
        try clear hfz139_1
        try clear hfz139_2
        try clear hfz13_0
        try clear hfz13_1
        try clear hfz13_2
        try clear hfz144_0
        try clear hfz144_1
        try clear hfz144_2
        try clear hfz149_0
        try clear hfz149_1
        try clear hfz149_2
        try clear hfz152_0
        try clear hfz152_1
        try clear hfz152_2
        try clear hfz161_0
        try clear hfz161_1
        try clear hfz161_2
        try clear hfz168_0
        try clear hfz168_1
        try clear hfz168_2
        try clear hfz174_0
        try clear hfz174_1
        try clear hfz174_2
        try clear hfz178_0
        try clear hfz178_1
        try clear hfz178_2
        try clear hfz186_0
        try clear hfz186_1
        try clear hfz186_2
        try clear hfz18_0
        try clear hfz18_1
        try clear hfz18_2
        try clear hfz192_0
        try clear hfz192_1
        try clear hfz192_2
        try clear hfz201_0
        try clear hfz201_1
        try clear hfz201_2
        try clear hfz206_0
        try clear hfz206_1
        try clear hfz206_2
        try clear hfz20_0
        try clear hfz20_1
        try clear hfz20_2
        try clear hfz25_0
        try clear hfz25_1
        try clear hfz25_2
        try clear hfz27_0
        try clear hfz27_1
        try clear hfz27_2
        try clear hfz33_0
        try clear hfz33_1
        try clear hfz33_2
        try clear hfz35_0
        try clear hfz35_1
        try clear hfz35_2
        try clear hfz42_0
        try clear hfz42_1
        try clear hfz42_2
        try clear hfz44_0
        try clear hfz44_1
        try clear hfz44_2
        try clear hfz52_0
        try clear hfz52_1
        try clear hfz52_2
        try clear hfz64_0
        try clear hfz64_1
        try clear hfz64_2
        try clear hfz69_0
        try clear hfz69_1
        try clear hfz69_2
        try clear hfz80_0
        try clear hfz80_1
        try clear hfz80_2
        try clear hfz88_0
        try clear hfz88_1
        try clear hfz88_2
        try clear hfz90_0
        try clear hfz90_1
        try clear hfz90_2
        try clear hfz99_0
        try clear hfz99_1
        try clear hfz99_2
        try clear p2
        obtain ⟨kq, x131_194, rfl, HA, HJ194, HO_109002, HO_116002, HO_123002, HO_130002, HO_137002, BK108, BK115, BK122, BK129, BK136, HB⟩ := hcut
        cases kq with
        | zero => exact absurd HA.out (by simp [laws_FnFilters.j3])
        | succ kj194 =>
         have H := HA.out
         clear HA
         simp only [laws_FnFilters.j3] at H
         by_cases c207 : x131_194 = true
         ·
          subst c207
          have H1 : (if 0 ≤ x21_3 then (if x21_3 < (t118.length : Int) then (if x21_3 < (t132.length : Int) then (if (rd t118 x21_3) > (rd t132 x21_3) then (laws_FnFilters.j4 kj194 l0 t114 x21_3 true t102 t103 t104 t109 t110 t111 t116 t117 t118 t123 t124 t125 t130 t131 t132) else (if x21_3 < (t111.length : Int) then (if (rd t132 x21_3) > (rd t111 x21_3) then (laws_FnFilters.j4 kj194 l0 t114 x21_3 true t102 t103 t104 t109 t110 t111 t116 t117 t118 t123 t124 t125 t130 t131 t132) else (if x21_3 < (t125.length : Int) then (if (rd t118 x21_3) > (rd t125 x21_3) then (laws_FnFilters.j4 kj194 l0 t114 x21_3 true t102 t103 t104 t109 t110 t111 t116 t117 t118 t123 t124 t125 t130 t131 t132) else (laws_FnFilters.j4 kj194 l0 t114 x21_3 (decide ((rd t125 x21_3) > (rd t111 x21_3))) t102 t103 t104 t109 t110 t111 t116 t117 t118 t123 t124 t125 t130 t131 t132)) else (none))) else (none))) else (none)) else (none)) else (none)) = some r := by rw [if_pos rfl] at H; exact H
          clear H
          have H := H1
          clear H1
          have HC208 := Aside0.mk H
          clear H
          go_upto_region 19 with (fail)
          go_cut [183] (fun v183 wc => ∃ (kq : Nat) (x183_207 : Bool), v183 = .bool x183_207 ∧ Aside0 (laws_FnFilters.j4 kq l0 t114 x21_3 x183_207 t102 t103 t104 t109 t110 t111 t116 t117 t118 t123 t124 t125 t130 t131 t132 = some r) ∧ Aside0 (kq ≤ kj194) ∧ Aside0 (Kd.Q (Kd.int .i64) 3 wc w.heap.size (fun k_ => some k_ ≠ ((.slice Ao19 t111.length co19) : Value).ownBlock ∧ some k_ ≠ ((.slice Ao26 t118.length co26) : Value).ownBlock ∧ some k_ ≠ ((.slice Ao34 t125.length co34) : Value).ownBlock ∧ some k_ ≠ ((.slice Ao43 t132.length co43) : Value).ownBlock) (.slice Ao14 t104.length co14) t104) ∧ Aside0 (Kd.Q (Kd.int .i64) 3 wc w.heap.size (fun k_ => some k_ ≠ ((.slice Ao14 t104.length co14) : Value).ownBlock ∧ some k_ ≠ ((.slice Ao26 t118.length co26) : Value).ownBlock ∧ some k_ ≠ ((.slice Ao34 t125.length co34) : Value).ownBlock ∧ some k_ ≠ ((.slice Ao43 t132.length co43) : Value).ownBlock) (.slice Ao19 t111.length co19) t111) ∧ Aside0 (Kd.Q (Kd.int .i64) 3 wc w.heap.size (fun k_ => some k_ ≠ ((.slice Ao14 t104.length co14) : Value).ownBlock ∧ some k_ ≠ ((.slice Ao19 t111.length co19) : Value).ownBlock ∧ some k_ ≠ ((.slice Ao34 t125.length co34) : Value).ownBlock ∧ some k_ ≠ ((.slice Ao43 t132.length co43) : Value).ownBlock) (.slice Ao26 t118.length co26) t118) ∧ Aside0 (Kd.Q (Kd.int .i64) 3 wc w.heap.size (fun k_ => some k_ ≠ ((.slice Ao14 t104.length co14) : Value).ownBlock ∧ some k_ ≠ ((.slice Ao19 t111.length co19) : Value).ownBlock ∧ some k_ ≠ ((.slice Ao26 t118.length co26) : Value).ownBlock ∧ some k_ ≠ ((.slice Ao43 t132.length co43) : Value).ownBlock) (.slice Ao34 t125.length co34) t125) ∧ Aside0 (Kd.Q (Kd.int .i64) 3 wc w.heap.size (fun k_ => some k_ ≠ ((.slice Ao14 t104.length co14) : Value).ownBlock ∧ some k_ ≠ ((.slice Ao19 t111.length co19) : Value).ownBlock ∧ some k_ ≠ ((.slice Ao26 t118.length co26) : Value).ownBlock ∧ some k_ ≠ ((.slice Ao34 t125.length co34) : Value).ownBlock) (.slice Ao43 t132.length co43) t132) ∧ Aside0 (wc.heap[gb108]? = some (.cells #[.int .i64 t102, .int .i64 t103, (.slice Ao14 t104.length co14)] 26 (0, 0))) ∧ Aside0 (wc.heap[gb115]? = some (.cells #[.int .i64 t109, .int .i64 t110, (.slice Ao19 t111.length co19)] 26 (0, 0))) ∧ Aside0 (wc.heap[gb122]? = some (.cells #[.int .i64 t116, .int .i64 t117, (.slice Ao26 t118.length co26)] 26 (0, 0))) ∧ Aside0 (wc.heap[gb129]? = some (.cells #[.int .i64 t123, .int .i64 t124, (.slice Ao34 t125.length co34)] 26 (0, 0))) ∧ Aside0 (wc.heap[gb136]? = some (.cells #[.int .i64 t130, .int .i64 t131, (.slice Ao43 t132.length co43)] 26 (0, 0))) ∧ Aside0 (Below w.heap.size w wc))
          case first => as_aux_lemma =>
           have H := HC208.out
           clear HC208
           by_cases c209 : 0 ≤ x21_3
           ·
            rw [if_pos c209] at H
            have c209b0 : decide (0 ≤ x21_3) = true := decide_eq_true c209
            clear c209
            (first | rw [c209b0] | (simp only [i64_w, i32_w]; rw [c209b0]) | skip)
            by_cases c210 : x21_3 < (t118.length : Int)
            ·
             rw [if_pos c210] at H
             have c210b0 : decide (x21_3 < (t118.length : Int)) = true := decide_eq_true c210
             clear c210
             by_cases c211 : x21_3 < (t132.length : Int)
             ·
              rw [if_pos c211] at H
              have c211b0 : decide (x21_3 < (t132.length : Int)) = true := decide_eq_true c211
              clear c211
              by_cases c212 : (rd t118 x21_3) > (rd t132 x21_3)
              ·
               rw [if_pos c212] at H
               have c212b0 : decide ((rd t132 x21_3) < (rd t118 x21_3)) = true := decide_eq_true c212
               clear c212
               have H' := Aside0.mk H
               clear H
               have hnb213 := NB122_108.out
               have hnc213 := NB108_122.out
               have hnb214 := NB122_115.out
               have hnc214 := NB115_122.out
               have hnb215 := NB122_129.out
               have hnc215 := NB129_122.out
               have hnb216 := NB122_136.out
               have hnc216 := NB136_122.out
               obtain ⟨hcz217_0, hcz217_1, hcz217_2, hfz217_0, hfz217_1, hfz217_2⟩ := bc3 BK122.out
               have p169 : 0 ≤ (x21_3 : Int) := of_decide_eq_true (by first | (with_reducible assumption) | assumption)
               have q169 : x21_3 < (t118.length : Int) := of_decide_eq_true (by first | (with_reducible assumption) | assumption)
               obtain ⟨ad169, e169, hx169_0⟩ := Kd.at_int (Kd.Q_reads' HO_123002.out).2.2 x21_3 p169 q169
               cases e169
               replace p169 := eq_true p169
               replace q169 := eq_true q169
               have hnb218 := NB136_108.out
               have hnc218 := NB108_136.out
               have hnb219 := NB136_115.out
               have hnc219 := NB115_136.out
               have hnb220 := NB136_129.out
               have hnc220 := NB129_136.out
               obtain ⟨hcz221_0, hcz221_1, hcz221_2, hfz221_0, hfz221_1, hfz221_2⟩ := bc3 BK136.out
               have p170 : 0 ≤ (x21_3 : Int) := of_decide_eq_true (by first | (with_reducible assumption) | assumption)
               have q170 : x21_3 < (t132.length : Int) := of_decide_eq_true (by first | (with_reducible assumption) | assumption)
               obtain ⟨ad170, e170, hx170_0⟩ := Kd.at_int (Kd.Q_reads' HO_137002.out).2.2 x21_3 p170 q170
               cases e170
               replace p170 := eq_true p170
               replace q170 := eq_true q170
               go_wp2
               repeat (go_quiet (fail); try go_wp2)
               go_meet
               case rel => exact ⟨_, (true), (by first | rfl | (simp; done) | (simp [*]; done)), H', ⟨by have := HJ9.out; have := HJ74.out; have := HK3.out; have := HJ194.out; first | omega | exact Nat.le_refl _⟩, ⟨by (with_reducible repeat (first | apply Kd.Q_alloc | apply Kd.Q_drewN | apply Kd.Q_drew)); exact HO_109002.out⟩, ⟨by (with_reducible repeat (first | apply Kd.Q_alloc | apply Kd.Q_drewN | apply Kd.Q_drew)); exact HO_116002.out⟩, ⟨by (with_reducible repeat (first | apply Kd.Q_alloc | apply Kd.Q_drewN | apply Kd.Q_drew)); exact HO_123002.out⟩, ⟨by (with_reducible repeat (first | apply Kd.Q_alloc | apply Kd.Q_drewN | apply Kd.Q_drew)); exact HO_130002.out⟩, ⟨by (with_reducible repeat (first | apply Kd.Q_alloc | apply Kd.Q_drewN | apply Kd.Q_drew)); exact HO_137002.out⟩, ⟨by refine bk ?_; exact BK108.out⟩, ⟨by refine bk ?_; exact BK115.out⟩, ⟨by refine bk ?_; exact BK122.out⟩, ⟨by refine bk ?_; exact BK129.out⟩, ⟨by refine bk ?_; exact BK136.out⟩, ⟨pT HB.out⟩⟩
              rw [if_neg c212] at H
              have c212b0 : decide ((rd t132 x21_3) < (rd t118 x21_3)) = false := decide_eq_false c212
              clear c212
              by_cases c222 : x21_3 < (t111.length : Int)
              ·
               rw [if_pos c222] at H
               have c222b0 : decide (x21_3 < (t111.length : Int)) = true := decide_eq_true c222
               clear c222
               by_cases c223 : (rd t132 x21_3) > (rd t111 x21_3)
               ·
                rw [if_pos c223] at H
                have c223b0 : decide ((rd t111 x21_3) < (rd t132 x21_3)) = true := decide_eq_true c223
                clear c223
                have H' := Aside0.mk H
                clear H
                have hnb224 := NB122_108.out
                have hnc224 := NB108_122.out
                have hnb225 := NB122_115.out
                have hnc225 := NB115_122.out
                have hnb226 := NB122_129.out
                have hnc226 := NB129_122.out
                have hnb227 := NB122_136.out
                have hnc227 := NB136_122.out
                obtain ⟨hcz228_0, hcz228_1, hcz228_2, hfz228_0, hfz228_1, hfz228_2⟩ := bc3 BK122.out
                have p169 : 0 ≤ (x21_3 : Int) := of_decide_eq_true (by first | (with_reducible assumption) | assumption)
                have q169 : x21_3 < (t118.length : Int) := of_decide_eq_true (by first | (with_reducible assumption) | assumption)
                obtain ⟨ad169, e169, hx169_0⟩ := Kd.at_int (Kd.Q_reads' HO_123002.out).2.2 x21_3 p169 q169
                cases e169
                replace p169 := eq_true p169
                replace q169 := eq_true q169
                have hnb229 := NB136_108.out
                have hnc229 := NB108_136.out
                have hnb230 := NB136_115.out
                have hnc230 := NB115_136.out
                have hnb231 := NB136_129.out
                have hnc231 := NB129_136.out
                obtain ⟨hcz232_0, hcz232_1, hcz232_2, hfz232_0, hfz232_1, hfz232_2⟩ := bc3 BK136.out
                have p170 : 0 ≤ (x21_3 : Int) := of_decide_eq_true (by first | (with_reducible assumption) | assumption)
                have q170 : x21_3 < (t132.length : Int) := of_decide_eq_true (by first | (with_reducible assumption) | assumption)
                obtain ⟨ad170, e170, hx170_0⟩ := Kd.at_int (Kd.Q_reads' HO_137002.out).2.2 x21_3 p170 q170
                cases e170
                replace p170 := eq_true p170
                replace q170 := eq_true q170
                have p171 : 0 ≤ (x21_3 : Int) := of_decide_eq_true (by first | (with_reducible assumption) | assumption)
                have q171 : x21_3 < (t132.length : Int) := of_decide_eq_true (by first | (with_reducible assumption) | assumption)
                obtain ⟨ad171, e171, hx171_0⟩ := Kd.at_int (Kd.Q_reads' HO_137002.out).2.2 x21_3 p171 q171
                obtain rfl : ad170 = ad171 := (by injection e171)
                replace p171 := eq_true p171
                replace q171 := eq_true q171
                have hnb233 := NB115_108.out
                have hnc233 := NB108_115.out
                have hnb234 := NB115_129.out
                have hnc234 := NB129_115.out
                obtain ⟨hcz235_0, hcz235_1, hcz235_2, hfz235_0, hfz235_1, hfz235_2⟩ := bc3 BK115.out
                have p172 : 0 ≤ (x21_3 : Int) := of_decide_eq_true (by first | (with_reducible assumption) | assumption)
                have q172 : x21_3 < (t111.length : Int) := of_decide_eq_true (by first | (with_reducible assumption) | assumption)
                obtain ⟨ad172, e172, hx172_0⟩ := Kd.at_int (Kd.Q_reads' HO_116002.out).2.2 x21_3 p172 q172
                cases e172
                replace p172 := eq_true p172
                replace q172 := eq_true q172
                go_wp2
                repeat (go_quiet (fail); try go_wp2)
                go_meet
                case rel => exact ⟨_, (true), (by first | rfl | (simp; done) | (simp [*]; done)), H', ⟨by have := HJ9.out; have := HJ74.out; have := HK3.out; have := HJ194.out; first | omega | exact Nat.le_refl _⟩, ⟨by (with_reducible repeat (first | apply Kd.Q_alloc | apply Kd.Q_drewN | apply Kd.Q_drew)); exact HO_109002.out⟩, ⟨by (with_reducible repeat (first | apply Kd.Q_alloc | apply Kd.Q_drewN | apply Kd.Q_drew)); exact HO_116002.out⟩, ⟨by (with_reducible repeat (first | apply Kd.Q_alloc | apply Kd.Q_drewN | apply Kd.Q_drew)); exact HO_123002.out⟩, ⟨by (with_reducible repeat (first | apply Kd.Q_alloc | apply Kd.Q_drewN | apply Kd.Q_drew)); exact HO_130002.out⟩, ⟨by (with_reducible repeat (first | apply Kd.Q_alloc | apply Kd.Q_drewN | apply Kd.Q_drew)); exact HO_137002.out⟩, ⟨by refine bk ?_; exact BK108.out⟩, ⟨by refine bk ?_; exact BK115.out⟩, ⟨by refine bk ?_; exact BK122.out⟩, ⟨by refine bk ?_; exact BK129.out⟩, ⟨by refine bk ?_; exact BK136.out⟩, ⟨pT HB.out⟩⟩
               rw [if_neg c223] at H
               have c223b0 : decide ((rd t111 x21_3) < (rd t132 x21_3)) = false := decide_eq_false c223
               clear c223
               by_cases c236 : x21_3 < (t125.length : Int)
               ·
                rw [if_pos c236] at H
                have c236b0 : decide (x21_3 < (t125.length : Int)) = true := decide_eq_true c236
                clear c236
                by_cases c237 : (rd t118 x21_3) > (rd t125 x21_3)
                ·
                 rw [if_pos c237] at H
                 have c237b0 : decide ((rd t125 x21_3) < (rd t118 x21_3)) = true := decide_eq_true c237
                 clear c237
                 have H' := Aside0.mk H
                 clear H
                 have hnb238 := NB122_108.out
                 have hnc238 := NB108_122.out
                 have hnb239 := NB122_115.out
                 have hnc239 := NB115_122.out
                 have hnb240 := NB122_129.out
                 have hnc240 := NB129_122.out
                 have hnb241 := NB122_136.out
                 have hnc241 := NB136_122.out
                 obtain ⟨hcz242_0, hcz242_1, hcz242_2, hfz242_0, hfz242_1, hfz242_2⟩ := bc3 BK122.out
                 have p169 : 0 ≤ (x21_3 : Int) := of_decide_eq_true (by first | (with_reducible assumption) | assumption)
                 have q169 : x21_3 < (t118.length : Int) := of_decide_eq_true (by first | (with_reducible assumption) | assumption)
                 obtain ⟨ad169, e169, hx169_0⟩ := Kd.at_int (Kd.Q_reads' HO_123002.out).2.2 x21_3 p169 q169
                 cases e169
                 replace p169 := eq_true p169
                 replace q169 := eq_true q169
                 have hnb243 := NB136_108.out
                 have hnc243 := NB108_136.out
                 have hnb244 := NB136_115.out
                 have hnc244 := NB115_136.out
                 have hnb245 := NB136_129.out
                 have hnc245 := NB129_136.out
                 obtain ⟨hcz246_0, hcz246_1, hcz246_2, hfz246_0, hfz246_1, hfz246_2⟩ := bc3 BK136.out
                 have p170 : 0 ≤ (x21_3 : Int) := of_decide_eq_true (by first | (with_reducible assumption) | assumption)
                 have q170 : x21_3 < (t132.length : Int) := of_decide_eq_true (by first | (with_reducible assumption) | assumption)
                 obtain ⟨ad170, e170, hx170_0⟩ := Kd.at_int (Kd.Q_reads' HO_137002.out).2.2 x21_3 p170 q170
                 cases e170
                 replace p170 := eq_true p170
                 replace q170 := eq_true q170
                 have p171 : 0 ≤ (x21_3 : Int) := of_decide_eq_true (by first | (with_reducible assumption) | assumption)
                 have q171 : x21_3 < (t132.length : Int) := of_decide_eq_true (by first | (with_reducible assumption) | assumption)
                 obtain ⟨ad171, e171, hx171_0⟩ := Kd.at_int (Kd.Q_reads' HO_137002.out).2.2 x21_3 p171 q171
                 obtain rfl : ad170 = ad171 := (by injection e171)
                 replace p171 := eq_true p171
                 replace q171 := eq_true q171
                 have hnb247 := NB115_108.out
                 have hnc247 := NB108_115.out
                 have hnb248 := NB115_129.out
                 have hnc248 := NB129_115.out
                 obtain ⟨hcz249_0, hcz249_1, hcz249_2, hfz249_0, hfz249_1, hfz249_2⟩ := bc3 BK115.out
                 have p172 : 0 ≤ (x21_3 : Int) := of_decide_eq_true (by first | (with_reducible assumption) | assumption)
                 have q172 : x21_3 < (t111.length : Int) := of_decide_eq_true (by first | (with_reducible assumption) | assumption)
                 obtain ⟨ad172, e172, hx172_0⟩ := Kd.at_int (Kd.Q_reads' HO_116002.out).2.2 x21_3 p172 q172
                 cases e172
                 replace p172 := eq_true p172
                 replace q172 := eq_true q172
                 have p173 : 0 ≤ (x21_3 : Int) := of_decide_eq_true (by first | (with_reducible assumption) | assumption)
                 have q173 : x21_3 < (t118.length : Int) := of_decide_eq_true (by first | (with_reducible assumption) | assumption)
                 obtain ⟨ad173, e173, hx173_0⟩ := Kd.at_int (Kd.Q_reads' HO_123002.out).2.2 x21_3 p173 q173
                 obtain rfl : ad169 = ad173 := (by injection e173)
                 replace p173 := eq_true p173
                 replace q173 := eq_true q173
                 have hnb250 := NB129_108.out
                 have hnc250 := NB108_129.out
                 obtain ⟨hcz251_0, hcz251_1, hcz251_2, hfz251_0, hfz251_1, hfz251_2⟩ := bc3 BK129.out
                 have p174 : 0 ≤ (x21_3 : Int) := of_decide_eq_true (by first | (with_reducible assumption) | assumption)
                 have q174 : x21_3 < (t125.length : Int) := of_decide_eq_true (by first | (with_reducible assumption) | assumption)
                 obtain ⟨ad174, e174, hx174_0⟩ := Kd.at_int (Kd.Q_reads' HO_130002.out).2.2 x21_3 p174 q174
                 cases e174
                 replace p174 := eq_true p174
                 replace q174 := eq_true q174
                 go_wp2
                 repeat (go_quiet (fail); try go_wp2)
                 go_meet
                 case rel => exact ⟨_, (true), (by first | rfl | (simp; done) | (simp [*]; done)), H', ⟨by have := HJ9.out; have := HJ74.out; have := HK3.out; have := HJ194.out; first | omega | exact Nat.le_refl _⟩, ⟨by (with_reducible repeat (first | apply Kd.Q_alloc | apply Kd.Q_drewN | apply Kd.Q_drew)); exact HO_109002.out⟩, ⟨by (with_reducible repeat (first | apply Kd.Q_alloc | apply Kd.Q_drewN | apply Kd.Q_drew)); exact HO_116002.out⟩, ⟨by (with_reducible repeat (first | apply Kd.Q_alloc | apply Kd.Q_drewN | apply Kd.Q_drew)); exact HO_123002.out⟩, ⟨by (with_reducible repeat (first | apply Kd.Q_alloc | apply Kd.Q_drewN | apply Kd.Q_drew)); exact HO_130002.out⟩, ⟨by (with_reducible repeat (first | apply Kd.Q_alloc | apply Kd.Q_drewN | apply Kd.Q_drew)); exact HO_137002.out⟩, ⟨by refine bk ?_; exact BK108.out⟩, ⟨by refine bk ?_; exact BK115.out⟩, ⟨by refine bk ?_; exact BK122.out⟩, ⟨by refine bk ?_; exact BK129.out⟩, ⟨by refine bk ?_; exact BK136.out⟩, ⟨pT HB.out⟩⟩
                rw [if_neg c237] at H
                have c237b0 : decide ((rd t125 x21_3) < (rd t118 x21_3)) = false := decide_eq_false c237
                clear c237
                have H' := Aside0.mk H
                clear H
                have hnb252 := NB122_108.out
                have hnc252 := NB108_122.out
                have hnb253 := NB122_115.out
                have hnc253 := NB115_122.out
                have hnb254 := NB122_129.out
                have hnc254 := NB129_122.out
                have hnb255 := NB122_136.out
                have hnc255 := NB136_122.out
                obtain ⟨hcz256_0, hcz256_1, hcz256_2, hfz256_0, hfz256_1, hfz256_2⟩ := bc3 BK122.out
                have p169 : 0 ≤ (x21_3 : Int) := of_decide_eq_true (by first | (with_reducible assumption) | assumption)
                have q169 : x21_3 < (t118.length : Int) := of_decide_eq_true (by first | (with_reducible assumption) | assumption)
                obtain ⟨ad169, e169, hx169_0⟩ := Kd.at_int (Kd.Q_reads' HO_123002.out).2.2 x21_3 p169 q169
                cases e169
                replace p169 := eq_true p169
                replace q169 := eq_true q169
                have hnb257 := NB136_108.out
                have hnc257 := NB108_136.out
                have hnb258 := NB136_115.out
                have hnc258 := NB115_136.out
                have hnb259 := NB136_129.out
                have hnc259 := NB129_136.out
                obtain ⟨hcz260_0, hcz260_1, hcz260_2, hfz260_0, hfz260_1, hfz260_2⟩ := bc3 BK136.out
                have p170 : 0 ≤ (x21_3 : Int) := of_decide_eq_true (by first | (with_reducible assumption) | assumption)
                have q170 : x21_3 < (t132.length : Int) := of_decide_eq_true (by first | (with_reducible assumption) | assumption)
                obtain ⟨ad170, e170, hx170_0⟩ := Kd.at_int (Kd.Q_reads' HO_137002.out).2.2 x21_3 p170 q170
                cases e170
                replace p170 := eq_true p170
                replace q170 := eq_true q170
                have p171 : 0 ≤ (x21_3 : Int) := of_decide_eq_true (by first | (with_reducible assumption) | assumption)
                have q171 : x21_3 < (t132.length : Int) := of_decide_eq_true (by first | (with_reducible assumption) | assumption)
                obtain ⟨ad171, e171, hx171_0⟩ := Kd.at_int (Kd.Q_reads' HO_137002.out).2.2 x21_3 p171 q171
                obtain rfl : ad170 = ad171 := (by injection e171)
                replace p171 := eq_true p171
                replace q171 := eq_true q171
                have hnb261 := NB115_108.out
                have hnc261 := NB108_115.out
                have hnb262 := NB115_129.out
                have hnc262 := NB129_115.out
                obtain ⟨hcz263_0, hcz263_1, hcz263_2, hfz263_0, hfz263_1, hfz263_2⟩ := bc3 BK115.out
                have p172 : 0 ≤ (x21_3 : Int) := of_decide_eq_true (by first | (with_reducible assumption) | assumption)
                have q172 : x21_3 < (t111.length : Int) := of_decide_eq_true (by first | (with_reducible assumption) | assumption)
                obtain ⟨ad172, e172, hx172_0⟩ := Kd.at_int (Kd.Q_reads' HO_116002.out).2.2 x21_3 p172 q172
                cases e172
                replace p172 := eq_true p172
                replace q172 := eq_true q172
                have p173 : 0 ≤ (x21_3 : Int) := of_decide_eq_true (by first | (with_reducible assumption) | assumption)
                have q173 : x21_3 < (t118.length : Int) := of_decide_eq_true (by first | (with_reducible assumption) | assumption)
                obtain ⟨ad173, e173, hx173_0⟩ := Kd.at_int (Kd.Q_reads' HO_123002.out).2.2 x21_3 p173 q173
                obtain rfl : ad169 = ad173 := (by injection e173)
                replace p173 := eq_true p173
                replace q173 := eq_true q173
                have hnb264 := NB129_108.out
                have hnc264 := NB108_129.out
                obtain ⟨hcz265_0, hcz265_1, hcz265_2, hfz265_0, hfz265_1, hfz265_2⟩ := bc3 BK129.out
                have p174 : 0 ≤ (x21_3 : Int) := of_decide_eq_true (by first | (with_reducible assumption) | assumption)
                have q174 : x21_3 < (t125.length : Int) := of_decide_eq_true (by first | (with_reducible assumption) | assumption)
                obtain ⟨ad174, e174, hx174_0⟩ := Kd.at_int (Kd.Q_reads' HO_130002.out).2.2 x21_3 p174 q174
                cases e174
                replace p174 := eq_true p174
                replace q174 := eq_true q174
                have p175 : 0 ≤ (x21_3 : Int) := of_decide_eq_true (by first | (with_reducible assumption) | assumption)
                have q175 : x21_3 < (t125.length : Int) := of_decide_eq_true (by first | (with_reducible assumption) | assumption)
                obtain ⟨ad175, e175, hx175_0⟩ := Kd.at_int (Kd.Q_reads' HO_130002.out).2.2 x21_3 p175 q175
                obtain rfl : ad174 = ad175 := (by injection e175)
                replace p175 := eq_true p175
                replace q175 := eq_true q175
                have p176 : 0 ≤ (x21_3 : Int) := of_decide_eq_true (by first | (with_reducible assumption) | assumption)
                have q176 : x21_3 < (t111.length : Int) := of_decide_eq_true (by first | (with_reducible assumption) | assumption)
                obtain ⟨ad176, e176, hx176_0⟩ := Kd.at_int (Kd.Q_reads' HO_116002.out).2.2 x21_3 p176 q176
                obtain rfl : ad172 = ad176 := (by injection e176)
                replace p176 := eq_true p176
                replace q176 := eq_true q176
                go_wp2
                repeat (go_quiet (fail); try go_wp2)
                go_meet
                case rel => exact ⟨_, (decide ((rd t125 x21_3) > (rd t111 x21_3))), (by first | rfl | (simp; done) | (simp [*]; done)), H', ⟨by have := HJ9.out; have := HJ74.out; have := HK3.out; have := HJ194.out; first | omega | exact Nat.le_refl _⟩, ⟨by (with_reducible repeat (first | apply Kd.Q_alloc | apply Kd.Q_drewN | apply Kd.Q_drew)); exact HO_109002.out⟩, ⟨by (with_reducible repeat (first | apply Kd.Q_alloc | apply Kd.Q_drewN | apply Kd.Q_drew)); exact HO_116002.out⟩, ⟨by (with_reducible repeat (first | apply Kd.Q_alloc | apply Kd.Q_drewN | apply Kd.Q_drew)); exact HO_123002.out⟩, ⟨by (with_reducible repeat (first | apply Kd.Q_alloc | apply Kd.Q_drewN | apply Kd.Q_drew)); exact HO_130002.out⟩, ⟨by (with_reducible repeat (first | apply Kd.Q_alloc | apply Kd.Q_drewN | apply Kd.Q_drew)); exact HO_137002.out⟩, ⟨by refine bk ?_; exact BK108.out⟩, ⟨by refine bk ?_; exact BK115.out⟩, ⟨by refine bk ?_; exact BK122.out⟩, ⟨by refine bk ?_; exact BK129.out⟩, ⟨by refine bk ?_; exact BK136.out⟩, ⟨pT HB.out⟩⟩
               rw [if_neg c236] at H
               exact absurd H (by simp)
              rw [if_neg c222] at H
              exact absurd H (by simp)
             rw [if_neg c211] at H
             exact absurd H (by simp)
            rw [if_neg c210] at H
            exact absurd H (by simp)
           rw [if_neg c209] at H
           exact absurd H (by simp)
          case rest => as_aux_lemma =>
           clear HC208
           try clear c1
           try clear p1
           try clear q1
           try clear hx1
           try clear c2
           try clear p2
           try clear c15
           try clear c16
           try clear p16
           try clear q16
           try clear hx16
           try clear c17
           try clear p17
           try clear q17
           try clear hx17
           try clear c18
           try clear c19
           try clear c20
           try clear c21
           try clear c22
           try clear c23
           try clear c24
           try clear c25
           try clear c26
           try clear c158
           try clear c159
           try clear c160
           try clear c162
           try clear c163
           try clear c164
           try clear c165
           try clear c166
           try clear c167
           try clear p169
           try clear q169
           try clear hx169
           try clear c170
           try clear p170
           try clear q170
           try clear hx170
           try clear c171
           try clear p171
           try clear q171
           try clear hx171
           try clear c172
           try clear p172
           try clear q172
           try clear hx172
           try clear c173
           try clear p173
           try clear q173
           try clear hx173
           try clear p174
           try clear q174
           try clear hx174
           try clear c175
           try clear p175
           try clear q175
           try clear hx175
           try clear c176
           try clear p176
           try clear q176
           try clear hx176
           try clear c177
           try clear c180
           try clear c181
           try clear c182
           try clear c183
           try clear c184
           try clear c185
           try clear c187
           try clear c188
           try clear c189
           try clear c190
           try clear c191
           try clear c194
           try clear c196
           try clear c196b0
           try clear c197
           try clear c198
           try clear c199
           try clear c200
           try clear c202
           try clear c203
           try clear c204
           try clear c205
           try clear c207
           try clear c209
           try clear c209b0
           try clear c210
           try clear c210b0
           try clear c211
           try clear c211b0
           try clear c212
           try clear c212b0
           try clear c213
           try clear c214
           try clear c215
           try clear c216
           try clear c218
           try clear c219
           try clear c220
           try clear c222
           try clear c222b0
           try clear c223
           try clear c223b0
           try clear c224
           try clear c225
           try clear c226
           try clear c227
           try clear c229
           try clear c230
           try clear c231
           try clear c233
           try clear c234
           try clear c236
           try clear c236b0
           try clear c237
           try clear c237b0
           try clear c238
           try clear c239
           try clear c240
           try clear c241
           try clear c243
           try clear c244
           try clear c245
           try clear c247
           try clear c248
           try clear c250
           try clear c252
           try clear c253
           try clear c254
           try clear c255
           try clear c257
           try clear c258
           try clear c259
           try clear c261
           try clear c262
           try clear c264
           try clear hcz101_0
           try clear hcz101_1
           try clear hcz101_2
           try clear hcz111_0
           try clear hcz111_1
           try clear hcz111_2
           try clear hcz125_0
           try clear hcz125_1
           try clear hcz125_2
           try clear hcz132_0
           try clear hcz132_1
           try clear hcz132_2
           try clear hcz139_0
           try clear hcz139_1
           try clear hcz139_2
           try clear hcz13_0
           try clear hcz13_1
           try clear hcz13_2
           try clear hcz144_0
           try clear hcz144_1
           try clear hcz144_2
           try clear hcz149_0
           try clear hcz149_1
           try clear hcz149_2
           try clear hcz152_0
           try clear hcz152_1
           try clear hcz152_2
           try clear hcz161_0
           try clear hcz161_1
           try clear hcz161_2
           try clear hcz168_0
           try clear hcz168_1
           try clear hcz168_2
           try clear hcz174_0
           try clear hcz174_1
           try clear hcz174_2
           try clear hcz178_0
           try clear hcz178_1
           try clear hcz178_2
           try clear hcz186_0
           try clear hcz186_1
           try clear hcz186_2
           try clear hcz18_0
           try clear hcz18_1
           try clear hcz18_2
           try clear hcz192_0
           try clear hcz192_1
           try clear hcz192_2
           try clear hcz201_0
           try clear hcz201_1
           try clear hcz201_2
           try clear hcz206_0
           try clear hcz206_1
           try clear hcz206_2
           try clear hcz20_0
           try clear hcz20_1
           try clear hcz20_2
           try clear hcz217_0
           try clear hcz217_1
           try clear hcz217_2
           try clear hcz221_0
           try clear hcz221_1
           try clear hcz221_2
           try clear hcz228_0
           try clear hcz228_1
           try clear hcz228_2
           try clear hcz232_0
           try clear hcz232_1
           try clear hcz232_2
           try clear hcz235_0
           try clear hcz235_1
           try clear hcz235_2
           try clear hcz242_0
           try clear hcz242_1
           try clear hcz242_2
           try clear hcz246_0
           try clear hcz246_1
           try clear hcz246_2
           try clear hcz249_0
           try clear hcz249_1
           try clear hcz249_2
           try clear hcz251_0
           try clear hcz251_1
           try clear hcz251_2
           try clear hcz256_0
           try clear hcz256_1
           try clear hcz256_2
           try clear hcz25_0
           try clear hcz25_1
           try clear hcz25_2
           try clear hcz260_0
           try clear hcz260_1
           try clear hcz260_2
           try clear hcz263_0
           try clear hcz263_1
           try clear hcz263_2
           try clear hcz265_0
           try clear hcz265_1
           try clear hcz265_2
           try clear hcz27_0
           try clear hcz27_1
           try clear hcz27_2
           try clear hcz33_0
           try clear hcz33_1
           try clear hcz33_2
           try clear hcz35_0
           try clear hcz35_1
           try clear hcz35_2
           try clear hcz42_0
           try clear hcz42_1
           try clear hcz42_2
           try clear hcz44_0
           try clear hcz44_1
           try clear hcz44_2
           try clear hcz52_0
           try clear hcz52_1
           try clear hcz52_2
           try clear hcz64_0
           try clear hcz64_1
           try clear hcz64_2
           try clear hcz69_0
           try clear hcz69_1
           try clear hcz69_2
           try clear hcz80_0
           try clear hcz80_1
           try clear hcz80_2
           try clear hcz88_0
           try clear hcz88_1
           try clear hcz88_2
           try clear hcz90_0
           try clear hcz90_1
           try clear hcz90_2
           try clear hcz99_0
           try clear hcz99_1
           try clear hcz99_2
           try clear hfz101_0
           try clear hfz101_1
           try clear hfz101_2
           try clear hfz111_0
           try clear hfz111_1
           try clear hfz111_2
           try clear hfz125_0
           try clear hfz125_1
           try clear hfz125_2
           try clear hfz132_0
           try clear hfz132_1
           try clear hfz132_2
           try clear hfz139_0
           try clear hfz139_1
           try clear hfz139_2
           try clear hfz13_0
           try clear hfz13_1
           try clear hfz13_2
           try clear hfz144_0
           try clear hfz144_1
           try clear hfz144_2
           try clear hfz149_0
           try clear hfz149_1
           try clear hfz149_2
           try clear hfz152_0
           try clear hfz152_1
           try clear hfz152_2
           try clear hfz161_0
           try clear hfz161_1
           try clear hfz161_2
           try clear hfz168_0
           try clear hfz168_1
           try clear hfz168_2
           try clear hfz174_0
           try clear hfz174_1
           try clear hfz174_2
           try clear hfz178_0
           try clear hfz178_1
           try clear hfz178_2
           try clear hfz186_0
           try clear hfz186_1
           try clear hfz186_2
           try clear hfz18_0
           try clear hfz18_1
           try clear hfz18_2
           try clear hfz192_0
           try clear hfz192_1
           try clear hfz192_2
           try clear hfz201_0
           try clear hfz201_1
           try clear hfz201_2
           try clear hfz206_0
           try clear hfz206_1
           try clear hfz206_2
           try clear hfz20_0
           try clear hfz20_1
           try clear hfz20_2
           try clear hfz217_0
           try clear hfz217_1
           try clear hfz217_2
           try clear hfz221_0
           try clear hfz221_1
           try clear hfz221_2
           try clear hfz228_0
           try clear hfz228_1
           try clear hfz228_2
           try clear hfz232_0
           try clear hfz232_1
           try clear hfz232_2
           try clear hfz235_0
           try clear hfz235_1
           try clear hfz235_2
           try clear hfz242_0
           try clear hfz242_1
           try clear hfz242_2
           try clear hfz246_0
           try clear hfz246_1
           try clear hfz246_2
           try clear hfz249_0
           try clear hfz249_1
           try clear hfz249_2
           try clear hfz251_0
           try clear hfz251_1
           try clear hfz251_2
           try clear hfz256_0
           try clear hfz256_1
           try clear hfz256_2
           try clear hfz25_0
           try clear hfz25_1
           try clear hfz25_2
           try clear hfz260_0
           try clear hfz260_1
           try clear hfz260_2
           try clear hfz263_0
           try clear hfz263_1
           try clear hfz263_2
           try clear hfz265_0
           try clear hfz265_1
           try clear hfz265_2
           try clear hfz27_0
           try clear hfz27_1
           try clear hfz27_2
           try clear hfz33_0
           try clear hfz33_1
           try clear hfz33_2
           try clear hfz35_0
           try clear hfz35_1
           try clear hfz35_2
           try clear hfz42_0
           try clear hfz42_1
           try clear hfz42_2
           try clear hfz44_0
           try clear hfz44_1
           try clear hfz44_2
           try clear hfz52_0
           try clear hfz52_1
           try clear hfz52_2
           try clear hfz64_0
           try clear hfz64_1
           try clear hfz64_2
           try clear hfz69_0
           try clear hfz69_1
           try clear hfz69_2
           try clear hfz80_0
           try clear hfz80_1
           try clear hfz80_2
           try clear hfz88_0
           try clear hfz88_1
           try clear hfz88_2
           try clear hfz90_0
           try clear hfz90_1
           try clear hfz90_2
           try clear hfz99_0
           try clear hfz99_1
           try clear hfz99_2
           try clear hx169_0
           try clear hx170_0
           try clear hx171_0
           try clear hx172_0
           try clear hx173_0
           try clear hx174_0
           try clear hx175_0
           try clear hx176_0
           try clear p169
           try clear p170
           try clear p171
           try clear p172
           try clear p173
           try clear p174
           try clear p175
           try clear p176
           try clear p2
           try clear q169
           try clear q170
           try clear q171
           try clear q172
           try clear q173
           try clear q174
           try clear q175
           try clear q176
           obtain ⟨kq, x183_207, rfl, HA, HJ207, HO_109002, HO_116002, HO_123002, HO_130002, HO_137002, BK108, BK115, BK122, BK129, BK136, HB⟩ := hcut
           cases kq with
           | zero => exact absurd HA.out (by simp [laws_FnFilters.j4])
           | succ kj207 =>
            have H := HA.out
            clear HA
            simp only [laws_FnFilters.j4] at H
            by_cases c266 : x183_207 = true
            ·
             subst c266
             have H1 : (some false) = some r := by rw [if_pos rfl] at H; exact H
             clear H
             have H := H1
             clear H1
             obtain rfl := Option.some.inj H
             go_wp2
             go_ret
             exact ⟨by first | rfl | (simp [errW_none, errW_some] <;> rfl) | (simp [*, errW_none, errW_some] <;> rfl), pT HB.out⟩
            replace c266 := Bool.eq_false_iff.mpr c266
            subst c266
            have H1 : (if 0 ≤ x21_3 then (if x21_3 < (t104.length : Int) then (if (rd t104 x21_3) = (-9999) then (laws_FnFilters.l0 kj207 l0 t114 (wrap64 (x21_3 + 1)) t102 t103 t104 t109 t110 t111 t116 t117 t118 t123 t124 t125 t130 t131 t132) else (if x21_3 < (t111.length : Int) then (if (rd t104 x21_3) > (rd t111 x21_3) then (some false) else (if x21_3 < (t118.length : Int) then (if (rd t104 x21_3) < (rd t118 x21_3) then (some false) else (laws_FnFilters.l0 kj207 l0 t114 (wrap64 (x21_3 + 1)) t102 t103 t104 t109 t110 t111 t116 t117 t118 t123 t124 t125 t130 t131 t132)) else (none))) else (none))) else (none)) else (none)) = some r := by rw [if_neg (show ¬ (false = true) by decide)] at H; exact H
            clear H
            have H := H1
            clear H1
            by_cases c267 : 0 ≤ x21_3
            ·
             rw [if_pos c267] at H
             have c267b0 : decide (0 ≤ x21_3) = true := decide_eq_true c267
             clear c267
             by_cases c268 : x21_3 < (t104.length : Int)
             ·
              rw [if_pos c268] at H
              have c268b0 : decide (x21_3 < (t104.length : Int)) = true := decide_eq_true c268
              clear c268
              by_cases c269 : (rd t104 x21_3) = (-9999)
              ·
               rw [if_pos c269] at H
               have c269b0 : ((rd t104 x21_3) == (-9999)) = true := beq_iff_eq.mpr c269
               have c269b1 : ((rd t104 x21_3) != (-9999)) = false := bne_eq_false_iff_eq.mpr c269
               clear c269
               have H' := Aside0.mk H
               clear H
               have hnb270 := NB108_115.out
               have hnc270 := NB115_108.out
               have hnb271 := NB108_122.out
               have hnc271 := NB122_108.out
               have hnb272 := NB108_129.out
               have hnc272 := NB129_108.out
               have hnb273 := NB108_136.out
               have hnc273 := NB136_108.out
               obtain ⟨hcz274_0, hcz274_1, hcz274_2, hfz274_0, hfz274_1, hfz274_2⟩ := bc3 BK108.out
               have p177 : 0 ≤ (x21_3 : Int) := of_decide_eq_true (by first | (with_reducible assumption) | assumption)
               have q177 : x21_3 < (t104.length : Int) := of_decide_eq_true (by first | (with_reducible assumption) | assumption)
               obtain ⟨ad177, e177, hx177_0⟩ := Kd.at_int (Kd.Q_reads' HO_109002.out).2.2 x21_3 p177 q177
               cases e177
               replace p177 := eq_true p177
               replace q177 := eq_true q177
               go_wp2
               repeat (go_quiet (fail); try go_wp2)
               go_roundg kj207
               case measure => have := HJ9.out; have := HJ74.out; have := HK3.out; have := HJ194.out; have := HJ207.out; omega
               case rel => exact ⟨(wrap64 (x21_3 + 1)), (by first | rfl | (simp; done) | (simp [*]; done)), H', ⟨by have := HJ9.out; have := HJ74.out; have := HK3.out; have := HJ194.out; have := HJ207.out; omega⟩, ⟨by (with_reducible repeat (first | apply Kd.Q_alloc | apply Kd.Q_drewN | apply Kd.Q_drew)); exact HO_109002.out⟩, ⟨by (with_reducible repeat (first | apply Kd.Q_alloc | apply Kd.Q_drewN | apply Kd.Q_drew)); exact HO_116002.out⟩, ⟨by (with_reducible repeat (first | apply Kd.Q_alloc | apply Kd.Q_drewN | apply Kd.Q_drew)); exact HO_123002.out⟩, ⟨by (with_reducible repeat (first | apply Kd.Q_alloc | apply Kd.Q_drewN | apply Kd.Q_drew)); exact HO_130002.out⟩, ⟨by (with_reducible repeat (first | apply Kd.Q_alloc | apply Kd.Q_drewN | apply Kd.Q_drew)); exact HO_137002.out⟩, ⟨by refine bk ?_; exact BK108.out⟩, ⟨by refine bk ?_; exact BK115.out⟩, ⟨by refine bk ?_; exact BK122.out⟩, ⟨by refine bk ?_; exact BK129.out⟩, ⟨by refine bk ?_; exact BK136.out⟩, ⟨pT HB.out⟩⟩
              rw [if_neg c269] at H
              have c269b0 : ((rd t104 x21_3) == (-9999)) = false := beq_eq_false_iff_ne.mpr c269
              have c269b1 : ((rd t104 x21_3) != (-9999)) = true := bne_iff_ne.mpr c269
              by_cases c275 : x21_3 < (t111.length : Int)
              ·
               rw [if_pos c275] at H
               have c275b0 : decide (x21_3 < (t111.length : Int)) = true := decide_eq_true c275
               clear c275
               by_cases c276 : (rd t104 x21_3) > (rd t111 x21_3)
               ·
                rw [if_pos c276] at H
                have c276b0 : decide ((rd t111 x21_3) < (rd t104 x21_3)) = true := decide_eq_true c276
                clear c276
                obtain rfl := Option.some.inj H
                have hnb277 := NB108_115.out
                have hnc277 := NB115_108.out
                obtain ⟨hcz278_0, hcz278_1, hcz278_2, hfz278_0, hfz278_1, hfz278_2⟩ := bc3 BK108.out
                have p177 : 0 ≤ (x21_3 : Int) := of_decide_eq_true (by first | (with_reducible assumption) | assumption)
                have q177 : x21_3 < (t104.length : Int) := of_decide_eq_true (by first | (with_reducible assumption) | assumption)
                obtain ⟨ad177, e177, hx177_0⟩ := Kd.at_int (Kd.Q_reads' HO_109002.out).2.2 x21_3 p177 q177
                cases e177
                replace p177 := eq_true p177
                replace q177 := eq_true q177
                have p178 : 0 ≤ (x21_3 : Int) := of_decide_eq_true (by first | (with_reducible assumption) | assumption)
                have q178 : x21_3 < (t104.length : Int) := of_decide_eq_true (by first | (with_reducible assumption) | assumption)
                obtain ⟨ad178, e178, hx178_0⟩ := Kd.at_int (Kd.Q_reads' HO_109002.out).2.2 x21_3 p178 q178
                obtain rfl : ad177 = ad178 := (by injection e178)
                replace p178 := eq_true p178
                replace q178 := eq_true q178
                obtain ⟨hcz279_0, hcz279_1, hcz279_2, hfz279_0, hfz279_1, hfz279_2⟩ := bc3 BK115.out
                have p179 : 0 ≤ (x21_3 : Int) := of_decide_eq_true (by first | (with_reducible assumption) | assumption)
                have q179 : x21_3 < (t111.length : Int) := of_decide_eq_true (by first | (with_reducible assumption) | assumption)
                obtain ⟨ad179, e179, hx179_0⟩ := Kd.at_int (Kd.Q_reads' HO_116002.out).2.2 x21_3 p179 q179
                cases e179
                replace p179 := eq_true p179
                replace q179 := eq_true q179
                go_wp2
                repeat (go_quiet (fail); try go_wp2)
                go_ret
                exact ⟨by first | rfl | (simp [errW_none, errW_some] <;> rfl) | (simp [*, errW_none, errW_some] <;> rfl), pT HB.out⟩
               rw [if_neg c276] at H
               have c276b0 : decide ((rd t111 x21_3) < (rd t104 x21_3)) = false := decide_eq_false c276
               clear c276
               by_cases c280 : x21_3 < (t118.length : Int)
               ·
                rw [if_pos c280] at H
                have c280b0 : decide (x21_3 < (t118.length : Int)) = true := decide_eq_true c280
                clear c280
                by_cases c281 : (rd t104 x21_3) < (rd t118 x21_3)
                ·
                 rw [if_pos c281] at H
                 have c281b0 : decide ((rd t104 x21_3) < (rd t118 x21_3)) = true := decide_eq_true c281
                 clear c281
                 obtain rfl := Option.some.inj H
                 have hnb282 := NB108_115.out
                 have hnc282 := NB115_108.out
                 have hnb283 := NB108_122.out
                 have hnc283 := NB122_108.out
                 obtain ⟨hcz284_0, hcz284_1, hcz284_2, hfz284_0, hfz284_1, hfz284_2⟩ := bc3 BK108.out
                 have p177 : 0 ≤ (x21_3 : Int) := of_decide_eq_true (by first | (with_reducible assumption) | assumption)
                 have q177 : x21_3 < (t104.length : Int) := of_decide_eq_true (by first | (with_reducible assumption) | assumption)
                 obtain ⟨ad177, e177, hx177_0⟩ := Kd.at_int (Kd.Q_reads' HO_109002.out).2.2 x21_3 p177 q177
                 cases e177
                 replace p177 := eq_true p177
                 replace q177 := eq_true q177
                 have p178 : 0 ≤ (x21_3 : Int) := of_decide_eq_true (by first | (with_reducible assumption) | assumption)
                 have q178 : x21_3 < (t104.length : Int) := of_decide_eq_true (by first | (with_reducible assumption) | assumption)
                 obtain ⟨ad178, e178, hx178_0⟩ := Kd.at_int (Kd.Q_reads' HO_109002.out).2.2 x21_3 p178 q178
                 obtain rfl : ad177 = ad178 := (by injection e178)
                 replace p178 := eq_true p178
                 replace q178 := eq_true q178
                 have hnb285 := NB115_122.out
                 have hnc285 := NB122_115.out
                 obtain ⟨hcz286_0, hcz286_1, hcz286_2, hfz286_0, hfz286_1, hfz286_2⟩ := bc3 BK115.out
                 have p179 : 0 ≤ (x21_3 : Int) := of_decide_eq_true (by first | (with_reducible assumption) | assumption)
                 have q179 : x21_3 < (t111.length : Int) := of_decide_eq_true (by first | (with_reducible assumption) | assumption)
                 obtain ⟨ad179, e179, hx179_0⟩ := Kd.at_int (Kd.Q_reads' HO_116002.out).2.2 x21_3 p179 q179
                 cases e179
                 replace p179 := eq_true p179
                 replace q179 := eq_true q179
                 have p180 : 0 ≤ (x21_3 : Int) := of_decide_eq_true (by first | (with_reducible assumption) | assumption)
                 have q180 : x21_3 < (t104.length : Int) := of_decide_eq_true (by first | (with_reducible assumption) | assumption)
                 obtain ⟨ad180, e180, hx180_0⟩ := Kd.at_int (Kd.Q_reads' HO_109002.out).2.2 x21_3 p180 q180
                 obtain rfl : ad177 = ad180 := (by injection e180)
                 replace p180 := eq_true p180
                 replace q180 := eq_true q180
                 obtain ⟨hcz287_0, hcz287_1, hcz287_2, hfz287_0, hfz287_1, hfz287_2⟩ := bc3 BK122.out
                 have p181 : 0 ≤ (x21_3 : Int) := of_decide_eq_true (by first | (with_reducible assumption) | assumption)
                 have q181 : x21_3 < (t118.length : Int) := of_decide_eq_true (by first | (with_reducible assumption) | assumption)
                 obtain ⟨ad181, e181, hx181_0⟩ := Kd.at_int (Kd.Q_reads' HO_123002.out).2.2 x21_3 p181 q181
                 cases e181
                 replace p181 := eq_true p181
                 replace q181 := eq_true q181
                 go_wp2
                 repeat (go_quiet (fail); try go_wp2)
                 go_ret
                 exact ⟨by first | rfl | (simp [errW_none, errW_some] <;> rfl) | (simp [*, errW_none, errW_some] <;> rfl), pT HB.out⟩
                rw [if_neg c281] at H
                have c281b0 : decide ((rd t104 x21_3) < (rd t118 x21_3)) = false := decide_eq_false c281
                clear c281
                have H' := Aside0.mk H
                clear H
                have hnb288 := NB108_115.out
                have hnc288 := NB115_108.out
                have hnb289 := NB108_122.out
                have hnc289 := NB122_108.out
                have hnb290 := NB108_129.out
                have hnc290 := NB129_108.out
                have hnb291 := NB108_136.out
                have hnc291 := NB136_108.out
                obtain ⟨hcz292_0, hcz292_1, hcz292_2, hfz292_0, hfz292_1, hfz292_2⟩ := bc3 BK108.out
                have p177 : 0 ≤ (x21_3 : Int) := of_decide_eq_true (by first | (with_reducible assumption) | assumption)
                have q177 : x21_3 < (t104.length : Int) := of_decide_eq_true (by first | (with_reducible assumption) | assumption)
                obtain ⟨ad177, e177, hx177_0⟩ := Kd.at_int (Kd.Q_reads' HO_109002.out).2.2 x21_3 p177 q177
                cases e177
                replace p177 := eq_true p177
                replace q177 := eq_true q177
                have p178 : 0 ≤ (x21_3 : Int) := of_decide_eq_true (by first | (with_reducible assumption) | assumption)
                have q178 : x21_3 < (t104.length : Int) := of_decide_eq_true (by first | (with_reducible assumption) | assumption)
                obtain ⟨ad178, e178, hx178_0⟩ := Kd.at_int (Kd.Q_reads' HO_109002.out).2.2 x21_3 p178 q178
                obtain rfl : ad177 = ad178 := (by injection e178)
                replace p178 := eq_true p178
                replace q178 := eq_true q178
                have hnb293 := NB115_122.out
                have hnc293 := NB122_115.out
                have hnb294 := NB115_129.out
                have hnc294 := NB129_115.out
                have hnb295 := NB115_136.out
                have hnc295 := NB136_115.out
                obtain ⟨hcz296_0, hcz296_1, hcz296_2, hfz296_0, hfz296_1, hfz296_2⟩ := bc3 BK115.out
                have p179 : 0 ≤ (x21_3 : Int) := of_decide_eq_true (by first | (with_reducible assumption) | assumption)
                have q179 : x21_3 < (t111.length : Int) := of_decide_eq_true (by first | (with_reducible assumption) | assumption)
                obtain ⟨ad179, e179, hx179_0⟩ := Kd.at_int (Kd.Q_reads' HO_116002.out).2.2 x21_3 p179 q179
                cases e179
                replace p179 := eq_true p179
                replace q179 := eq_true q179
                have p180 : 0 ≤ (x21_3 : Int) := of_decide_eq_true (by first | (with_reducible assumption) | assumption)
                have q180 : x21_3 < (t104.length : Int) := of_decide_eq_true (by first | (with_reducible assumption) | assumption)
                obtain ⟨ad180, e180, hx180_0⟩ := Kd.at_int (Kd.Q_reads' HO_109002.out).2.2 x21_3 p180 q180
                obtain rfl : ad177 = ad180 := (by injection e180)
                replace p180 := eq_true p180
                replace q180 := eq_true q180
                have hnb297 := NB122_129.out
                have hnc297 := NB129_122.out
                have hnb298 := NB122_136.out
                have hnc298 := NB136_122.out
                obtain ⟨hcz299_0, hcz299_1, hcz299_2, hfz299_0, hfz299_1, hfz299_2⟩ := bc3 BK122.out
                have p181 : 0 ≤ (x21_3 : Int) := of_decide_eq_true (by first | (with_reducible assumption) | assumption)
                have q181 : x21_3 < (t118.length : Int) := of_decide_eq_true (by first | (with_reducible assumption) | assumption)
                obtain ⟨ad181, e181, hx181_0⟩ := Kd.at_int (Kd.Q_reads' HO_123002.out).2.2 x21_3 p181 q181
                cases e181
                replace p181 := eq_true p181
                replace q181 := eq_true q181
                go_wp2
                repeat (go_quiet (fail); try go_wp2)
                go_roundg kj207
                case measure => have := HJ9.out; have := HJ74.out; have := HK3.out; have := HJ194.out; have := HJ207.out; omega
                case rel => exact ⟨(wrap64 (x21_3 + 1)), (by first | rfl | (simp; done) | (simp [*]; done)), H', ⟨by have := HJ9.out; have := HJ74.out; have := HK3.out; have := HJ194.out; have := HJ207.out; omega⟩, ⟨by (with_reducible repeat (first | apply Kd.Q_alloc | apply Kd.Q_drewN | apply Kd.Q_drew)); exact HO_109002.out⟩, ⟨by (with_reducible repeat (first | apply Kd.Q_alloc | apply Kd.Q_drewN | apply Kd.Q_drew)); exact HO_116002.out⟩, ⟨by (with_reducible repeat (first | apply Kd.Q_alloc | apply Kd.Q_drewN | apply Kd.Q_drew)); exact HO_123002.out⟩, ⟨by (with_reducible repeat (first | apply Kd.Q_alloc | apply Kd.Q_drewN | apply Kd.Q_drew)); exact HO_130002.out⟩, ⟨by (with_reducible repeat (first | apply Kd.Q_alloc | apply Kd.Q_drewN | apply Kd.Q_drew)); exact HO_137002.out⟩, ⟨by refine bk ?_; exact BK108.out⟩, ⟨by refine bk ?_; exact BK115.out⟩, ⟨by refine bk ?_; exact BK122.out⟩, ⟨by refine bk ?_; exact BK129.out⟩, ⟨by refine bk ?_; exact BK136.out⟩, ⟨pT HB.out⟩⟩
               rw [if_neg c280] at H
               exact absurd H (by simp)
              rw [if_neg c275] at H
              exact absurd H (by simp)
             rw [if_neg c268] at H
             exact absurd H (by simp)
            rw [if_neg c267] at H
            exact absurd H (by simp)
         replace c207 := Bool.eq_false_iff.mpr c207
         subst c207
         have H1 : ((spec_DrawCoverageFilter.f kj194 l0).bind fun bt182 => ((impl_CoverageFilter.f kj194 bt182.1 bt182.2.1 bt182.2.2.1 bt182.2.2.2.1 bt182.2.2.2.2).bind fun bt190 => ((spec_CoverageFilter.f kj194 bt182.1 bt182.2.1 bt182.2.2.1 bt182.2.2.2.1 bt182.2.2.2.2).bind fun bt197 => (if (bt190.2.2.2 == bt197.2.2.2) = true then ((laws_rFields.f kj194 bt190.1 bt190.2.1 bt190.2.2.1 bt197.1 bt197.2.1 bt197.2.2.1).bind fun t204 => (some t204)) else (some false))))) = some r := by rw [if_neg (show ¬ (false = true) by decide)] at H; exact H
         clear H
         have H := H1
         clear H1
         replace H := Option.bind_eq_some_iff.mp H
         obtain ⟨⟨t182, t183, t184, t187, t188⟩, A3000, H⟩ := H
         replace H : ((impl_CoverageFilter.f kj194 t182 t183 t184 t187 t188).bind fun bt190 => ((spec_CoverageFilter.f kj194 t182 t183 t184 t187 t188).bind fun bt197 => (if (bt190.2.2.2 == bt197.2.2.2) = true then ((laws_rFields.f kj194 bt190.1 bt190.2.1 bt190.2.2.1 bt197.1 bt197.2.1 bt197.2.2.1).bind fun t204 => (some t204)) else (some false)))) = some r := H
         have A300 := Aside0.mk A3000
         clear A3000
         replace H := Option.bind_eq_some_iff.mp H
         obtain ⟨⟨t190, t191, t192, t195⟩, A3010, H⟩ := H
         replace H : ((spec_CoverageFilter.f kj194 t182 t183 t184 t187 t188).bind fun bt197 => (if (t195 == bt197.2.2.2) = true then ((laws_rFields.f kj194 t190 t191 t192 bt197.1 bt197.2.1 bt197.2.2.1).bind fun t204 => (some t204)) else (some false))) = some r := H
         have A301 := Aside0.mk A3010
         clear A3010
         replace H := Option.bind_eq_some_iff.mp H
         obtain ⟨⟨t197, t198, t199, t202⟩, A3020, H⟩ := H
         replace H : (if (t195 == t202) = true then ((laws_rFields.f kj194 t190 t191 t192 t197 t198 t199).bind fun t204 => (some t204)) else (some false)) = some r := H
         have A302 := Aside0.mk A3020
         clear A3020
         by_cases c303 : (t195 == t202) = true
         ·
          rw [if_pos c303] at H
          have c303b0 : (t195 == t202) = true := c303
          (try (have c303b1 : decide (t195 = t202) = true := by simpa using c303))
          (try (have c303b2 : (t195 == t202) = true := by simpa using c303))
          clear c303
          replace H := Option.bind_eq_some_iff.mp H
          obtain ⟨t204, A3040, H⟩ := H
          replace H : (some t204) = some r := H
          have A304 := Aside0.mk A3040
          clear A3040
          obtain rfl := Option.some.inj H
          go_wp2_with (first | (go_at_call 26; (with_reducible refine (spec_DrawCoverageFilter.calls kj194 _ _ l0 t182 t183 t184 t187 t188 _ ?side1 ?side2 A300.out).mono ?_); (case side1 => exact pC (Kd.C_below HR0.out HB.out)); (case side2 => exact HC0.out); rintro e w305 ⟨v185, rfl, ho0, hb⟩; have n0_ := aK (Kd.Q_elder' (pQ HO_109002.out) (Kd.Q_base ho0) hb); have n1_ := aK (Kd.Q_elder' (pQ HO_116002.out) (Kd.Q_base ho0) hb); have n2_ := aK (Kd.Q_elder' (pQ HO_123002.out) (Kd.Q_base ho0) hb); have n3_ := aK (Kd.Q_elder' (pQ HO_130002.out) (Kd.Q_base ho0) hb); have n4_ := aK (Kd.Q_elder' (pQ HO_137002.out) (Kd.Q_base ho0) hb); have HO186 := aK (Kd.Q_lower (Kd.Q_new' (Kd.Q_new' (Kd.Q_new' (Kd.Q_new' (Kd.Q_new' ho0 (Kd.Q_lt (pQ HO_109002.out))) (Kd.Q_lt (pQ HO_116002.out))) (Kd.Q_lt (pQ HO_123002.out))) (Kd.Q_lt (pQ HO_130002.out))) (Kd.Q_lt (pQ HO_137002.out))) (below_size (pS HB.out))); replace HB := bS HB hb; clear HO_109002 HO_116002 HO_123002 HO_130002 HO_137002; have HO_109002 := n0_; have HO_116002 := n1_; have HO_123002 := n2_; have HO_130002 := n3_; have HO_137002 := n4_; clear n0_ n1_ n2_ n3_ n4_; (try clear hb); (try clear hb2); (try clear hk); (try clear hi); (try clear ho0)) | ((with_reducible refine gate_dst (N := 22) rfl ?_); refine bxe (cs := #[.int .i64 0, .int .i64 0, .slice none 0 0]) (t := 26) ?_; intro gb189 hg w306 hbox hb; have n0_ := aK (Kd.Q_below (pQ HO_109002.out) hb); have n1_ := aK (Kd.Q_below (pQ HO_116002.out) hb); have n2_ := aK (Kd.Q_below (pQ HO_123002.out) hb); have n3_ := aK (Kd.Q_below (pQ HO_130002.out) hb); have n4_ := aK (Kd.Q_below (pQ HO_137002.out) hb); have n5_ := aK (Kd.Q_below (pQ HO186.out) hb); have BK189 := aK (hbox); have GW189 := aK (gE hg (pS HB.out)); have GE189 := aK (gE hg (pS HB.out)); replace HB := bS HB hb; clear HO_109002 HO_116002 HO_123002 HO_130002 HO_137002 HO186; have HO_109002 := n0_; have HO_116002 := n1_; have HO_123002 := n2_; have HO_130002 := n3_; have HO_137002 := n4_; have HO186 := n5_; clear n0_ n1_ n2_ n3_ n4_ n5_ hb hbox hg; obtain ⟨hcz307_0, hcz307_1, hcz307_2, hfz307_0, hfz307_1, hfz307_2⟩ := bc3 BK189.out; obtain ⟨Ao308, co308, eo308, _⟩ := Kd.Q_slice HO186.out; subst eo308) | (go_at_call 27; (with_reducible refine (impl_CoverageFilter.calls kj194 t182 t183 _ _ t184 t187 t188 t190 t191 t192 t195 _ ?side1 ?side2 A301.out).mono ?_); (case side1 => refine (Kd.Q_reads' (e := 3) (base := w.heap.size) (ok := fun k_ => (((((True ∧ some k_ ≠ (.slice Ao14 t104.length co14 : Value).ownBlock) ∧ some k_ ≠ (.slice Ao19 t111.length co19 : Value).ownBlock) ∧ some k_ ≠ (.slice Ao26 t118.length co26 : Value).ownBlock) ∧ some k_ ≠ (.slice Ao34 t125.length co34 : Value).ownBlock) ∧ some k_ ≠ (.slice Ao43 t132.length co43 : Value).ownBlock)) (n := t184.length) (c := co308) ?_).2.2; exact (pQ ((Kd.Q_mono (Kd.Q_far (p := ⟨gb189, 2, none⟩) (Kd.Q_far (p := ⟨gb189, 1, none⟩) (Kd.Q_far (p := ⟨gb189, 0, none⟩) (Kd.Q_types HO186.out BK189.out (by decide)) (fun _ hk => hk.2) (.int .i64 t182)) (fun _ hk => hk.2) (.int .i64 t183)) (fun _ hk => hk.2) (.slice Ao308 t184.length co308)) (fun _ h_ => h_.1))))); (case side2 => exact (Kd.Q_reads' HO186.out).2.1); rintro e w309 ⟨v193, rfl, ho0, hb⟩; have e5_ := aQ hb (pQ ((Kd.Q_mono (Kd.Q_far (p := ⟨gb189, 2, none⟩) (Kd.Q_far (p := ⟨gb189, 1, none⟩) (Kd.Q_far (p := ⟨gb189, 0, none⟩) (Kd.Q_types HO_109002.out BK189.out (by decide)) (fun _ hk => hk.2) (.int .i64 t182)) (fun _ hk => hk.2) (.int .i64 t183)) (fun _ hk => hk.2) (.slice Ao308 t184.length co308)) (fun _ h_ => h_.1)))); have n0_ := aK (Kd.Q_elder' e5_.out (Kd.R_base ho0) hb); have e4_ := aQ hb (pQ ((Kd.Q_mono (Kd.Q_far (p := ⟨gb189, 2, none⟩) (Kd.Q_far (p := ⟨gb189, 1, none⟩) (Kd.Q_far (p := ⟨gb189, 0, none⟩) (Kd.Q_types HO_116002.out BK189.out (by decide)) (fun _ hk => hk.2) (.int .i64 t182)) (fun _ hk => hk.2) (.int .i64 t183)) (fun _ hk => hk.2) (.slice Ao308 t184.length co308)) (fun _ h_ => h_.1)))); have n1_ := aK (Kd.Q_elder' e4_.out (Kd.R_base ho0) hb); have e3_ := aQ hb (pQ ((Kd.Q_mono (Kd.Q_far (p := ⟨gb189, 2, none⟩) (Kd.Q_far (p := ⟨gb189, 1, none⟩) (Kd.Q_far (p := ⟨gb189, 0, none⟩) (Kd.Q_types HO_123002.out BK189.out (by decide)) (fun _ hk => hk.2) (.int .i64 t182)) (fun _ hk => hk.2) (.int .i64 t183)) (fun _ hk => hk.2) (.slice Ao308 t184.length co308)) (fun _ h_ => h_.1)))); have n2_ := aK (Kd.Q_elder' e3_.out (Kd.R_base ho0) hb); have e2_ := aQ hb (pQ ((Kd.Q_mono (Kd.Q_far (p := ⟨gb189, 2, none⟩) (Kd.Q_far (p := ⟨gb189, 1, none⟩) (Kd.Q_far (p := ⟨gb189, 0, none⟩) (Kd.Q_types HO_130002.out BK189.out (by decide)) (fun _ hk => hk.2) (.int .i64 t182)) (fun _ hk => hk.2) (.int .i64 t183)) (fun _ hk => hk.2) (.slice Ao308 t184.length co308)) (fun _ h_ => h_.1)))); have n3_ := aK (Kd.Q_elder' e2_.out (Kd.R_base ho0) hb); have e1_ := aQ hb (pQ ((Kd.Q_mono (Kd.Q_far (p := ⟨gb189, 2, none⟩) (Kd.Q_far (p := ⟨gb189, 1, none⟩) (Kd.Q_far (p := ⟨gb189, 0, none⟩) (Kd.Q_types HO_137002.out BK189.out (by decide)) (fun _ hk => hk.2) (.int .i64 t182)) (fun _ hk => hk.2) (.int .i64 t183)) (fun _ hk => hk.2) (.slice Ao308 t184.length co308)) (fun _ h_ => h_.1)))); have n4_ := aK (Kd.Q_elder' e1_.out (Kd.R_base ho0) hb); have e6_ := aQ hb (pQ ((Kd.Q_mono (Kd.Q_far (p := ⟨gb189, 2, none⟩) (Kd.Q_far (p := ⟨gb189, 1, none⟩) (Kd.Q_far (p := ⟨gb189, 0, none⟩) (Kd.Q_types HO186.out BK189.out (by decide)) (fun _ hk => hk.2) (.int .i64 t182)) (fun _ hk => hk.2) (.int .i64 t183)) (fun _ hk => hk.2) (.slice Ao308 t184.length co308)) (fun _ h_ => h_.1)))); have n5_ := aK (Kd.Q_elder' e6_.out (Kd.R_base ho0) hb); have HO194 := aK (Kd.R_lower (Kd.R_new' (Kd.R_new' (Kd.R_new' (Kd.R_new' (Kd.R_new' (Kd.R_new' ho0 (Kd.Q_lt e5_.out)) (Kd.Q_lt e4_.out)) (Kd.Q_lt e3_.out)) (Kd.Q_lt e2_.out)) (Kd.Q_lt e1_.out)) (Kd.Q_lt e6_.out)) (below_size (pS HB.out))); clear e6_; clear e5_; clear e4_; clear e3_; clear e2_; clear e1_; have n7_ := aK (blk_below (g := gb189) (o := .cells #[.int .i64 t182, .int .i64 t183, .slice Ao308 t184.length co308] 26 (0, 0)) (by refine bk ?_; refine blk_put (cs := #[.int .i64 t182, .int .i64 t183, .slice none 0 0]) ?_ 2 _ rfl; refine bk ?_; refine blk_put (cs := #[.int .i64 t182, .int .i64 0, .slice none 0 0]) ?_ 1 _ rfl; refine bk ?_; refine blk_put (cs := #[.int .i64 0, .int .i64 0, .slice none 0 0]) ?_ 0 _ rfl; refine bk ?_; exact BK189.out) hb); replace HB := bS HB hb; clear HO_109002 HO_116002 HO_123002 HO_130002 HO_137002 HO186 BK189; have HO_109002 := n0_; have HO_116002 := n1_; have HO_123002 := n2_; have HO_130002 := n3_; have HO_137002 := n4_; have HO186 := n5_; have BK189 := n7_; clear n0_ n1_ n2_ n3_ n4_ n5_ n7_; (try clear hb); (try clear hb2); (try clear hk); (try clear hi); (try clear ho0)) | ((with_reducible refine gate_dst (N := 25) rfl ?_); refine bxe (cs := #[.int .i64 0, .int .i64 0, .slice none 0 0]) (t := 26) ?_; intro gb196 hg w310 hbox hb; have n0_ := aK (Kd.Q_below (pQ HO_109002.out) hb); have n1_ := aK (Kd.Q_below (pQ HO_116002.out) hb); have n2_ := aK (Kd.Q_below (pQ HO_123002.out) hb); have n3_ := aK (Kd.Q_below (pQ HO_130002.out) hb); have n4_ := aK (Kd.Q_below (pQ HO_137002.out) hb); have n5_ := aK (Kd.Q_below (pQ HO186.out) hb); have n6_ := aK (Kd.R_below (pR HO194.out) hb); have BK196 := aK (hbox); have GW196 := aK (gE hg (pS HB.out)); have GE196 := aK (gE hg (pS HB.out)); have NB189_196 := aK (nL hg (pB BK189.out)); have NB196_189 := aK (nG hg (pB BK189.out)); replace BK189 := bB BK189 hb; replace HB := bS HB hb; clear HO_109002 HO_116002 HO_123002 HO_130002 HO_137002 HO186 HO194; have HO_109002 := n0_; have HO_116002 := n1_; have HO_123002 := n2_; have HO_130002 := n3_; have HO_137002 := n4_; have HO186 := n5_; have HO194 := n6_; clear n0_ n1_ n2_ n3_ n4_ n5_ n6_ hb hbox hg; have hnb311 := NB196_189.out; have hnc311 := NB189_196.out; obtain ⟨hcz312_0, hcz312_1, hcz312_2, hfz312_0, hfz312_1, hfz312_2⟩ := bc3 BK196.out; obtain ⟨Ao313, co313, eo313⟩ := Kd.R_slice HO194.out; subst eo313; obtain ⟨hcz314_0, hcz314_1, hcz314_2, hfz314_0, hfz314_1, hfz314_2⟩ := bc3 BK189.out) | (go_at_call 28; (with_reducible refine (spec_CoverageFilter.calls kj194 t182 t183 _ _ t184 t187 t188 t197 t198 t199 t202 _ ?side1 ?side2 A302.out).mono ?_); (case side1 => refine (Kd.Q_reads' (e := 3) (base := w.heap.size) (ok := fun k_ => ((((((True ∧ some k_ ≠ (.slice Ao14 t104.length co14 : Value).ownBlock) ∧ some k_ ≠ (.slice Ao19 t111.length co19 : Value).ownBlock) ∧ some k_ ≠ (.slice Ao26 t118.length co26 : Value).ownBlock) ∧ some k_ ≠ (.slice Ao34 t125.length co34 : Value).ownBlock) ∧ some k_ ≠ (.slice Ao43 t132.length co43 : Value).ownBlock) ∧ some k_ ≠ (.slice Ao313 t192.length co313 : Value).ownBlock)) (n := t184.length) (c := co308) ?_).2.2; exact (pQ ((Kd.Q_mono (Kd.Q_far (p := ⟨gb196, 2, none⟩) (Kd.Q_far (p := ⟨gb196, 1, none⟩) (Kd.Q_far (p := ⟨gb196, 0, none⟩) (Kd.Q_types HO186.out BK196.out (by decide)) (fun _ hk => hk.2) (.int .i64 t190)) (fun _ hk => hk.2) (.int .i64 t191)) (fun _ hk => hk.2) (.slice Ao313 t192.length co313)) (fun _ h_ => h_.1))))); (case side2 => exact (Kd.Q_reads' HO186.out).2.1); rintro e w315 ⟨v200, rfl, ho0, hb⟩; have e5_ := aQ hb (pQ ((Kd.Q_mono (Kd.Q_far (p := ⟨gb196, 2, none⟩) (Kd.Q_far (p := ⟨gb196, 1, none⟩) (Kd.Q_far (p := ⟨gb196, 0, none⟩) (Kd.Q_types HO_109002.out BK196.out (by decide)) (fun _ hk => hk.2) (.int .i64 t190)) (fun _ hk => hk.2) (.int .i64 t191)) (fun _ hk => hk.2) (.slice Ao313 t192.length co313)) (fun _ h_ => h_.1)))); have n0_ := aK (Kd.Q_elder' e5_.out (Kd.R_base ho0) hb); have e4_ := aQ hb (pQ ((Kd.Q_mono (Kd.Q_far (p := ⟨gb196, 2, none⟩) (Kd.Q_far (p := ⟨gb196, 1, none⟩) (Kd.Q_far (p := ⟨gb196, 0, none⟩) (Kd.Q_types HO_116002.out BK196.out (by decide)) (fun _ hk => hk.2) (.int .i64 t190)) (fun _ hk => hk.2) (.int .i64 t191)) (fun _ hk => hk.2) (.slice Ao313 t192.length co313)) (fun _ h_ => h_.1)))); have n1_ := aK (Kd.Q_elder' e4_.out (Kd.R_base ho0) hb); have e3_ := aQ hb (pQ ((Kd.Q_mono (Kd.Q_far (p := ⟨gb196, 2, none⟩) (Kd.Q_far (p := ⟨gb196, 1, none⟩) (Kd.Q_far (p := ⟨gb196, 0, none⟩) (Kd.Q_types HO_123002.out BK196.out (by decide)) (fun _ hk => hk.2) (.int .i64 t190)) (fun _ hk => hk.2) (.int .i64 t191)) (fun _ hk => hk.2) (.slice Ao313 t192.length co313)) (fun _ h_ => h_.1)))); have n2_ := aK (Kd.Q_elder' e3_.out (Kd.R_base ho0) hb); have e2_ := aQ hb (pQ ((Kd.Q_mono (Kd.Q_far (p := ⟨gb196, 2, none⟩) (Kd.Q_far (p := ⟨gb196, 1, none⟩) (Kd.Q_far (p := ⟨gb196, 0, none⟩) (Kd.Q_types HO_130002.out BK196.out (by decide)) (fun _ hk => hk.2) (.int .i64 t190)) (fun _ hk => hk.2) (.int .i64 t191)) (fun _ hk => hk.2) (.slice Ao313 t192.length co313)) (fun _ h_ => h_.1)))); have n3_ := aK (Kd.Q_elder' e2_.out (Kd.R_base ho0) hb); have e1_ := aQ hb (pQ ((Kd.Q_mono (Kd.Q_far (p := ⟨gb196, 2, none⟩) (Kd.Q_far (p := ⟨gb196, 1, none⟩) (Kd.Q_far (p := ⟨gb196, 0, none⟩) (Kd.Q_types HO_137002.out BK196.out (by decide)) (fun _ hk => hk.2) (.int .i64 t190)) (fun _ hk => hk.2) (.int .i64 t191)) (fun _ hk => hk.2) (.slice Ao313 t192.length co313)) (fun _ h_ => h_.1)))); have n4_ := aK (Kd.Q_elder' e1_.out (Kd.R_base ho0) hb); have e7_ := aQ hb (pQ ((Kd.Q_mono (Kd.Q_far (p := ⟨gb196, 2, none⟩) (Kd.Q_far (p := ⟨gb196, 1, none⟩) (Kd.Q_far (p := ⟨gb196, 0, none⟩) (Kd.Q_types HO186.out BK196.out (by decide)) (fun _ hk => hk.2) (.int .i64 t190)) (fun _ hk => hk.2) (.int .i64 t191)) (fun _ hk => hk.2) (.slice Ao313 t192.length co313)) (fun _ h_ => h_.1)))); have n5_ := aK (Kd.Q_elder' e7_.out (Kd.R_base ho0) hb); have e6_ := aR hb (pR ((Kd.R_mono (Kd.R_far (p := ⟨gb196, 2, none⟩) (Kd.R_far (p := ⟨gb196, 1, none⟩) (Kd.R_far (p := ⟨gb196, 0, none⟩) (Kd.R_types HO194.out BK196.out (by decide)) (fun _ hk => hk.2) (.int .i64 t190)) (fun _ hk => hk.2) (.int .i64 t191)) (fun _ hk => hk.2) (.slice Ao313 t192.length co313)) (fun _ h_ => h_.1)))); have n6_ := aK (Kd.R_elder' e6_.out (Kd.R_base ho0) hb); have HO201 := aK (Kd.R_lower (Kd.R_new' (Kd.R_new' (Kd.R_new' (Kd.R_new' (Kd.R_new' (Kd.R_new' (Kd.R_new' ho0 (Kd.Q_lt e5_.out)) (Kd.Q_lt e4_.out)) (Kd.Q_lt e3_.out)) (Kd.Q_lt e2_.out)) (Kd.Q_lt e1_.out)) (Kd.Q_lt e7_.out)) (Kd.R_lt e6_.out)) (below_size (pS HB.out))); clear e7_; clear e6_; clear e5_; clear e4_; clear e3_; clear e2_; clear e1_; have n8_ := aK (blk_below (g := gb196) (o := .cells #[.int .i64 t190, .int .i64 t191, .slice Ao313 t192.length co313] 26 (0, 0)) (by refine bk ?_; refine blk_put (cs := #[.int .i64 t190, .int .i64 t191, .slice none 0 0]) ?_ 2 _ rfl; refine bk ?_; refine blk_put (cs := #[.int .i64 t190, .int .i64 0, .slice none 0 0]) ?_ 1 _ rfl; refine bk ?_; refine blk_put (cs := #[.int .i64 0, .int .i64 0, .slice none 0 0]) ?_ 0 _ rfl; refine bk ?_; exact BK196.out) hb); replace HB := bS HB hb; clear HO_109002 HO_116002 HO_123002 HO_130002 HO_137002 HO186 HO194 BK196; have HO_109002 := n0_; have HO_116002 := n1_; have HO_123002 := n2_; have HO_130002 := n3_; have HO_137002 := n4_; have HO186 := n5_; have HO194 := n6_; have BK196 := n8_; clear n0_ n1_ n2_ n3_ n4_ n5_ n6_ n8_; (try clear hb); (try clear hb2); (try clear hk); (try clear hi); (try clear ho0)) | ((with_reducible refine gate_dst (N := 27) rfl ?_); refine bxe (cs := #[.int .i64 0, .int .i64 0, .slice none 0 0]) (t := 26) ?_; intro gb203 hg w316 hbox hb; have n0_ := aK (Kd.Q_below (pQ HO_109002.out) hb); have n1_ := aK (Kd.Q_below (pQ HO_116002.out) hb); have n2_ := aK (Kd.Q_below (pQ HO_123002.out) hb); have n3_ := aK (Kd.Q_below (pQ HO_130002.out) hb); have n4_ := aK (Kd.Q_below (pQ HO_137002.out) hb); have n5_ := aK (Kd.Q_below (pQ HO186.out) hb); have n6_ := aK (Kd.R_below (pR HO194.out) hb); have n7_ := aK (Kd.R_below (pR HO201.out) hb); have BK203 := aK (hbox); have GW203 := aK (gE hg (pS HB.out)); have GE203 := aK (gE hg (pS HB.out)); have NB196_203 := aK (nL hg (pB BK196.out)); have NB203_196 := aK (nG hg (pB BK196.out)); replace BK196 := bB BK196 hb; replace HB := bS HB hb; clear HO_109002 HO_116002 HO_123002 HO_130002 HO_137002 HO186 HO194 HO201; have HO_109002 := n0_; have HO_116002 := n1_; have HO_123002 := n2_; have HO_130002 := n3_; have HO_137002 := n4_; have HO186 := n5_; have HO194 := n6_; have HO201 := n7_; clear n0_ n1_ n2_ n3_ n4_ n5_ n6_ n7_ hb hbox hg; have hnb317 := NB203_196.out; have hnc317 := NB196_203.out; obtain ⟨hcz318_0, hcz318_1, hcz318_2, hfz318_0, hfz318_1, hfz318_2⟩ := bc3 BK203.out; obtain ⟨Ao319, co319, eo319⟩ := Kd.R_slice HO201.out; subst eo319; obtain ⟨hcz320_0, hcz320_1, hcz320_2, hfz320_0, hfz320_1, hfz320_2⟩ := bc3 BK196.out) | (go_at_call 22; (with_reducible refine (laws_rFields.calls kj194 t190 t191 _ _ t192 t197 t198 _ _ t199 t204 _ ?side1 ?side2 ?side3 ?side4 A304.out).mono ?_); (case side1 => refine (Kd.R_reads' (e := 3) (base := w.heap.size) (ok := fun k_ => (((((((True ∧ some k_ ≠ (.slice Ao14 t104.length co14 : Value).ownBlock) ∧ some k_ ≠ (.slice Ao19 t111.length co19 : Value).ownBlock) ∧ some k_ ≠ (.slice Ao26 t118.length co26 : Value).ownBlock) ∧ some k_ ≠ (.slice Ao34 t125.length co34 : Value).ownBlock) ∧ some k_ ≠ (.slice Ao43 t132.length co43 : Value).ownBlock) ∧ some k_ ≠ (.slice Ao308 t184.length co308 : Value).ownBlock) ∧ some k_ ≠ (.slice Ao319 t199.length co319 : Value).ownBlock)) (n := t192.length) (c := co313) ?_).2.2; exact (pR ((Kd.R_mono (Kd.R_far (p := ⟨gb203, 2, none⟩) (Kd.R_far (p := ⟨gb203, 1, none⟩) (Kd.R_far (p := ⟨gb203, 0, none⟩) (Kd.R_types HO194.out BK203.out (by decide)) (fun _ hk => hk.2) (.int .i64 t197)) (fun _ hk => hk.2) (.int .i64 t198)) (fun _ hk => hk.2) (.slice Ao319 t199.length co319)) (fun _ h_ => h_.1))))); (case side2 => exact (Kd.R_reads' HO194.out).2.1); (case side3 => refine (Kd.R_reads' (e := 3) (base := w.heap.size) (ok := fun k_ => (((((((True ∧ some k_ ≠ (.slice Ao14 t104.length co14 : Value).ownBlock) ∧ some k_ ≠ (.slice Ao19 t111.length co19 : Value).ownBlock) ∧ some k_ ≠ (.slice Ao26 t118.length co26 : Value).ownBlock) ∧ some k_ ≠ (.slice Ao34 t125.length co34 : Value).ownBlock) ∧ some k_ ≠ (.slice Ao43 t132.length co43 : Value).ownBlock) ∧ some k_ ≠ (.slice Ao308 t184.length co308 : Value).ownBlock) ∧ some k_ ≠ (.slice Ao313 t192.length co313 : Value).ownBlock)) (n := t199.length) (c := co319) ?_).2.2; exact (pR ((Kd.R_mono (Kd.R_far (p := ⟨gb203, 2, none⟩) (Kd.R_far (p := ⟨gb203, 1, none⟩) (Kd.R_far (p := ⟨gb203, 0, none⟩) (Kd.R_types HO201.out BK203.out (by decide)) (fun _ hk => hk.2) (.int .i64 t197)) (fun _ hk => hk.2) (.int .i64 t198)) (fun _ hk => hk.2) (.slice Ao319 t199.length co319)) (fun _ h_ => h_.1))))); (case side4 => exact (Kd.R_reads' HO201.out).2.1); rintro e w321 ⟨rfl, hb⟩; have n0_ := aK (Kd.Q_below (pQ ((Kd.Q_mono (Kd.Q_far (p := ⟨gb203, 2, none⟩) (Kd.Q_far (p := ⟨gb203, 1, none⟩) (Kd.Q_far (p := ⟨gb203, 0, none⟩) (Kd.Q_types HO_109002.out BK203.out (by decide)) (fun _ hk => hk.2) (.int .i64 t197)) (fun _ hk => hk.2) (.int .i64 t198)) (fun _ hk => hk.2) (.slice Ao319 t199.length co319)) (fun _ h_ => h_.1)))) hb); have n1_ := aK (Kd.Q_below (pQ ((Kd.Q_mono (Kd.Q_far (p := ⟨gb203, 2, none⟩) (Kd.Q_far (p := ⟨gb203, 1, none⟩) (Kd.Q_far (p := ⟨gb203, 0, none⟩) (Kd.Q_types HO_116002.out BK203.out (by decide)) (fun _ hk => hk.2) (.int .i64 t197)) (fun _ hk => hk.2) (.int .i64 t198)) (fun _ hk => hk.2) (.slice Ao319 t199.length co319)) (fun _ h_ => h_.1)))) hb); have n2_ := aK (Kd.Q_below (pQ ((Kd.Q_mono (Kd.Q_far (p := ⟨gb203, 2, none⟩) (Kd.Q_far (p := ⟨gb203, 1, none⟩) (Kd.Q_far (p := ⟨gb203, 0, none⟩) (Kd.Q_types HO_123002.out BK203.out (by decide)) (fun _ hk => hk.2) (.int .i64 t197)) (fun _ hk => hk.2) (.int .i64 t198)) (fun _ hk => hk.2) (.slice Ao319 t199.length co319)) (fun _ h_ => h_.1)))) hb); have n3_ := aK (Kd.Q_below (pQ ((Kd.Q_mono (Kd.Q_far (p := ⟨gb203, 2, none⟩) (Kd.Q_far (p := ⟨gb203, 1, none⟩) (Kd.Q_far (p := ⟨gb203, 0, none⟩) (Kd.Q_types HO_130002.out BK203.out (by decide)) (fun _ hk => hk.2) (.int .i64 t197)) (fun _ hk => hk.2) (.int .i64 t198)) (fun _ hk => hk.2) (.slice Ao319 t199.length co319)) (fun _ h_ => h_.1)))) hb); have n4_ := aK (Kd.Q_below (pQ ((Kd.Q_mono (Kd.Q_far (p := ⟨gb203, 2, none⟩) (Kd.Q_far (p := ⟨gb203, 1, none⟩) (Kd.Q_far (p := ⟨gb203, 0, none⟩) (Kd.Q_types HO_137002.out BK203.out (by decide)) (fun _ hk => hk.2) (.int .i64 t197)) (fun _ hk => hk.2) (.int .i64 t198)) (fun _ hk => hk.2) (.slice Ao319 t199.length co319)) (fun _ h_ => h_.1)))) hb); have n5_ := aK (Kd.Q_below (pQ ((Kd.Q_mono (Kd.Q_far (p := ⟨gb203, 2, none⟩) (Kd.Q_far (p := ⟨gb203, 1, none⟩) (Kd.Q_far (p := ⟨gb203, 0, none⟩) (Kd.Q_types HO186.out BK203.out (by decide)) (fun _ hk => hk.2) (.int .i64 t197)) (fun _ hk => hk.2) (.int .i64 t198)) (fun _ hk => hk.2) (.slice Ao319 t199.length co319)) (fun _ h_ => h_.1)))) hb); have n6_ := aK (Kd.R_below (pR ((Kd.R_mono (Kd.R_far (p := ⟨gb203, 2, none⟩) (Kd.R_far (p := ⟨gb203, 1, none⟩) (Kd.R_far (p := ⟨gb203, 0, none⟩) (Kd.R_types HO194.out BK203.out (by decide)) (fun _ hk => hk.2) (.int .i64 t197)) (fun _ hk => hk.2) (.int .i64 t198)) (fun _ hk => hk.2) (.slice Ao319 t199.length co319)) (fun _ h_ => h_.1)))) hb); have n7_ := aK (Kd.R_below (pR ((Kd.R_mono (Kd.R_far (p := ⟨gb203, 2, none⟩) (Kd.R_far (p := ⟨gb203, 1, none⟩) (Kd.R_far (p := ⟨gb203, 0, none⟩) (Kd.R_types HO201.out BK203.out (by decide)) (fun _ hk => hk.2) (.int .i64 t197)) (fun _ hk => hk.2) (.int .i64 t198)) (fun _ hk => hk.2) (.slice Ao319 t199.length co319)) (fun _ h_ => h_.1)))) hb); have n8_ := aK (blk_below (g := gb203) (o := .cells #[.int .i64 t197, .int .i64 t198, .slice Ao319 t199.length co319] 26 (0, 0)) (by refine bk ?_; refine blk_put (cs := #[.int .i64 t197, .int .i64 t198, .slice none 0 0]) ?_ 2 _ rfl; refine bk ?_; refine blk_put (cs := #[.int .i64 t197, .int .i64 0, .slice none 0 0]) ?_ 1 _ rfl; refine bk ?_; refine blk_put (cs := #[.int .i64 0, .int .i64 0, .slice none 0 0]) ?_ 0 _ rfl; refine bk ?_; exact BK203.out) hb); replace HB := bS HB hb; clear HO_109002 HO_116002 HO_123002 HO_130002 HO_137002 HO186 HO194 HO201 BK203; have HO_109002 := n0_; have HO_116002 := n1_; have HO_123002 := n2_; have HO_130002 := n3_; have HO_137002 := n4_; have HO186 := n5_; have HO194 := n6_; have HO201 := n7_; have BK203 := n8_; clear n0_ n1_ n2_ n3_ n4_ n5_ n6_ n7_ n8_; (try clear hb); (try clear hb2); (try clear hk); (try clear hi)))
          go_ret
          exact ⟨by first | rfl | (simp [errW_none, errW_some] <;> rfl) | (simp [*, errW_none, errW_some] <;> rfl), pT HB.out⟩
         rw [if_neg c303] at H
         have c303b0 : (t195 == t202) = false := by simpa using c303
         (try (have c303b1 : decide (t195 = t202) = false := by simpa using c303))
         (try (have c303b2 : (t195 == t202) = false := by simpa using c303))
         (try (have c303b3 : ¬ (t195 = t202) := by simpa using c303))
         clear c303
         obtain rfl := Option.some.inj H
         go_wp2_with (first | (go_at_call 26; (with_reducible refine (spec_DrawCoverageFilter.calls kj194 _ _ l0 t182 t183 t184 t187 t188 _ ?side1 ?side2 A300.out).mono ?_); (case side1 => exact pC (Kd.C_below HR0.out HB.out)); (case side2 => exact HC0.out); rintro e w322 ⟨v185, rfl, ho0, hb⟩; have n0_ := aK (Kd.Q_elder' (pQ HO_109002.out) (Kd.Q_base ho0) hb); have n1_ := aK (Kd.Q_elder' (pQ HO_116002.out) (Kd.Q_base ho0) hb); have n2_ := aK (Kd.Q_elder' (pQ HO_123002.out) (Kd.Q_base ho0) hb); have n3_ := aK (Kd.Q_elder' (pQ HO_130002.out) (Kd.Q_base ho0) hb); have n4_ := aK (Kd.Q_elder' (pQ HO_137002.out) (Kd.Q_base ho0) hb); have HO186 := aK (Kd.Q_lower (Kd.Q_new' (Kd.Q_new' (Kd.Q_new' (Kd.Q_new' (Kd.Q_new' ho0 (Kd.Q_lt (pQ HO_109002.out))) (Kd.Q_lt (pQ HO_116002.out))) (Kd.Q_lt (pQ HO_123002.out))) (Kd.Q_lt (pQ HO_130002.out))) (Kd.Q_lt (pQ HO_137002.out))) (below_size (pS HB.out))); replace HB := bS HB hb; clear HO_109002 HO_116002 HO_123002 HO_130002 HO_137002; have HO_109002 := n0_; have HO_116002 := n1_; have HO_123002 := n2_; have HO_130002 := n3_; have HO_137002 := n4_; clear n0_ n1_ n2_ n3_ n4_; (try clear hb); (try clear hb2); (try clear hk); (try clear hi); (try clear ho0)) | ((with_reducible refine gate_dst (N := 22) rfl ?_); refine bxe (cs := #[.int .i64 0, .int .i64 0, .slice none 0 0]) (t := 26) ?_; intro gb189 hg w323 hbox hb; have n0_ := aK (Kd.Q_below (pQ HO_109002.out) hb); have n1_ := aK (Kd.Q_below (pQ HO_116002.out) hb); have n2_ := aK (Kd.Q_below (pQ HO_123002.out) hb); have n3_ := aK (Kd.Q_below (pQ HO_130002.out) hb); have n4_ := aK (Kd.Q_below (pQ HO_137002.out) hb); have n5_ := aK (Kd.Q_below (pQ HO186.out) hb); have BK189 := aK (hbox); have GW189 := aK (gE hg (pS HB.out)); have GE189 := aK (gE hg (pS HB.out)); replace HB := bS HB hb; clear HO_109002 HO_116002 HO_123002 HO_130002 HO_137002 HO186; have HO_109002 := n0_; have HO_116002 := n1_; have HO_123002 := n2_; have HO_130002 := n3_; have HO_137002 := n4_; have HO186 := n5_; clear n0_ n1_ n2_ n3_ n4_ n5_ hb hbox hg; obtain ⟨hcz324_0, hcz324_1, hcz324_2, hfz324_0, hfz324_1, hfz324_2⟩ := bc3 BK189.out; obtain ⟨Ao325, co325, eo325, _⟩ := Kd.Q_slice HO186.out; subst eo325) | (go_at_call 27; (with_reducible refine (impl_CoverageFilter.calls kj194 t182 t183 _ _ t184 t187 t188 t190 t191 t192 t195 _ ?side1 ?side2 A301.out).mono ?_); (case side1 => refine (Kd.Q_reads' (e := 3) (base := w.heap.size) (ok := fun k_ => (((((True ∧ some k_ ≠ (.slice Ao14 t104.length co14 : Value).ownBlock) ∧ some k_ ≠ (.slice Ao19 t111.length co19 : Value).ownBlock) ∧ some k_ ≠ (.slice Ao26 t118.length co26 : Value).ownBlock) ∧ some k_ ≠ (.slice Ao34 t125.length co34 : Value).ownBlock) ∧ some k_ ≠ (.slice Ao43 t132.length co43 : Value).ownBlock)) (n := t184.length) (c := co325) ?_).2.2; exact (pQ ((Kd.Q_mono (Kd.Q_far (p := ⟨gb189, 2, none⟩) (Kd.Q_far (p := ⟨gb189, 1, none⟩) (Kd.Q_far (p := ⟨gb189, 0, none⟩) (Kd.Q_types HO186.out BK189.out (by decide)) (fun _ hk => hk.2) (.int .i64 t182)) (fun _ hk => hk.2) (.int .i64 t183)) (fun _ hk => hk.2) (.slice Ao325 t184.length co325)) (fun _ h_ => h_.1))))); (case side2 => exact (Kd.Q_reads' HO186.out).2.1); rintro e w326 ⟨v193, rfl, ho0, hb⟩; have e5_ := aQ hb (pQ ((Kd.Q_mono (Kd.Q_far (p := ⟨gb189, 2, none⟩) (Kd.Q_far (p := ⟨gb189, 1, none⟩) (Kd.Q_far (p := ⟨gb189, 0, none⟩) (Kd.Q_types HO_109002.out BK189.out (by decide)) (fun _ hk => hk.2) (.int .i64 t182)) (fun _ hk => hk.2) (.int .i64 t183)) (fun _ hk => hk.2) (.slice Ao325 t184.length co325)) (fun _ h_ => h_.1)))); have n0_ := aK (Kd.Q_elder' e5_.out (Kd.R_base ho0) hb); have e4_ := aQ hb (pQ ((Kd.Q_mono (Kd.Q_far (p := ⟨gb189, 2, none⟩) (Kd.Q_far (p := ⟨gb189, 1, none⟩) (Kd.Q_far (p := ⟨gb189, 0, none⟩) (Kd.Q_types HO_116002.out BK189.out (by decide)) (fun _ hk => hk.2) (.int .i64 t182)) (fun _ hk => hk.2) (.int .i64 t183)) (fun _ hk => hk.2) (.slice Ao325 t184.length co325)) (fun _ h_ => h_.1)))); have n1_ := aK (Kd.Q_elder' e4_.out (Kd.R_base ho0) hb); have e3_ := aQ hb (pQ ((Kd.Q_mono (Kd.Q_far (p := ⟨gb189, 2, none⟩) (Kd.Q_far (p := ⟨gb189, 1, none⟩) (Kd.Q_far (p := ⟨gb189, 0, none⟩) (Kd.Q_types HO_123002.out BK189.out (by decide)) (fun _ hk => hk.2) (.int .i64 t182)) (fun _ hk => hk.2) (.int .i64 t183)) (fun _ hk => hk.2) (.slice Ao325 t184.length co325)) (fun _ h_ => h_.1)))); have n2_ := aK (Kd.Q_elder' e3_.out (Kd.R_base ho0) hb); have e2_ := aQ hb (pQ ((Kd.Q_mono (Kd.Q_far (p := ⟨gb189, 2, none⟩) (Kd.Q_far (p := ⟨gb189, 1, none⟩) (Kd.Q_far (p := ⟨gb189, 0, none⟩) (Kd.Q_types HO_130002.out BK189.out (by decide)) (fun _ hk => hk.2) (.int .i64 t182)) (fun _ hk => hk.2) (.int .i64 t183)) (fun _ hk => hk.2) (.slice Ao325 t184.length co325)) (fun _ h_ => h_.1)))); have n3_ := aK (Kd.Q_elder' e2_.out (Kd.R_base ho0) hb); have e1_ := aQ hb (pQ ((Kd.Q_mono (Kd.Q_far (p := ⟨gb189, 2, none⟩) (Kd.Q_far (p := ⟨gb189, 1, none⟩) (Kd.Q_far (p := ⟨gb189, 0, none⟩) (Kd.Q_types HO_137002.out BK189.out (by decide)) (fun _ hk => hk.2) (.int .i64 t182)) (fun _ hk => hk.2) (.int .i64 t183)) (fun _ hk => hk.2) (.slice Ao325 t184.length co325)) (fun _ h_ => h_.1)))); have n4_ := aK (Kd.Q_elder' e1_.out (Kd.R_base ho0) hb); have e6_ := aQ hb (pQ ((Kd.Q_mono (Kd.Q_far (p := ⟨gb189, 2, none⟩) (Kd.Q_far (p := ⟨gb189, 1, none⟩) (Kd.Q_far (p := ⟨gb189, 0, none⟩) (Kd.Q_types HO186.out BK189.out (by decide)) (fun _ hk => hk.2) (.int .i64 t182)) (fun _ hk => hk.2) (.int .i64 t183)) (fun _ hk => hk.2) (.slice Ao325 t184.length co325)) (fun _ h_ => h_.1)))); have n5_ := aK (Kd.Q_elder' e6_.out (Kd.R_base ho0) hb); have HO194 := aK (Kd.R_lower (Kd.R_new' (Kd.R_new' (Kd.R_new' (Kd.R_new' (Kd.R_new' (Kd.R_new' ho0 (Kd.Q_lt e5_.out)) (Kd.Q_lt e4_.out)) (Kd.Q_lt e3_.out)) (Kd.Q_lt e2_.out)) (Kd.Q_lt e1_.out)) (Kd.Q_lt e6_.out)) (below_size (pS HB.out))); clear e6_; clear e5_; clear e4_; clear e3_; clear e2_; clear e1_; have n7_ := aK (blk_below (g := gb189) (o := .cells #[.int .i64 t182, .int .i64 t183, .slice Ao325 t184.length co325] 26 (0, 0)) (by refine bk ?_; refine blk_put (cs := #[.int .i64 t182, .int .i64 t183, .slice none 0 0]) ?_ 2 _ rfl; refine bk ?_; refine blk_put (cs := #[.int .i64 t182, .int .i64 0, .slice none 0 0]) ?_ 1 _ rfl; refine bk ?_; refine blk_put (cs := #[.int .i64 0, .int .i64 0, .slice none 0 0]) ?_ 0 _ rfl; refine bk ?_; exact BK189.out) hb); replace HB := bS HB hb; clear HO_109002 HO_116002 HO_123002 HO_130002 HO_137002 HO186 BK189; have HO_109002 := n0_; have HO_116002 := n1_; have HO_123002 := n2_; have HO_130002 := n3_; have HO_137002 := n4_; have HO186 := n5_; have BK189 := n7_; clear n0_ n1_ n2_ n3_ n4_ n5_ n7_; (try clear hb); (try clear hb2); (try clear hk); (try clear hi); (try clear ho0)) | ((with_reducible refine gate_dst (N := 25) rfl ?_); refine bxe (cs := #[.int .i64 0, .int .i64 0, .slice none 0 0]) (t := 26) ?_; intro gb196 hg w327 hbox hb; have n0_ := aK (Kd.Q_below (pQ HO_109002.out) hb); have n1_ := aK (Kd.Q_below (pQ HO_116002.out) hb); have n2_ := aK (Kd.Q_below (pQ HO_123002.out) hb); have n3_ := aK (Kd.Q_below (pQ HO_130002.out) hb); have n4_ := aK (Kd.Q_below (pQ HO_137002.out) hb); have n5_ := aK (Kd.Q_below (pQ HO186.out) hb); have n6_ := aK (Kd.R_below (pR HO194.out) hb); have BK196 := aK (hbox); have GW196 := aK (gE hg (pS HB.out)); have GE196 := aK (gE hg (pS HB.out)); have NB189_196 := aK (nL hg (pB BK189.out)); have NB196_189 := aK (nG hg (pB BK189.out)); replace BK189 := bB BK189 hb; replace HB := bS HB hb; clear HO_109002 HO_116002 HO_123002 HO_130002 HO_137002 HO186 HO194; have HO_109002 := n0_; have HO_116002 := n1_; have HO_123002 := n2_; have HO_130002 := n3_; have HO_137002 := n4_; have HO186 := n5_; have HO194 := n6_; clear n0_ n1_ n2_ n3_ n4_ n5_ n6_ hb hbox hg; have hnb328 := NB196_189.out; have hnc328 := NB189_196.out; obtain ⟨hcz329_0, hcz329_1, hcz329_2, hfz329_0, hfz329_1, hfz329_2⟩ := bc3 BK196.out; obtain ⟨Ao330, co330, eo330⟩ := Kd.R_slice HO194.out; subst eo330; obtain ⟨hcz331_0, hcz331_1, hcz331_2, hfz331_0, hfz331_1, hfz331_2⟩ := bc3 BK189.out) | (go_at_call 28; (with_reducible refine (spec_CoverageFilter.calls kj194 t182 t183 _ _ t184 t187 t188 t197 t198 t199 t202 _ ?side1 ?side2 A302.out).mono ?_); (case side1 => refine (Kd.Q_reads' (e := 3) (base := w.heap.size) (ok := fun k_ => ((((((True ∧ some k_ ≠ (.slice Ao14 t104.length co14 : Value).ownBlock) ∧ some k_ ≠ (.slice Ao19 t111.length co19 : Value).ownBlock) ∧ some k_ ≠ (.slice Ao26 t118.length co26 : Value).ownBlock) ∧ some k_ ≠ (.slice Ao34 t125.length co34 : Value).ownBlock) ∧ some k_ ≠ (.slice Ao43 t132.length co43 : Value).ownBlock) ∧ some k_ ≠ (.slice Ao330 t192.length co330 : Value).ownBlock)) (n := t184.length) (c := co325) ?_).2.2; exact (pQ ((Kd.Q_mono (Kd.Q_far (p := ⟨gb196, 2, none⟩) (Kd.Q_far (p := ⟨gb196, 1, none⟩) (Kd.Q_far (p := ⟨gb196, 0, none⟩) (Kd.Q_types HO186.out BK196.out (by decide)) (fun _ hk => hk.2) (.int .i64 t190)) (fun _ hk => hk.2) (.int .i64 t191)) (fun _ hk => hk.2) (.slice Ao330 t192.length co330)) (fun _ h_ => h_.1))))); (case side2 => exact (Kd.Q_reads' HO186.out).2.1); rintro e w332 ⟨v200, rfl, ho0, hb⟩; have e5_ := aQ hb (pQ ((Kd.Q_mono (Kd.Q_far (p := ⟨gb196, 2, none⟩) (Kd.Q_far (p := ⟨gb196, 1, none⟩) (Kd.Q_far (p := ⟨gb196, 0, none⟩) (Kd.Q_types HO_109002.out BK196.out (by decide)) (fun _ hk => hk.2) (.int .i64 t190)) (fun _ hk => hk.2) (.int .i64 t191)) (fun _ hk => hk.2) (.slice Ao330 t192.length co330)) (fun _ h_ => h_.1)))); have n0_ := aK (Kd.Q_elder' e5_.out (Kd.R_base ho0) hb); have e4_ := aQ hb (pQ ((Kd.Q_mono (Kd.Q_far (p := ⟨gb196, 2, none⟩) (Kd.Q_far (p := ⟨gb196, 1, none⟩) (Kd.Q_far (p := ⟨gb196, 0, none⟩) (Kd.Q_types HO_116002.out BK196.out (by decide)) (fun _ hk => hk.2) (.int .i64 t190)) (fun _ hk => hk.2) (.int .i64 t191)) (fun _ hk => hk.2) (.slice Ao330 t192.length co330)) (fun _ h_ => h_.1)))); have n1_ := aK (Kd.Q_elder' e4_.out (Kd.R_base ho0) hb); have e3_ := aQ hb (pQ ((Kd.Q_mono (Kd.Q_far (p := ⟨gb196, 2, none⟩) (Kd.Q_far (p := ⟨gb196, 1, none⟩) (Kd.Q_far (p := ⟨gb196, 0, none⟩) (Kd.Q_types HO_123002.out BK196.out (by decide)) (fun _ hk => hk.2) (.int .i64 t190)) (fun _ hk => hk.2) (.int .i64 t191)) (fun _ hk => hk.2) (.slice Ao330 t192.length co330)) (fun _ h_ => h_.1)))); have n2_ := aK (Kd.Q_elder' e3_.out (Kd.R_base ho0) hb); have e2_ := aQ hb (pQ ((Kd.Q_mono (Kd.Q_far (p := ⟨gb196, 2, none⟩) (Kd.Q_far (p := ⟨gb196, 1, none⟩) (Kd.Q_far (p := ⟨gb196, 0, none⟩) (Kd.Q_types HO_130002.out BK196.out (by decide)) (fun _ hk => hk.2) (.int .i64 t190)) (fun _ hk => hk.2) (.int .i64 t191)) (fun _ hk => hk.2) (.slice Ao330 t192.length co330)) (fun _ h_ => h_.1)))); have n3_ := aK (Kd.Q_elder' e2_.out (Kd.R_base ho0) hb); have e1_ := aQ hb (pQ ((Kd.Q_mono (Kd.Q_far (p := ⟨gb196, 2, none⟩) (Kd.Q_far (p := ⟨gb196, 1, none⟩) (Kd.Q_far (p := ⟨gb196, 0, none⟩) (Kd.Q_types HO_137002.out BK196.out (by decide)) (fun _ hk => hk.2) (.int .i64 t190)) (fun _ hk => hk.2) (.int .i64 t191)) (fun _ hk => hk.2) (.slice Ao330 t192.length co330)) (fun _ h_ => h_.1)))); have n4_ := aK (Kd.Q_elder' e1_.out (Kd.R_base ho0) hb); have e7_ := aQ hb (pQ ((Kd.Q_mono (Kd.Q_far (p := ⟨gb196, 2, none⟩) (Kd.Q_far (p := ⟨gb196, 1, none⟩) (Kd.Q_far (p := ⟨gb196, 0, none⟩) (Kd.Q_types HO186.out BK196.out (by decide)) (fun _ hk => hk.2) (.int .i64 t190)) (fun _ hk => hk.2) (.int .i64 t191)) (fun _ hk => hk.2) (.slice Ao330 t192.length co330)) (fun _ h_ => h_.1)))); have n5_ := aK (Kd.Q_elder' e7_.out (Kd.R_base ho0) hb); have e6_ := aR hb (pR ((Kd.R_mono (Kd.R_far (p := ⟨gb196, 2, none⟩) (Kd.R_far (p := ⟨gb196, 1, none⟩) (Kd.R_far (p := ⟨gb196, 0, none⟩) (Kd.R_types HO194.out BK196.out (by decide)) (fun _ hk => hk.2) (.int .i64 t190)) (fun _ hk => hk.2) (.int .i64 t191)) (fun _ hk => hk.2) (.slice Ao330 t192.length co330)) (fun _ h_ => h_.1)))); have n6_ := aK (Kd.R_elder' e6_.out (Kd.R_base ho0) hb); have HO201 := aK (Kd.R_lower (Kd.R_new' (Kd.R_new' (Kd.R_new' (Kd.R_new' (Kd.R_new' (Kd.R_new' (Kd.R_new' ho0 (Kd.Q_lt e5_.out)) (Kd.Q_lt e4_.out)) (Kd.Q_lt e3_.out)) (Kd.Q_lt e2_.out)) (Kd.Q_lt e1_.out)) (Kd.Q_lt e7_.out)) (Kd.R_lt e6_.out)) (below_size (pS HB.out))); clear e7_; clear e6_; clear e5_; clear e4_; clear e3_; clear e2_; clear e1_; have n8_ := aK (blk_below (g := gb196) (o := .cells #[.int .i64 t190, .int .i64 t191, .slice Ao330 t192.length co330] 26 (0, 0)) (by refine bk ?_; refine blk_put (cs := #[.int .i64 t190, .int .i64 t191, .slice none 0 0]) ?_ 2 _ rfl; refine bk ?_; refine blk_put (cs := #[.int .i64 t190, .int .i64 0, .slice none 0 0]) ?_ 1 _ rfl; refine bk ?_; refine blk_put (cs := #[.int .i64 0, .int .i64 0, .slice none 0 0]) ?_ 0 _ rfl; refine bk ?_; exact BK196.out) hb); replace HB := bS HB hb; clear HO_109002 HO_116002 HO_123002 HO_130002 HO_137002 HO186 HO194 BK196; have HO_109002 := n0_; have HO_116002 := n1_; have HO_123002 := n2_; have HO_130002 := n3_; have HO_137002 := n4_; have HO186 := n5_; have HO194 := n6_; have BK196 := n8_; clear n0_ n1_ n2_ n3_ n4_ n5_ n6_ n8_; (try clear hb); (try clear hb2); (try clear hk); (try clear hi); (try clear ho0)) | ((with_reducible refine gate_dst (N := 27) rfl ?_); refine bxe (cs := #[.int .i64 0, .int .i64 0, .slice none 0 0]) (t := 26) ?_; intro gb203 hg w333 hbox hb; have n0_ := aK (Kd.Q_below (pQ HO_109002.out) hb); have n1_ := aK (Kd.Q_below (pQ HO_116002.out) hb); have n2_ := aK (Kd.Q_below (pQ HO_123002.out) hb); have n3_ := aK (Kd.Q_below (pQ HO_130002.out) hb); have n4_ := aK (Kd.Q_below (pQ HO_137002.out) hb); have n5_ := aK (Kd.Q_below (pQ HO186.out) hb); have n6_ := aK (Kd.R_below (pR HO194.out) hb); have n7_ := aK (Kd.R_below (pR HO201.out) hb); have BK203 := aK (hbox); have GW203 := aK (gE hg (pS HB.out)); have GE203 := aK (gE hg (pS HB.out)); replace HB := bS HB hb; clear HO_109002 HO_116002 HO_123002 HO_130002 HO_137002 HO186 HO194 HO201; have HO_109002 := n0_; have HO_116002 := n1_; have HO_123002 := n2_; have HO_130002 := n3_; have HO_137002 := n4_; have HO186 := n5_; have HO194 := n6_; have HO201 := n7_; clear n0_ n1_ n2_ n3_ n4_ n5_ n6_ n7_ hb hbox hg; obtain ⟨hcz334_0, hcz334_1, hcz334_2, hfz334_0, hfz334_1, hfz334_2⟩ := bc3 BK203.out; obtain ⟨Ao335, co335, eo335⟩ := Kd.R_slice HO201.out; subst eo335))
         go_ret
         exact ⟨by first | rfl | (simp [errW_none, errW_some] <;> rfl) | (simp [*, errW_none, errW_some] <;> rfl), pT HB.out⟩
def laws_FnFilters.Pure : Prop := ∀ (l0 : List Int), (l0.length ≤ 9223372036854775807 ∧ ∀ z0 ∈ l0, (Lit.int .u8 z0).wf = true) → l0.length * 1 ≤ 140737488351232 → ∃ k, laws_FnFilters.f k l0 = some true
end Go.Proofs.Ythekngnkajjhnaa.P
