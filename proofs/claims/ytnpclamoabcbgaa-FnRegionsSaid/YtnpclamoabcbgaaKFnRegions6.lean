/- Texts of the claim FnRegions, merged: part 6 of 7: the program's and the reference's functions as Lean functions, the walks that show it, and plain lemmas; no conditions. -/
import Derived.Test.YtnpclamoabcbgaaKFnRegions2
import Derived.Test.YtnpclamoabcbgaaKFnRegions5
import Derived.Test.YtnpclamoabcbgaaKFnRegions3
import Derived.Test.YtnpclamoabcbgaaKFnRegions4
import Derived.Test.YtnpclamoabcbgaaKFnRegions1
import Derived.ProofKit
import Derived.OpenShut
import Derived.Deep.Slices
import Derived.Deep.Strs
import Derived.Deep.Fields
import Derived.Lib.SmallJoins
import Derived.Laws.BitsLemmas
import Derived.Laws.Bits64
namespace Go.Proofs.Ytnpclamoabcbgaa.P
open Go.RowKit Go.Proofs.YtnpclamoabcbgaaW.PrintWords Go.Proofs.YtnpclamoabcbgaaW.PrintLast Go.Proofs.YtnpclamoabcbgaaW.PrintMore
attribute [local go_sem] max2_int min2_int max_two min_two max_three min_three max_four min_four
set_option linter.unusedVariables false
set_option linter.unusedSimpArgs false
set_option maxHeartbeats 8000000
set_option maxRecDepth 100000
def impl_RegionParts.f (k : Nat) (a0 : Int) (a1 : Int) (l2 : List Int) : Option ((List (List Int)) × Bool) := (impl_isRegion.f k a0 a1 l2).bind fun t101 => (if t101 = true then ((impl_regionParts.f a0 l2).bind fun t102 => (some (t102, true))) else (some (([] : List (List Int)), false)))
theorem impl_RegionParts.calls (k : Nat) (a0 : Int) (a1 : Int) (A2 : Option Addr) (c2 : Nat) (l2 : List Int) (r1 : List (List Int)) (r2 : Bool) (w : World) (hr2 : Kd.C (Kd.int .i64) w A2 l2.length l2) (hc2 : l2.length ≤ c2) (h : impl_RegionParts.f k a0 a1 l2 = some (r1, r2)) :
  Calls Try.prog 7 #[.int .i64 a0, .int .i64 a1, .slice A2 l2.length c2] w fun e w' => ∃ v0_ : Value, e = .returned (.tuple #[v0_, .bool r2]) ∧ Kd.S (Kd.slice 3 (Kd.int .i64)) 22 w' w.heap.size (fun _ => True) v0_ r1 ∧ Below w.heap.size w w' := by
 have HR2 := Aside0.mk hr2
 have HC2 := Aside0.mk hc2
 clear hr2 hc2
 have HB := aK (Below.refl w.heap.size w)
 have H : ((impl_isRegion.f k a0 a1 l2).bind fun t101 => (if t101 = true then ((impl_regionParts.f a0 l2).bind fun t102 => (some (t102, true))) else (some (([] : List (List Int)), false)))) = some (r1, r2) := h
 clear h
 replace H := Option.bind_eq_some_iff.mp H
 obtain ⟨t101, A40, H⟩ := H
 replace H : (if t101 = true then ((impl_regionParts.f a0 l2).bind fun t102 => (some (t102, true))) else (some (([] : List (List Int)), false))) = some (r1, r2) := H
 have A4 := Aside0.mk A40
 clear A40
 by_cases c5 : t101 = true
 ·
  subst c5
  have H1 : ((impl_regionParts.f a0 l2).bind fun t102 => (some (t102, true))) = some (r1, r2) := by rw [if_pos rfl] at H; exact H
  clear H
  have H := H1
  clear H1
  replace H := Option.bind_eq_some_iff.mp H
  obtain ⟨t102, A60, H⟩ := H
  replace H : (some (t102, true)) = some (r1, r2) := H
  have A6 := Aside0.mk A60
  clear A60
  simp only [Option.some.injEq, Prod.mk.injEq] at H
  obtain ⟨rfl, rfl⟩ := H
  go_enter Try.func7, Try.ntmps7
  go_wp2_with (first | ((with_reducible refine gate_callee (f := 24) rfl ?_); refine gl (some 11) Try.func24 #[.int .i64 a0, .int .i64 a1, .slice A2 l2.length c2] ?_; (with_reducible refine (impl_isRegion.calls k a0 a1 _ _ l2 true _ ?side1 ?side2 A4.out).mono ?_); (case side1 => exact pC HR2.out); (case side2 => exact HC2.out); rintro e w' ⟨rfl, ⟨nd, rfl⟩⟩; refine ⟨_, rfl, ?_⟩) | ((with_reducible refine gate_callee (f := 25) rfl ?_); refine gl (some 15) Try.func25 #[.int .i64 a0, .slice A2 l2.length c2] ?_; (with_reducible refine (impl_regionParts.calls a0 _ _ l2 t102 _ ?side1 ?side2 A6.out).mono ?_); (case side1 => exact pC HR2.out); (case side2 => exact HC2.out); rintro e w7 ⟨v103, rfl, ho0, hb⟩; refine ⟨_, rfl, ?_⟩; have HO104 := aK (Kd.S_lower ho0 (below_size (pS HB.out))); replace HB := bS HB hb; (try clear hb); (try clear hb2); (try clear hk); (try clear hi); (try clear ho0)))
  go_ret2
  exact ⟨_, er, by (with_reducible repeat (first | apply Kd.S_alloc | apply Kd.S_drewN | apply Kd.S_drew)); exact HO104.out, pT HB.out⟩
 replace c5 := Bool.eq_false_iff.mpr c5
 subst c5
 have H1 : (some (([] : List (List Int)), false)) = some (r1, r2) := by rw [if_neg (show ¬ (false = true) by decide)] at H; exact H
 clear H
 have H := H1
 clear H1
 simp only [Option.some.injEq, Prod.mk.injEq] at H
 obtain ⟨rfl, rfl⟩ := H
 go_enter Try.func7, Try.ntmps7
 go_wp2_with (first | ((with_reducible refine gate_callee (f := 24) rfl ?_); refine gl (some 11) Try.func24 #[.int .i64 a0, .int .i64 a1, .slice A2 l2.length c2] ?_; (with_reducible refine (impl_isRegion.calls k a0 a1 _ _ l2 false _ ?side1 ?side2 A4.out).mono ?_); (case side1 => exact pC HR2.out); (case side2 => exact HC2.out); rintro e w' ⟨rfl, ⟨nd, rfl⟩⟩; refine ⟨_, rfl, ?_⟩))
 go_ret2
 exact ⟨_, er, by first | exact Kd.S_nil _ _ _ _ _ | exact Kd.N_nil _ _ _ _ _ | exact Kd.V_nil _ _ _ _ _ | exact Kd.Q_nil _ _ _ _ _ | exact Kd.R_nil _ _ _ _ _, pT HB.out⟩
mutual
def laws_FnRegions.j0 : Nat → Int → Int → List Int → List (List Int) → Bool → Bool → Option (Bool)
 | 0, _, _, _, _, _, _ => none
 | k + 1, x3, x4, x5, x6, x7, x53 => if x53 = true then (some false) else (if x7 = true then (laws_FnRegions.l0 k x3 x4 x5 x6 0 0) else (some ((x6.length : Int) == 0)))
def laws_FnRegions.l0 : Nat → Int → Int → List Int → List (List Int) → Int → Int → Option (Bool)
 | 0, _, _, _, _, _, _ => none
 | k + 1, x3, x4, x5, x6, x10, x11 => if x11 < (x6.length : Int) then (if 0 ≤ x11 then ((impl_RegionParts.f k x3 x4 (rd_L1 x6 x11)).bind fun bt118 => (if bt118.2 = true then (if (bt118.1.length : Int) = 1 then (laws_FnRegions.l0 k x3 x4 x5 x6 (wrap64 (x10 + ((rd_L1 x6 x11).length : Int))) (wrap64 (x11 + 1))) else (some false)) else (some false))) else (none)) else ((impl_RegionField.f k x3 x4 x5).bind fun bt122 => ((impl_RegionAbove.f k bt122.1 bt122.2.1 bt122.2.2.1 0).bind fun bt129 => ((impl_GrowRegion.f k x3 x4 x5).bind fun bt133 => ((spec_GrowRegion.f k x3 x4 x5).bind fun bt137 => (if (bt133.2 != bt137.2) = true then (laws_FnRegions.j2 k x5 x10 bt122.2.2.2 bt129.1 bt129.2 bt133.1 true) else ((laws_vInts.f k bt133.1 bt137.1).bind fun t141 => (laws_FnRegions.j2 k x5 x10 bt122.2.2.2 bt129.1 bt129.2 bt133.1 (!t141))))))))
def laws_FnRegions.j2 : Nat → List Int → Int → Bool → List Int → Bool → List Int → Bool → Option (Bool)
 | 0, _, _, _, _, _, _, _ => none
 | k + 1, x5, x10, x15, x16, x17, x18, x123 => if x123 = true then (some false) else (laws_FnRegions.l1 k x5 x10 x15 x16 x17 x18 0)
def laws_FnRegions.l1 : Nat → List Int → Int → Bool → List Int → Bool → List Int → Int → Option (Bool)
 | 0, _, _, _, _, _, _, _ => none
 | k + 1, x5, x10, x15, x16, x17, x18, x22 => if x22 < (x5.length : Int) then (if 0 ≤ x22 then ((laws_vHas.f k x18 (rd x5 x22)).bind fun t143 => (if t143 = true then (laws_FnRegions.l1 k x5 x10 x15 x16 x17 x18 (wrap64 (x22 + 1))) else (some false))) else (none)) else (if x10 = (x5.length : Int) then (if x15 = true then (if x17 = true then ((laws_vInts.f k x16 x5).bind fun t144 => (some t144)) else (some false)) else (some false)) else (some false))
end
def laws_FnRegions.f (k : Nat) (l0 : List Int) : Option (Bool) := (laws_vBig.f l0).bind fun t101 => (if t101 = true then (some true) else ((spec_DrawRegionParts.f k l0).bind fun bt102 => ((impl_RegionParts.f k bt102.1 bt102.2.1 bt102.2.2).bind fun bt107 => ((spec_RegionParts.f k bt102.1 bt102.2.1 bt102.2.2).bind fun bt111 => (if (bt107.2 != bt111.2) = true then (laws_FnRegions.j0 k bt102.1 bt102.2.1 bt102.2.2 bt107.1 bt107.2 true) else ((laws_vTable.f k bt107.1 bt111.1).bind fun t115 => (laws_FnRegions.j0 k bt102.1 bt102.2.1 bt102.2.2 bt107.1 bt107.2 (!t115))))))))
theorem laws_FnRegions.calls (k : Nat) (A0 : Option Addr) (c0 : Nat) (l0 : List Int) (r : Bool) (w : World) (hr0 : Kd.C (Kd.int .u8) w A0 l0.length l0) (hc0 : l0.length ≤ c0) (h : laws_FnRegions.f k l0 = some r) :
  Calls Try.prog 4 #[.slice A0 l0.length c0] w fun e w' => e = .returned (.bool r) ∧ Below w.heap.size w w' := by
 have hu37 := Try.underlying37
 have HR0 := Aside0.mk hr0
 have HC0 := Aside0.mk hc0
 clear hr0 hc0
 have HB := aK (Below.refl w.heap.size w)
 have H : ((laws_vBig.f l0).bind fun t101 => (if t101 = true then (some true) else ((spec_DrawRegionParts.f k l0).bind fun bt102 => ((impl_RegionParts.f k bt102.1 bt102.2.1 bt102.2.2).bind fun bt107 => ((spec_RegionParts.f k bt102.1 bt102.2.1 bt102.2.2).bind fun bt111 => (if (bt107.2 != bt111.2) = true then (laws_FnRegions.j0 k bt102.1 bt102.2.1 bt102.2.2 bt107.1 bt107.2 true) else ((laws_vTable.f k bt107.1 bt111.1).bind fun t115 => (laws_FnRegions.j0 k bt102.1 bt102.2.1 bt102.2.2 bt107.1 bt107.2 (!t115))))))))) = some r := h
 clear h
 replace H := Option.bind_eq_some_iff.mp H
 obtain ⟨t101, A20, H⟩ := H
 replace H : (if t101 = true then (some true) else ((spec_DrawRegionParts.f k l0).bind fun bt102 => ((impl_RegionParts.f k bt102.1 bt102.2.1 bt102.2.2).bind fun bt107 => ((spec_RegionParts.f k bt102.1 bt102.2.1 bt102.2.2).bind fun bt111 => (if (bt107.2 != bt111.2) = true then (laws_FnRegions.j0 k bt102.1 bt102.2.1 bt102.2.2 bt107.1 bt107.2 true) else ((laws_vTable.f k bt107.1 bt111.1).bind fun t115 => (laws_FnRegions.j0 k bt102.1 bt102.2.1 bt102.2.2 bt107.1 bt107.2 (!t115)))))))) = some r := H
 have A2 := Aside0.mk A20
 clear A20
 by_cases c3 : t101 = true
 ·
  subst c3
  have H1 : (some true) = some r := by rw [if_pos rfl] at H; exact H
  clear H
  have H := H1
  clear H1
  obtain rfl := Option.some.inj H
  go_enter Try.func4, Try.ntmps4
  go_wp2_with (first | ((with_reducible refine gate_callee (f := 13) rfl ?_); refine gl (some 24) Try.func13 #[.slice A0 l0.length c0] ?_; (with_reducible refine (laws_vBig.calls _ _ l0 true _ ?side1 ?side2 A2.out).mono ?_); (case side1 => exact pC HR0.out); (case side2 => exact HC0.out); rintro e w' ⟨rfl, ⟨nd, rfl⟩⟩; refine ⟨_, rfl, ?_⟩))
  go_ret
  exact ⟨er, pT HB.out⟩
 replace c3 := Bool.eq_false_iff.mpr c3
 subst c3
 have H1 : ((spec_DrawRegionParts.f k l0).bind fun bt102 => ((impl_RegionParts.f k bt102.1 bt102.2.1 bt102.2.2).bind fun bt107 => ((spec_RegionParts.f k bt102.1 bt102.2.1 bt102.2.2).bind fun bt111 => (if (bt107.2 != bt111.2) = true then (laws_FnRegions.j0 k bt102.1 bt102.2.1 bt102.2.2 bt107.1 bt107.2 true) else ((laws_vTable.f k bt107.1 bt111.1).bind fun t115 => (laws_FnRegions.j0 k bt102.1 bt102.2.1 bt102.2.2 bt107.1 bt107.2 (!t115))))))) = some r := by rw [if_neg (show ¬ (false = true) by decide)] at H; exact H
 clear H
 have H := H1
 clear H1
 replace H := Option.bind_eq_some_iff.mp H
 obtain ⟨⟨t102, t103, t104⟩, A40, H⟩ := H
 replace H : ((impl_RegionParts.f k t102 t103 t104).bind fun bt107 => ((spec_RegionParts.f k t102 t103 t104).bind fun bt111 => (if (bt107.2 != bt111.2) = true then (laws_FnRegions.j0 k t102 t103 t104 bt107.1 bt107.2 true) else ((laws_vTable.f k bt107.1 bt111.1).bind fun t115 => (laws_FnRegions.j0 k t102 t103 t104 bt107.1 bt107.2 (!t115)))))) = some r := H
 have A4 := Aside0.mk A40
 clear A40
 replace H := Option.bind_eq_some_iff.mp H
 obtain ⟨⟨t107, t108⟩, A50, H⟩ := H
 replace H : ((spec_RegionParts.f k t102 t103 t104).bind fun bt111 => (if (t108 != bt111.2) = true then (laws_FnRegions.j0 k t102 t103 t104 t107 t108 true) else ((laws_vTable.f k t107 bt111.1).bind fun t115 => (laws_FnRegions.j0 k t102 t103 t104 t107 t108 (!t115))))) = some r := H
 have A5 := Aside0.mk A50
 clear A50
 replace H := Option.bind_eq_some_iff.mp H
 obtain ⟨⟨t111, t112⟩, A60, H⟩ := H
 replace H : (if (t108 != t112) = true then (laws_FnRegions.j0 k t102 t103 t104 t107 t108 true) else ((laws_vTable.f k t107 t111).bind fun t115 => (laws_FnRegions.j0 k t102 t103 t104 t107 t108 (!t115)))) = some r := H
 have A6 := Aside0.mk A60
 clear A60
 have HC7 := Aside0.mk H
 clear H
 go_enter Try.func4, Try.ntmps4
 go_upto_region 6 with (first | ((with_reducible refine gate_callee (f := 13) rfl ?_); refine gl (some 24) Try.func13 #[.slice A0 l0.length c0] ?_; (with_reducible refine (laws_vBig.calls _ _ l0 false _ ?side1 ?side2 A2.out).mono ?_); (case side1 => exact pC HR0.out); (case side2 => exact HC0.out); rintro e w' ⟨rfl, ⟨nd, rfl⟩⟩; refine ⟨_, rfl, ?_⟩) | ((with_reducible refine gate_callee (f := 14) rfl ?_); refine gl (some 27) Try.func14 #[.slice A0 l0.length c0] ?_; (with_reducible refine (spec_DrawRegionParts.calls k _ _ l0 t102 t103 t104 _ ?side1 ?side2 A4.out).mono ?_); (case side1 => exact pC HR0.out); (case side2 => exact HC0.out); rintro e w8 ⟨v105, rfl, ho0, hb⟩; refine ⟨_, rfl, ?_⟩; have HO106 := aK (Kd.R_lower ho0 (below_size (pS HB.out))); replace HB := bS HB hb; (try clear hb); (try clear hb2); (try clear hk); (try clear hi); (try clear ho0); obtain ⟨Ao9, co9, eo9⟩ := Kd.R_slice HO106.out; subst eo9) | ((with_reducible refine gate_callee (f := 7) rfl ?_); refine gl (some 35) Try.func7 #[.int .i64 t102, .int .i64 t103, .slice Ao9 t104.length co9] ?_; (with_reducible refine (impl_RegionParts.calls k t102 t103 _ _ t104 t107 t108 _ ?side1 ?side2 A5.out).mono ?_); (case side1 => exact pC (Kd.R_reads' HO106.out).2.2); (case side2 => exact (Kd.R_reads' HO106.out).2.1); rintro e w10 ⟨v109, rfl, ho0, hb⟩; refine ⟨_, rfl, ?_⟩; have n0_ := aK (Kd.R_below (pR HO106.out) hb); have HO110 := aK (Kd.S_lower (Kd.S_new' ho0 (Kd.R_lt (pR HO106.out))) (below_size (pS HB.out))); replace HB := bS HB hb; clear HO106; have HO106 := n0_; clear n0_; (try clear hb); (try clear hb2); (try clear hk); (try clear hi); (try clear ho0)) | ((with_reducible refine gate_callee (f := 5) rfl ?_); refine gl (some 42) Try.func5 #[.int .i64 t102, .int .i64 t103, .slice Ao9 t104.length co9] ?_; (with_reducible refine (spec_RegionParts.calls k t102 t103 _ _ t104 t111 t112 _ ?side1 ?side2 A6.out).mono ?_); (case side1 => exact pC (Kd.R_reads' HO106.out).2.2); (case side2 => exact (Kd.R_reads' HO106.out).2.1); rintro e w11 ⟨v113, rfl, ho0, hb⟩; refine ⟨_, rfl, ?_⟩; have n0_ := aK (Kd.R_below (pR HO106.out) hb); have n1_ := aK (Kd.S_elder' (by (with_reducible repeat (first | apply Kd.S_alloc | apply Kd.S_drewN | apply Kd.S_drew)); exact HO110.out) (Kd.S_base ho0) hb); have HO114 := aK (Kd.S_lower (Kd.S_new' (Kd.S_new' ho0 (Kd.R_lt (pR HO106.out))) (Kd.S_lt (by (with_reducible repeat (first | apply Kd.S_alloc | apply Kd.S_drewN | apply Kd.S_drew)); exact HO110.out))) (below_size (pS HB.out))); replace HB := bS HB hb; clear HO106 HO110; have HO106 := n0_; have HO110 := n1_; clear n0_ n1_; (try clear hb); (try clear hb2); (try clear hk); (try clear hi); (try clear ho0)))
 (try simp only [Act.put, List.setIfInBounds_toArray, List.set_cons_zero, List.set_cons_succ])
 go_cut [53] (fun v53 wc => ∃ (kq : Nat) (x53_6 : Bool), v53 = .bool x53_6 ∧ Aside0 (laws_FnRegions.j0 kq t102 t103 t104 t107 t108 x53_6 = some r) ∧ Aside0 (kq ≤ k) ∧ Aside0 (Kd.R (Kd.int .i64) 3 wc w.heap.size (fun _ => True) (.slice Ao9 t104.length co9) t104) ∧ Aside0 (Kd.S (Kd.slice 3 (Kd.int .i64)) 22 wc w.heap.size (fun k_ => some k_ ≠ ((.slice Ao9 t104.length co9) : Value).ownBlock) v109 t107) ∧ Aside0 (Below w.heap.size w wc))
 case first =>
  have H := HC7.out
  clear HC7
  by_cases c12 : (t108 != t112) = true
  ·
   rw [if_pos c12] at H
   have c12b0 : (t108 != t112) = true := c12
   (try (have c12b1 : decide (t108 = t112) = false := by simpa using c12))
   (try (have c12b2 : (t108 == t112) = false := by simpa using c12))
   (try (have c12b3 : ¬ (t108 = t112) := by simpa using c12))
   clear c12
   (first | rw [c12b0] | (simp only [i64_w, i32_w]; rw [c12b0]) | skip)
   have H' := Aside0.mk H
   clear H
   go_wp2
   go_meet
   case rel => exact ⟨_, (true), (by first | rfl | (simp; done) | (simp [*]; done)), H', ⟨by first | omega | exact Nat.le_refl _⟩, ⟨pR HO106.out⟩, ⟨by (with_reducible repeat (first | apply Kd.S_alloc | apply Kd.S_drewN | apply Kd.S_drew)); exact Kd.S_mono HO110.out (fun _ hk => hk.1.2)⟩, ⟨pT HB.out⟩⟩
  rw [if_neg c12] at H
  have c12b0 : (t108 != t112) = false := by simpa using c12
  (try (have c12b1 : decide (t108 = t112) = true := by simpa using c12))
  (try (have c12b2 : (t108 == t112) = true := by simpa using c12))
  clear c12
  (first | rw [c12b0] | (simp only [i64_w, i32_w]; rw [c12b0]) | skip)
  replace H := Option.bind_eq_some_iff.mp H
  obtain ⟨t115, A130, H⟩ := H
  replace H : (laws_FnRegions.j0 k t102 t103 t104 t107 t108 (!t115)) = some r := H
  have A13 := Aside0.mk A130
  clear A130
  have H' := Aside0.mk H
  clear H
  obtain ⟨Ao14, co14, eo14⟩ := Kd.S_slice HO110.out
  subst eo14
  obtain ⟨Ao15, co15, eo15⟩ := Kd.S_slice HO114.out
  subst eo15
  go_wp2_with (first | (go_at_call 15; (with_reducible refine (laws_vTable.calls k _ _ t107 _ _ t111 t115 _ ?side1 ?side2 ?side3 ?side4 A13.out).mono ?_); (case side1 => exact pC (Kd.S_reads' HO110.out).2.2); (case side2 => exact (Kd.S_reads' HO110.out).2.1); (case side3 => exact pC (Kd.S_reads' HO114.out).2.2); (case side4 => exact (Kd.S_reads' HO114.out).2.1); rintro e w' ⟨rfl, ⟨nd, rfl⟩⟩))
  go_meet
  case rel => exact ⟨_, (!t115), (by first | rfl | (simp; done) | (simp [*]; done)), H', ⟨by first | omega | exact Nat.le_refl _⟩, ⟨pR HO106.out⟩, ⟨by (with_reducible repeat (first | apply Kd.S_alloc | apply Kd.S_drewN | apply Kd.S_drew)); exact Kd.S_mono HO110.out (fun _ hk => hk.1.2)⟩, ⟨pT HB.out⟩⟩
 case rest =>
  clear HC7
  try clear c1
  try clear p2
  try clear c3
  try clear c4
  try clear c5
  try clear c7
  try clear c12
  try clear c12b0
  try clear c12b1
  try clear c12b2
  try clear c13
  try clear c14
  obtain ⟨kq, x53_6, rfl, HA, HJ6, HO_5, HO_6, HB⟩ := hcut
  cases kq with
  | zero => exact absurd HA.out (by simp [laws_FnRegions.j0])
  | succ kj6 =>
   have H := HA.out
   clear HA
   simp only [laws_FnRegions.j0] at H
   by_cases c16 : x53_6 = true
   ·
    subst c16
    have H1 : (some false) = some r := by rw [if_pos rfl] at H; exact H
    clear H
    have H := H1
    clear H1
    obtain rfl := Option.some.inj H
    go_wp2
    go_ret
    exact ⟨er, pT HB.out⟩
   replace c16 := Bool.eq_false_iff.mpr c16
   subst c16
   have H1 : (if t108 = true then (laws_FnRegions.l0 kj6 t102 t103 t104 t107 0 0) else (some ((t107.length : Int) == 0))) = some r := by rw [if_neg (show ¬ (false = true) by decide)] at H; exact H
   clear H
   have H := H1
   clear H1
   by_cases c17 : t108 = true
   ·
    subst c17
    have H1 : (laws_FnRegions.l0 kj6 t102 t103 t104 t107 0 0) = some r := by rw [if_pos rfl] at H; exact H
    clear H
    have H := H1
    clear H1
    have H' := Aside0.mk H
    clear H
    go_wp2
    go_loopg [10, 11] kj6 (fun kq v10 v11 w' => ∃ (x10_2 : Int) (x11_2 : Int), v10 = .int .i64 x10_2 ∧ v11 = .int .i64 x11_2 ∧ Aside0 (laws_FnRegions.l0 kq t102 t103 t104 t107 x10_2 x11_2 = some r) ∧ Aside0 (kq ≤ kj6) ∧ Aside0 (Kd.R (Kd.int .i64) 3 w' w.heap.size (fun _ => True) (.slice Ao9 t104.length co9) t104) ∧ Aside0 (Kd.S (Kd.slice 3 (Kd.int .i64)) 22 w' w.heap.size (fun k_ => some k_ ≠ ((.slice Ao9 t104.length co9) : Value).ownBlock) v109 t107) ∧ Aside0 (Below w.heap.size w w'))
    case atStart => exact ⟨(0), (0), (by first | rfl | (simp; done) | (simp [*]; done)), (by first | rfl | (simp; done) | (simp [*]; done)), H', ⟨Nat.le_refl _⟩, ⟨pR HO_5.out⟩, ⟨by (with_reducible repeat (first | apply Kd.S_alloc | apply Kd.S_drewN | apply Kd.S_drew)); exact HO_6.out⟩, ⟨pT HB.out⟩⟩
    case round =>
     clear H'
     try clear c1
     try clear p2
     try clear c3
     try clear c4
     try clear c5
     try clear c7
     try clear c12
     try clear c12b0
     try clear c12b1
     try clear c12b2
     try clear c13
     try clear c14
     try clear c16
     try clear c17
     try clear p2
     obtain ⟨x10_2, x11_2, rfl, rfl, HA, HK2, HO_5, HO_6, HB⟩ := hrel
     cases gk with
     | zero => exact absurd HA.out (by simp [laws_FnRegions.l0])
     | succ k2 =>
      have H := HA.out
      clear HA
      simp only [laws_FnRegions.l0] at H
      by_cases c18 : x11_2 < (t107.length : Int)
      ·
       rw [if_pos c18] at H
       have c18b0 : decide (x11_2 < (t107.length : Int)) = true := decide_eq_true c18
       clear c18
       by_cases c19 : 0 ≤ x11_2
       ·
        rw [if_pos c19] at H
        have c19b0 : decide (0 ≤ x11_2) = true := decide_eq_true c19
        clear c19
        replace H := Option.bind_eq_some_iff.mp H
        obtain ⟨⟨t118, t119⟩, A200, H⟩ := H
        replace H : (if t119 = true then (if (t118.length : Int) = 1 then (laws_FnRegions.l0 k2 t102 t103 t104 t107 (wrap64 (x10_2 + ((rd_L1 t107 x11_2).length : Int))) (wrap64 (x11_2 + 1))) else (some false)) else (some false)) = some r := H
        have A20 := Aside0.mk A200
        clear A200
        by_cases c21 : t119 = true
        ·
         subst c21
         have H1 : (if (t118.length : Int) = 1 then (laws_FnRegions.l0 k2 t102 t103 t104 t107 (wrap64 (x10_2 + ((rd_L1 t107 x11_2).length : Int))) (wrap64 (x11_2 + 1))) else (some false)) = some r := by rw [if_pos rfl] at H; exact H
         clear H
         have H := H1
         clear H1
         by_cases c22 : (t118.length : Int) = 1
         ·
          rw [if_pos c22] at H
          have c22b0 : ((t118.length : Int) == 1) = true := beq_iff_eq.mpr c22
          have c22b1 : ((t118.length : Int) != 1) = false := bne_eq_false_iff_eq.mpr c22
          clear c22
          have H' := Aside0.mk H
          clear H
          obtain ⟨Ao23, co23, eo23⟩ := Kd.S_slice HO_6.out
          subst eo23
          have p116 : 0 ≤ (x11_2 : Int) := of_decide_eq_true (by first | (with_reducible assumption) | assumption)
          have q116 : x11_2 < (t107.length : Int) := of_decide_eq_true (by first | (with_reducible assumption) | assumption)
          obtain ⟨ad116, A116_0, c116_0, e116, hx116_0, hl116_0, hi116_0⟩ := at_L1 (Kd.S_reads' HO_6.out).2.2 x11_2 p116 q116
          cases e116
          obtain ⟨ce116, hce116, hMe116, hcc116⟩ := Kd.S_get HO_6.out [] x11_2 p116 (by first | exact q116 | exact of_decide_eq_true (by first | (with_reducible assumption) | assumption) | (have e_ := (Kd.S_reads' HO_6.out).1; omega))
          obtain ⟨ve116_0, rfl, ge116_0⟩ := hMe116
          have hv116_0 := hcc116 0 _ rfl
          rw [Nat.add_zero, show ((Kd.slice 3 (Kd.int .i64))).sz = 1 from rfl, Nat.mul_one] at hv116_0
          replace hv116_0 := Option.some.inj (hv116_0.symm.trans hx116_0)
          rw [hv116_0] at ge116_0
          have HL116_0 := aK (show Kd.R (Kd.int .i64) 3 _ _ _ _ (rd_L1 t107 x11_2) from ge116_0)
          clear hv116_0 ge116_0 hcc116 hce116
          have HR116_0 := Aside0.mk hi116_0
          have HC116_0 := Aside0.mk hl116_0
          clear hi116_0 hl116_0
          replace p116 := eq_true p116
          replace q116 := eq_true q116
          have p117 : 0 ≤ (x11_2 : Int) := of_decide_eq_true (by first | (with_reducible assumption) | assumption)
          have q117 : x11_2 < (t107.length : Int) := of_decide_eq_true (by first | (with_reducible assumption) | assumption)
          obtain ⟨ad117, A117_0, c117_0, e117, hx117_0, hl117_0, hi117_0⟩ := at_L1 (Kd.S_reads' HO_6.out).2.2 x11_2 p117 q117
          obtain rfl : ad116 = ad117 := (by injection e117)
          obtain ⟨ce117, hce117, hMe117, hcc117⟩ := Kd.S_get HO_6.out [] x11_2 p117 (by first | exact q117 | exact of_decide_eq_true (by first | (with_reducible assumption) | assumption) | (have e_ := (Kd.S_reads' HO_6.out).1; omega))
          obtain ⟨ve117_0, rfl, ge117_0⟩ := hMe117
          have hv117_0 := hcc117 0 _ rfl
          rw [Nat.add_zero, show ((Kd.slice 3 (Kd.int .i64))).sz = 1 from rfl, Nat.mul_one] at hv117_0
          replace hv117_0 := Option.some.inj (hv117_0.symm.trans hx117_0)
          rw [hv117_0] at ge117_0
          have HL117_0 := aK (show Kd.R (Kd.int .i64) 3 _ _ _ _ (rd_L1 t107 x11_2) from ge117_0)
          clear hv117_0 ge117_0 hcc117 hce117
          have HR117_0 := Aside0.mk hi117_0
          have HC117_0 := Aside0.mk hl117_0
          clear hi117_0 hl117_0
          replace p117 := eq_true p117
          replace q117 := eq_true q117
          have ea_ := Option.some.inj (hx116_0.symm.trans hx117_0)
          injection ea_ with ea_ en_ ec_
          subst ea_
          subst ec_
          clear en_
          go_wp2_with (first | ((with_reducible refine gate_callee (f := 7) rfl ?_); refine gl (some 79) Try.func7 #[.int .i64 t102, .int .i64 t103, .slice A116_0 (rd_L1 t107 x11_2).length c116_0] ?_; (with_reducible refine (impl_RegionParts.calls k2 t102 t103 _ _ (rd_L1 t107 x11_2) t118 true _ ?side1 ?side2 A20.out).mono ?_); (case side1 => repeat (first | exact (by repeat (first | (with_reducible exact HR117_0.out) | (with_reducible refine Kd.C_alloc ?_ _) | (with_reducible refine Kd.C_drewN ?_ _) | (with_reducible refine Kd.C_drew ?_) | exact HR117_0.out)) | (with_reducible refine Kd.C_alloc ?_ _) | (with_reducible refine Kd.C_drewN ?_ _) | (with_reducible refine Kd.C_drew ?_))); (case side2 => exact HC117_0.out); rintro e w24 ⟨v120, rfl, ho0, hb⟩; refine ⟨_, rfl, ?_⟩; have n0_ := aK (Kd.R_below (pR HO_5.out) hb); have n1_ := aK (Kd.S_elder' (by (with_reducible repeat (first | apply Kd.S_alloc | apply Kd.S_drewN | apply Kd.S_drew)); exact HO_6.out) (Kd.S_base ho0) hb); have n2_ := aK (Kd.R_below (pR HL116_0.out) hb); have n3_ := aK (Kd.R_below (pR HL117_0.out) hb); have HO121 := aK (Kd.S_lower (Kd.S_new' (Kd.S_new' (Kd.S_new' (Kd.S_new' ho0 (Kd.R_lt (pR HO_5.out))) (Kd.S_lt (by (with_reducible repeat (first | apply Kd.S_alloc | apply Kd.S_drewN | apply Kd.S_drew)); exact HO_6.out))) (Kd.R_lt (pR HL116_0.out))) (Kd.R_lt (pR HL117_0.out))) (below_size (pS HB.out))); have n5_ := aK (Kd.C_below (by repeat (first | (with_reducible exact HR116_0.out) | (with_reducible refine Kd.C_alloc ?_ _) | (with_reducible refine Kd.C_drewN ?_ _) | (with_reducible refine Kd.C_drew ?_) | exact HR116_0.out)) hb); have n6_ := aK (Kd.C_below (by repeat (first | (with_reducible exact HR117_0.out) | (with_reducible refine Kd.C_alloc ?_ _) | (with_reducible refine Kd.C_drewN ?_ _) | (with_reducible refine Kd.C_drew ?_) | exact HR117_0.out)) hb); replace HB := bS HB hb; clear HO_5 HO_6 HL116_0 HL117_0 HR116_0 HR117_0; have HO_5 := n0_; have HO_6 := n1_; have HL116_0 := n2_; have HL117_0 := n3_; have HR116_0 := n5_; have HR117_0 := n6_; clear n0_ n1_ n2_ n3_ n5_ n6_; (try clear hb); (try clear hb2); (try clear hk); (try clear hi); (try clear ho0); obtain ⟨Ao25, co25, eo25⟩ := Kd.S_slice HO121.out; subst eo25))
          go_roundg k2
          case measure => have := HJ6.out; have := HK2.out; omega
          case rel => exact ⟨(wrap64 (x10_2 + ((rd_L1 t107 x11_2).length : Int))), (wrap64 (x11_2 + 1)), (by first | rfl | (simp; done) | (simp [*]; done)), (by first | rfl | (simp; done) | (simp [*]; done)), H', ⟨by have := HJ6.out; have := HK2.out; omega⟩, ⟨pR HO_5.out⟩, ⟨by (with_reducible repeat (first | apply Kd.S_alloc | apply Kd.S_drewN | apply Kd.S_drew)); exact Kd.S_mono HO_6.out (fun _ hk => hk.1)⟩, ⟨pT HB.out⟩⟩
         rw [if_neg c22] at H
         have c22b0 : ((t118.length : Int) == 1) = false := beq_eq_false_iff_ne.mpr c22
         have c22b1 : ((t118.length : Int) != 1) = true := bne_iff_ne.mpr c22
         obtain rfl := Option.some.inj H
         obtain ⟨Ao26, co26, eo26⟩ := Kd.S_slice HO_6.out
         subst eo26
         have p116 : 0 ≤ (x11_2 : Int) := of_decide_eq_true (by first | (with_reducible assumption) | assumption)
         have q116 : x11_2 < (t107.length : Int) := of_decide_eq_true (by first | (with_reducible assumption) | assumption)
         obtain ⟨ad116, A116_0, c116_0, e116, hx116_0, hl116_0, hi116_0⟩ := at_L1 (Kd.S_reads' HO_6.out).2.2 x11_2 p116 q116
         cases e116
         obtain ⟨ce116, hce116, hMe116, hcc116⟩ := Kd.S_get HO_6.out [] x11_2 p116 (by first | exact q116 | exact of_decide_eq_true (by first | (with_reducible assumption) | assumption) | (have e_ := (Kd.S_reads' HO_6.out).1; omega))
         obtain ⟨ve116_0, rfl, ge116_0⟩ := hMe116
         have hv116_0 := hcc116 0 _ rfl
         rw [Nat.add_zero, show ((Kd.slice 3 (Kd.int .i64))).sz = 1 from rfl, Nat.mul_one] at hv116_0
         replace hv116_0 := Option.some.inj (hv116_0.symm.trans hx116_0)
         rw [hv116_0] at ge116_0
         have HL116_0 := aK (show Kd.R (Kd.int .i64) 3 _ _ _ _ (rd_L1 t107 x11_2) from ge116_0)
         clear hv116_0 ge116_0 hcc116 hce116
         have HR116_0 := Aside0.mk hi116_0
         have HC116_0 := Aside0.mk hl116_0
         clear hi116_0 hl116_0
         replace p116 := eq_true p116
         replace q116 := eq_true q116
         have p117 : 0 ≤ (x11_2 : Int) := of_decide_eq_true (by first | (with_reducible assumption) | assumption)
         have q117 : x11_2 < (t107.length : Int) := of_decide_eq_true (by first | (with_reducible assumption) | assumption)
         obtain ⟨ad117, A117_0, c117_0, e117, hx117_0, hl117_0, hi117_0⟩ := at_L1 (Kd.S_reads' HO_6.out).2.2 x11_2 p117 q117
         obtain rfl : ad116 = ad117 := (by injection e117)
         obtain ⟨ce117, hce117, hMe117, hcc117⟩ := Kd.S_get HO_6.out [] x11_2 p117 (by first | exact q117 | exact of_decide_eq_true (by first | (with_reducible assumption) | assumption) | (have e_ := (Kd.S_reads' HO_6.out).1; omega))
         obtain ⟨ve117_0, rfl, ge117_0⟩ := hMe117
         have hv117_0 := hcc117 0 _ rfl
         rw [Nat.add_zero, show ((Kd.slice 3 (Kd.int .i64))).sz = 1 from rfl, Nat.mul_one] at hv117_0
         replace hv117_0 := Option.some.inj (hv117_0.symm.trans hx117_0)
         rw [hv117_0] at ge117_0
         have HL117_0 := aK (show Kd.R (Kd.int .i64) 3 _ _ _ _ (rd_L1 t107 x11_2) from ge117_0)
         clear hv117_0 ge117_0 hcc117 hce117
         have HR117_0 := Aside0.mk hi117_0
         have HC117_0 := Aside0.mk hl117_0
         clear hi117_0 hl117_0
         replace p117 := eq_true p117
         replace q117 := eq_true q117
         have ea_ := Option.some.inj (hx116_0.symm.trans hx117_0)
         injection ea_ with ea_ en_ ec_
         subst ea_
         subst ec_
         clear en_
         go_wp2_with (first | ((with_reducible refine gate_callee (f := 7) rfl ?_); refine gl (some 79) Try.func7 #[.int .i64 t102, .int .i64 t103, .slice A116_0 (rd_L1 t107 x11_2).length c116_0] ?_; (with_reducible refine (impl_RegionParts.calls k2 t102 t103 _ _ (rd_L1 t107 x11_2) t118 true _ ?side1 ?side2 A20.out).mono ?_); (case side1 => repeat (first | exact (by repeat (first | (with_reducible exact HR117_0.out) | (with_reducible refine Kd.C_alloc ?_ _) | (with_reducible refine Kd.C_drewN ?_ _) | (with_reducible refine Kd.C_drew ?_) | exact HR117_0.out)) | (with_reducible refine Kd.C_alloc ?_ _) | (with_reducible refine Kd.C_drewN ?_ _) | (with_reducible refine Kd.C_drew ?_))); (case side2 => exact HC117_0.out); rintro e w27 ⟨v120, rfl, ho0, hb⟩; refine ⟨_, rfl, ?_⟩; have n0_ := aK (Kd.R_below (pR HO_5.out) hb); have n1_ := aK (Kd.S_elder' (by (with_reducible repeat (first | apply Kd.S_alloc | apply Kd.S_drewN | apply Kd.S_drew)); exact HO_6.out) (Kd.S_base ho0) hb); have n2_ := aK (Kd.R_below (pR HL116_0.out) hb); have n3_ := aK (Kd.R_below (pR HL117_0.out) hb); have HO121 := aK (Kd.S_lower (Kd.S_new' (Kd.S_new' (Kd.S_new' (Kd.S_new' ho0 (Kd.R_lt (pR HO_5.out))) (Kd.S_lt (by (with_reducible repeat (first | apply Kd.S_alloc | apply Kd.S_drewN | apply Kd.S_drew)); exact HO_6.out))) (Kd.R_lt (pR HL116_0.out))) (Kd.R_lt (pR HL117_0.out))) (below_size (pS HB.out))); have n5_ := aK (Kd.C_below (by repeat (first | (with_reducible exact HR116_0.out) | (with_reducible refine Kd.C_alloc ?_ _) | (with_reducible refine Kd.C_drewN ?_ _) | (with_reducible refine Kd.C_drew ?_) | exact HR116_0.out)) hb); have n6_ := aK (Kd.C_below (by repeat (first | (with_reducible exact HR117_0.out) | (with_reducible refine Kd.C_alloc ?_ _) | (with_reducible refine Kd.C_drewN ?_ _) | (with_reducible refine Kd.C_drew ?_) | exact HR117_0.out)) hb); replace HB := bS HB hb; clear HO_5 HO_6 HL116_0 HL117_0 HR116_0 HR117_0; have HO_5 := n0_; have HO_6 := n1_; have HL116_0 := n2_; have HL117_0 := n3_; have HR116_0 := n5_; have HR117_0 := n6_; clear n0_ n1_ n2_ n3_ n5_ n6_; (try clear hb); (try clear hb2); (try clear hk); (try clear hi); (try clear ho0); obtain ⟨Ao28, co28, eo28⟩ := Kd.S_slice HO121.out; subst eo28))
         go_ret
         exact ⟨er, pT HB.out⟩
        replace c21 := Bool.eq_false_iff.mpr c21
        subst c21
        have H1 : (some false) = some r := by rw [if_neg (show ¬ (false = true) by decide)] at H; exact H
        clear H
        have H := H1
        clear H1
        obtain rfl := Option.some.inj H
        obtain ⟨Ao29, co29, eo29⟩ := Kd.S_slice HO_6.out
        subst eo29
        have p116 : 0 ≤ (x11_2 : Int) := of_decide_eq_true (by first | (with_reducible assumption) | assumption)
        have q116 : x11_2 < (t107.length : Int) := of_decide_eq_true (by first | (with_reducible assumption) | assumption)
        obtain ⟨ad116, A116_0, c116_0, e116, hx116_0, hl116_0, hi116_0⟩ := at_L1 (Kd.S_reads' HO_6.out).2.2 x11_2 p116 q116
        cases e116
        obtain ⟨ce116, hce116, hMe116, hcc116⟩ := Kd.S_get HO_6.out [] x11_2 p116 (by first | exact q116 | exact of_decide_eq_true (by first | (with_reducible assumption) | assumption) | (have e_ := (Kd.S_reads' HO_6.out).1; omega))
        obtain ⟨ve116_0, rfl, ge116_0⟩ := hMe116
        have hv116_0 := hcc116 0 _ rfl
        rw [Nat.add_zero, show ((Kd.slice 3 (Kd.int .i64))).sz = 1 from rfl, Nat.mul_one] at hv116_0
        replace hv116_0 := Option.some.inj (hv116_0.symm.trans hx116_0)
        rw [hv116_0] at ge116_0
        have HL116_0 := aK (show Kd.R (Kd.int .i64) 3 _ _ _ _ (rd_L1 t107 x11_2) from ge116_0)
        clear hv116_0 ge116_0 hcc116 hce116
        have HR116_0 := Aside0.mk hi116_0
        have HC116_0 := Aside0.mk hl116_0
        clear hi116_0 hl116_0
        replace p116 := eq_true p116
        replace q116 := eq_true q116
        have p117 : 0 ≤ (x11_2 : Int) := of_decide_eq_true (by first | (with_reducible assumption) | assumption)
        have q117 : x11_2 < (t107.length : Int) := of_decide_eq_true (by first | (with_reducible assumption) | assumption)
        obtain ⟨ad117, A117_0, c117_0, e117, hx117_0, hl117_0, hi117_0⟩ := at_L1 (Kd.S_reads' HO_6.out).2.2 x11_2 p117 q117
        obtain rfl : ad116 = ad117 := (by injection e117)
        obtain ⟨ce117, hce117, hMe117, hcc117⟩ := Kd.S_get HO_6.out [] x11_2 p117 (by first | exact q117 | exact of_decide_eq_true (by first | (with_reducible assumption) | assumption) | (have e_ := (Kd.S_reads' HO_6.out).1; omega))
        obtain ⟨ve117_0, rfl, ge117_0⟩ := hMe117
        have hv117_0 := hcc117 0 _ rfl
        rw [Nat.add_zero, show ((Kd.slice 3 (Kd.int .i64))).sz = 1 from rfl, Nat.mul_one] at hv117_0
        replace hv117_0 := Option.some.inj (hv117_0.symm.trans hx117_0)
        rw [hv117_0] at ge117_0
        have HL117_0 := aK (show Kd.R (Kd.int .i64) 3 _ _ _ _ (rd_L1 t107 x11_2) from ge117_0)
        clear hv117_0 ge117_0 hcc117 hce117
        have HR117_0 := Aside0.mk hi117_0
        have HC117_0 := Aside0.mk hl117_0
        clear hi117_0 hl117_0
        replace p117 := eq_true p117
        replace q117 := eq_true q117
        have ea_ := Option.some.inj (hx116_0.symm.trans hx117_0)
        injection ea_ with ea_ en_ ec_
        subst ea_
        subst ec_
        clear en_
        go_wp2_with (first | ((with_reducible refine gate_callee (f := 7) rfl ?_); refine gl (some 79) Try.func7 #[.int .i64 t102, .int .i64 t103, .slice A116_0 (rd_L1 t107 x11_2).length c116_0] ?_; (with_reducible refine (impl_RegionParts.calls k2 t102 t103 _ _ (rd_L1 t107 x11_2) t118 false _ ?side1 ?side2 A20.out).mono ?_); (case side1 => repeat (first | exact (by repeat (first | (with_reducible exact HR117_0.out) | (with_reducible refine Kd.C_alloc ?_ _) | (with_reducible refine Kd.C_drewN ?_ _) | (with_reducible refine Kd.C_drew ?_) | exact HR117_0.out)) | (with_reducible refine Kd.C_alloc ?_ _) | (with_reducible refine Kd.C_drewN ?_ _) | (with_reducible refine Kd.C_drew ?_))); (case side2 => exact HC117_0.out); rintro e w30 ⟨v120, rfl, ho0, hb⟩; refine ⟨_, rfl, ?_⟩; have n0_ := aK (Kd.R_below (pR HO_5.out) hb); have n1_ := aK (Kd.S_elder' (by (with_reducible repeat (first | apply Kd.S_alloc | apply Kd.S_drewN | apply Kd.S_drew)); exact HO_6.out) (Kd.S_base ho0) hb); have n2_ := aK (Kd.R_below (pR HL116_0.out) hb); have n3_ := aK (Kd.R_below (pR HL117_0.out) hb); have HO121 := aK (Kd.S_lower (Kd.S_new' (Kd.S_new' (Kd.S_new' (Kd.S_new' ho0 (Kd.R_lt (pR HO_5.out))) (Kd.S_lt (by (with_reducible repeat (first | apply Kd.S_alloc | apply Kd.S_drewN | apply Kd.S_drew)); exact HO_6.out))) (Kd.R_lt (pR HL116_0.out))) (Kd.R_lt (pR HL117_0.out))) (below_size (pS HB.out))); have n5_ := aK (Kd.C_below (by repeat (first | (with_reducible exact HR116_0.out) | (with_reducible refine Kd.C_alloc ?_ _) | (with_reducible refine Kd.C_drewN ?_ _) | (with_reducible refine Kd.C_drew ?_) | exact HR116_0.out)) hb); have n6_ := aK (Kd.C_below (by repeat (first | (with_reducible exact HR117_0.out) | (with_reducible refine Kd.C_alloc ?_ _) | (with_reducible refine Kd.C_drewN ?_ _) | (with_reducible refine Kd.C_drew ?_) | exact HR117_0.out)) hb); replace HB := bS HB hb; clear HO_5 HO_6 HL116_0 HL117_0 HR116_0 HR117_0; have HO_5 := n0_; have HO_6 := n1_; have HL116_0 := n2_; have HL117_0 := n3_; have HR116_0 := n5_; have HR117_0 := n6_; clear n0_ n1_ n2_ n3_ n5_ n6_; (try clear hb); (try clear hb2); (try clear hk); (try clear hi); (try clear ho0)))
        go_ret
        exact ⟨er, pT HB.out⟩
       rw [if_neg c19] at H
       exact absurd H (by simp)
      rw [if_neg c18] at H
      have c18b0 : decide (x11_2 < (t107.length : Int)) = false := decide_eq_false c18
      clear c18
      replace H := Option.bind_eq_some_iff.mp H
      obtain ⟨⟨t122, t123, t124, t127⟩, A310, H⟩ := H
      replace H : ((impl_RegionAbove.f k2 t122 t123 t124 0).bind fun bt129 => ((impl_GrowRegion.f k2 t102 t103 t104).bind fun bt133 => ((spec_GrowRegion.f k2 t102 t103 t104).bind fun bt137 => (if (bt133.2 != bt137.2) = true then (laws_FnRegions.j2 k2 t104 x10_2 t127 bt129.1 bt129.2 bt133.1 true) else ((laws_vInts.f k2 bt133.1 bt137.1).bind fun t141 => (laws_FnRegions.j2 k2 t104 x10_2 t127 bt129.1 bt129.2 bt133.1 (!t141))))))) = some r := H
      have A31 := Aside0.mk A310
      clear A310
      replace H := Option.bind_eq_some_iff.mp H
      obtain ⟨⟨t129, t132⟩, A320, H⟩ := H
      replace H : ((impl_GrowRegion.f k2 t102 t103 t104).bind fun bt133 => ((spec_GrowRegion.f k2 t102 t103 t104).bind fun bt137 => (if (bt133.2 != bt137.2) = true then (laws_FnRegions.j2 k2 t104 x10_2 t127 t129 t132 bt133.1 true) else ((laws_vInts.f k2 bt133.1 bt137.1).bind fun t141 => (laws_FnRegions.j2 k2 t104 x10_2 t127 t129 t132 bt133.1 (!t141)))))) = some r := H
      have A32 := Aside0.mk A320
      clear A320
      replace H := Option.bind_eq_some_iff.mp H
      obtain ⟨⟨t133, t134⟩, A330, H⟩ := H
      replace H : ((spec_GrowRegion.f k2 t102 t103 t104).bind fun bt137 => (if (t134 != bt137.2) = true then (laws_FnRegions.j2 k2 t104 x10_2 t127 t129 t132 t133 true) else ((laws_vInts.f k2 t133 bt137.1).bind fun t141 => (laws_FnRegions.j2 k2 t104 x10_2 t127 t129 t132 t133 (!t141))))) = some r := H
      have A33 := Aside0.mk A330
      clear A330
      replace H := Option.bind_eq_some_iff.mp H
      obtain ⟨⟨t137, t138⟩, A340, H⟩ := H
      replace H : (if (t134 != t138) = true then (laws_FnRegions.j2 k2 t104 x10_2 t127 t129 t132 t133 true) else ((laws_vInts.f k2 t133 t137).bind fun t141 => (laws_FnRegions.j2 k2 t104 x10_2 t127 t129 t132 t133 (!t141)))) = some r := H
      have A34 := Aside0.mk A340
      clear A340
      have HC35 := Aside0.mk H
      clear H
      obtain ⟨Ao36, co36, eo36⟩ := Kd.S_slice HO_6.out
      subst eo36
      go_upto_region 22 with (first | ((with_reducible refine gate_callee (f := 16) rfl ?_); refine gl (some 93) Try.func16 #[.int .i64 t102, .int .i64 t103, .slice Ao9 t104.length co9] ?_; (with_reducible refine (impl_RegionField.calls k2 t102 t103 _ _ t104 t122 t123 t124 t127 _ ?side1 ?side2 A31.out).mono ?_); (case side1 => exact pC (Kd.R_reads' HO_5.out).2.2); (case side2 => exact (Kd.R_reads' HO_5.out).2.1); rintro e w37 ⟨v125, rfl, ho0, hb⟩; refine ⟨_, rfl, ?_⟩; have n0_ := aK (Kd.R_elder' (pR HO_5.out) (Kd.R_base ho0) hb); have n1_ := aK (Kd.S_elder' (by (with_reducible repeat (first | apply Kd.S_alloc | apply Kd.S_drewN | apply Kd.S_drew)); exact HO_6.out) (Kd.R_base ho0) hb); have HO126 := aK (Kd.R_lower (nw1 ho0 (pR HO_5.out)) (below_size (pS HB.out))); replace HB := bS HB hb; clear HO_5 HO_6; have HO_5 := n0_; have HO_6 := n1_; clear n0_ n1_; (try clear hb); (try clear hb2); (try clear hk); (try clear hi); (try clear ho0)) | ((with_reducible refine gate_dst (N := 14) rfl ?_); (try (refine gate_guard (by rfl) ?_; dsimp only)); refine bxe (cs := #[.int .i64 0, .int .i64 0, .slice none 0 0]) (t := 37) ?_; intro gb128 hg w38 hbox hb; have n0_ := aK (Kd.R_below (pR HO_5.out) hb); have n1_ := aK (Kd.S_below (by (with_reducible repeat (first | apply Kd.S_alloc | apply Kd.S_drewN | apply Kd.S_drew)); exact HO_6.out) hb); have n2_ := aK (Kd.R_below (pR HO126.out) hb); have BK128 := aK (hbox); have GW128 := aK (gE hg (pS HB.out)); have GE128 := GW128; replace HB := bS HB hb; clear HO_5 HO_6 HO126; have HO_5 := n0_; have HO_6 := n1_; have HO126 := n2_; clear n0_ n1_ n2_ hb hbox hg; obtain ⟨hcz39_0, hcz39_1, hcz39_2, hfz39_0, hfz39_1, hfz39_2⟩ := bc3 BK128.out; obtain ⟨Ao40, co40, eo40⟩ := Kd.R_slice HO126.out; subst eo40) | ((with_reducible refine gate_callee (f := 17) rfl ?_); refine gl (some 98) Try.func17 #[.agg #[.int .i64 t122, .int .i64 t123, .slice Ao40 t124.length co40], .int .i64 0] ?_; (with_reducible refine (impl_RegionAbove.calls k2 t122 t123 _ _ t124 0 t129 t132 _ ?side1 ?side2 A32.out).mono ?_); (case side1 => exact rC (pR (rF3 HO126.out BK128.out (.int .i64 t122) (.int .i64 t123) (.slice Ao40 t124.length co40)))); (case side2 => exact (Kd.R_reads' HO126.out).2.1); rintro e w41 ⟨v130, rfl, ho0, hb⟩; refine ⟨_, rfl, ?_⟩; have e2_ := aR hb (pR (rF3 HO_5.out BK128.out (.int .i64 t122) (.int .i64 t123) (.slice Ao40 t124.length co40))); have n0_ := aK (Kd.R_elder' e2_.out (Kd.R_base ho0) hb); have n1_ := aK (Kd.S_elder' (by (with_reducible repeat (first | apply Kd.S_alloc | apply Kd.S_drewN | apply Kd.S_drew)); exact (Kd.S_mono (Kd.S_far (p := ⟨gb128, 2, none⟩) (Kd.S_far (p := ⟨gb128, 1, none⟩) (Kd.S_far (p := ⟨gb128, 0, none⟩) (Kd.S_types HO_6.out BK128.out (by decide)) (fun _ hk => hk.2) (.int .i64 t122)) (fun _ hk => hk.2) (.int .i64 t123)) (fun _ hk => hk.2) (.slice Ao40 t124.length co40)) (fun _ h_ => h_.1))) (Kd.R_base ho0) hb); have e1_ := aR hb (pR (rF3 HO126.out BK128.out (.int .i64 t122) (.int .i64 t123) (.slice Ao40 t124.length co40))); have n2_ := aK (Kd.R_elder' e1_.out (Kd.R_base ho0) hb); have HO131 := aK (Kd.R_lower (nw2 ho0 e2_.out e1_.out) (below_size (pS HB.out))); clear e2_; clear e1_; have n4_ := aK (blk_below (g := gb128) (o := .cells #[.int .i64 t122, .int .i64 t123, .slice Ao40 t124.length co40] 37 (0, 0)) (by refine bk ?_; refine blk_put (cs := #[.int .i64 t122, .int .i64 t123, .slice none 0 0]) ?_ 2 _ rfl; refine bk ?_; refine blk_put (cs := #[.int .i64 t122, .int .i64 0, .slice none 0 0]) ?_ 1 _ rfl; refine bk ?_; refine blk_put (cs := #[.int .i64 0, .int .i64 0, .slice none 0 0]) ?_ 0 _ rfl; refine bk ?_; exact BK128.out) hb); replace HB := bS HB hb; clear HO_5 HO_6 HO126 BK128; have HO_5 := n0_; have HO_6 := n1_; have HO126 := n2_; have BK128 := n4_; clear n0_ n1_ n2_ n4_; (try clear hb); (try clear hb2); (try clear hk); (try clear hi); (try clear ho0)) | ((with_reducible refine gate_callee (f := 18) rfl ?_); refine gl (some 105) Try.func18 #[.int .i64 t102, .int .i64 t103, .slice Ao9 t104.length co9] ?_; (with_reducible refine (impl_GrowRegion.calls k2 t102 t103 _ _ t104 t133 t134 _ ?side1 ?side2 A33.out).mono ?_); (case side1 => exact pC (Kd.R_reads' HO_5.out).2.2); (case side2 => exact (Kd.R_reads' HO_5.out).2.1); rintro e w42 ⟨v135, rfl, ho0, hb⟩; refine ⟨_, rfl, ?_⟩; have n0_ := aK (Kd.R_elder' (pR HO_5.out) (Kd.R_base ho0) hb); have n1_ := aK (Kd.S_elder' (by (with_reducible repeat (first | apply Kd.S_alloc | apply Kd.S_drewN | apply Kd.S_drew)); exact HO_6.out) (Kd.R_base ho0) hb); have n2_ := aK (Kd.R_elder' (pR HO126.out) (Kd.R_base ho0) hb); have n3_ := aK (Kd.R_elder' (pR HO131.out) (Kd.R_base ho0) hb); have HO136 := aK (Kd.R_lower (nw1 (nw2 ho0 (pR HO_5.out) (pR HO126.out)) (pR HO131.out)) (below_size (pS HB.out))); replace HB := bS HB hb; clear HO_5 HO_6 HO126 HO131; have HO_5 := n0_; have HO_6 := n1_; have HO126 := n2_; have HO131 := n3_; clear n0_ n1_ n2_ n3_; (try clear hb); (try clear hb2); (try clear hk); (try clear hi); (try clear ho0)) | ((with_reducible refine gate_callee (f := 19) rfl ?_); refine gl (some 112) Try.func19 #[.int .i64 t102, .int .i64 t103, .slice Ao9 t104.length co9] ?_; (with_reducible refine (spec_GrowRegion.calls k2 t102 t103 _ _ t104 t137 t138 _ ?side1 ?side2 A34.out).mono ?_); (case side1 => exact pC (Kd.R_reads' HO_5.out).2.2); (case side2 => exact (Kd.R_reads' HO_5.out).2.1); rintro e w43 ⟨v139, rfl, ho0, hb⟩; refine ⟨_, rfl, ?_⟩; have n0_ := aK (Kd.R_elder' (pR HO_5.out) (Kd.R_base ho0) hb); have n1_ := aK (Kd.S_elder' (by (with_reducible repeat (first | apply Kd.S_alloc | apply Kd.S_drewN | apply Kd.S_drew)); exact HO_6.out) (Kd.R_base ho0) hb); have n2_ := aK (Kd.R_elder' (pR HO126.out) (Kd.R_base ho0) hb); have n3_ := aK (Kd.R_elder' (pR HO131.out) (Kd.R_base ho0) hb); have n4_ := aK (Kd.R_elder' (pR HO136.out) (Kd.R_base ho0) hb); have HO140 := aK (Kd.R_lower (nw4 ho0 (pR HO_5.out) (pR HO126.out) (pR HO131.out) (pR HO136.out)) (below_size (pS HB.out))); replace HB := bS HB hb; clear HO_5 HO_6 HO126 HO131 HO136; have HO_5 := n0_; have HO_6 := n1_; have HO126 := n2_; have HO131 := n3_; have HO136 := n4_; clear n0_ n1_ n2_ n3_ n4_; (try clear hb); (try clear hb2); (try clear hk); (try clear hi); (try clear ho0)))
      (try simp only [Act.put, List.setIfInBounds_toArray, List.set_cons_zero, List.set_cons_succ])
      go_cut [123] (fun v123 wc => ∃ (kq : Nat) (x123_34 : Bool), v123 = .bool x123_34 ∧ Aside0 (laws_FnRegions.j2 kq t104 x10_2 t127 t129 t132 t133 x123_34 = some r) ∧ Aside0 (kq ≤ k2) ∧ Aside0 (Kd.R (Kd.int .i64) 3 wc w.heap.size (fun k_ => some k_ ≠ (v130 : Value).ownBlock ∧ some k_ ≠ (v135 : Value).ownBlock) (.slice Ao9 t104.length co9) t104) ∧ Aside0 (Kd.R (Kd.int .i64) 3 wc w.heap.size (fun k_ => some k_ ≠ ((.slice Ao9 t104.length co9) : Value).ownBlock ∧ some k_ ≠ (v135 : Value).ownBlock) v130 t129) ∧ Aside0 (Kd.R (Kd.int .i64) 3 wc w.heap.size (fun k_ => some k_ ≠ ((.slice Ao9 t104.length co9) : Value).ownBlock ∧ some k_ ≠ (v130 : Value).ownBlock) v135 t133) ∧ Aside0 (Below w.heap.size w wc))
      case first =>
       have H := HC35.out
       clear HC35
       by_cases c44 : (t134 != t138) = true
       ·
        rw [if_pos c44] at H
        have c44b0 : (t134 != t138) = true := c44
        (try (have c44b1 : decide (t134 = t138) = false := by simpa using c44))
        (try (have c44b2 : (t134 == t138) = false := by simpa using c44))
        (try (have c44b3 : ¬ (t134 = t138) := by simpa using c44))
        clear c44
        (first | rw [c44b0] | (simp only [i64_w, i32_w]; rw [c44b0]) | skip)
        have H' := Aside0.mk H
        clear H
        go_wp2
        go_meet
        case rel => exact ⟨_, (true), (by first | rfl | (simp; done) | (simp [*]; done)), H', ⟨by have := HJ6.out; have := HK2.out; first | omega | exact Nat.le_refl _⟩, ⟨pR (rP HO_5.out)⟩, ⟨pR (rP HO131.out)⟩, ⟨pR (rP HO136.out)⟩, ⟨pT HB.out⟩⟩
       rw [if_neg c44] at H
       have c44b0 : (t134 != t138) = false := by simpa using c44
       (try (have c44b1 : decide (t134 = t138) = true := by simpa using c44))
       (try (have c44b2 : (t134 == t138) = true := by simpa using c44))
       clear c44
       (first | rw [c44b0] | (simp only [i64_w, i32_w]; rw [c44b0]) | skip)
       replace H := Option.bind_eq_some_iff.mp H
       obtain ⟨t141, A450, H⟩ := H
       replace H : (laws_FnRegions.j2 k2 t104 x10_2 t127 t129 t132 t133 (!t141)) = some r := H
       have A45 := Aside0.mk A450
       clear A450
       have H' := Aside0.mk H
       clear H
       obtain ⟨Ao46, co46, eo46⟩ := Kd.R_slice HO136.out
       subst eo46
       obtain ⟨Ao47, co47, eo47⟩ := Kd.R_slice HO140.out
       subst eo47
       go_wp2_with (first | (go_at_call 20; (with_reducible refine (laws_vInts.calls k2 _ _ t133 _ _ t137 t141 _ ?side1 ?side2 ?side3 ?side4 A45.out).mono ?_); (case side1 => exact pC (Kd.R_reads' HO136.out).2.2); (case side2 => exact (Kd.R_reads' HO136.out).2.1); (case side3 => exact pC (Kd.R_reads' HO140.out).2.2); (case side4 => exact (Kd.R_reads' HO140.out).2.1); rintro e w' ⟨rfl, ⟨nd, rfl⟩⟩))
       go_meet
       case rel => exact ⟨_, (!t141), (by first | rfl | (simp; done) | (simp [*]; done)), H', ⟨by have := HJ6.out; have := HK2.out; first | omega | exact Nat.le_refl _⟩, ⟨pR (rP HO_5.out)⟩, ⟨pR (rP HO131.out)⟩, ⟨pR (rP HO136.out)⟩, ⟨pT HB.out⟩⟩
      case rest =>
       clear HC35
       try clear c1
       try clear p1
       try clear q1
       try clear hx1
       try clear c2
       try clear p2
       try clear c3
       try clear c4
       try clear c5
       try clear p6
       try clear c7
       try clear c11
       try clear p11
       try clear q11
       try clear hx11
       try clear c12
       try clear c12b0
       try clear c12b1
       try clear c12b2
       try clear c13
       try clear c14
       try clear c16
       try clear c17
       try clear c18
       try clear c18b0
       try clear c19
       try clear c19b0
       try clear c21
       try clear c22
       try clear c22b0
       try clear c22b1
       try clear c44
       try clear c44b0
       try clear c44b1
       try clear c44b2
       try clear hcz39_0
       try clear hcz39_1
       try clear hcz39_2
       try clear hfz39_0
       try clear hfz39_1
       try clear hfz39_2
       try clear hx116_0
       try clear hx117_0
       try clear p116
       try clear p117
       try clear p2
       try clear q116
       try clear q117
       obtain ⟨kq, x123_34, rfl, HA, HJ34, HO_5, HO_16, HO_18, HB⟩ := hcut
       cases kq with
       | zero => exact absurd HA.out (by simp [laws_FnRegions.j2])
       | succ kj34 =>
        have H := HA.out
        clear HA
        simp only [laws_FnRegions.j2] at H
        by_cases c48 : x123_34 = true
        ·
         subst c48
         have H1 : (some false) = some r := by rw [if_pos rfl] at H; exact H
         clear H
         have H := H1
         clear H1
         obtain rfl := Option.some.inj H
         go_wp2
         go_ret
         exact ⟨er, pT HB.out⟩
        replace c48 := Bool.eq_false_iff.mpr c48
        subst c48
        have H1 : (laws_FnRegions.l1 kj34 t104 x10_2 t127 t129 t132 t133 0) = some r := by rw [if_neg (show ¬ (false = true) by decide)] at H; exact H
        clear H
        have H := H1
        clear H1
        have H' := Aside0.mk H
        clear H
        go_wp2
        go_loopg [22] kj34 (fun kq v22 w' => ∃ (x22_4 : Int), v22 = .int .i64 x22_4 ∧ Aside0 (laws_FnRegions.l1 kq t104 x10_2 t127 t129 t132 t133 x22_4 = some r) ∧ Aside0 (kq ≤ kj34) ∧ Aside0 (Kd.R (Kd.int .i64) 3 w' w.heap.size (fun k_ => some k_ ≠ (v130 : Value).ownBlock ∧ some k_ ≠ (v135 : Value).ownBlock) (.slice Ao9 t104.length co9) t104) ∧ Aside0 (Kd.R (Kd.int .i64) 3 w' w.heap.size (fun k_ => some k_ ≠ ((.slice Ao9 t104.length co9) : Value).ownBlock ∧ some k_ ≠ (v135 : Value).ownBlock) v130 t129) ∧ Aside0 (Kd.R (Kd.int .i64) 3 w' w.heap.size (fun k_ => some k_ ≠ ((.slice Ao9 t104.length co9) : Value).ownBlock ∧ some k_ ≠ (v130 : Value).ownBlock) v135 t133) ∧ Aside0 (Below w.heap.size w w'))
        case atStart => exact ⟨(0), (by first | rfl | (simp; done) | (simp [*]; done)), H', ⟨Nat.le_refl _⟩, ⟨pR HO_5.out⟩, ⟨pR HO_16.out⟩, ⟨pR HO_18.out⟩, ⟨pT HB.out⟩⟩
        case round =>
         clear H'
         try clear c1
         try clear p1
         try clear q1
         try clear hx1
         try clear c2
         try clear p2
         try clear c3
         try clear c4
         try clear c5
         try clear p6
         try clear c7
         try clear c11
         try clear p11
         try clear q11
         try clear hx11
         try clear c12
         try clear c12b0
         try clear c12b1
         try clear c12b2
         try clear c13
         try clear c14
         try clear c16
         try clear c17
         try clear c18
         try clear c18b0
         try clear c19
         try clear c19b0
         try clear c21
         try clear c22
         try clear c22b0
         try clear c22b1
         try clear c44
         try clear c44b0
         try clear c44b1
         try clear c44b2
         try clear c48
         try clear hcz39_0
         try clear hcz39_1
         try clear hcz39_2
         try clear hfz39_0
         try clear hfz39_1
         try clear hfz39_2
         try clear hx116_0
         try clear hx117_0
         try clear p1
         try clear p11
         try clear p116
         try clear p117
         try clear p2
         try clear p6
         try clear q1
         try clear q11
         try clear q116
         try clear q117
         obtain ⟨x22_4, rfl, HA, HK4, HO_5, HO_16, HO_18, HB⟩ := hrel
         cases gk with
         | zero => exact absurd HA.out (by simp [laws_FnRegions.l1])
         | succ k4 =>
          have H := HA.out
          clear HA
          simp only [laws_FnRegions.l1] at H
          by_cases c49 : x22_4 < (t104.length : Int)
          ·
           rw [if_pos c49] at H
           have c49b0 : decide (x22_4 < (t104.length : Int)) = true := decide_eq_true c49
           clear c49
           by_cases c50 : 0 ≤ x22_4
           ·
            rw [if_pos c50] at H
            have c50b0 : decide (0 ≤ x22_4) = true := decide_eq_true c50
            clear c50
            replace H := Option.bind_eq_some_iff.mp H
            obtain ⟨t143, A510, H⟩ := H
            replace H : (if t143 = true then (laws_FnRegions.l1 k4 t104 x10_2 t127 t129 t132 t133 (wrap64 (x22_4 + 1))) else (some false)) = some r := H
            have A51 := Aside0.mk A510
            clear A510
            by_cases c52 : t143 = true
            ·
             subst c52
             have H1 : (laws_FnRegions.l1 k4 t104 x10_2 t127 t129 t132 t133 (wrap64 (x22_4 + 1))) = some r := by rw [if_pos rfl] at H; exact H
             clear H
             have H := H1
             clear H1
             have H' := Aside0.mk H
             clear H
             have p142 : 0 ≤ (x22_4 : Int) := of_decide_eq_true (by first | (with_reducible assumption) | assumption)
             have q142 : x22_4 < (t104.length : Int) := of_decide_eq_true (by first | (with_reducible assumption) | assumption)
             obtain ⟨ad142, e142, hx142_0⟩ := Kd.at_int (Kd.R_reads' HO_5.out).2.2 x22_4 p142 q142
             cases e142
             replace p142 := eq_true p142
             replace q142 := eq_true q142
             obtain ⟨Ao53, co53, eo53⟩ := Kd.R_slice HO_18.out
             subst eo53
             go_wp2_with (first | ((with_reducible refine gate_callee (f := 21) rfl ?_); refine gl (some 135) Try.func21 #[.slice Ao53 t133.length co53, .int .i64 (rd t104 x22_4)] ?_; (with_reducible refine (laws_vHas.calls k4 _ _ t133 (rd t104 x22_4) true _ ?side1 ?side2 A51.out).mono ?_); (case side1 => exact pC (Kd.R_reads' HO_18.out).2.2); (case side2 => exact (Kd.R_reads' HO_18.out).2.1); rintro e w' ⟨rfl, ⟨nd, rfl⟩⟩; refine ⟨_, rfl, ?_⟩))
             go_roundg k4
             case measure => have := HJ6.out; have := HK2.out; have := HJ34.out; have := HK4.out; omega
             case rel => exact ⟨(wrap64 (x22_4 + 1)), (by first | rfl | (simp; done) | (simp [*]; done)), H', ⟨by have := HJ6.out; have := HK2.out; have := HJ34.out; have := HK4.out; omega⟩, ⟨pR HO_5.out⟩, ⟨pR HO_16.out⟩, ⟨pR HO_18.out⟩, ⟨pT HB.out⟩⟩
            replace c52 := Bool.eq_false_iff.mpr c52
            subst c52
            have H1 : (some false) = some r := by rw [if_neg (show ¬ (false = true) by decide)] at H; exact H
            clear H
            have H := H1
            clear H1
            obtain rfl := Option.some.inj H
            have p142 : 0 ≤ (x22_4 : Int) := of_decide_eq_true (by first | (with_reducible assumption) | assumption)
            have q142 : x22_4 < (t104.length : Int) := of_decide_eq_true (by first | (with_reducible assumption) | assumption)
            obtain ⟨ad142, e142, hx142_0⟩ := Kd.at_int (Kd.R_reads' HO_5.out).2.2 x22_4 p142 q142
            cases e142
            replace p142 := eq_true p142
            replace q142 := eq_true q142
            obtain ⟨Ao54, co54, eo54⟩ := Kd.R_slice HO_18.out
            subst eo54
            go_wp2_with (first | ((with_reducible refine gate_callee (f := 21) rfl ?_); refine gl (some 135) Try.func21 #[.slice Ao54 t133.length co54, .int .i64 (rd t104 x22_4)] ?_; (with_reducible refine (laws_vHas.calls k4 _ _ t133 (rd t104 x22_4) false _ ?side1 ?side2 A51.out).mono ?_); (case side1 => exact pC (Kd.R_reads' HO_18.out).2.2); (case side2 => exact (Kd.R_reads' HO_18.out).2.1); rintro e w' ⟨rfl, ⟨nd, rfl⟩⟩; refine ⟨_, rfl, ?_⟩))
            go_ret
            exact ⟨er, pT HB.out⟩
           rw [if_neg c50] at H
           exact absurd H (by simp)
          rw [if_neg c49] at H
          have c49b0 : decide (x22_4 < (t104.length : Int)) = false := decide_eq_false c49
          clear c49
          by_cases c55 : x10_2 = (t104.length : Int)
          ·
           rw [if_pos c55] at H
           have c55b0 : (x10_2 == (t104.length : Int)) = true := beq_iff_eq.mpr c55
           have c55b1 : (x10_2 != (t104.length : Int)) = false := bne_eq_false_iff_eq.mpr c55
           clear c55
           by_cases c56 : t127 = true
           ·
            subst c56
            have H1 : (if t132 = true then ((laws_vInts.f k4 t129 t104).bind fun t144 => (some t144)) else (some false)) = some r := by rw [if_pos rfl] at H; exact H
            clear H
            have H := H1
            clear H1
            by_cases c57 : t132 = true
            ·
             subst c57
             have H1 : ((laws_vInts.f k4 t129 t104).bind fun t144 => (some t144)) = some r := by rw [if_pos rfl] at H; exact H
             clear H
             have H := H1
             clear H1
             replace H := Option.bind_eq_some_iff.mp H
             obtain ⟨t144, A580, H⟩ := H
             replace H : (some t144) = some r := H
             have A58 := Aside0.mk A580
             clear A580
             obtain rfl := Option.some.inj H
             obtain ⟨Ao59, co59, eo59⟩ := Kd.R_slice HO_16.out
             subst eo59
             go_wp2_with (first | (go_at_call 20; (with_reducible refine (laws_vInts.calls k4 _ _ t129 _ _ t104 t144 _ ?side1 ?side2 ?side3 ?side4 A58.out).mono ?_); (case side1 => exact pC (Kd.R_reads' HO_16.out).2.2); (case side2 => exact (Kd.R_reads' HO_16.out).2.1); (case side3 => exact pC (Kd.R_reads' HO_5.out).2.2); (case side4 => exact (Kd.R_reads' HO_5.out).2.1); rintro e w' ⟨rfl, ⟨nd, rfl⟩⟩))
             go_ret
             exact ⟨er, pT HB.out⟩
            replace c57 := Bool.eq_false_iff.mpr c57
            subst c57
            have H1 : (some false) = some r := by rw [if_neg (show ¬ (false = true) by decide)] at H; exact H
            clear H
            have H := H1
            clear H1
            obtain rfl := Option.some.inj H
            go_wp2
            go_ret
            exact ⟨er, pT HB.out⟩
           replace c56 := Bool.eq_false_iff.mpr c56
           subst c56
           have H1 : (some false) = some r := by rw [if_neg (show ¬ (false = true) by decide)] at H; exact H
           clear H
           have H := H1
           clear H1
           obtain rfl := Option.some.inj H
           go_wp2
           go_ret
           exact ⟨er, pT HB.out⟩
          rw [if_neg c55] at H
          have c55b0 : (x10_2 == (t104.length : Int)) = false := beq_eq_false_iff_ne.mpr c55
          have c55b1 : (x10_2 != (t104.length : Int)) = true := bne_iff_ne.mpr c55
          obtain rfl := Option.some.inj H
          go_wp2
          go_ret
          exact ⟨er, pT HB.out⟩
   replace c17 := Bool.eq_false_iff.mpr c17
   subst c17
   have H1 : (some ((t107.length : Int) == 0)) = some r := by rw [if_neg (show ¬ (false = true) by decide)] at H; exact H
   clear H
   have H := H1
   clear H1
   obtain rfl := Option.some.inj H
   obtain ⟨Ao60, co60, eo60⟩ := Kd.S_slice HO_6.out
   subst eo60
   go_wp2
   go_ret
   exact ⟨er, pT HB.out⟩
def laws_FnRegions.Pure : Prop := ∀ (l0 : List Int), (l0.length ≤ 9223372036854775807 ∧ ∀ z0 ∈ l0, (Lit.int .u8 z0).wf = true) → l0.length * 1 ≤ 140737488351232 → ∃ k, laws_FnRegions.f k l0 = some true
end Go.Proofs.Ytnpclamoabcbgaa.P
namespace Go.Proofs.Ytnpclamoabcbgaa.Open
open Go.ChangeShapes Go.WideShapes Go.RowKit Go.Deep Go.Joins Go.Proofs.YtnpclamoabcbgaaW.PrintWords
def Opens {α : Type} (P : Program) (t : TypeId) (d : Kd α) (wf : α → Prop) : Prop :=
  ∀ {H : Type} {enc : TypeId × Value → H} {W : World} {fuel : Nat} {cs : List Value} {x : DataW H × List MemPlace},
    DataW.trod enc P W 0 (fun _ => true) true fuel t cs = some x → ∃ y, d.K W y cs ∧ wf y
theorem opens_int {P : Program} {t : TypeId} {k : IntKind} (h : P.underlying t = some (.int k)) : Opens P t (Kd.int k) (fun n => (Lit.int k n).wf = true) := by
  intro H enc W fuel cs x hx
  obtain ⟨n, rfl, _, hw⟩ := DataW.trod_int h hx
  exact ⟨n, rfl, hw⟩
theorem list_of {α : Type} {p : Nat → α → Prop} : ∀ (n : Nat), (∀ i, i < n → ∃ y, p i y) → ∃ ys : List α, ys.length = n ∧ ∀ (i : Nat) (y : α), ys[i]? = some y → p i y
  | 0, _ => ⟨[], rfl, fun i y h => by simp at h⟩
  | n + 1, h => by
    obtain ⟨ys, hl, hy⟩ := list_of n (fun i hi => h i (by omega))
    obtain ⟨y, hp⟩ := h n (by omega)
    refine ⟨ys ++ [y], by simp [hl], fun i z hz => ?_⟩
    by_cases hi : i < n
    · rw [List.getElem?_append_left (by omega)] at hz
      exact hy i z hz
    · have hi2 : i = n := by
        have := (List.getElem?_eq_some_iff.1 hz).1
        simp [hl] at this
        omega
      subst hi2
      rw [List.getElem?_append_right (by omega), hl] at hz
      simp at hz
      subst hz
      exact hp
theorem opens_slice {α : Type} {P : Program} {t e : TypeId} {d : Kd α} {wf : α → Prop} (h : P.underlying t = some (.slice e)) (hc : P.cellsOf e = d.sz) (he : Opens P e d wf) :
    Opens P t (Kd.slice e d) (fun l => l.length ≤ 9223372036854775807 ∧ ∀ x ∈ l, wf x) := by
  intro H enc W fuel cs x hx
  rcases open_slice h hx with ⟨rfl, _⟩ | ⟨a, len, cap, m, n, D, Pl, rfl, _, hl, hm, hmm, _, hx⟩
  · exact ⟨[], ⟨none, 0, rfl, by simp, Kd.C_nil d W⟩, by simp, by simp⟩
  · obtain ⟨ys, hlen, hy⟩ := list_of (p := fun i y => ∃ cs', W.cells? 0 (a.add (i * P.cellsOf e)) (P.cellsOf e) = some cs' ∧ d.K W y cs' ∧ wf y) len (fun i hi => by
      obtain ⟨cs', h1, h2⟩ := hx i (by rw [hmm]; split <;> omega)
      obtain ⟨y, hK, hw⟩ := he h2
      exact ⟨y, cs', h1, hK, hw⟩)
    have hm' : cap ≤ 9223372036854775807 := by simpa [maxLen] using hm
    refine ⟨ys, ⟨some a, cap, by rw [hlen], by omega, ⟨rfl, by omega, fun _ => ⟨a, rfl, fun j y hj => ?_⟩⟩⟩, by omega, fun y hmem => ?_⟩
    · obtain ⟨cs', h1, hK, _⟩ := hy j y hj
      obtain ⟨_, hl2, hcell⟩ := World.cells?_some h1
      refine ⟨cs', d.K_len hK, hK, fun i u hu => ?_⟩
      have hi : i < P.cellsOf e := by
        have := (List.getElem?_eq_some_iff.1 hu).1
        omega
      rw [← hc, ← Go.Deep.add_add, hcell i hi]
      exact hu
    · obtain ⟨j, hj⟩ := List.getElem?_of_mem hmem
      obtain ⟨_, _, _, hw⟩ := hy j y hj
      exact hw
theorem sized_any {H : Type} {enc : TypeId × Value → H} {P : Program} {W : World} {base : Nat} {spare : Nat → Bool} {held : Bool} {t e : TypeId} {a : Option Addr} {len cap : Nat} {d : DataW H} {ps : List MemPlace} {ts : List TypeId} {ds : List (DataW H)} {j : Nat}
    (hsz : (DataW.weightsEach P ts ds).all (· ≤ reachBytes) = true) (ht : ts[j]? = some t) (hd : ds[j]? = some d) (hu : P.underlying t = some (.slice e)) {B : Nat} (hB : P.bytesOf e = B)
    (h : DataW.Trod enc P W base spare held t (.slice a len cap) d ps) : len * B ≤ 140737488351232 := by
  obtain ⟨fuel, hf⟩ := h
  rcases open_slice hu hf with ⟨hcs, _⟩ | ⟨x, l, c, m, n, D, Pl, hcs, _, hl, _, _, hx, _⟩
  · simp [Value.cells] at hcs
    obtain ⟨rfl, rfl, rfl⟩ := hcs
    simp
  · simp [Value.cells] at hcs
    obtain ⟨rfl, rfl, rfl⟩ := hcs
    obtain ⟨hx, _⟩ := Prod.mk.inj hx
    subst hx
    have z := sized_slice hsz ht hd hu
    rw [hB] at z
    refine Nat.le_trans (Nat.mul_le_mul_right _ ?_) z
    simp
theorem slice_at {α : Type} {P : Program} {W : World} {t e : TypeId} {d : Kd α} {wf : List α → Prop} {H : Type} {enc : TypeId × Value → H} {a : Option Addr} {len cap : Nat} {dd : DataW H} {ps : List MemPlace} (ho : Opens P t (Kd.slice e d) wf)
    (h : DataW.Trod enc P W 0 (fun _ => true) true t (.slice a len cap) dd ps) : ∃ l : List α, len = l.length ∧ l.length ≤ cap ∧ d.C W a l.length l ∧ wf l := by
  obtain ⟨fuel, hf⟩ := h
  obtain ⟨l, ⟨A, c, hcs, hl, hC⟩, hw⟩ := ho hf
  simp [Value.cells] at hcs
  obtain ⟨rfl, rfl, rfl⟩ := hcs
  exact ⟨l, rfl, hl, hC, hw⟩
section
variable {P : Program} {t : TypeId} {W : World} {H : Type} {enc : TypeId × Value → H} {r : Reach} {b0 : Nat} {v : Value} {d : DataW H} {p : List MemPlace}
end
end Go.Proofs.Ytnpclamoabcbgaa.Open
namespace Go.Proofs.Ytnpclamoabcbgaa.P
open Go.RowKit Go.Proofs.YtnpclamoabcbgaaW.PrintWords Go.Proofs.YtnpclamoabcbgaaW.PrintLast Go.Proofs.YtnpclamoabcbgaaW.PrintMore
attribute [local go_sem] max2_int min2_int max_two min_two max_three min_three max_four min_four
set_option linter.unusedVariables false
set_option linter.unusedSimpArgs false
open Go.Proofs.Ytnpclamoabcbgaa.Open
end Go.Proofs.Ytnpclamoabcbgaa.P
namespace Go.Proofs.Ytnpclamoabcbgaa.Pure
set_option linter.unusedVariables false
set_option linter.unusedSimpArgs false
open Go.RowKit Go.Proofs.YtnpclamoabcbgaaW.PrintWords Go.Proofs.YtnpclamoabcbgaaW.PrintLast Go.Proofs.YtnpclamoabcbgaaW.PrintMore
theorem w64 {x : Int} (h0 : -9223372036854775808 ≤ x) (h1 : x ≤ 9223372036854775807) : wrap64 x = x := by
  unfold wrap64
  omega
theorem w64n {n : Nat} (h : n ≤ 9223372036854775807) : wrap64 (n : Int) = (n : Int) := w64 (by omega) (by omega)
theorem rd_nat (xs : List Int) (i : Nat) : rd xs (i : Int) = xs.getD i 0 := by simp [rd]
section
variable {α β : Type} {f g : Nat → Option α} {r : α}
theorem ev_some (r : α) : Ev (fun _ => some r) r := ⟨0, fun _ _ => rfl⟩
theorem ev_ifp {c : Prop} [Decidable c] (h : c) (k : Ev f r) : Ev (fun n => if c then f n else g n) r := Ev.congr (fun _ => if_pos h) k
theorem ev_ifn {c : Prop} [Decidable c] (h : ¬ c) (k : Ev g r) : Ev (fun n => if c then f n else g n) r := Ev.congr (fun _ => if_neg h) k
theorem ev_bind {F : Nat → α → Option β} {q : β} (h : Ev g r) (k : Ev (fun n => F n r) q) : Ev (fun n => (g n).bind (fun x => F n x)) q := by
  obtain ⟨K1, h1⟩ := h
  obtain ⟨K2, h2⟩ := k
  exact ⟨K1 + K2, fun n hn => by show (g n).bind (fun x => F n x) = some q; rw [h1 n (by omega)]; exact h2 n (by omega)⟩
theorem ev_const {a : Option α} (h : a = some r) : Ev (fun _ => a) r := ⟨0, fun _ _ => h⟩
theorem ev_step (h : ∀ k, g (k + 1) = f k) (k : Ev f r) : Ev g r := by
  obtain ⟨K, h1⟩ := k
  refine ⟨K + 1, fun n hn => ?_⟩
  obtain ⟨m, rfl⟩ : ∃ m, n = m + 1 := ⟨n - 1, by omega⟩
  rw [h m]
  exact h1 m (by omega)
end
def iter {σ : Type} (g : Nat → σ → σ) : Nat → Nat → σ → σ
  | _, 0, s => s
  | i, d + 1, s => iter g (i + 1) d (g i s)
theorem loop_ev {σ ρ : Type} (F : Nat → σ → Nat → Option ρ) (n : Nat) (g : Nat → σ → σ) (fin : σ → ρ) (I : Nat → σ → Prop)
    (hs : ∀ i s r, I i s → i < n → Ev (fun k => F k (g i s) (i + 1)) r → Ev (fun k => F k s i) r) (hI : ∀ i s, I i s → i < n → I (i + 1) (g i s))
    (he : ∀ s, I n s → Ev (fun k => F k s n) (fin s)) : ∀ i s, i ≤ n → I i s → Ev (fun k => F k s i) (fin (iter g i (n - i) s)) := by
  have key : ∀ d i s, n - i = d → i ≤ n → I i s → Ev (fun k => F k s i) (fin (iter g i d s)) := by
    intro d
    induction d with
    | zero =>
      intro i s h0 h1 h2
      obtain rfl : i = n := by omega
      exact he s h2
    | succ d ih =>
      intro i s h0 h1 h2
      exact hs i s _ h2 (by omega) (ih (i + 1) (g i s) (by omega) (by omega) (hI i s h2 (by omega)))
  exact fun i s h1 h2 => key (n - i) i s rfl h1 h2
theorem iter_inv {σ : Type} (g : Nat → σ → σ) (I : Nat → σ → Prop) (n : Nat) (hI : ∀ i s, I i s → i < n → I (i + 1) (g i s)) : ∀ d i s, i + d = n → I i s → I n (iter g i d s) := by
  intro d
  induction d with
  | zero => intro i s h0 h1; obtain rfl : i = n := by omega
            exact h1
  | succ d ih => intro i s h0 h1; exact ih (i + 1) _ (by omega) (hI i s h1 (by omega))
theorem iter_foldl {σ α : Type} (f : σ → α → σ) (z : α) (xs : List α) : ∀ d i s, i + d = xs.length → iter (fun i s => f s (xs.getD i z)) i d s = (xs.drop i).foldl f s := by
  intro d
  induction d with
  | zero =>
    intro i s h
    rw [List.drop_of_length_le (by omega)]
    rfl
  | succ d ih =>
    intro i s h
    have hlt : i < xs.length := by omega
    rw [List.drop_eq_getElem_cons hlt]
    show iter _ (i + 1) d _ = _
    rw [ih (i + 1) _ (by omega), List.foldl_cons]
    simp [List.getD, List.getElem?_eq_getElem hlt]
def rall (p : Nat → Bool) : Nat → Nat → Bool
  | _, 0 => true
  | i, d + 1 => p i && rall p (i + 1) d
theorem rall_iff (p : Nat → Bool) : ∀ d i, rall p i d = true ↔ ∀ j, i ≤ j → j < i + d → p j = true
  | 0, i => ⟨fun _ j h1 h2 => by omega, fun _ => rfl⟩
  | d + 1, i => by
    show (p i && rall p (i + 1) d) = true ↔ _
    rw [Bool.and_eq_true, rall_iff p d (i + 1)]
    constructor
    · rintro ⟨h0, h1⟩ j h2 h3
      by_cases e : j = i
      · rw [e]; exact h0
      · exact h1 j (by omega) (by omega)
    · intro h
      exact ⟨h i (Nat.le_refl _) (by omega), fun j h2 h3 => h j (by omega) (by omega)⟩
theorem all_ev {ρ : Type} (F : Nat → Nat → Option ρ) (n : Nat) (p : Nat → Bool) (no yes : ρ) (hs : ∀ i r, i < n → p i = true → Ev (fun k => F k (i + 1)) r → Ev (fun k => F k i) r)
    (hn : ∀ i, i < n → p i = false → Ev (fun k => F k i) no) (he : Ev (fun k => F k n) yes) :
    ∀ i, i ≤ n → Ev (fun k => F k i) (if rall p i (n - i) = true then yes else no) := by
  have key : ∀ d i, n - i = d → i ≤ n → Ev (fun k => F k i) (if rall p i d = true then yes else no) := by
    intro d
    induction d with
    | zero =>
      intro i h0 h1
      obtain rfl : i = n := by omega
      rw [show rall p i 0 = true from rfl, if_pos rfl]
      exact he
    | succ d ih =>
      intro i h0 h1
      have h := ih (i + 1) (by omega) (by omega)
      have e : rall p i (d + 1) = (p i && rall p (i + 1) d) := rfl
      cases hp : p i with
      | true =>
        rw [e, hp, Bool.true_and]
        exact hs i _ (by omega) hp h
      | false =>
        rw [e, hp, Bool.false_and, if_neg (by simp)]
        exact hn i (by omega) hp
  exact fun i h1 => key (n - i) i rfl h1
theorem allb_ev (F : Nat → Nat → Option Bool) (n : Nat) (p : Nat → Bool) (hs : ∀ i r, i < n → p i = true → Ev (fun k => F k (i + 1)) r → Ev (fun k => F k i) r)
    (hn : ∀ i, i < n → p i = false → Ev (fun k => F k i) false) (he : Ev (fun k => F k n) true) : Ev (fun k => F k 0) (rall p 0 n) := by
  have h := all_ev F n p false true hs hn he 0 (Nat.zero_le _)
  rw [Nat.sub_zero] at h
  cases e : rall p 0 n <;> simpa [e] using h
theorem getD_eq_get {α : Type} {xs : List α} {i : Nat} (z : α) (h : i < xs.length) : xs.getD i z = xs[i] := by simp [List.getD, List.getElem?_eq_getElem h]
theorem rall_list {α : Type} (xs : List α) (z : α) (p : α → Bool) : rall (fun j => p (xs.getD j z)) 0 xs.length = xs.all p := by
  rw [Bool.eq_iff_iff, rall_iff, List.all_eq_true]
  constructor
  · intro h x hx
    obtain ⟨i, hi, rfl⟩ := List.getElem_of_mem hx
    rw [← getD_eq_get z hi]
    exact h i (Nat.zero_le _) (by omega)
  · intro h j _ hj
    rw [getD_eq_get z (by omega)]
    exact h _ (List.getElem_mem (by omega))
def fidx (p : Nat → Bool) : Nat → Nat → Int
  | _, 0 => -1
  | i, d + 1 => if p i = true then (i : Int) else fidx p (i + 1) d
theorem fidx_nonneg (p : Nat → Bool) : ∀ d i, decide (fidx p i d ≥ 0) = !rall (fun j => !p j) i d
  | 0, i => rfl
  | d + 1, i => by
    have h := fidx_nonneg p d (i + 1)
    show decide ((if p i = true then (i : Int) else fidx p (i + 1) d) ≥ 0) = !((!p i) && rall (fun j => !p j) (i + 1) d)
    cases e : p i with
    | true => simp
    | false => simpa using h
theorem find_ev (F : Nat → Nat → Option Int) (n : Nat) (p : Nat → Bool) (hs : ∀ i r, i < n → p i = false → Ev (fun k => F k (i + 1)) r → Ev (fun k => F k i) r) (hx : ∀ i, i < n → p i = true → Ev (fun k => F k i) (i : Int))
    (he : Ev (fun k => F k n) (-1)) : Ev (fun k => F k 0) (fidx p 0 n) := by
  have key : ∀ d i, n - i = d → i ≤ n → Ev (fun k => F k i) (fidx p i d) := by
    intro d
    induction d with
    | zero =>
      intro i h0 h1
      obtain rfl : i = n := by omega
      exact he
    | succ d ih =>
      intro i h0 h1
      show Ev (fun k => F k i) (if p i = true then (i : Int) else fidx p (i + 1) d)
      cases e : p i with
      | true => rw [if_pos rfl]; exact hx i (by omega) e
      | false => rw [if_neg (by simp)]; exact hs i _ (by omega) e (ih (i + 1) (by omega) (by omega))
  exact key n 0 (by omega) (Nat.zero_le _)
theorem ev_ite {α : Type} {f g : Nat → Option α} {a b : α} {c : Bool} (h : c = true → Ev f a) (k : c = false → Ev g b) : Ev (fun n => if c = true then f n else g n) (if c = true then a else b) := by
  cases c with
  | true => exact h rfl
  | false => exact k rfl
end Go.Proofs.Ytnpclamoabcbgaa.Pure
namespace Go.Proofs.Ytnpclamoabcbgaa.Pure
set_option linter.unusedVariables false
set_option linter.unusedSimpArgs false
def passS (nr : Int → Int → Bool) (x : Int) (rs g : List Int) : List Int := rs.foldl (fun g c => if c ∈ g then g else if nr x c = true then g ++ [c] else g) g
theorem passS_is (nr : Int → Int → Bool) (x : Int) (g0 : List Int) : ∀ (rs add : List Int), rs.Nodup → (∀ c ∈ rs, c ∉ add) → passS nr x rs (g0 ++ add) = g0 ++ add ++ rs.filter (fun c => !decide (c ∈ g0) && nr x c)
  | [], add, _, _ => by simp [passS]
  | c :: rs, add, hn, ha => by
    rw [List.nodup_cons] at hn
    have hc := ha c (List.mem_cons_self ..)
    have hr : ∀ d ∈ rs, d ∉ add := fun d hd => ha d (List.mem_cons_of_mem _ hd)
    unfold passS
    rw [List.foldl_cons, List.filter_cons]
    by_cases h : c ∈ g0
    · rw [if_pos (by simp [h]), if_neg (by simp [h])]
      exact passS_is nr x g0 rs add hn.2 hr
    · rw [if_neg (by simp [h, hc])]
      by_cases hx : nr x c = true
      · rw [if_pos hx, if_pos (by simp [h, hx]), List.append_assoc g0]
        have := passS_is nr x g0 rs (add ++ [c]) hn.2 (fun d hd => by
          simp only [List.mem_append, List.mem_singleton, not_or]
          exact ⟨hr d hd, fun e => hn.1 (e ▸ hd)⟩)
        unfold passS at this
        rw [this]
        simp
      · rw [if_neg hx, if_neg (by simp [hx])]
        exact passS_is nr x g0 rs add hn.2 hr
def leftOf (l seen : List Int) : List Int := l.filter (fun c => !decide (c ∈ seen))
theorem mem_leftOf {l seen : List Int} {c : Int} : c ∈ leftOf l seen ↔ c ∈ l ∧ c ∉ seen := by simp [leftOf]
theorem pass_both (nr : Int → Int → Bool) (x : Int) (l seen g : List Int) (hn : l.Nodup) (hs : ∀ c ∈ l, c ∈ seen → nr x c = false) :
    passS nr x l g = g ++ (leftOf l (seen ++ g)).filter (nr x) ∧ leftOf l (seen ++ passS nr x l g) = (leftOf l (seen ++ g)).filter (fun c => !nr x c) := by
  have e := passS_is nr x g l [] hn (by simp)
  rw [List.append_nil] at e
  have e2 : l.filter (fun c => !decide (c ∈ g) && nr x c) = (leftOf l (seen ++ g)).filter (nr x) := by
    unfold leftOf
    rw [List.filter_filter]
    refine List.filter_congr (fun c hc => ?_)
    by_cases h : c ∈ seen
    · simp [hs c hc h]
    · simp [h, Bool.and_comm]
  refine ⟨by rw [e, e2], ?_⟩
  rw [e]
  unfold leftOf
  rw [List.filter_filter]
  refine List.filter_congr (fun c hc => ?_)
  by_cases h : c ∈ seen
  · simp [h]
  · by_cases h2 : c ∈ g
    · simp [h2]
    · cases hx : nr x c <;> simp [h, h2, hx, hc]
theorem passS_mem {nr : Int → Int → Bool} {x : Int} {l g : List Int} (hn : l.Nodup) {c : Int} : c ∈ passS nr x l g ↔ c ∈ g ∨ (c ∈ l ∧ nr x c = true) := by
  have e := passS_is nr x g l [] hn (by simp)
  rw [List.append_nil] at e
  rw [e]
  by_cases h : c ∈ g <;> simp [h]
theorem passS_nodup {nr : Int → Int → Bool} {x : Int} {l g : List Int} (hn : l.Nodup) (hg : g.Nodup) : (passS nr x l g).Nodup := by
  have e := passS_is nr x g l [] hn (by simp)
  rw [List.append_nil] at e
  rw [e, List.nodup_append]
  refine ⟨hg, hn.sublist List.filter_sublist, fun a ha b hb => ?_⟩
  simp only [List.mem_filter, Bool.and_eq_true, Bool.not_eq_true', decide_eq_false_iff_not] at hb
  exact fun h => hb.2.1 (h ▸ ha)
def growS (nr : Int → Int → Bool) (l : List Int) : Nat → Nat → List Int → List Int
  | 0, _, g => g
  | k + 1, j, g => if j < g.length then growS nr l k (j + 1) (passS nr (g.getD j 0) l g) else g
structure Grow (nr : Int → Int → Bool) (l seen g : List Int) (j : Nat) : Prop where
  nd : g.Nodup
  sub : ∀ c ∈ g, c ∈ l ∧ c ∉ seen
  done : ∀ i, i < j → i < g.length → ∀ c ∈ l, nr (g.getD i 0) c = true → c ∈ g
theorem Grow.step {nr : Int → Int → Bool} {l seen g : List Int} {j : Nat} (h : Grow nr l seen g j) (hn : l.Nodup) (hj : j < g.length) (hs : ∀ x ∈ l, x ∉ seen → ∀ c ∈ l, c ∈ seen → nr x c = false) :
    Grow nr l seen (passS nr (g.getD j 0) l g) (j + 1) := by
  have e := passS_is nr (g.getD j 0) g l [] hn (by simp)
  rw [List.append_nil] at e
  have hm : g.getD j 0 ∈ g := by rw [List.getD_eq_getElem?_getD, List.getElem?_eq_getElem hj]; exact List.getElem_mem hj
  have hx := h.sub _ hm
  refine ⟨passS_nodup hn h.nd, fun c hc => ?_, fun i hi hi2 c hc hnr => ?_⟩
  · rw [passS_mem hn] at hc
    rcases hc with hc | hc
    · exact h.sub c hc
    · refine ⟨hc.1, fun hsn => ?_⟩
      have := hs _ hx.1 hx.2 c hc.1 hsn
      rw [hc.2] at this
      exact absurd this (by simp)
  · rw [passS_mem hn]
    have hig : i < g.length := by omega
    have eg : (passS nr (g.getD j 0) l g).getD i 0 = g.getD i 0 := by rw [e, List.getD_eq_getElem?_getD, List.getElem?_append_left hig, ← List.getD_eq_getElem?_getD]
    rw [eg] at hnr
    by_cases hij : i = j
    · subst hij
      exact .inr ⟨hc, hnr⟩
    · exact .inl (h.done i (by omega) hig c hc hnr)
theorem nodup_leq : ∀ {g l : List Int}, g.Nodup → (∀ c ∈ g, c ∈ l) → g.length ≤ l.length
  | [], _, _, _ => by simp
  | a :: g, l, hg, hs => by
    rw [List.nodup_cons] at hg
    have ha := hs a (List.mem_cons_self ..)
    have h := nodup_leq (g := g) (l := l.erase a) hg.2 (fun c hc => (List.mem_erase_of_ne (fun e : c = a => hg.1 (e ▸ hc))).2 (hs c (List.mem_cons_of_mem _ hc)))
    rw [List.length_erase_of_mem ha] at h
    have := List.length_pos_of_mem ha
    simp only [List.length_cons]
    omega
def growI (nr : Int → Int → Bool) : Nat → Nat → List Int → List Int → List Int × List Int
  | 0, _, p, r => (p, r)
  | k + 1, j, p, r => if j < p.length then growI nr k (j + 1) (p ++ r.filter (nr (p.getD j 0))) (r.filter (fun c => !nr (p.getD j 0) c)) else (p, r)
theorem growth_both (nr : Int → Int → Bool) (l seen : List Int) (hn : l.Nodup) (hs : ∀ x ∈ l, x ∉ seen → ∀ c ∈ l, c ∈ seen → nr x c = false) : ∀ (k j : Nat) (g : List Int), Grow nr l seen g j → l.length < k + j →
    growI nr k j g (leftOf l (seen ++ g)) = (growS nr l k j g, leftOf l (seen ++ growS nr l k j g)) ∧ Grow nr l seen (growS nr l k j g) (growS nr l k j g).length ∧ (∀ c ∈ g, c ∈ growS nr l k j g)
  | 0, j, g, h, hk => by
    have := nodup_leq h.nd (fun c hc => (h.sub c hc).1)
    exact ⟨rfl, ⟨h.nd, h.sub, fun i hi hi2 => h.done i (by simp only [growS] at hi2; omega) hi2⟩, fun c hc => hc⟩
  | k + 1, j, g, h, hk => by
    unfold growI growS
    by_cases hj : j < g.length
    · rw [if_pos hj, if_pos hj]
      have hm : g.getD j 0 ∈ g := by rw [List.getD_eq_getElem?_getD, List.getElem?_eq_getElem hj]; exact List.getElem_mem hj
      have hx := h.sub _ hm
      obtain ⟨p1, p2⟩ := pass_both nr (g.getD j 0) l seen g hn (hs _ hx.1 hx.2)
      rw [← p1, ← p2]
      obtain ⟨r1, r2, r3⟩ := growth_both nr l seen hn hs k (j + 1) _ (h.step hn hj hs) (by omega)
      exact ⟨r1, r2, fun c hc => r3 c ((passS_mem hn).2 (.inl hc))⟩
    · rw [if_neg hj, if_neg hj]
      exact ⟨rfl, ⟨h.nd, h.sub, fun i hi hi2 => h.done i (by omega) hi2⟩, fun c hc => hc⟩
def Closed (nr : Int → Int → Bool) (l seen : List Int) : Prop := ∀ x ∈ l, x ∉ seen → ∀ c ∈ l, c ∈ seen → nr x c = false
theorem Closed.more {nr : Int → Int → Bool} {l seen g : List Int} (sym : ∀ a b, nr a b = nr b a) (h : Closed nr l seen) (hg : Grow nr l seen g g.length) : Closed nr l (seen ++ g) := by
  intro x hx hxs c hc hcs
  rw [List.mem_append, not_or] at hxs
  rw [List.mem_append] at hcs
  rcases hcs with hcs | hcs
  · exact h x hx hxs.1 c hc hcs
  · cases e : nr x c with
    | false => rfl
    | true =>
      obtain ⟨i, hi, ei⟩ := List.getElem_of_mem hcs
      have := hg.done i hi hi x hx (by rw [List.getD_eq_getElem?_getD, List.getElem?_eq_getElem hi, Option.getD_some, ei, sym]; exact e)
      exact absurd this hxs.2
theorem Grow.one {nr : Int → Int → Bool} {l seen : List Int} {x : Int} (hx : x ∈ l) (hs : x ∉ seen) : Grow nr l seen [x] 0 :=
  ⟨by simp, fun c hc => by rw [List.mem_singleton] at hc; exact hc ▸ ⟨hx, hs⟩, fun i hi => absurd hi (by omega)⟩
def partsS (nr : Int → Int → Bool) (f : List Int → List Int) (l : List Int) : Nat → Nat → List Int → List (List Int) → List (List Int)
  | 0, _, _, out => out
  | k + 1, i, seen, out => if i < l.length then (if l.getD i 0 ∈ seen then partsS nr f l k (i + 1) seen out else
      partsS nr f l k (i + 1) (seen ++ growS nr l (l.length + 1) 0 [l.getD i 0]) (out ++ [f (growS nr l (l.length + 1) 0 [l.getD i 0])])) else out
def partsI (nr : Int → Int → Bool) (f : List Int → List Int) (n : Nat) : Nat → List Int → List (List Int) → List (List Int)
  | 0, _, out => out
  | k + 1, r, out => match r with
    | [] => out
    | s :: r => partsI nr f n k (growI nr n 0 [s] r).2 (out ++ [f (growI nr n 0 [s] r).1])
theorem leftOf_skip {l seen : List Int} {i : Nat} (h : ∀ j, j < i → l.getD j 0 ∈ seen) : leftOf l seen = leftOf (l.drop i) seen := by
  induction i with
  | zero => rfl
  | succ i ih =>
    rw [ih (fun j hj => h j (by omega))]
    by_cases hi : i < l.length
    · have := h i (by omega)
      rw [List.getD_eq_getElem?_getD, List.getElem?_eq_getElem hi, Option.getD_some] at this
      unfold leftOf
      rw [List.drop_eq_getElem_cons hi, List.filter_cons, if_neg (by simp [this])]
    · rw [List.drop_eq_nil_of_le (by omega), List.drop_eq_nil_of_le (by omega)]
theorem leftOf_more {l seen : List Int} {x : Int} {r : List Int} (h : leftOf l seen = x :: r) (hn : l.Nodup) : r = leftOf l (seen ++ [x]) := by
  have hr : (x :: r).Nodup := h ▸ hn.sublist List.filter_sublist
  rw [List.nodup_cons] at hr
  have e : leftOf l (seen ++ [x]) = (leftOf l seen).filter (fun c => !decide (c = x)) := by
    unfold leftOf
    rw [List.filter_filter]
    refine List.filter_congr (fun c _ => ?_)
    by_cases h1 : c ∈ seen <;> by_cases h2 : c = x <;> simp [h1, h2]
  rw [e, h, List.filter_cons, if_neg (by simp)]
  exact (List.filter_eq_self.2 (fun c hc => by simp; exact fun e => hr.1 (e ▸ hc))).symm
theorem parts_both (nr : Int → Int → Bool) (f : List Int → List Int) (l : List Int) (hn : l.Nodup) (sym : ∀ a b, nr a b = nr b a) : ∀ (k i : Nat) (seen : List Int) (out : List (List Int)) (m : Nat), l.length < k + i → Closed nr l seen → (∀ j, j < i → j < l.length → l.getD j 0 ∈ seen) → (leftOf l seen).length < m →
    partsS nr f l k i seen out = partsI nr f (l.length + 1) m (leftOf l seen) out
  | 0, i, seen, out, m, hk, hc, hi, hm => by
    have e : leftOf l seen = [] := by
      unfold leftOf
      rw [List.filter_eq_nil_iff]
      intro c hc2
      obtain ⟨j, hj, ej⟩ := List.getElem_of_mem hc2
      have := hi j (by omega) hj
      rw [List.getD_eq_getElem?_getD, List.getElem?_eq_getElem hj, Option.getD_some, ej] at this
      simp [this]
    rw [e]
    cases m <;> rfl
  | k + 1, i, seen, out, m, hk, hc, hi, hm => by
    unfold partsS
    by_cases h : i < l.length
    · rw [if_pos h]
      by_cases hx : l.getD i 0 ∈ seen
      · rw [if_pos hx]
        exact parts_both nr f l hn sym k (i + 1) seen out m (by omega) hc (fun j hj hj2 => by
          by_cases e : j = i
          · exact e ▸ hx
          · exact hi j (by omega) hj2) hm
      · rw [if_neg hx]
        have hxl : l.getD i 0 ∈ l := by rw [List.getD_eq_getElem?_getD, List.getElem?_eq_getElem h]; exact List.getElem_mem h
        have e1 : leftOf l seen = l.getD i 0 :: leftOf (l.drop (i + 1)) seen := by
          rw [leftOf_skip (fun j hj => hi j hj (by omega)), List.drop_eq_getElem_cons h]
          have eg : l.getD i 0 = l[i] := by rw [List.getD_eq_getElem?_getD, List.getElem?_eq_getElem h, Option.getD_some]
          rw [eg] at hx ⊢
          unfold leftOf
          rw [List.filter_cons, if_pos (by simp [hx])]
        have e2 := leftOf_more e1 hn
        have g0 := Grow.one (nr := nr) hxl hx
        obtain ⟨r1, r2, r3⟩ := growth_both nr l seen hn hc (l.length + 1) 0 [l.getD i 0] g0 (by omega)
        cases m with
        | zero => omega
        | succ m =>
          rw [e1]
          show _ = partsI nr f (l.length + 1) m (growI nr (l.length + 1) 0 [l.getD i 0] (leftOf (l.drop (i + 1)) seen)).2 (out ++ [f (growI nr (l.length + 1) 0 [l.getD i 0] (leftOf (l.drop (i + 1)) seen)).1])
          rw [e2, r1]
          refine parts_both nr f l hn sym k (i + 1) _ _ m (by omega) (hc.more sym r2) (fun j hj hj2 => ?_) ?_
          · rw [List.mem_append]
            by_cases e : j = i
            · exact .inr (r3 _ (by rw [e]; simp))
            · exact .inl (hi j (by omega) hj2)
          · have hlen : (leftOf l (seen ++ growS nr l (l.length + 1) 0 [l.getD i 0])).length ≤ (leftOf l (seen ++ [l.getD i 0])).length := by
              refine nodup_leq (hn.sublist List.filter_sublist) (fun c hc2 => ?_)
              rw [mem_leftOf, List.mem_append, not_or] at hc2 ⊢
              exact ⟨hc2.1, hc2.2.1, fun h3 => hc2.2.2 (r3 c h3)⟩
            rw [e1, e2] at hm
            simp only [List.length_cons] at hm
            omega
    · rw [if_neg h]
      have e : leftOf l seen = [] := by
        unfold leftOf
        rw [List.filter_eq_nil_iff]
        intro c hc2
        obtain ⟨j, hj, ej⟩ := List.getElem_of_mem hc2
        have := hi j (by omega) hj
        rw [List.getD_eq_getElem?_getD, List.getElem?_eq_getElem hj, Option.getD_some, ej] at this
        simp [this]
      rw [e]
      cases m <;> rfl
end Go.Proofs.Ytnpclamoabcbgaa.Pure
namespace Go.Proofs.Ytnpclamoabcbgaa.Pure
set_option linter.unusedVariables false
set_option linter.unusedSimpArgs false
open Go.RowKit Go.Proofs.Ytnpclamoabcbgaa.P Go.Proofs.YtnpclamoabcbgaaW.PrintWords Go.Proofs.YtnpclamoabcbgaaW.PrintLast
def inb (x a b : Int) : Bool := decide (a ≤ x) && decide (x ≤ b)
theorem inb_iff {x a b : Int} : inb x a b = true ↔ a ≤ x ∧ x ≤ b := by simp [inb]
theorem l1In_is (x a b : Int) : spec_l1In.f x a b = some (inb x a b) := by
  unfold spec_l1In.f inb
  split
  · rename_i h; simp [show a ≤ x from h]
  · rename_i h; simp [show ¬ a ≤ x from h]
theorem within_is (x a b : Int) : impl_within.f x a b = some (inb x a b) := l1In_is x a b
theorem allWithin_ev (l : List Int) (a b : Int) (hl : l.length ≤ 9223372036854775806) : Ev (fun k => impl_allWithin.f k l a b) (rall (fun i => inb (l.getD i 0) a b) 0 l.length) :=
  allb_ev (fun k i => impl_allWithin.l0 k a b l (l.length : Int) (i : Int)) l.length (fun i => inb (l.getD i 0) a b)
    (fun i r hi hp h => ev_step (fun k => by
      simp only [impl_allWithin.l0, within_is, Option.bind_some, rd_nat]
      rw [if_pos (by omega), if_pos (by omega), if_pos (by omega), if_pos hp, w64 (by omega) (by omega)]
      rfl) h)
    (fun i hi hp => ev_step (f := fun _ => some false) (fun k => by
      simp only [impl_allWithin.l0, within_is, Option.bind_some, rd_nat]
      rw [if_pos (by omega), if_pos (by omega), if_pos (by omega), if_neg (by rw [hp]; decide)]) (ev_some _))
    (ev_step (f := fun _ => some true) (fun k => by
      simp only [impl_allWithin.l0]
      rw [if_neg (by omega)]) (ev_some _))
theorem mul_bd {a b : Int} (a1 : 1 ≤ a) (a8 : a ≤ 8) (b1 : 1 ≤ b) (b8 : b ≤ 8) : 1 ≤ a * b ∧ a * b ≤ 64 := by
  obtain h | h | h | h | h | h | h | h : a = 1 ∨ a = 2 ∨ a = 3 ∨ a = 4 ∨ a = 5 ∨ a = 6 ∨ a = 7 ∨ a = 8 := by omega
  all_goals subst h; omega
theorem l2Shape_is (a b : Int) : spec_l2Shape.f a b = some (inb a 1 8 && inb b 1 8) := by
  unfold spec_l2Shape.f
  rw [l1In_is, l1In_is]
  cases inb a 1 8 <;> simp
theorem shape_iff {a b : Int} : (inb a 1 8 && inb b 1 8) = true ↔ (1 ≤ a ∧ a ≤ 8) ∧ 1 ≤ b ∧ b ≤ 8 := by rw [Bool.and_eq_true, inb_iff, inb_iff]
def rising (l : List Int) : Bool := rall (fun i => decide (l.getD i 0 < l.getD (i + 1) 0)) 0 (l.length - 1)
def regionOk (a b : Int) (l : List Int) : Bool := (inb a 1 8 && inb b 1 8) && (rising l && rall (fun i => inb (l.getD i 0) 0 (a * b - 1)) 0 l.length)
theorem increasing_ev (l : List Int) (hl : l.length ≤ 9223372036854775806) : Ev (fun k => impl_increasing.f k l) (rising l) := by
  have h := allb_ev (fun k i => impl_increasing.l0 k l ((i : Int) + 1)) (l.length - 1) (fun i => decide (l.getD i 0 < l.getD (i + 1) 0))
    (fun i r hi hp h => ev_step (fun k => by
      simp only [impl_increasing.l0]
      rw [if_pos (by omega), show wrap64 ((i : Int) + 1 - 1) = (i : Int) by rw [w64 (by omega) (by omega)]; omega, if_pos (by omega), if_pos (by omega), if_pos (by omega), show ((i : Int) + 1) = ((i + 1 : Nat) : Int) by omega, rd_nat, rd_nat,
        if_neg (by have := of_decide_eq_true hp; omega), w64 (by omega) (by omega)]) h)
    (fun i hi hp => ev_step (f := fun _ => some false) (fun k => by
      simp only [impl_increasing.l0]
      rw [if_pos (by omega), show wrap64 ((i : Int) + 1 - 1) = (i : Int) by rw [w64 (by omega) (by omega)]; omega, if_pos (by omega), if_pos (by omega), if_pos (by omega), show ((i : Int) + 1) = ((i + 1 : Nat) : Int) by omega, rd_nat, rd_nat,
        if_pos (by have := of_decide_eq_false hp; omega)]) (ev_some _))
    (ev_step (f := fun _ => some true) (fun k => by
      simp only [impl_increasing.l0]
      rw [if_neg (by omega)]) (ev_some _))
  exact h
theorem isShape_is (a b : Int) : impl_isShape.f a b = some (inb a 1 8 && inb b 1 8) := by
  unfold impl_isShape.f
  rw [within_is, Option.bind_some, within_is]
  cases inb a 1 8 <;> simp
theorem isRegion_ev (a b : Int) (l : List Int) (hl : l.length ≤ 9223372036854775806) : Ev (fun k => impl_isRegion.f k a b l) (regionOk a b l) := by
  unfold impl_isRegion.f regionOk
  refine ev_bind (ev_const (isShape_is a b)) ?_
  cases e : (inb a 1 8 && inb b 1 8) with
  | false => exact ev_ifn (by simp) (ev_some _)
  | true =>
    obtain ⟨⟨a1, a8⟩, b1, b8⟩ := shape_iff.1 e
    have hm := mul_bd a1 a8 b1 b8
    rw [Bool.true_and]
    refine ev_ifp rfl (ev_bind (increasing_ev l hl) ?_)
    cases rising l with
    | false => exact ev_ifn (by simp) (ev_some _)
    | true =>
      rw [Bool.true_and, show wrap64 (wrap64 (a * b) - 1) = a * b - 1 by rw [w64 (x := a * b) (by omega) (by omega), w64 (by omega) (by omega)]]
      exact ev_ifp rfl (ev_bind (allWithin_ev l 0 (a * b - 1) hl) (ev_some _))
theorem l1Rising_ev (l : List Int) (x y : Int) (hl : l.length ≤ 9223372036854775806) : Ev (fun k => spec_l1Rising.f k l x y) (rising l && rall (fun i => inb (l.getD i 0) x y) 0 l.length) := by
  have h := allb_ev (fun k i => spec_l1Rising.l0 k l x y (i : Int)) l.length (fun i => inb (l.getD i 0) x y && (decide (i = 0) || decide (l.getD (i - 1) 0 < l.getD i 0)))
    (fun i r hi hp h => ev_step (fun k => by
      rw [Bool.and_eq_true, Bool.or_eq_true] at hp
      simp only [spec_l1Rising.l0, l1In_is, Option.bind_some, rd_nat]
      rw [if_pos (by omega), if_pos (by omega), if_pos hp.1, w64 (x := (i : Int) + 1) (by omega) (by omega)]
      by_cases e : i = 0
      · rw [if_neg (by omega)]; rfl
      · have h2 := of_decide_eq_true (hp.2.resolve_left (by simpa using e))
        rw [if_pos (by omega), show wrap64 ((i : Int) - 1) = ((i - 1 : Nat) : Int) by rw [w64 (by omega) (by omega)]; omega, if_pos (by omega), if_pos (by omega), rd_nat, if_neg (by omega)]
        rfl) h)
    (fun i hi hp => ev_step (f := fun _ => some false) (fun k => by
      simp only [spec_l1Rising.l0, l1In_is, Option.bind_some, rd_nat]
      rw [if_pos (by omega), if_pos (by omega)]
      cases e : inb (l.getD i 0) x y with
      | false => simp
      | true =>
        rw [e, Bool.true_and, Bool.or_eq_false_iff] at hp
        have h1 := of_decide_eq_false hp.1
        have h2 := of_decide_eq_false hp.2
        rw [if_pos rfl, if_pos (by omega), show wrap64 ((i : Int) - 1) = ((i - 1 : Nat) : Int) by rw [w64 (by omega) (by omega)]; omega, if_pos (by omega), if_pos (by omega), rd_nat, if_pos (by omega)]) (ev_some _))
    (ev_step (f := fun _ => some true) (fun k => by
      simp only [spec_l1Rising.l0]
      rw [if_neg (by omega)]) (ev_some _))
  have e : rall (fun i => inb (l.getD i 0) x y && (decide (i = 0) || decide (l.getD (i - 1) 0 < l.getD i 0))) 0 l.length = (rising l && rall (fun i => inb (l.getD i 0) x y) 0 l.length) := by
    rw [Bool.eq_iff_iff, Bool.and_eq_true]
    unfold rising
    rw [rall_iff, rall_iff, rall_iff]
    constructor
    · intro hh
      refine ⟨fun j _ hj => ?_, fun j _ hj => ?_⟩
      · have := hh (j + 1) (Nat.zero_le _) (by omega)
        rw [Bool.and_eq_true, Bool.or_eq_true] at this
        have h2 := this.2.resolve_left (by simp)
        simpa using h2
      · have := hh j (Nat.zero_le _) (by omega)
        rw [Bool.and_eq_true] at this
        exact this.1
    · rintro ⟨h1, h2⟩ j _ hj
      rw [Bool.and_eq_true, Bool.or_eq_true]
      refine ⟨h2 j (Nat.zero_le _) hj, ?_⟩
      by_cases e : j = 0
      · exact .inl (by simpa using e)
      · have := h1 (j - 1) (Nat.zero_le _) (by omega)
        rw [show j - 1 + 1 = j by omega] at this
        exact .inr this
  rw [e] at h
  exact h
theorem l8Region_ev (a b : Int) (l : List Int) (hl : l.length ≤ 9223372036854775806) : Ev (fun k => spec_l8Region.f k a b l) (regionOk a b l) := by
  unfold spec_l8Region.f regionOk
  refine ev_bind (ev_const (l2Shape_is a b)) ?_
  cases e : (inb a 1 8 && inb b 1 8) with
  | false => exact ev_ifn (by simp) (ev_some _)
  | true =>
    obtain ⟨⟨a1, a8⟩, b1, b8⟩ := shape_iff.1 e
    have hm := mul_bd a1 a8 b1 b8
    rw [Bool.true_and, show wrap64 (wrap64 (a * b) - 1) = a * b - 1 by rw [w64 (x := a * b) (by omega) (by omega), w64 (by omega) (by omega)]]
    exact ev_ifp rfl (ev_bind (l1Rising_ev l 0 (a * b - 1) hl) (ev_some _))
end Go.Proofs.Ytnpclamoabcbgaa.Pure
namespace Go.Proofs.Ytnpclamoabcbgaa.Pure
set_option linter.unusedVariables false
set_option linter.unusedSimpArgs false
set_option linter.unusedSectionVars false
open Go.RowKit Go.Proofs.Ytnpclamoabcbgaa.P Go.Proofs.YtnpclamoabcbgaaW.PrintWords Go.Proofs.YtnpclamoabcbgaaW.PrintLast Go.Proofs.YtnpclamoabcbgaaW.PrintMore
theorem absOf_at {d : Int} (h0 : -100000 ≤ d) (h1 : d ≤ 100000) : impl_absOf.f d = some (max d (-d)) := by
  unfold impl_absOf.f
  by_cases h : d < 0
  · rw [if_pos h, w64 (by omega) (by omega), Int.max_eq_right (by omega)]
  · rw [if_neg h, Int.max_eq_left (by omega)]
theorem one_iff : ∀ i : Nat, i < 15 → ∀ j : Nat, j < 15 → (decide (max ((i : Int) - 7) (-((i : Int) - 7)) + max ((j : Int) - 7) (-((j : Int) - 7)) = 1)) = decide (((i : Int) - 7) * ((i : Int) - 7) + ((j : Int) - 7) * ((j : Int) - 7) = 1) := by decide
theorem one_is {x y : Int} (hx : -7 ≤ x ∧ x ≤ 7) (hy : -7 ≤ y ∧ y ≤ 7) : decide (max x (-x) + max y (-y) = 1) = decide (x * x + y * y = 1) := by
  obtain ⟨i, hi⟩ := Int.eq_ofNat_of_zero_le (show 0 ≤ x + 7 by omega)
  obtain ⟨j, hj⟩ := Int.eq_ofNat_of_zero_le (show 0 ≤ y + 7 by omega)
  have := one_iff i (by omega) j (by omega)
  rw [show (i : Int) - 7 = x by omega, show (j : Int) - 7 = y by omega] at this
  exact this
def adj (W a b : Nat) : Bool := decide ((((a % W : Nat) : Int) - ((b % W : Nat) : Int)) * (((a % W : Nat) : Int) - ((b % W : Nat) : Int)) + (((a / W : Nat) : Int) - ((b / W : Nat) : Int)) * (((a / W : Nat) : Int) - ((b / W : Nat) : Int)) = 1)
theorem cell_parts {W H a : Nat} (hW : 1 ≤ W ∧ W ≤ 8) (hH : 1 ≤ H ∧ H ≤ 8) (ha : a < H * W) : a % W < 8 ∧ a / W < 8 := by
  have h1 := Nat.mod_lt a (show 0 < W by omega)
  have h2 : a / W < H := by rw [Nat.div_lt_iff_lt_mul (by omega)]; exact ha
  omega
theorem tmodN (a W : Nat) : Int.tmod (a : Int) (W : Int) = ((a % W : Nat) : Int) := by rw [Int.tmod_eq_emod_of_nonneg (by omega)]; rfl
theorem tdivN (a W : Nat) : Int.tdiv (a : Int) (W : Int) = ((a / W : Nat) : Int) := by rw [Int.tdiv_eq_ediv_of_nonneg (by omega)]; rfl
section
variable {W H : Nat} (hW : 1 ≤ W ∧ W ≤ 8) (hH : 1 ≤ H ∧ H ≤ 8)
include hW hH
theorem connected_is {a b : Nat} (ha : a < H * W) (hb : b < H * W) : impl_areConnected.f (W : Int) (a : Int) (b : Int) = some (adj W a b) := by
  obtain ⟨a1, a2⟩ := cell_parts hW hH ha
  obtain ⟨b1, b2⟩ := cell_parts hW hH hb
  unfold impl_areConnected.f adj
  rw [if_neg (by omega), tmodN, tmodN, tdivN, tdivN, w64n (n := a / W) (by omega), w64n (n := b / W) (by omega)]
  generalize a % W = x at *
  generalize b % W = x' at *
  generalize a / W = y at *
  generalize b / W = y' at *
  rw [w64 (x := (x : Int) - (x' : Int)) (by omega) (by omega), w64 (x := (y : Int) - (y' : Int)) (by omega) (by omega), absOf_at (by omega) (by omega), Option.bind_some, absOf_at (by omega) (by omega), Option.bind_some, w64 (by omega) (by omega), ← one_is (x := (x : Int) - (x' : Int)) (y := (y : Int) - (y' : Int)) (by omega) (by omega)]
  rfl
theorem beside_is {a b : Nat} (ha : a < H * W) (hb : b < H * W) : spec_l8Beside.f (W : Int) (b : Int) (a : Int) = some (adj W a b) := by
  obtain ⟨a1, a2⟩ := cell_parts hW hH ha
  obtain ⟨b1, b2⟩ := cell_parts hW hH hb
  unfold spec_l8Beside.f adj
  rw [if_neg (by omega), tmodN, tmodN, tdivN, tdivN, w64n (n := a / W) (by omega), w64n (n := b / W) (by omega)]
  generalize a % W = x at *
  generalize b % W = x' at *
  generalize a / W = y at *
  generalize b / W = y' at *
  have ex : ((x' : Int) - (x : Int)) * ((x' : Int) - (x : Int)) = ((x : Int) - (x' : Int)) * ((x : Int) - (x' : Int)) := by rw [← Int.neg_mul_neg]; congr 1 <;> omega
  have ey : ((y' : Int) - (y : Int)) * ((y' : Int) - (y : Int)) = ((y : Int) - (y' : Int)) * ((y : Int) - (y' : Int)) := by rw [← Int.neg_mul_neg]; congr 1 <;> omega
  have sq : ∀ z : Int, -7 ≤ z → z ≤ 7 → 0 ≤ z * z ∧ z * z ≤ 49 := fun z h0 h1 => by
    obtain ⟨i, hi⟩ := Int.eq_ofNat_of_zero_le (show 0 ≤ z + 7 by omega)
    have key : ∀ i : Nat, i < 15 → 0 ≤ ((i : Int) - 7) * ((i : Int) - 7) ∧ ((i : Int) - 7) * ((i : Int) - 7) ≤ 49 := by decide
    have := key i (by omega)
    rw [show (i : Int) - 7 = z by omega] at this
    exact this
  have s1 := sq ((x : Int) - (x' : Int)) (by omega) (by omega)
  have s2 := sq ((y : Int) - (y' : Int)) (by omega) (by omega)
  rw [w64 (x := (x' : Int) - (x : Int)) (by omega) (by omega), w64 (x := (y' : Int) - (y : Int)) (by omega) (by omega), ex, ey, w64 (x := ((x : Int) - (x' : Int)) * ((x : Int) - (x' : Int))) (by omega) (by omega), w64 (x := ((y : Int) - (y' : Int)) * ((y : Int) - (y' : Int))) (by omega) (by omega), w64 (by omega) (by omega)]
  rfl
end
end Go.Proofs.Ytnpclamoabcbgaa.Pure
namespace Go.Proofs.Ytnpclamoabcbgaa.Pure
set_option linter.unusedVariables false
set_option linter.unusedSimpArgs false
open Go.RowKit Go.Proofs.Ytnpclamoabcbgaa.P Go.Proofs.YtnpclamoabcbgaaW.PrintWords Go.Proofs.YtnpclamoabcbgaaW.PrintLast
theorem mem_rall (l : List Int) (x : Int) : decide (x ∈ l) = !rall (fun i => decide (l.getD i 0 ≠ x)) 0 l.length := by
  rw [rall_list l 0 (fun y => decide (y ≠ x))]
  rw [Bool.eq_iff_iff, decide_eq_true_eq, Bool.not_eq_true', ← Bool.not_eq_true, List.all_eq_true]
  constructor
  · intro h hh
    have := hh x h
    simp at this
  · intro h
    rw [Classical.not_forall] at h
    obtain ⟨y, hy⟩ := h
    rw [Classical.not_imp] at hy
    obtain ⟨h1, h2⟩ := hy
    simp at h2
    rw [← h2]
    exact h1
theorem l1Has_ev (l : List Int) (x : Int) (hl : l.length ≤ 9223372036854775806) : Ev (fun k => spec_l1Has.f k l x) (decide (x ∈ l)) := by
  rw [mem_rall]
  have h := all_ev (fun k i => spec_l1Has.l0 k l x (i : Int)) l.length (fun i => decide (l.getD i 0 ≠ x)) true false
    (fun i r hi hp h => ev_step (fun k => by
      simp only [spec_l1Has.l0, rd_nat]
      rw [if_pos (by omega), if_pos (by omega), if_neg (by simpa using hp), w64 (by omega) (by omega)]
      rfl) h)
    (fun i hi hp => ev_step (f := fun _ => some true) (fun k => by
      simp only [spec_l1Has.l0, rd_nat]
      rw [if_pos (by omega), if_pos (by omega), if_pos (by simpa using hp)]) (ev_some _))
    (ev_step (f := fun _ => some false) (fun k => by
      simp only [spec_l1Has.l0]
      rw [if_neg (by omega)]) (ev_some _)) 0 (Nat.zero_le _)
  rw [Nat.sub_zero] at h
  cases e : rall (fun i => decide (l.getD i 0 ≠ x)) 0 l.length with
  | true => rw [e] at h; exact h
  | false => rw [e] at h; exact h
def putL : List Int → Int → List Int
  | [], x => [x]
  | y :: s, x => if y < x then y :: putL s x else if y = x then y :: s else x :: y :: s
theorem l1Put_at (s : List Int) (x : Int) (hs : s.length ≤ 1000000) : ∀ d i, s.length - i = d → i ≤ s.length → Ev (fun k => spec_l1Put.l0 k s x (i : Int)) (s.take i ++ putL (s.drop i) x) := by
  intro d
  induction d with
  | zero =>
    intro i h0 h1
    obtain rfl : i = s.length := by omega
    refine ev_step (f := fun _ => some (s.take s.length ++ putL (s.drop s.length) x)) (fun k => ?_) (ev_some _)
    rw [spec_l1Put.l0.eq_2, if_neg (by omega)]
    simp only [Option.bind_some, Int.toNat_natCast, List.nil_append]
    rw [if_pos (by omega), if_pos (by omega), if_pos (by simp; omega), if_pos (by simp; omega), if_pos (by simp; omega)]
    simp [putL]
  | succ d ih =>
    intro i h0 h1
    have hi : i < s.length := by omega
    have eg : s.getD i 0 = s[i] := getD_eq_get 0 hi
    by_cases h : s[i] < x
    · refine ev_step (fun k => ?_) (Ev.congr (fun _ => rfl) (show Ev (fun k => spec_l1Put.l0 k s x ((i + 1 : Nat) : Int)) (s.take i ++ putL (s.drop i) x) from ?_))
      · rw [spec_l1Put.l0.eq_2, if_pos (by omega), if_pos (by omega), rd_nat, eg, if_pos h, w64 (by omega) (by omega)]
        rfl
      · have := ih (i + 1) (by omega) (by omega)
        rw [List.drop_eq_getElem_cons hi]
        rw [List.take_add_one, List.getElem?_eq_getElem hi] at this
        simp only [Option.toList_some, List.append_assoc, List.singleton_append] at this
        unfold putL
        rw [if_pos h]
        exact this
    · by_cases h2 : s[i] = x
      · refine ev_step (f := fun _ => some (s.take i ++ putL (s.drop i) x)) (fun k => ?_) (ev_some _)
        rw [spec_l1Put.l0.eq_2, if_pos (by omega), if_pos (by omega), rd_nat, eg, if_neg h, if_pos h2, List.drop_eq_getElem_cons hi]
        unfold putL
        rw [if_neg h, if_pos h2, ← List.drop_eq_getElem_cons hi, List.take_append_drop]
      · refine ev_step (f := fun _ => some (s.take i ++ putL (s.drop i) x)) (fun k => ?_) (ev_some _)
        rw [spec_l1Put.l0.eq_2, if_pos (by omega), if_pos (by omega), rd_nat, eg, if_neg h, if_neg h2]
        simp only [Option.bind_some, Int.toNat_natCast, List.nil_append]
        rw [if_pos (by omega), if_pos (by simp; omega), if_pos (by simp; omega), if_pos (by simp; omega), List.drop_eq_getElem_cons hi]
        simp only [putL]
        rw [if_neg h, if_neg h2]
        simp
theorem l1Put_ev (s : List Int) (x : Int) (hs : s.length ≤ 1000000) : Ev (fun k => spec_l1Put.f k s x) (putL s x) := l1Put_at s x hs s.length 0 (by omega) (by omega)
theorem putL_len (s : List Int) (x : Int) : (putL s x).length ≤ s.length + 1 := by
  induction s with
  | nil => simp [putL]
  | cons y s ih =>
    unfold putL
    split
    · simp only [List.length_cons]; omega
    · split <;> simp
def inOrder (g : List Int) : List Int := g.foldl putL []
def nrI (W : Nat) (a b : Int) : Bool := adj W a.toNat b.toNat
theorem nrI_sym (W : Nat) (a b : Int) : nrI W a b = nrI W b a := by
  unfold nrI adj
  congr 1
  have sq : ∀ x y : Int, (x - y) * (x - y) = (y - x) * (y - x) := fun x y => by rw [← Int.neg_mul_neg]; congr 1 <;> omega
  rw [sq ((a.toNat % W : Nat) : Int), sq ((a.toNat / W : Nat) : Int)]
section
variable {W H : Nat} (hW : 1 ≤ W ∧ W ≤ 8) (hH : 1 ≤ H ∧ H ≤ 8) {l : List Int} (hl : ∀ c ∈ l, 0 ≤ c ∧ c < ((H * W : Nat) : Int)) (hn : l.Nodup) (h64 : l.length ≤ 64)
include hW hH hl in
theorem beside_ev {a b : Int} (ha : a ∈ l) (hb : b ∈ l) : spec_l8Beside.f (W : Int) a b = some (nrI W a b) := by
  obtain ⟨a0, a1⟩ := hl a ha
  obtain ⟨b0, b1⟩ := hl b hb
  obtain ⟨i, rfl⟩ := Int.eq_ofNat_of_zero_le a0
  obtain ⟨j, rfl⟩ := Int.eq_ofNat_of_zero_le b0
  rw [nrI_sym]
  exact beside_is hW hH (a := j) (b := i) (by omega) (by omega)
def stepS (W : Nat) (l : List Int) (x : Int) (i : Nat) (g : List Int) : List Int := if l.getD i 0 ∈ g then g else if nrI W x (l.getD i 0) = true then g ++ [l.getD i 0] else g
theorem stepS_iter (W : Nat) (l : List Int) (x : Int) (g : List Int) : iter (stepS W l x) 0 l.length g = passS (nrI W) x l g := by
  have := iter_foldl (fun (g : List Int) c => if c ∈ g then g else if nrI W x c = true then g ++ [c] else g) 0 l l.length 0 g (by omega)
  rw [List.drop_zero] at this
  exact this
include hW hH hl h64 in
theorem l2_ev (out : List (List Int)) (seen : List Int) (i0 : Int) (j : Nat) (fin : List Int → List (List Int))
    (he : ∀ s : List Int, s.Nodup → (∀ c ∈ s, c ∈ l) → Ev (fun k => spec_l8Parts.l1 k (W : Int) l out seen i0 s ((j + 1 : Nat) : Int)) (fin s)) (g : List Int) (hg : g.Nodup) (hs : ∀ c ∈ g, c ∈ l) (hj : j < g.length) :
    Ev (fun k => spec_l8Parts.l2 k (W : Int) l out seen i0 g (j : Int) 0) (fin (passS (nrI W) (g.getD j 0) l g)) := by
  have hx : g.getD j 0 ∈ l := hs _ (by rw [getD_eq_get 0 hj]; exact List.getElem_mem hj)
  have hj64 : j < 64 := by have := nodup_leq hg hs; omega
  rw [← stepS_iter]
  refine loop_ev (fun k s i => spec_l8Parts.l2 k (W : Int) l out seen i0 s (j : Int) (i : Int)) l.length (stepS W l (g.getD j 0)) fin (fun _ s => s.Nodup ∧ (∀ c ∈ s, c ∈ l) ∧ j < s.length ∧ s.getD j 0 = g.getD j 0) (fun i s r hI hi h => ?_) (fun i s hI hi => ?_) (fun s hI => ?_) 0 g (Nat.zero_le _) ⟨hg, hs, hj, rfl⟩
  · obtain ⟨s1, s2, s3, s4⟩ := hI
    have hlen := nodup_leq s1 s2
    have hc : l.getD i 0 ∈ l := by rw [getD_eq_get 0 hi]; exact List.getElem_mem hi
    refine ev_step (fun k => spec_l8Parts.l2.eq_2 _ _ _ _ _ _ _ _ k) (ev_ifp (by omega) (ev_ifp (by omega) ?_))
    rw [rd_nat, w64 (x := (i : Int) + 1) (by omega) (by omega)]
    refine ev_bind (l1Has_ev s _ (by omega)) ?_
    unfold stepS at h
    by_cases hm : l.getD i 0 ∈ s
    · rw [if_pos hm] at h
      exact ev_ifp (by simpa using hm) h
    · rw [if_neg hm] at h
      refine ev_ifn (by simpa using hm) (ev_ifp (by omega) (ev_ifp (by omega) ?_))
      rw [rd_nat, s4]
      refine ev_bind (ev_const (beside_ev hW hH hl hx hc)) ?_
      by_cases hq : nrI W (g.getD j 0) (l.getD i 0) = true
      · rw [if_pos hq] at h
        exact ev_ifp hq (ev_ifp (by omega) h)
      · rw [if_neg hq] at h
        exact ev_ifn hq h
  · obtain ⟨s1, s2, s3, s4⟩ := hI
    have hc : l.getD i 0 ∈ l := by rw [getD_eq_get 0 hi]; exact List.getElem_mem hi
    unfold stepS
    by_cases hm : l.getD i 0 ∈ s
    · rw [if_pos hm]
      exact ⟨s1, s2, s3, s4⟩
    · rw [if_neg hm]
      by_cases hq : nrI W (g.getD j 0) (l.getD i 0) = true
      · rw [if_pos hq]
        refine ⟨?_, ?_, by rw [List.length_append]; omega, ?_⟩
        · rw [List.nodup_append]
          exact ⟨s1, by simp, fun a ha b hb => by rw [List.mem_singleton] at hb; exact fun e => hm (hb ▸ e ▸ ha)⟩
        · intro c hc2
          rw [List.mem_append, List.mem_singleton] at hc2
          rcases hc2 with hc2 | hc2
          · exact s2 c hc2
          · exact hc2 ▸ hc
        · rw [List.getD_eq_getElem?_getD, List.getElem?_append_left s3, ← List.getD_eq_getElem?_getD]
          exact s4
      · rw [if_neg hq]
        exact ⟨s1, s2, s3, s4⟩
  · obtain ⟨s1, s2, s3, s4⟩ := hI
    refine ev_step (fun k => spec_l8Parts.l2.eq_2 _ _ _ _ _ _ _ _ k) (ev_ifn (by omega) ?_)
    rw [w64 (x := (j : Int) + 1) (by omega) (by omega)]
    exact he s s1 s2
include hW hH hl h64 in
theorem l1_ev (out : List (List Int)) (seen : List Int) (i0 : Int) (fin : List Int → List (List Int))
    (he : ∀ s : List Int, s.Nodup → (∀ c ∈ s, c ∈ l) → Ev (fun k => spec_l8Parts.l3 k (W : Int) l out seen i0 s ([] : List Int) 0) (fin s)) : ∀ (m j : Nat) (g : List Int), g.Nodup → (∀ c ∈ g, c ∈ l) → l.length < m + j →
    Ev (fun k => spec_l8Parts.l1 k (W : Int) l out seen i0 g (j : Int)) (fin (growS (nrI W) l m j g))
  | 0, j, g, hg, hs, hm => by
    have := nodup_leq hg hs
    exact ev_step (fun k => spec_l8Parts.l1.eq_2 _ _ _ _ _ _ _ k) (ev_ifn (by omega) (he g hg hs))
  | m + 1, j, g, hg, hs, hm => by
    have := nodup_leq hg hs
    unfold growS
    by_cases hj : j < g.length
    · rw [if_pos hj]
      exact ev_step (fun k => spec_l8Parts.l1.eq_2 _ _ _ _ _ _ _ k) (ev_ifp (by omega) (l2_ev hW hH hl h64 out seen i0 j (fun s => fin (growS (nrI W) l m (j + 1) s)) (fun s s1 s2 => l1_ev out seen i0 fin he m (j + 1) s s1 s2 (by omega)) g hg hs hj))
    · rw [if_neg hj]
      exact ev_step (fun k => spec_l8Parts.l1.eq_2 _ _ _ _ _ _ _ k) (ev_ifn (by omega) (he g hg hs))
theorem l3_ev (a : Int) (out : List (List Int)) (seen : List Int) (i0 : Nat) (hi0 : i0 ≤ 1000) (r : List (List Int)) (g : List Int) (hg : g.length ≤ 64) (hsn : seen.length ≤ 100000) (ho : out.length ≤ 100000)
    (he : Ev (fun k => spec_l8Parts.l0 k a l (out ++ [inOrder g]) (seen ++ g) ((i0 + 1 : Nat) : Int)) r) : Ev (fun k => spec_l8Parts.l3 k a l out seen (i0 : Int) g ([] : List Int) 0) r := by
  have key : ∀ d i (s : List Int), g.length - i = d → i ≤ g.length → s.length ≤ i → (g.drop i).foldl putL s = inOrder g → Ev (fun k => spec_l8Parts.l3 k a l out seen (i0 : Int) g s (i : Int)) r := by
    intro d
    induction d with
    | zero =>
      intro i s h0 h1 h2 h3
      obtain rfl : i = g.length := by omega
      rw [List.drop_length] at h3
      have h3 : s = inOrder g := h3
      subst h3
      refine ev_step (fun k => spec_l8Parts.l3.eq_2 _ _ _ _ _ _ _ _ k) (ev_ifn (by omega) (ev_ifp (by omega) (ev_ifp (by omega) ?_)))
      rw [w64 (x := (i0 : Int) + 1) (by omega) (by omega)]
      exact he
    | succ d ih =>
      intro i s h0 h1 h2 h3
      have hi : i < g.length := by omega
      refine ev_step (fun k => spec_l8Parts.l3.eq_2 _ _ _ _ _ _ _ _ k) (ev_ifp (by omega) (ev_ifp (by omega) ?_))
      rw [rd_nat, w64 (x := (i : Int) + 1) (by omega) (by omega)]
      refine ev_bind (l1Put_ev s _ (by omega)) (ih (i + 1) _ (by omega) (by omega) (by have := putL_len s (g.getD i 0); omega) ?_)
      rw [List.drop_eq_getElem_cons hi] at h3
      rw [getD_eq_get 0 hi]
      exact h3
  exact key g.length 0 [] (by omega) (by omega) (by simp) rfl
include hW hH hl h64 in
theorem l0_ev : ∀ (m i : Nat) (seen : List Int) (out : List (List Int)), l.length < m + i → i ≤ l.length → seen.length ≤ 64 * i → out.length ≤ i →
    Ev (fun k => spec_l8Parts.l0 k (W : Int) l out seen (i : Int)) (partsS (nrI W) inOrder l m i seen out)
  | 0, i, seen, out, hm, hi, h1, h2 => absurd hm (by omega)
  | m + 1, i, seen, out, hm, hi, h1, h2 => by
    unfold partsS
    by_cases h : i < l.length
    · rw [if_pos h]
      refine ev_step (fun k => spec_l8Parts.l0.eq_2 _ _ _ _ _ k) (ev_ifp (by omega) (ev_ifp (by omega) ?_))
      rw [rd_nat, w64 (x := (i : Int) + 1) (by omega) (by omega)]
      refine ev_bind (l1Has_ev seen _ (by omega)) ?_
      by_cases hx : l.getD i 0 ∈ seen
      · rw [if_pos hx]
        exact ev_ifp (by simpa using hx) (l0_ev m (i + 1) seen out (by omega) (by omega) (by omega) (by omega))
      · rw [if_neg hx]
        have hc : l.getD i 0 ∈ l := by rw [getD_eq_get 0 h]; exact List.getElem_mem h
        refine ev_ifn (by simpa using hx) ?_
        have h1v := l1_ev hW hH hl h64 out seen (i : Int) (fun g => partsS (nrI W) inOrder l m (i + 1) (seen ++ g) (out ++ [inOrder g])) (fun s s1 s2 => by
          have hlen := nodup_leq s1 s2
          exact l3_ev (W : Int) out seen i (by omega) _ s (by omega) (by omega) (by omega) (l0_ev m (i + 1) (seen ++ s) (out ++ [inOrder s]) (by omega) (by omega) (by rw [List.length_append]; omega) (by rw [List.length_append, List.length_singleton]; omega))) (l.length + 1) 0 [l.getD i 0] (by simp) (fun c hc2 => by rw [List.mem_singleton] at hc2; exact hc2 ▸ hc) (by omega)
        exact h1v
    · rw [if_neg h]
      exact ev_step (fun k => spec_l8Parts.l0.eq_2 _ _ _ _ _ k) (ev_ifn (by omega) (ev_some _))
include hW hH hl hn h64 in
theorem partsRef_ev : Ev (fun k => spec_l8Parts.f k (W : Int) l) (partsI (nrI W) inOrder (l.length + 1) (l.length + 1) l []) := by
  have e := parts_both (nrI W) inOrder l hn (nrI_sym W) (l.length + 1) 0 [] [] (l.length + 1) (by omega) (fun x _ _ c _ hc => absurd hc (by simp)) (fun j hj => absurd hj (by omega)) (by
    have : (leftOf l []).length ≤ l.length := List.length_filter_le _ _
    omega)
  have e2 : leftOf l [] = l := by unfold leftOf; rw [List.filter_eq_self]; intro c hc; simp
  rw [e2] at e
  rw [← e]
  exact l0_ev hW hH hl h64 (l.length + 1) 0 [] [] (by omega) (by omega) (by simp) (by simp)
end
end Go.Proofs.Ytnpclamoabcbgaa.Pure
namespace Go.Proofs.Ytnpclamoabcbgaa.Pure
set_option linter.unusedVariables false
set_option linter.unusedSimpArgs false
theorem putL_mem {s : List Int} {x c : Int} : c ∈ putL s x ↔ c = x ∨ c ∈ s := by
  induction s with
  | nil => simp [putL]
  | cons y s ih =>
    unfold putL
    by_cases h : y < x
    · rw [if_pos h, List.mem_cons, ih, List.mem_cons]
      constructor
      · rintro (h1 | h1 | h1) <;> simp [h1]
      · rintro (h1 | h1 | h1) <;> simp [h1]
    · rw [if_neg h]
      by_cases h2 : y = x
      · rw [if_pos h2, h2]
        simp
      · rw [if_neg h2]
        simp
theorem putL_perm {s : List Int} {x : Int} (h : x ∉ s) : (putL s x).Perm (x :: s) := by
  induction s with
  | nil => exact List.Perm.refl _
  | cons y s ih =>
    rw [List.mem_cons, not_or] at h
    unfold putL
    by_cases h1 : y < x
    · rw [if_pos h1]
      exact ((ih h.2).cons y).trans (List.Perm.swap x y s)
    · rw [if_neg h1, if_neg (fun e => h.1 e.symm)]
theorem putL_up {s : List Int} {x : Int} (hs : s.Pairwise (· < ·)) : (putL s x).Pairwise (· < ·) := by
  induction s with
  | nil => simp [putL]
  | cons y s ih =>
    rw [List.pairwise_cons] at hs
    unfold putL
    by_cases h1 : y < x
    · rw [if_pos h1, List.pairwise_cons]
      exact ⟨fun c hc => by
        rcases putL_mem.1 hc with e | e
        · exact e ▸ h1
        · exact hs.1 c e, ih hs.2⟩
    · rw [if_neg h1]
      by_cases h2 : y = x
      · rw [if_pos h2, List.pairwise_cons]
        exact hs
      · rw [if_neg h2, List.pairwise_cons, List.pairwise_cons]
        exact ⟨fun c hc => by
          rcases List.mem_cons.1 hc with e | e
          · omega
          · have := hs.1 c e
            omega, hs⟩
theorem fold_put : ∀ (g s : List Int), (s ++ g).Nodup → s.Pairwise (· < ·) → (g.foldl putL s).Perm (s ++ g) ∧ (g.foldl putL s).Pairwise (· < ·)
  | [], s, _, h => ⟨by rw [List.append_nil]; exact List.Perm.refl _, h⟩
  | x :: g, s, hn, h => by
    have hx : x ∉ s := fun hx => by
      rw [List.nodup_append] at hn
      exact hn.2.2 x hx x (List.mem_cons_self ..) rfl
    have hp := putL_perm hx
    have hp2 : (putL s x ++ g).Perm (s ++ x :: g) := (hp.append_right g).trans (List.perm_middle.symm)
    obtain ⟨r1, r2⟩ := fold_put g (putL s x) (hp2.nodup_iff.2 hn) (putL_up h)
    exact ⟨r1.trans hp2, r2⟩
theorem inOrder_perm {g : List Int} (hn : g.Nodup) : (inOrder g).Perm g := by
  have := (fold_put g [] (by simpa using hn) (by simp)).1
  rw [List.nil_append] at this
  exact this
theorem inOrder_le {g : List Int} (hn : g.Nodup) : (inOrder g).Pairwise (· ≤ ·) := (fold_put g [] (by simpa using hn) (by simp)).2.imp (fun h => Int.le_of_lt h)
open Go.RowKit Go.Proofs.YtnpclamoabcbgaaW.PrintWords Go.Proofs.YtnpclamoabcbgaaW.PrintLast Go.Proofs.YtnpclamoabcbgaaW.PrintMore
end Go.Proofs.Ytnpclamoabcbgaa.Pure
namespace Go.Proofs.Ytnpclamoabcbgaa.Pure
set_option linter.unusedVariables false
set_option linter.unusedSimpArgs false
open Go.RowKit Go.Proofs.Ytnpclamoabcbgaa.P Go.Proofs.YtnpclamoabcbgaaW.PrintWords Go.Proofs.YtnpclamoabcbgaaW.PrintLast Go.Proofs.YtnpclamoabcbgaaW.PrintMore
theorem sorted_unique : ∀ {s t : List Int}, s.Pairwise (· ≤ ·) → t.Pairwise (· ≤ ·) → s.Perm t → s = t
  | [], t, _, _, hp => (List.nil_perm.1 hp).symm
  | a :: s, [], _, _, hp => absurd (List.perm_nil.1 hp) (by simp)
  | a :: s, b :: t, h1, h2, hp => by
    rw [List.pairwise_cons] at h1 h2
    have ha : a ∈ b :: t := hp.mem_iff.1 (List.mem_cons_self ..)
    have hb : b ∈ a :: s := hp.mem_iff.2 (List.mem_cons_self ..)
    have hab : a = b := by
      rcases List.mem_cons.1 ha with e | e
      · exact e
      · rcases List.mem_cons.1 hb with e2 | e2
        · exact e2.symm
        · exact Int.le_antisymm (h1.1 b e2) (h2.1 a e)
    subst hab
    rw [sorted_unique h1.2 h2.2 (List.perm_cons a |>.1 hp)]
theorem srt_eq {s l : List Int} (hp : s.Perm l) (hs : s.Pairwise (· ≤ ·)) : srt l = s := by
  refine sorted_unique ?_ hs ((List.mergeSort_perm l _).trans hp.symm)
  have := List.pairwise_mergeSort (le := fun x y : Int => decide (x ≤ y)) (fun a b c h1 h2 => by simp only [decide_eq_true_eq] at *; omega) (fun a b => by simp; omega) l
  exact this.imp (fun h => by simpa using h)
end Go.Proofs.Ytnpclamoabcbgaa.Pure
namespace Go.Proofs.Ytnpclamoabcbgaa.Pure
set_option linter.unusedVariables false
set_option linter.unusedSimpArgs false
set_option linter.unusedSectionVars false
open Go.RowKit Go.Proofs.Ytnpclamoabcbgaa.P Go.Proofs.YtnpclamoabcbgaaW.PrintWords Go.Proofs.YtnpclamoabcbgaaW.PrintLast Go.Proofs.YtnpclamoabcbgaaW.PrintMore
theorem grP_is (wide : Int) : ∀ (k j : Nat) (p r : List Int), grP wide k j p r = growI (nrP wide) k j p r
  | 0, _, _, _ => rfl
  | k + 1, j, p, r => by
    unfold grP growI
    rw [grP_is wide k]
theorem ptP_is (wide : Int) (n : Nat) : ∀ (k : Nat) (r : List Int) (out : List (List Int)), ptP wide n k r out = partsI (nrP wide) srt n k r out
  | 0, _, _ => rfl
  | k + 1, [], _ => rfl
  | k + 1, s :: r, out => by
    show ptP wide n k (grP wide n 0 [s] r).2 (out ++ [srt (grP wide n 0 [s] r).1]) = partsI (nrP wide) srt n k (growI (nrP wide) n 0 [s] r).2 (out ++ [srt (growI (nrP wide) n 0 [s] r).1])
    rw [grP_is, ptP_is wide n k]
theorem growI_perm (nr : Int → Int → Bool) : ∀ (k j : Nat) (p r : List Int), ((growI nr k j p r).1 ++ (growI nr k j p r).2).Perm (p ++ r)
  | 0, _, _, _ => List.Perm.refl _
  | k + 1, j, p, r => by
    unfold growI
    by_cases h : j < p.length
    · rw [if_pos h]
      refine (growI_perm nr k _ _ _).trans ?_
      rw [List.append_assoc]
      exact (List.filter_append_perm (nr (p.getD j 0)) r).append_left p
    · rw [if_neg h]
theorem growI_congr {nr nr' : Int → Int → Bool} {l : List Int} (h : ∀ a ∈ l, ∀ b ∈ l, nr a b = nr' a b) : ∀ (k j : Nat) (p r : List Int), (∀ c ∈ p, c ∈ l) → (∀ c ∈ r, c ∈ l) → growI nr k j p r = growI nr' k j p r
  | 0, _, _, _, _, _ => rfl
  | k + 1, j, p, r, hp, hr => by
    unfold growI
    by_cases hj : j < p.length
    · rw [if_pos hj, if_pos hj]
      have hx : p.getD j 0 ∈ l := hp _ (by rw [List.getD_eq_getElem?_getD, List.getElem?_eq_getElem hj]; exact List.getElem_mem hj)
      have e1 : r.filter (nr (p.getD j 0)) = r.filter (nr' (p.getD j 0)) := List.filter_congr (fun c hc => h _ hx _ (hr c hc))
      have e2 : r.filter (fun c => !nr (p.getD j 0) c) = r.filter (fun c => !nr' (p.getD j 0) c) := List.filter_congr (fun c hc => by rw [h _ hx _ (hr c hc)])
      rw [e1, e2]
      refine growI_congr h k _ _ _ (fun c hc => ?_) (fun c hc => hr c ((List.mem_filter.1 hc).1))
      rcases List.mem_append.1 hc with hc | hc
      · exact hp c hc
      · exact hr c ((List.mem_filter.1 hc).1)
    · rw [if_neg hj, if_neg hj]
theorem grown_facts {nr : Int → Int → Bool} {n : Nat} {s : Int} {r : List Int} (hn : (s :: r).Nodup) : ((growI nr n 0 [s] r).1).Nodup ∧ ((growI nr n 0 [s] r).2).Nodup ∧ (∀ c ∈ (growI nr n 0 [s] r).1, c ∈ s :: r) ∧ (∀ c ∈ (growI nr n 0 [s] r).2, c ∈ s :: r) ∧
    (growI nr n 0 [s] r).1.length + (growI nr n 0 [s] r).2.length = r.length + 1 := by
  have hp := growI_perm nr n 0 [s] r
  have hnd := hp.nodup_iff.2 hn
  rw [List.nodup_append] at hnd
  refine ⟨hnd.1, hnd.2.1, fun c hc => hp.mem_iff.1 (List.mem_append.2 (.inl hc)), fun c hc => hp.mem_iff.1 (List.mem_append.2 (.inr hc)), ?_⟩
  have := hp.length_eq
  rw [List.length_append, List.length_append, List.length_singleton] at this
  omega
theorem partsI_congr {nr nr' : Int → Int → Bool} {f f' : List Int → List Int} {l : List Int} (h : ∀ a ∈ l, ∀ b ∈ l, nr a b = nr' a b) (hf : ∀ g : List Int, g.Nodup → f g = f' g) (n : Nat) :
    ∀ (k : Nat) (r : List Int) (out : List (List Int)), (∀ c ∈ r, c ∈ l) → r.Nodup → partsI nr f n k r out = partsI nr' f' n k r out
  | 0, _, _, _, _ => rfl
  | k + 1, [], _, _, _ => rfl
  | k + 1, s :: r, out, hr, hn => by
    show partsI nr f n k (growI nr n 0 [s] r).2 (out ++ [f (growI nr n 0 [s] r).1]) = partsI nr' f' n k (growI nr' n 0 [s] r).2 (out ++ [f' (growI nr' n 0 [s] r).1])
    obtain ⟨f1, f2, f3, f4, f5⟩ := grown_facts (nr := nr) (n := n) hn
    have e := growI_congr h n 0 [s] r (fun c hc => hr c (by rw [List.mem_singleton] at hc; rw [hc]; exact List.mem_cons_self ..)) (fun c hc => hr c (List.mem_cons_of_mem _ hc))
    rw [hf _ f1, ← e]
    exact partsI_congr h hf n k _ _ (fun c hc => hr c (f4 c hc)) f2
theorem partsI_size (nr : Int → Int → Bool) (n m : Nat) : ∀ (k : Nat) (r : List Int) (out : List (List Int)), r.length ≤ m → r.Nodup → (∀ s ∈ out, s.length ≤ m) →
    (partsI nr srt n k r out).length ≤ out.length + r.length ∧ ∀ s ∈ partsI nr srt n k r out, s.length ≤ m
  | 0, r, out, _, _, ho => ⟨by show out.length ≤ _; omega, ho⟩
  | k + 1, [], out, _, _, ho => ⟨by show out.length ≤ _; omega, ho⟩
  | k + 1, s :: r, out, hr, hn, ho => by
    obtain ⟨f1, f2, f3, f4, f5⟩ := grown_facts (nr := nr) (n := n) hn
    have hp : 1 ≤ (growI nr n 0 [s] r).1.length := by
      have : ∀ (k j : Nat) (p r : List Int), p.length ≤ (growI nr k j p r).1.length := by
        intro k
        induction k with
        | zero => intro j p r; exact Nat.le_refl _
        | succ k ih =>
          intro j p r
          unfold growI
          split
          · refine Nat.le_trans ?_ (ih _ _ _)
            rw [List.length_append]
            omega
          · exact Nat.le_refl _
      exact this n 0 [s] r
    rw [List.length_cons] at hr
    obtain ⟨g1, g2⟩ := partsI_size nr n m k (growI nr n 0 [s] r).2 (out ++ [srt (growI nr n 0 [s] r).1]) (by omega) f2 (fun t ht => by
      rcases List.mem_append.1 ht with ht | ht
      · exact ho t ht
      · rw [List.mem_singleton] at ht
        rw [ht, srt_len]
        omega)
    rw [List.length_append, List.length_singleton] at g1
    refine ⟨?_, g2⟩
    show (partsI nr srt n k _ _).length ≤ _
    rw [List.length_cons]
    omega
theorem region_facts {a b : Int} {l : List Int} (h : regionOk a b l = true) : ∃ W H : Nat, a = W ∧ b = H ∧ (1 ≤ W ∧ W ≤ 8) ∧ (1 ≤ H ∧ H ≤ 8) ∧ (∀ c ∈ l, 0 ≤ c ∧ c < ((H * W : Nat) : Int)) ∧ l.Pairwise (· < ·) ∧ l.length ≤ 64 := by
  unfold regionOk at h
  rw [Bool.and_eq_true, Bool.and_eq_true, Bool.and_eq_true, inb_iff, inb_iff, rall_iff] at h
  obtain ⟨⟨h1, h2⟩, hr, h3⟩ := h
  obtain ⟨W, rfl⟩ := Int.eq_ofNat_of_zero_le (show 0 ≤ a by omega)
  obtain ⟨H, rfl⟩ := Int.eq_ofNat_of_zero_le (show 0 ≤ b by omega)
  have hc : ∀ c ∈ l, 0 ≤ c ∧ c < ((H * W : Nat) : Int) := fun c hc => by
    obtain ⟨i, hi, rfl⟩ := List.getElem_of_mem hc
    have := inb_iff.1 (h3 i (Nat.zero_le _) (by omega))
    rw [List.getD_eq_getElem?_getD, List.getElem?_eq_getElem hi, Option.getD_some, ← Int.natCast_mul, Nat.mul_comm] at this
    omega
  have hup : l.Pairwise (· < ·) := by
    unfold rising at hr
    rw [rall_iff] at hr
    have step : ∀ i, i + 1 < l.length → l.getD i 0 < l.getD (i + 1) 0 := fun i hi => by simpa using hr i (Nat.zero_le _) (by omega)
    have far : ∀ d i, i + (d + 1) < l.length → l.getD i 0 < l.getD (i + (d + 1)) 0 := by
      intro d
      induction d with
      | zero => intro i hi; exact step i hi
      | succ d ih =>
        intro i hi
        exact Int.lt_trans (ih i (by omega)) (step (i + (d + 1)) (by omega))
    rw [List.pairwise_iff_getElem]
    intro i j hi hj hij
    have := far (j - i - 1) i (by omega)
    rw [show i + (j - i - 1 + 1) = j by omega] at this
    simpa [List.getD_eq_getElem?_getD, hi, hj] using this
  refine ⟨W, H, rfl, rfl, by omega, by omega, hc, hup, ?_⟩
  have hn : l.Nodup := hup.imp (fun h => Int.ne_of_lt h)
  have := nodup_leq hn (l := (List.range 64).map Int.ofNat) (fun c hc2 => by
    obtain ⟨c0, c1⟩ := hc c hc2
    have hHW : H * W ≤ 64 := Nat.mul_le_mul (show H ≤ 8 by omega) (show W ≤ 8 by omega)
    exact List.mem_map.2 ⟨c.toNat, List.mem_range.2 (by omega), by show ((c.toNat : Nat) : Int) = c; omega⟩)
  simpa using this
theorem nrP_is {W H : Nat} (hW : 1 ≤ W ∧ W ≤ 8) (hH : 1 ≤ H ∧ H ≤ 8) {a b : Int} (ha : 0 ≤ a ∧ a < ((H * W : Nat) : Int)) (hb : 0 ≤ b ∧ b < ((H * W : Nat) : Int)) : nrP (W : Int) a b = nrI W a b := by
  obtain ⟨i, rfl⟩ := Int.eq_ofNat_of_zero_le ha.1
  obtain ⟨j, rfl⟩ := Int.eq_ofNat_of_zero_le hb.1
  unfold nrP nrI
  rw [connected_is hW hH (a := i) (b := j) (by omega) (by omega)]
  rfl
def partsOf (a : Int) (l : List Int) : List (List Int) := partsI (nrI a.toNat) srt (l.length + 1) (l.length + 1) l []
theorem parts_prog {a b : Int} {l : List Int} (h : regionOk a b l = true) : impl_regionParts.f a l = some (partsOf a l) := by
  obtain ⟨W, H, rfl, rfl, hW, hH, hc, hup, h64⟩ := region_facts h
  unfold impl_regionParts.f
  rw [if_pos ⟨by omega, h64⟩]
  unfold partsP partsOf
  rw [ptP_is]
  exact congrArg some (partsI_congr (l := l) (fun x hx y hy => nrP_is hW hH (hc x hx) (hc y hy)) (fun _ _ => rfl) _ _ _ _ (fun c hc => hc) (hup.imp (fun h => Int.ne_of_lt h)))
theorem parts_ref {a b : Int} {l : List Int} (h : regionOk a b l = true) : Ev (fun k => spec_l8Parts.f k a l) (partsOf a l) := by
  obtain ⟨W, H, rfl, rfl, hW, hH, hc, hup, h64⟩ := region_facts h
  have hn : l.Nodup := hup.imp (fun h => Int.ne_of_lt h)
  have e := partsRef_ev hW hH hc hn h64
  rw [partsI_congr (l := l) (nr' := nrI W) (f' := srt) (fun _ _ _ _ => rfl) (fun g hg => (srt_eq (inOrder_perm hg) (inOrder_le hg)).symm) _ _ _ _ (fun c hc => hc) hn] at e
  exact e
theorem partsOf_size {a b : Int} {l : List Int} (h : regionOk a b l = true) : (partsOf a l).length ≤ 64 ∧ ∀ s ∈ partsOf a l, s.length ≤ 64 := by
  obtain ⟨W, H, rfl, rfl, hW, hH, hc, hup, h64⟩ := region_facts h
  have := partsI_size (nrI (W : Int).toNat) (l.length + 1) 64 (l.length + 1) l [] h64 (hup.imp (fun h => Int.ne_of_lt h)) (by simp)
  exact ⟨by have := this.1; simp only [List.length_nil] at this; unfold partsOf; omega, this.2⟩
theorem parts_ev (a b : Int) (l : List Int) (hl : l.length ≤ 9223372036854775806) : Ev (fun k => impl_RegionParts.f k a b l) (if regionOk a b l = true then (partsOf a l, true) else ([], false)) := by
  unfold impl_RegionParts.f
  refine ev_bind (isRegion_ev a b l hl) ?_
  cases e : regionOk a b l with
  | false => exact ev_ifn (by simp) (ev_some _)
  | true => exact ev_ifp rfl (ev_bind (ev_const (parts_prog e)) (ev_some _))
theorem partsS_ev (a b : Int) (l : List Int) (hl : l.length ≤ 9223372036854775806) : Ev (fun k => spec_RegionParts.f k a b l) (if regionOk a b l = true then (partsOf a l, true) else ([], false)) := by
  unfold spec_RegionParts.f
  refine ev_bind (l8Region_ev a b l hl) ?_
  cases e : regionOk a b l with
  | false => exact ev_ifn (by simp) (ev_some _)
  | true => exact ev_ifp rfl (ev_bind (parts_ref e) (ev_some _))
end Go.Proofs.Ytnpclamoabcbgaa.Pure
namespace Go.Proofs.Ytnpclamoabcbgaa.Pure
set_option linter.unusedVariables false
set_option linter.unusedSimpArgs false
open Go.RowKit Go.Proofs.Ytnpclamoabcbgaa.P Go.Proofs.YtnpclamoabcbgaaW.PrintWords Go.Proofs.YtnpclamoabcbgaaW.PrintLast Go.Proofs.YtnpclamoabcbgaaW.PrintMore
def lens : List (List Int) → Nat
  | [] => 0
  | s :: P => s.length + lens P
theorem lens_app : ∀ P Q : List (List Int), lens (P ++ Q) = lens P + lens Q
  | [], Q => by simp [lens]
  | s :: P, Q => by rw [List.cons_append, lens, lens, lens_app P Q]; omega
theorem growI_ext (nr : Int → Int → Bool) : ∀ (k j : Nat) (p r : List Int), ∀ c ∈ p, c ∈ (growI nr k j p r).1
  | 0, _, _, _, c, hc => hc
  | k + 1, j, p, r, c, hc => by
    unfold growI
    split
    · exact growI_ext nr k _ _ _ c (List.mem_append.2 (.inl hc))
    · exact hc
theorem growI_more (nr : Int → Int → Bool) (d : Nat) : ∀ (k j : Nat) (p r : List Int), p.length + r.length < k + j → growI nr (k + d) j p r = growI nr k j p r
  | 0, j, p, r, h => by
    cases d with
    | zero => rfl
    | succ d =>
      show growI nr (0 + (d + 1)) j p r = (p, r)
      rw [Nat.zero_add]
      unfold growI
      rw [if_neg (by omega)]
  | k + 1, j, p, r, h => by
    rw [show k + 1 + d = (k + d) + 1 by omega]
    unfold growI
    by_cases hj : j < p.length
    · rw [if_pos hj, if_pos hj]
      have hf := filt_len (nr (p.getD j 0)) r
      exact growI_more nr d k _ _ _ (by rw [List.length_append]; omega)
    · rw [if_neg hj, if_neg hj]
theorem growI_fuel (nr : Int → Int → Bool) {k k' j : Nat} {p r : List Int} (h : p.length + r.length < k + j) (h' : p.length + r.length < k' + j) : growI nr k j p r = growI nr k' j p r := by
  by_cases e : k ≤ k'
  · have := growI_more nr (k' - k) k j p r h
    rw [show k + (k' - k) = k' by omega] at this
    exact this.symm
  · have := growI_more nr (k - k') k' j p r h'
    rw [show k' + (k - k') = k by omega] at this
    exact this
theorem growI_only (nr : Int → Int → Bool) (S : List Int) : ∀ (k j : Nat) (p r : List Int), (∀ c ∈ (growI nr k j p r).1, c ∈ S) → growI nr k j p (r.filter (fun c => decide (c ∈ S))) = ((growI nr k j p r).1, (growI nr k j p r).2.filter (fun c => decide (c ∈ S)))
  | 0, _, _, _, _ => rfl
  | k + 1, j, p, r, h => by
    unfold growI at h ⊢
    by_cases hj : j < p.length
    · rw [if_pos hj] at h ⊢
      have e1 : (r.filter (fun c => decide (c ∈ S))).filter (nr (p.getD j 0)) = r.filter (nr (p.getD j 0)) := by
        rw [List.filter_filter]
        refine List.filter_congr (fun c hc => ?_)
        cases hq : nr (p.getD j 0) c with
        | false => simp
        | true =>
          rw [Bool.true_and]
          exact decide_eq_true (h c (growI_ext nr k _ _ _ c (List.mem_append.2 (.inr (List.mem_filter.2 ⟨hc, hq⟩)))))
      have e2 : (r.filter (fun c => decide (c ∈ S))).filter (fun c => !nr (p.getD j 0) c) = (r.filter (fun c => !nr (p.getD j 0) c)).filter (fun c => decide (c ∈ S)) := by
        rw [List.filter_filter, List.filter_filter]
        exact List.filter_congr (fun c _ => Bool.and_comm _ _)
      rw [if_pos hj, e1, e2]
      exact growI_only nr S k _ _ _ h
    · rw [if_neg hj, if_neg hj]
def OneP (nr : Int → Int → Bool) (s : List Int) : Prop := s.Pairwise (· < ·) ∧ partsI nr srt (s.length + 1) (s.length + 1) s [] = [s]
theorem one_part {nr : Int → Int → Bool} {n : Nat} {c : Int} {t : List Int} (hup : (c :: t).Pairwise (· < ·)) (hn : t.length + 1 < n) : OneP nr (srt (growI nr n 0 [c] t).1) ∧ (∀ x ∈ srt (growI nr n 0 [c] t).1, x ∈ c :: t) := by
  have hnd : (c :: t).Nodup := hup.imp (fun h => Int.ne_of_lt h)
  have hp := growI_perm nr n 0 [c] t
  have hnd2 := hp.nodup_iff.2 hnd
  rw [List.nodup_append] at hnd2
  generalize hG : growI nr n 0 [c] t = G at *
  have hc : c ∈ G.1 := by rw [← hG]; exact growI_ext nr n 0 [c] t c (by simp)
  have e0 : G.2.filter (fun x => decide (x ∈ G.1)) = [] := List.filter_eq_nil_iff.2 (fun x hx => by
    simp only [decide_eq_true_eq]
    exact fun h => hnd2.2.2 x h x hx rfl)
  have e1 : G.1.filter (fun x => decide (x ∈ G.1)) = G.1 := List.filter_eq_self.2 (fun x hx => by simpa using hx)
  have es : srt G.1 = c :: t.filter (fun x => decide (x ∈ G.1)) := by
    refine srt_eq ?_ ?_
    · have := hp.filter (fun x => decide (x ∈ G.1))
      rw [List.filter_append, e0, e1, List.append_nil, List.singleton_append, List.filter_cons, if_pos (by simpa using hc)] at this
      exact this.symm
    · have h2 := (hup.filter (fun x => decide (x ∈ G.1))).imp (fun h => Int.le_of_lt h)
      rw [List.filter_cons, if_pos (by simpa using hc)] at h2
      exact h2
  have hsub : ∀ x ∈ srt G.1, x ∈ c :: t := by
    rw [es]
    intro x hx
    rcases List.mem_cons.1 hx with h | h
    · rw [h]; exact List.mem_cons_self ..
    · exact List.mem_cons_of_mem _ (List.mem_filter.1 h).1
  refine ⟨⟨?_, ?_⟩, hsub⟩
  · rw [es]
    have h2 := hup.filter (fun x => decide (x ∈ G.1))
    rw [List.filter_cons, if_pos (by simpa using hc)] at h2
    exact h2
  · have hl := List.length_filter_le (fun x => decide (x ∈ G.1)) t
    have ho := growI_only nr G.1 n 0 [c] t (fun x hx => by rw [hG] at hx; exact hx)
    rw [hG, e0] at ho
    have hf := growI_fuel nr (k := (t.filter (fun x => decide (x ∈ G.1))).length + 2) (k' := n) (j := 0) (p := [c]) (r := t.filter (fun x => decide (x ∈ G.1))) (by simp only [List.length_singleton]; omega) (by simp only [List.length_singleton]; omega)
    rw [ho] at hf
    rw [es, List.length_cons]
    show partsI nr srt ((t.filter (fun x => decide (x ∈ G.1))).length + 1 + 1) ((t.filter (fun x => decide (x ∈ G.1))).length + 1) (growI nr ((t.filter (fun x => decide (x ∈ G.1))).length + 1 + 1) 0 [c] (t.filter (fun x => decide (x ∈ G.1)))).2 ([] ++ [srt (growI nr ((t.filter (fun x => decide (x ∈ G.1))).length + 1 + 1) 0 [c] (t.filter (fun x => decide (x ∈ G.1)))).1]) = _
    rw [hf, ← es]
    rfl
theorem growI_up (nr : Int → Int → Bool) : ∀ (k j : Nat) (p r : List Int), r.Pairwise (· < ·) → (growI nr k j p r).2.Pairwise (· < ·)
  | 0, _, _, _, h => h
  | k + 1, j, p, r, h => by
    unfold growI
    split
    · exact growI_up nr k _ _ _ (h.filter _)
    · exact h
theorem parts_all (nr : Int → Int → Bool) (n : Nat) : ∀ (k : Nat) (r : List Int) (out : List (List Int)), r.Pairwise (· < ·) → r.length < n → r.length < k →
    lens (partsI nr srt n k r out) = lens out + r.length ∧ ∀ s ∈ partsI nr srt n k r out, s ∈ out ∨ (OneP nr s ∧ ∀ x ∈ s, x ∈ r)
  | 0, _, _, _, _, h => absurd h (by omega)
  | k + 1, [], out, _, _, _ => ⟨by show lens out = _; simp, fun s hs => .inl hs⟩
  | k + 1, c :: t, out, hup, hn, hk => by
    rw [List.length_cons] at hn hk
    have hnd : (c :: t).Nodup := hup.imp (fun h => Int.ne_of_lt h)
    obtain ⟨o1, o2⟩ := one_part (nr := nr) (n := n) hup hn
    obtain ⟨f1, f2, f3, f4, f5⟩ := grown_facts (nr := nr) (n := n) hnd
    have hp1 : 1 ≤ (growI nr n 0 [c] t).1.length := List.length_pos_of_mem (growI_ext nr n 0 [c] t c (by simp))
    have ht : t.Pairwise (· < ·) := (List.pairwise_cons.1 hup).2
    obtain ⟨g1, g2⟩ := parts_all nr n k (growI nr n 0 [c] t).2 (out ++ [srt (growI nr n 0 [c] t).1]) (growI_up nr n 0 [c] t ht) (by omega) (by omega)
    have key : partsI nr srt n (k + 1) (c :: t) out = partsI nr srt n k (growI nr n 0 [c] t).2 (out ++ [srt (growI nr n 0 [c] t).1]) := rfl
    rw [key]
    refine ⟨?_, fun s hs => ?_⟩
    · rw [g1, lens_app, List.length_cons]
      simp only [lens, srt_len]
      omega
    · rcases g2 s hs with h | ⟨h1, h2⟩
      · rcases List.mem_append.1 h with h | h
        · exact .inl h
        · rw [List.mem_singleton] at h
          exact .inr (h ▸ ⟨o1, o2⟩)
      · exact .inr ⟨h1, fun x hx => f4 x (h2 x hx)⟩
theorem region_of {a b : Int} {l s : List Int} (h : regionOk a b l = true) (hs : s.Pairwise (· < ·)) (hm : ∀ x ∈ s, x ∈ l) : regionOk a b s = true := by
  unfold regionOk at h ⊢
  rw [Bool.and_eq_true, Bool.and_eq_true, Bool.and_eq_true, rall_iff] at h ⊢
  obtain ⟨h1, h2, h3⟩ := h
  refine ⟨h1, ?_, fun j _ hj => ?_⟩
  · unfold rising
    rw [rall_iff]
    intro j _ hj
    have hj1 : j < s.length := by omega
    have hj2 : j + 1 < s.length := by omega
    rw [getD_eq_get 0 hj1, getD_eq_get 0 hj2]
    exact decide_eq_true (List.pairwise_iff_getElem.1 hs j (j + 1) hj1 hj2 (by omega))
  · have hj1 : j < s.length := by omega
    rw [getD_eq_get 0 hj1]
    obtain ⟨i, hi, e⟩ := List.getElem_of_mem (hm _ (List.getElem_mem hj1))
    have := h3 i (Nat.zero_le _) (by omega)
    rw [getD_eq_get 0 hi, e] at this
    exact this
theorem partsOf_all {a b : Int} {l : List Int} (h : regionOk a b l = true) : lens (partsOf a l) = l.length ∧ ∀ s ∈ partsOf a l, regionOk a b s = true ∧ partsOf a s = [s] := by
  obtain ⟨W, H, rfl, rfl, hW, hH, hc, hup, h64⟩ := region_facts h
  obtain ⟨g1, g2⟩ := parts_all (nrI (W : Int).toNat) (l.length + 1) (l.length + 1) l [] hup (by omega) (by omega)
  refine ⟨by unfold partsOf; rw [g1]; simp [lens], fun s hs => ?_⟩
  rcases g2 s hs with h2 | ⟨⟨h2, h3⟩, h4⟩
  · exact absurd h2 (by simp)
  · exact ⟨region_of h h2 h4, h3⟩
end Go.Proofs.Ytnpclamoabcbgaa.Pure
namespace Go.Proofs.Ytnpclamoabcbgaa.Pure
set_option linter.unusedVariables false
open Go.RowKit Go.Proofs.YtnpclamoabcbgaaW.PrintWords Go.Proofs.YtnpclamoabcbgaaW.PrintLast
theorem ends_inv {σ ρ : Type} (F : Nat → σ → Nat → Option ρ) (n : Nat) (I : Nat → σ → Prop) (P : ρ → Prop)
    (hs : ∀ i s, I i s → i < n → ∃ s', I (i + 1) s' ∧ ∀ r, Ev (fun k => F k s' (i + 1)) r → Ev (fun k => F k s i) r)
    (he : ∀ s, I n s → ∃ r, Ev (fun k => F k s n) r ∧ P r) : ∀ i s, i ≤ n → I i s → ∃ r, Ev (fun k => F k s i) r ∧ P r := by
  have key : ∀ d i s, n - i = d → i ≤ n → I i s → ∃ r, Ev (fun k => F k s i) r ∧ P r := by
    intro d
    induction d with
    | zero =>
      intro i s h0 h1 h2
      obtain rfl : i = n := by omega
      exact he s h2
    | succ d ih =>
      intro i s h0 h1 h2
      obtain ⟨s', h3, h4⟩ := hs i s h2 (by omega)
      obtain ⟨r, h5, h6⟩ := ih (i + 1) s' (by omega) (by omega) h3
      exact ⟨r, h4 r h5, h6⟩
  exact fun i s h1 h2 => key (n - i) i s rfl h1 h2
end Go.Proofs.Ytnpclamoabcbgaa.Pure
namespace Go.Proofs.Ytnpclamoabcbgaa.Pure
set_option linter.unusedVariables false
set_option linter.unusedSimpArgs false
open Go Go.RowKit Go.Proofs.Ytnpclamoabcbgaa.P Go.Proofs.YtnpclamoabcbgaaW.PrintWords Go.Proofs.YtnpclamoabcbgaaW.PrintLast
theorem u64_bd (x : Int) : 0 ≤ IntKind.u64.wrap x ∧ IntKind.u64.wrap x < 18446744073709551616 := by
  rw [IntKind.wrap_u64]
  omega
theorem wraps63 (n : Int) (h0 : 0 ≤ n) (h1 : n < 2 ^ 63) : IntKind.u64.wrap n = n := by
  rw [IntKind.wrap_u64]
  omega
theorem and255 (v : Int) (h0 : 0 ≤ v) (h1 : v < 18446744073709551616) : 0 ≤ Go.bits .and .u64 (v / 1099511627776) 255 ∧ Go.bits .and .u64 (v / 1099511627776) 255 ≤ 255 := by
  have h := bits_mask .u64 63 (by decide) wraps63 8 (by decide) (v / 1099511627776) (by omega) (by omega)
  have e : ((2 : Int) ^ 8 - 1) = 255 := by decide
  have e2 : ((2 : Int) ^ 8) = 256 := by decide
  rw [e, e2] at h
  rw [h]
  omega
structure Code (l : List Int) : Prop where
  len : l.length ≤ 65536
  byte : ∀ x ∈ l, 0 ≤ x ∧ x ≤ 255
theorem Code.bd {l : List Int} (h : Code l) (i : Int) : 0 ≤ rd l i ∧ rd l i ≤ 255 := by
  unfold rd
  by_cases hi : i.toNat < l.length
  · rw [getD_eq_get 0 hi]
    exact h.byte _ (List.getElem_mem hi)
  · simp [List.getD, List.getElem?_eq_none (show l.length ≤ i.toNat by omega)]
theorem next_at {l : List Int} (hl : Code l) (i s : Int) (h0 : 0 ≤ i) (h1 : i ≤ 1000000000) : ∃ x s', spec_l1Cur_next.f l i s = some (x, i + 1, s') ∧ 0 ≤ x ∧ x ≤ 255 := by
  unfold spec_l1Cur_next.f
  have hr := hl.bd i
  have w1 : wrap64 (i + 1) = i + 1 := w64 (by omega) (by omega)
  rw [w1]
  by_cases c1 : i < (l.length : Int)
  · rw [if_pos c1, if_pos h0, if_pos (by omega)]
    exact ⟨_, _, rfl, by rw [w64 (by omega) (by omega)]; exact hr.1, by rw [w64 (by omega) (by omega)]; exact hr.2⟩
  · rw [if_neg c1, if_neg (by omega)]
    have hb := u64_bd (IntKind.u64.wrap (IntKind.u64.wrap (s * 6364136223846793005)) + 889889)
    have ha := and255 _ hb.1 hb.2
    exact ⟨_, _, rfl, by rw [w64 (by omega) (by omega)]; exact ha.1, by rw [w64 (by omega) (by omega)]; exact ha.2⟩
theorem pick_at {l : List Int} (hl : Code l) (i s n : Int) (h0 : 0 ≤ i) (h1 : i ≤ 100000000) :
    ∃ x i' s', spec_l1Cur_pick.f l i s n = some (x, i', s') ∧ 0 ≤ x ∧ (1 ≤ n → x < n) ∧ i ≤ i' ∧ i' ≤ i + 2 := by
  unfold spec_l1Cur_pick.f
  by_cases c1 : n ≤ 1
  · rw [if_pos c1]
    exact ⟨_, _, _, rfl, by omega, fun h => by omega, by omega, by omega⟩
  · rw [if_neg c1]
    obtain ⟨x, s1, e1, b1, b2⟩ := next_at hl i s h0 (by omega)
    rw [e1, Option.bind_some]
    have cn : ¬ n = 0 := by omega
    by_cases c2 : n > 200
    · rw [if_pos c2]
      obtain ⟨y, s2, e2, b3, b4⟩ := next_at hl (i + 1) s1 (by omega) (by omega)
      simp only
      rw [e2, Option.bind_some, if_neg cn]
      simp only
      rw [w64 (x := x * 256) (by omega) (by omega), w64 (by omega) (by omega), Int.tmod_eq_emod_of_nonneg (by omega)]
      exact ⟨_, _, _, rfl, Int.emod_nonneg _ cn, fun _ => Int.emod_lt_of_pos _ (by omega), by omega, by omega⟩
    · rw [if_neg c2, if_neg cn]
      simp only
      rw [Int.tmod_eq_emod_of_nonneg (by omega)]
      exact ⟨_, _, _, rfl, Int.emod_nonneg _ cn, fun _ => Int.emod_lt_of_pos _ (by omega), by omega, by omega⟩
theorem one_at {l : List Int} (hl : Code l) (i s n : Int) (h0 : 0 ≤ i) (h1 : i ≤ 100000000) : ∃ b i' s', spec_l1Cur_one.f l i s n = some (b, i', s') ∧ i ≤ i' ∧ i' ≤ i + 2 := by
  unfold spec_l1Cur_one.f
  obtain ⟨x, i', s', e, _, _, b3, b4⟩ := pick_at hl i s n h0 h1
  rw [e, Option.bind_some]
  exact ⟨_, _, _, rfl, b3, b4⟩
theorem among_at {l : List Int} (hl : Code l) (i s : Int) (xs : List Int) (hx : 1 ≤ xs.length) (h0 : 0 ≤ i) (h1 : i ≤ 100000000) :
    ∃ x i' s', spec_l1Cur_among.f l i s xs = some (x, i', s') ∧ x ∈ xs ∧ i ≤ i' ∧ i' ≤ i + 2 := by
  unfold spec_l1Cur_among.f
  obtain ⟨x, i', s', e, b1, b2, b3, b4⟩ := pick_at hl i s (xs.length : Int) h0 h1
  have b5 := b2 (by omega)
  rw [e, Option.bind_some, if_pos b1, if_pos b5]
  refine ⟨_, _, _, rfl, ?_, b3, b4⟩
  unfold rd
  simp only
  have hlt : x.toNat < xs.length := by omega
  rw [getD_eq_get 0 hlt]
  exact List.getElem_mem hlt
end Go.Proofs.Ytnpclamoabcbgaa.Pure
