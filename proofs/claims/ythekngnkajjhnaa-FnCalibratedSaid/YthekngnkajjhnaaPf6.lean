-- written by mp.py (this session's), with the print's functions; Lean checks it
import Derived.Test.YthekngnkajjhnaaPt
import Derived.Test.YthekngnkajjhnaaHelp
import Derived.Test.YthekngnkajjhnaaHelpD
import Derived.Test.YthekngnkajjhnaaPe55
import Derived.Test.YthekngnkajjhnaaPf49
import Derived.Test.YthekngnkajjhnaaPf50
namespace Go.Proofs.Ythekngnkajjhnaa.P
open Go.RowKit Go.Proofs.YthekngnkajjhnaaW.PrintWords Go.Proofs.YthekngnkajjhnaaW.PrintLast Go.Proofs.YthekngnkajjhnaaW.PrintMore
attribute [local go_sem] max2_int min2_int max_two min_two max_three min_three max_four min_four   -- for this text's walks alone
set_option linter.unusedVariables false
set_option linter.unusedSimpArgs false

attribute [local go_sem high] eqA55
/-! ### laws_FnCalibrated: function 6 -/
mutual
def laws_FnCalibrated.j0 : Nat → List (S55) → List (S55) → Bool → List Int → List Int → Option (Bool)
 | 0, _, _, _, _, _ => none
 | k + 1, x3, x5, x34, x102000, x102001 => if x34 = true then (some false) else (laws_FnCalibrated.l0 k x3 x5 0 0 x3 (x3.length : Int) 0 x102000 x102001)
def laws_FnCalibrated.l0 : Nat → List (S55) → List (S55) → Int → Int → List (S55) → Int → Int → List Int → List Int → Option (Bool)
 | 0, _, _, _, _, _, _, _, _, _ => none
 | k + 1, x3, x5, x7, x8, x35, x36, x37, x102000, x102001 => if x37 < x36 then (if 0 ≤ x37 then (if x37 < (x35.length : Int) then (if x37 < (x5.length : Int) then (if (!(((rd_T55 x35 x37).f0) == ((rd_T55 x5 x37).f0)) || (!(((rd_T55 x35 x37).f1) == ((rd_T55 x5 x37).f1)))) = true then (laws_FnCalibrated.j2 k x3 x5 x7 x8 x37 x35 x36 x37 true x102000 x102001 ((rd_T55 x35 x37).f0) ((rd_T55 x35 x37).f1)) else (if x37 > 0 then (if 0 ≤ (wrap64 (x37 - 1)) then (if (wrap64 (x37 - 1)) < (x3.length : Int) then (laws_FnCalibrated.j2 k x3 x5 x7 x8 x37 x35 x36 x37 (decide ((wrap64 (((rd_T55 x3 (wrap64 (x37 - 1))).f0) * ((rd_T55 x35 x37).f1))) > (wrap64 (((rd_T55 x35 x37).f0) * ((rd_T55 x3 (wrap64 (x37 - 1))).f1))))) x102000 x102001 ((rd_T55 x35 x37).f0) ((rd_T55 x35 x37).f1)) else (none)) else (none)) else (laws_FnCalibrated.j2 k x3 x5 x7 x8 x37 x35 x36 x37 false x102000 x102001 ((rd_T55 x35 x37).f0) ((rd_T55 x35 x37).f1)))) else (none)) else (none)) else (none)) else (some true)
def laws_FnCalibrated.j2 : Nat → List (S55) → List (S55) → Int → Int → Int → List (S55) → Int → Int → Bool → List Int → List Int → Int → Int → Option (Bool)
 | 0, _, _, _, _, _, _, _, _, _, _, _, _, _ => none
 | k + 1, x3, x5, x7, x8, x9, x35, x36, x37, x72, x102000, x102001, x112000, x112001 => if x72 = true then (some false) else (if 0 ≤ x9 then (if x9 < (x102001.length : Int) then (if x9 < (x102000.length : Int) then (if (wrap64 (x9 + 1)) = (x3.length : Int) then (laws_FnCalibrated.j3 k x3 x5 (wrap64 (x7 + (rd x102001 x9))) (wrap64 (x8 + (rd x102000 x9))) x35 x36 x37 true x102000 x102001 x112000 x112001) else (if 0 ≤ (wrap64 (x9 + 1)) then (if (wrap64 (x9 + 1)) < (x3.length : Int) then (laws_FnCalibrated.j3 k x3 x5 (wrap64 (x7 + (rd x102001 x9))) (wrap64 (x8 + (rd x102000 x9))) x35 x36 x37 (!(((rd_T55 x3 (wrap64 (x9 + 1))).f0) == x112000) || (!(((rd_T55 x3 (wrap64 (x9 + 1))).f1) == x112001))) x102000 x102001 x112000 x112001) else (none)) else (none))) else (none)) else (none)) else (none))
def laws_FnCalibrated.j3 : Nat → List (S55) → List (S55) → Int → Int → List (S55) → Int → Int → Bool → List Int → List Int → Int → Int → Option (Bool)
 | 0, _, _, _, _, _, _, _, _, _, _, _, _ => none
 | k + 1, x3, x5, x7, x8, x35, x36, x37, x100, x102000, x102001, x112000, x112001 => if x100 = true then (if x8 > 0 then (if (wrap64 (x7 * x112001)) = (wrap64 (x112000 * x8)) then (laws_FnCalibrated.l0 k x3 x5 0 0 x35 x36 (wrap64 (x37 + 1)) x102000 x102001) else (some false)) else (laws_FnCalibrated.l0 k x3 x5 0 0 x35 x36 (wrap64 (x37 + 1)) x102000 x102001)) else (laws_FnCalibrated.l0 k x3 x5 x7 x8 x35 x36 (wrap64 (x37 + 1)) x102000 x102001)
end
def laws_FnCalibrated.f (k : Nat) (l0_0 : List Int) (l0_1 : List Int) : Option (Bool) := if (l0_0.length : Int) > 4096 then (some true) else ((impl_CalibrationOf.f k l0_0 l0_1).bind fun bt102 => ((spec_CalibrationOf.f k l0_0 l0_1).bind fun bt106 => (if (bt102.2 != bt106.2) = true then (laws_FnCalibrated.j0 k bt102.1 bt106.1 true l0_0 l0_1) else (laws_FnCalibrated.j0 k bt102.1 bt106.1 ((bt102.1.length : Int) != (bt106.1.length : Int)) l0_0 l0_1))))

set_option maxHeartbeats 8000000 in
set_option maxRecDepth 100000 in
theorem laws_FnCalibrated.calls (k : Nat) (A0_0 : Option Addr) (c0_0 : Nat) (l0_0 : List Int) (A0_1 : Option Addr) (c0_1 : Nat) (l0_1 : List Int) (r : Bool) (w : World) (hr0_0 : Kd.C (Kd.int .i64) w A0_0 l0_0.length l0_0) (hc0_0 : l0_0.length ≤ c0_0) (hr0_1 : Kd.C (Kd.int .i64) w A0_1 l0_1.length l0_1) (hc0_1 : l0_1.length ≤ c0_1) (h : laws_FnCalibrated.f k l0_0 l0_1 = some r) :
  Calls Try.prog 6 #[.agg #[.slice A0_0 l0_0.length c0_0, .slice A0_1 l0_1.length c0_1]] w fun e w' => e = .returned (.bool r) ∧ Below w.heap.size w w' := by
 have hu44 := Try.underlying44
 have hu55 := Try.underlying55
 have HR0_0 := Aside0.mk hr0_0
 have HC0_0 := Aside0.mk hc0_0
 clear hr0_0 hc0_0
 have HR0_1 := Aside0.mk hr0_1
 have HC0_1 := Aside0.mk hc0_1
 clear hr0_1 hc0_1
 have HB := aK (Below.refl w.heap.size w)
 have H : (if (l0_0.length : Int) > 4096 then (some true) else ((impl_CalibrationOf.f k l0_0 l0_1).bind fun bt102 => ((spec_CalibrationOf.f k l0_0 l0_1).bind fun bt106 => (if (bt102.2 != bt106.2) = true then (laws_FnCalibrated.j0 k bt102.1 bt106.1 true l0_0 l0_1) else (laws_FnCalibrated.j0 k bt102.1 bt106.1 ((bt102.1.length : Int) != (bt106.1.length : Int)) l0_0 l0_1))))) = some r := h
 clear h
 by_cases c2 : (l0_0.length : Int) > 4096
 ·
  rw [if_pos c2] at H
  have c2b0 : decide (4096 < (l0_0.length : Int)) = true := decide_eq_true c2
  have c2b1 : decide (4096 < l0_0.length) = true := decide_eq_true (by omega)
  clear c2
  obtain rfl := Option.some.inj H
  go_enter Try.func6, Try.ntmps6
  go_wp2_with (first | ((with_reducible refine gate_dst (N := 1) rfl ?_); (try (refine gate_guard (by rfl) ?_; dsimp only)); refine box_event ?hg (N := 1) ?hd (cs := #[.slice A0_0 l0_0.length c0_0, .slice A0_1 l0_1.length c0_1]) (t := 44) ?hr ?_; (case hd => rfl); (case hg => rfl); (case hr => first | (go_simp; done) | (go_simp; rfl)); intro gb101 hg w3 hbox hb; have BK101 := aK (hbox); have GW101 := aK (gE hg (pS HB.out)); have GE101 := aK (gE hg (pS HB.out)); replace HB := bS HB hb; clear hb hbox hg; have hcz4_0 : w3.cell? ⟨gb101, 0, none⟩ = some (.slice A0_0 l0_0.length c0_0) := (blk_cell BK101.out 0).trans rfl; have hcz4_1 : w3.cell? ⟨gb101, 1, none⟩ = some (.slice A0_1 l0_1.length c0_1) := (blk_cell BK101.out 1).trans rfl; have hfz4_0 := blk_frozen BK101.out 0; have hfz4_1 := blk_frozen BK101.out 1))
  repeat (go_quiet (first | ((with_reducible refine gate_dst (N := 1) rfl ?_); (try (refine gate_guard (by rfl) ?_; dsimp only)); refine box_event ?hg (N := 1) ?hd (cs := #[.slice A0_0 l0_0.length c0_0, .slice A0_1 l0_1.length c0_1]) (t := 44) ?hr ?_; (case hd => rfl); (case hg => rfl); (case hr => first | (go_simp; done) | (go_simp; rfl)); intro gb101 hg w3 hbox hb; have BK101 := aK (hbox); have GW101 := aK (gE hg (pS HB.out)); have GE101 := aK (gE hg (pS HB.out)); replace HB := bS HB hb; clear hb hbox hg; have hcz4_0 : w3.cell? ⟨gb101, 0, none⟩ = some (.slice A0_0 l0_0.length c0_0) := (blk_cell BK101.out 0).trans rfl; have hcz4_1 : w3.cell? ⟨gb101, 1, none⟩ = some (.slice A0_1 l0_1.length c0_1) := (blk_cell BK101.out 1).trans rfl; have hfz4_0 := blk_frozen BK101.out 0; have hfz4_1 := blk_frozen BK101.out 1)); try go_wp2_with (first | ((with_reducible refine gate_dst (N := 1) rfl ?_); (try (refine gate_guard (by rfl) ?_; dsimp only)); refine box_event ?hg (N := 1) ?hd (cs := #[.slice A0_0 l0_0.length c0_0, .slice A0_1 l0_1.length c0_1]) (t := 44) ?hr ?_; (case hd => rfl); (case hg => rfl); (case hr => first | (go_simp; done) | (go_simp; rfl)); intro gb101 hg w3 hbox hb; have BK101 := aK (hbox); have GW101 := aK (gE hg (pS HB.out)); have GE101 := aK (gE hg (pS HB.out)); replace HB := bS HB hb; clear hb hbox hg; have hcz4_0 : w3.cell? ⟨gb101, 0, none⟩ = some (.slice A0_0 l0_0.length c0_0) := (blk_cell BK101.out 0).trans rfl; have hcz4_1 : w3.cell? ⟨gb101, 1, none⟩ = some (.slice A0_1 l0_1.length c0_1) := (blk_cell BK101.out 1).trans rfl; have hfz4_0 := blk_frozen BK101.out 0; have hfz4_1 := blk_frozen BK101.out 1)))
  go_ret
  exact ⟨by first | rfl | (simp [errW_none, errW_some] <;> rfl) | (simp [*, errW_none, errW_some] <;> rfl), by repeat (first | (with_reducible first | exact HB.out | apply below_alloc | apply pw_below_drewN | apply below_drew1) | exact HB.out)⟩
 ·
  rw [if_neg c2] at H
  have c2b0 : decide (4096 < (l0_0.length : Int)) = false := decide_eq_false c2
  have c2b1 : decide (4096 < l0_0.length) = false := decide_eq_false (by omega)
  clear c2
  replace H := Option.bind_eq_some_iff.mp H
  obtain ⟨⟨t102, t105⟩, A50, H⟩ := H
  replace H : ((spec_CalibrationOf.f k l0_0 l0_1).bind fun bt106 => (if (t105 != bt106.2) = true then (laws_FnCalibrated.j0 k t102 bt106.1 true l0_0 l0_1) else (laws_FnCalibrated.j0 k t102 bt106.1 ((t102.length : Int) != (bt106.1.length : Int)) l0_0 l0_1))) = some r := H
  have A5 := Aside0.mk A50
  clear A50
  replace H := Option.bind_eq_some_iff.mp H
  obtain ⟨⟨t106, t109⟩, A60, H⟩ := H
  replace H : (if (t105 != t109) = true then (laws_FnCalibrated.j0 k t102 t106 true l0_0 l0_1) else (laws_FnCalibrated.j0 k t102 t106 ((t102.length : Int) != (t106.length : Int)) l0_0 l0_1)) = some r := H
  have A6 := Aside0.mk A60
  clear A60
  have HC7 := Aside0.mk H
  clear H
  go_enter Try.func6, Try.ntmps6
  go_upto_region 5 with (first | ((with_reducible refine gate_dst (N := 1) rfl ?_); (try (refine gate_guard (by rfl) ?_; dsimp only)); refine box_event ?hg (N := 1) ?hd (cs := #[.slice A0_0 l0_0.length c0_0, .slice A0_1 l0_1.length c0_1]) (t := 44) ?hr ?_; (case hd => rfl); (case hg => rfl); (case hr => first | (go_simp; done) | (go_simp; rfl)); intro gb101 hg w8 hbox hb; have BK101 := aK (hbox); have GW101 := aK (gE hg (pS HB.out)); have GE101 := aK (gE hg (pS HB.out)); replace HB := bS HB hb; clear hb hbox hg; have hcz9_0 : w8.cell? ⟨gb101, 0, none⟩ = some (.slice A0_0 l0_0.length c0_0) := (blk_cell BK101.out 0).trans rfl; have hcz9_1 : w8.cell? ⟨gb101, 1, none⟩ = some (.slice A0_1 l0_1.length c0_1) := (blk_cell BK101.out 1).trans rfl; have hfz9_0 := blk_frozen BK101.out 0; have hfz9_1 := blk_frozen BK101.out 1) | (go_at_call 49; (with_reducible refine (impl_CalibrationOf.calls k _ _ l0_0 _ _ l0_1 t102 t105 _ ?side1 ?side2 ?side3 ?side4 A5.out).mono ?_); (case side1 => repeat (first | exact (Kd.C_below HR0_0.out HB.out) | (with_reducible refine Kd.C_alloc ?_ _) | (with_reducible refine Kd.C_drewN ?_ _) | (with_reducible refine Kd.C_drew ?_))); (case side2 => exact HC0_0.out); (case side3 => repeat (first | exact (Kd.C_below HR0_1.out HB.out) | (with_reducible refine Kd.C_alloc ?_ _) | (with_reducible refine Kd.C_drewN ?_ _) | (with_reducible refine Kd.C_drew ?_))); (case side4 => exact HC0_1.out); rintro e w10 ⟨v103, rfl, ho0, hb⟩; have HO104 := aK (Kd.R_lower ho0 (below_size (pS HB.out))); replace BK101 := bB BK101 hb; replace HB := bS HB hb; (try clear hb); (try clear hb2); (try clear hk); (try clear hi); (try clear ho0); have hcz11_0 : w10.cell? ⟨gb101, 0, none⟩ = some (.slice A0_0 l0_0.length c0_0) := (blk_cell BK101.out 0).trans rfl; have hcz11_1 : w10.cell? ⟨gb101, 1, none⟩ = some (.slice A0_1 l0_1.length c0_1) := (blk_cell BK101.out 1).trans rfl; have hfz11_0 := blk_frozen BK101.out 0; have hfz11_1 := blk_frozen BK101.out 1) | (go_at_call 50; (with_reducible refine (spec_CalibrationOf.calls k _ _ l0_0 _ _ l0_1 t106 t109 _ ?side1 ?side2 ?side3 ?side4 A6.out).mono ?_); (case side1 => repeat (first | exact (Kd.C_below HR0_0.out HB.out) | (with_reducible refine Kd.C_alloc ?_ _) | (with_reducible refine Kd.C_drewN ?_ _) | (with_reducible refine Kd.C_drew ?_))); (case side2 => exact HC0_0.out); (case side3 => repeat (first | exact (Kd.C_below HR0_1.out HB.out) | (with_reducible refine Kd.C_alloc ?_ _) | (with_reducible refine Kd.C_drewN ?_ _) | (with_reducible refine Kd.C_drew ?_))); (case side4 => exact HC0_1.out); rintro e w12 ⟨v107, rfl, ho0, hb⟩; have n0_ := aK (Kd.R_elder' (pR HO104.out) (Kd.R_base ho0) hb); have HO108 := aK (Kd.R_lower (Kd.R_new' ho0 (Kd.R_lt (pR HO104.out))) (below_size (pS HB.out))); replace BK101 := bB BK101 hb; replace HB := bS HB hb; clear HO104; have HO104 := n0_; clear n0_; (try clear hb); (try clear hb2); (try clear hk); (try clear hi); (try clear ho0)))
  repeat (go_quiet (first | ((with_reducible refine gate_dst (N := 1) rfl ?_); (try (refine gate_guard (by rfl) ?_; dsimp only)); refine box_event ?hg (N := 1) ?hd (cs := #[.slice A0_0 l0_0.length c0_0, .slice A0_1 l0_1.length c0_1]) (t := 44) ?hr ?_; (case hd => rfl); (case hg => rfl); (case hr => first | (go_simp; done) | (go_simp; rfl)); intro gb101 hg w8 hbox hb; have BK101 := aK (hbox); have GW101 := aK (gE hg (pS HB.out)); have GE101 := aK (gE hg (pS HB.out)); replace HB := bS HB hb; clear hb hbox hg; have hcz9_0 : w8.cell? ⟨gb101, 0, none⟩ = some (.slice A0_0 l0_0.length c0_0) := (blk_cell BK101.out 0).trans rfl; have hcz9_1 : w8.cell? ⟨gb101, 1, none⟩ = some (.slice A0_1 l0_1.length c0_1) := (blk_cell BK101.out 1).trans rfl; have hfz9_0 := blk_frozen BK101.out 0; have hfz9_1 := blk_frozen BK101.out 1) | (go_at_call 49; (with_reducible refine (impl_CalibrationOf.calls k _ _ l0_0 _ _ l0_1 t102 t105 _ ?side1 ?side2 ?side3 ?side4 A5.out).mono ?_); (case side1 => repeat (first | exact (Kd.C_below HR0_0.out HB.out) | (with_reducible refine Kd.C_alloc ?_ _) | (with_reducible refine Kd.C_drewN ?_ _) | (with_reducible refine Kd.C_drew ?_))); (case side2 => exact HC0_0.out); (case side3 => repeat (first | exact (Kd.C_below HR0_1.out HB.out) | (with_reducible refine Kd.C_alloc ?_ _) | (with_reducible refine Kd.C_drewN ?_ _) | (with_reducible refine Kd.C_drew ?_))); (case side4 => exact HC0_1.out); rintro e w10 ⟨v103, rfl, ho0, hb⟩; have HO104 := aK (Kd.R_lower ho0 (below_size (pS HB.out))); replace BK101 := bB BK101 hb; replace HB := bS HB hb; (try clear hb); (try clear hb2); (try clear hk); (try clear hi); (try clear ho0); have hcz11_0 : w10.cell? ⟨gb101, 0, none⟩ = some (.slice A0_0 l0_0.length c0_0) := (blk_cell BK101.out 0).trans rfl; have hcz11_1 : w10.cell? ⟨gb101, 1, none⟩ = some (.slice A0_1 l0_1.length c0_1) := (blk_cell BK101.out 1).trans rfl; have hfz11_0 := blk_frozen BK101.out 0; have hfz11_1 := blk_frozen BK101.out 1) | (go_at_call 50; (with_reducible refine (spec_CalibrationOf.calls k _ _ l0_0 _ _ l0_1 t106 t109 _ ?side1 ?side2 ?side3 ?side4 A6.out).mono ?_); (case side1 => repeat (first | exact (Kd.C_below HR0_0.out HB.out) | (with_reducible refine Kd.C_alloc ?_ _) | (with_reducible refine Kd.C_drewN ?_ _) | (with_reducible refine Kd.C_drew ?_))); (case side2 => exact HC0_0.out); (case side3 => repeat (first | exact (Kd.C_below HR0_1.out HB.out) | (with_reducible refine Kd.C_alloc ?_ _) | (with_reducible refine Kd.C_drewN ?_ _) | (with_reducible refine Kd.C_drew ?_))); (case side4 => exact HC0_1.out); rintro e w12 ⟨v107, rfl, ho0, hb⟩; have n0_ := aK (Kd.R_elder' (pR HO104.out) (Kd.R_base ho0) hb); have HO108 := aK (Kd.R_lower (Kd.R_new' ho0 (Kd.R_lt (pR HO104.out))) (below_size (pS HB.out))); replace BK101 := bB BK101 hb; replace HB := bS HB hb; clear HO104; have HO104 := n0_; clear n0_; (try clear hb); (try clear hb2); (try clear hk); (try clear hi); (try clear ho0))); go_upto_region 5 with (first | ((with_reducible refine gate_dst (N := 1) rfl ?_); (try (refine gate_guard (by rfl) ?_; dsimp only)); refine box_event ?hg (N := 1) ?hd (cs := #[.slice A0_0 l0_0.length c0_0, .slice A0_1 l0_1.length c0_1]) (t := 44) ?hr ?_; (case hd => rfl); (case hg => rfl); (case hr => first | (go_simp; done) | (go_simp; rfl)); intro gb101 hg w8 hbox hb; have BK101 := aK (hbox); have GW101 := aK (gE hg (pS HB.out)); have GE101 := aK (gE hg (pS HB.out)); replace HB := bS HB hb; clear hb hbox hg; have hcz9_0 : w8.cell? ⟨gb101, 0, none⟩ = some (.slice A0_0 l0_0.length c0_0) := (blk_cell BK101.out 0).trans rfl; have hcz9_1 : w8.cell? ⟨gb101, 1, none⟩ = some (.slice A0_1 l0_1.length c0_1) := (blk_cell BK101.out 1).trans rfl; have hfz9_0 := blk_frozen BK101.out 0; have hfz9_1 := blk_frozen BK101.out 1) | (go_at_call 49; (with_reducible refine (impl_CalibrationOf.calls k _ _ l0_0 _ _ l0_1 t102 t105 _ ?side1 ?side2 ?side3 ?side4 A5.out).mono ?_); (case side1 => repeat (first | exact (Kd.C_below HR0_0.out HB.out) | (with_reducible refine Kd.C_alloc ?_ _) | (with_reducible refine Kd.C_drewN ?_ _) | (with_reducible refine Kd.C_drew ?_))); (case side2 => exact HC0_0.out); (case side3 => repeat (first | exact (Kd.C_below HR0_1.out HB.out) | (with_reducible refine Kd.C_alloc ?_ _) | (with_reducible refine Kd.C_drewN ?_ _) | (with_reducible refine Kd.C_drew ?_))); (case side4 => exact HC0_1.out); rintro e w10 ⟨v103, rfl, ho0, hb⟩; have HO104 := aK (Kd.R_lower ho0 (below_size (pS HB.out))); replace BK101 := bB BK101 hb; replace HB := bS HB hb; (try clear hb); (try clear hb2); (try clear hk); (try clear hi); (try clear ho0); have hcz11_0 : w10.cell? ⟨gb101, 0, none⟩ = some (.slice A0_0 l0_0.length c0_0) := (blk_cell BK101.out 0).trans rfl; have hcz11_1 : w10.cell? ⟨gb101, 1, none⟩ = some (.slice A0_1 l0_1.length c0_1) := (blk_cell BK101.out 1).trans rfl; have hfz11_0 := blk_frozen BK101.out 0; have hfz11_1 := blk_frozen BK101.out 1) | (go_at_call 50; (with_reducible refine (spec_CalibrationOf.calls k _ _ l0_0 _ _ l0_1 t106 t109 _ ?side1 ?side2 ?side3 ?side4 A6.out).mono ?_); (case side1 => repeat (first | exact (Kd.C_below HR0_0.out HB.out) | (with_reducible refine Kd.C_alloc ?_ _) | (with_reducible refine Kd.C_drewN ?_ _) | (with_reducible refine Kd.C_drew ?_))); (case side2 => exact HC0_0.out); (case side3 => repeat (first | exact (Kd.C_below HR0_1.out HB.out) | (with_reducible refine Kd.C_alloc ?_ _) | (with_reducible refine Kd.C_drewN ?_ _) | (with_reducible refine Kd.C_drew ?_))); (case side4 => exact HC0_1.out); rintro e w12 ⟨v107, rfl, ho0, hb⟩; have n0_ := aK (Kd.R_elder' (pR HO104.out) (Kd.R_base ho0) hb); have HO108 := aK (Kd.R_lower (Kd.R_new' ho0 (Kd.R_lt (pR HO104.out))) (below_size (pS HB.out))); replace BK101 := bB BK101 hb; replace HB := bS HB hb; clear HO104; have HO104 := n0_; clear n0_; (try clear hb); (try clear hb2); (try clear hk); (try clear hi); (try clear ho0))))
  (try simp only [Act.put, List.setIfInBounds_toArray, List.set_cons_zero, List.set_cons_succ])
  go_cut [34] (fun v34 wc => ∃ (kq : Nat) (x34_6 : Bool), v34 = .bool x34_6 ∧ Aside0 (laws_FnCalibrated.j0 kq t102 t106 x34_6 l0_0 l0_1 = some r) ∧ Aside0 (kq ≤ k) ∧ Aside0 (Kd.R k55 55 wc w.heap.size (fun k_ => some k_ ≠ (v107 : Value).ownBlock) v103 t102) ∧ Aside0 (Kd.R k55 55 wc w.heap.size (fun k_ => some k_ ≠ (v103 : Value).ownBlock) v107 t106) ∧ Aside0 (wc.heap[gb101]? = some (.cells #[(.slice A0_0 l0_0.length c0_0), (.slice A0_1 l0_1.length c0_1)] 44 (0, 0))) ∧ Aside0 (Below w.heap.size w wc))
  case first =>
   have H := HC7.out
   clear HC7
   by_cases c13 : (t105 != t109) = true
   ·
    rw [if_pos c13] at H
    have c13b0 : (t105 != t109) = true := c13
    (try (have c13b1 : decide (t105 = t109) = false := by simpa using c13))
    (try (have c13b2 : (t105 == t109) = false := by simpa using c13))
    (try (have c13b3 : ¬ (t105 = t109) := by simpa using c13))
    clear c13
    (first | rw [c13b0] | (simp only [i64_w, i32_w]; rw [c13b0]) | skip)
    have H' := Aside0.mk H
    clear H
    go_wp2
    repeat (go_quiet (fail); try go_wp2)
    go_meet
    case rel => exact ⟨_, (true), (by first | rfl | (simp; done) | (simp [*]; done)), H', ⟨by first | omega | exact Nat.le_refl _⟩, ⟨by (with_reducible repeat (first | apply Kd.R_alloc | apply Kd.R_drewN | apply Kd.R_drew)); exact Kd.R_mono HO104.out (fun _ hk => hk.2)⟩, ⟨by (with_reducible repeat (first | apply Kd.R_alloc | apply Kd.R_drewN | apply Kd.R_drew)); exact Kd.R_mono HO108.out (fun _ hk => hk.2)⟩, ⟨by (with_reducible repeat (first | refine blk_drewN ?_ _ | refine blk_drew ?_ | refine blk_alloc ?_ _)); exact BK101.out⟩, ⟨by repeat (first | (with_reducible first | exact HB.out | apply below_alloc | apply pw_below_drewN | apply below_drew1 | refine below_set ?_ GE101.out) | exact HB.out)⟩⟩
   ·
    rw [if_neg c13] at H
    have c13b0 : (t105 != t109) = false := by simpa using c13
    (try (have c13b1 : decide (t105 = t109) = true := by simpa using c13))
    (try (have c13b2 : (t105 == t109) = true := by simpa using c13))
    clear c13
    (first | rw [c13b0] | (simp only [i64_w, i32_w]; rw [c13b0]) | skip)
    have H' := Aside0.mk H
    clear H
    obtain ⟨Ao14, co14, eo14⟩ := Kd.R_slice HO104.out
    subst eo14
    obtain ⟨Ao15, co15, eo15⟩ := Kd.R_slice HO108.out
    subst eo15
    go_wp2
    repeat (go_quiet (fail); try go_wp2)
    go_meet
    case rel => exact ⟨_, (((t102.length : Int) != (t106.length : Int))), (by first | rfl | (simp; done) | (simp [*]; done)), H', ⟨by first | omega | exact Nat.le_refl _⟩, ⟨by (with_reducible repeat (first | apply Kd.R_alloc | apply Kd.R_drewN | apply Kd.R_drew)); exact Kd.R_mono HO104.out (fun _ hk => hk.2)⟩, ⟨by (with_reducible repeat (first | apply Kd.R_alloc | apply Kd.R_drewN | apply Kd.R_drew)); exact Kd.R_mono HO108.out (fun _ hk => hk.2)⟩, ⟨by (with_reducible repeat (first | refine blk_drewN ?_ _ | refine blk_drew ?_ | refine blk_alloc ?_ _)); exact BK101.out⟩, ⟨by repeat (first | (with_reducible first | exact HB.out | apply below_alloc | apply pw_below_drewN | apply below_drew1 | refine below_set ?_ GE101.out) | exact HB.out)⟩⟩
  case rest =>
   clear HC7
   try clear c1
   try clear c2
   try clear c2b0
   try clear c2b1
   try clear p2
   try clear c6
   try clear c13
   try clear c13b0
   try clear c13b1
   try clear c13b2
   try clear hcz11_0
   try clear hcz11_1
   try clear hcz4_0
   try clear hcz4_1
   try clear hcz9_0
   try clear hcz9_1
   try clear hfz11_0
   try clear hfz11_1
   try clear hfz4_0
   try clear hfz4_1
   try clear hfz9_0
   try clear hfz9_1
   obtain ⟨kq, x34_6, rfl, HA, HJ6, HO_3, HO_5, BK101, HB⟩ := hcut
   cases kq with
   | zero => exact absurd HA.out (by simp [laws_FnCalibrated.j0])
   | succ kj6 =>
    have H := HA.out
    clear HA
    simp only [laws_FnCalibrated.j0] at H
    by_cases c16 : x34_6 = true
    ·
     subst c16
     have H1 : (some false) = some r := by rw [if_pos rfl] at H; exact H
     clear H
     have H := H1
     clear H1
     obtain rfl := Option.some.inj H
     go_wp2
     repeat (go_quiet (fail); try go_wp2)
     go_ret
     exact ⟨by first | rfl | (simp [errW_none, errW_some] <;> rfl) | (simp [*, errW_none, errW_some] <;> rfl), by repeat (first | (with_reducible first | exact HB.out | apply below_alloc | apply pw_below_drewN | apply below_drew1) | exact HB.out)⟩
    ·
     replace c16 := Bool.eq_false_iff.mpr c16
     subst c16
     have H1 : (laws_FnCalibrated.l0 kj6 t102 t106 0 0 t102 (t102.length : Int) 0 l0_0 l0_1) = some r := by rw [if_neg (show ¬ (false = true) by decide)] at H; exact H
     clear H
     have H := H1
     clear H1
     have H' := Aside0.mk H
     clear H
     obtain ⟨Ao17, co17, eo17⟩ := Kd.R_slice HO_3.out
     subst eo17
     go_wp2
     repeat (go_quiet (fail); try go_wp2)
     go_loopg [7, 8, 37] kj6 (fun kq v7 v8 v37 w' => ∃ (x7_2 : Int) (x8_2 : Int) (x37_2 : Int), v7 = .int .i64 x7_2 ∧ v8 = .int .i64 x8_2 ∧ v37 = .int .i64 x37_2 ∧ Aside0 (laws_FnCalibrated.l0 kq t102 t106 x7_2 x8_2 t102 (t102.length : Int) x37_2 l0_0 l0_1 = some r) ∧ Aside0 (kq ≤ kj6) ∧ Aside0 (Kd.R k55 55 w' w.heap.size (fun k_ => some k_ ≠ (v107 : Value).ownBlock) (.slice Ao17 t102.length co17) t102) ∧ Aside0 (Kd.R k55 55 w' w.heap.size (fun k_ => some k_ ≠ ((.slice Ao17 t102.length co17) : Value).ownBlock ∧ some k_ ≠ ((.slice Ao17 t102.length co17) : Value).ownBlock) v107 t106) ∧ Aside0 (Kd.R k55 55 w' w.heap.size (fun k_ => some k_ ≠ (v107 : Value).ownBlock) (.slice Ao17 t102.length co17) t102) ∧ Aside0 (w'.heap[gb101]? = some (.cells #[(.slice A0_0 l0_0.length c0_0), (.slice A0_1 l0_1.length c0_1)] 44 (0, 0))) ∧ Aside0 (Below w.heap.size w w'))
     case atStart => exact ⟨(0), (0), (0), (by first | rfl | (simp; done) | (simp [*]; done)), (by first | rfl | (simp; done) | (simp [*]; done)), (by first | rfl | (simp; done) | (simp [*]; done)), H', ⟨Nat.le_refl _⟩, ⟨by (with_reducible repeat (first | apply Kd.R_alloc | apply Kd.R_drewN | apply Kd.R_drew)); exact HO_3.out⟩, ⟨by (with_reducible repeat (first | apply Kd.R_alloc | apply Kd.R_drewN | apply Kd.R_drew)); exact Kd.R_mono HO_5.out (fun _ hk => ⟨hk, hk⟩)⟩, ⟨by (with_reducible repeat (first | apply Kd.R_alloc | apply Kd.R_drewN | apply Kd.R_drew)); exact HO_3.out⟩, ⟨by (with_reducible repeat (first | refine blk_drewN ?_ _ | refine blk_drew ?_ | refine blk_alloc ?_ _)); exact BK101.out⟩, ⟨by repeat (first | (with_reducible first | exact HB.out | apply below_alloc | apply pw_below_drewN | apply below_drew1 | refine below_set ?_ GE101.out) | exact HB.out)⟩⟩
     case round =>
      clear H'
      try clear c1
      try clear c2
      try clear c2b0
      try clear c2b1
      try clear p2
      try clear c6
      try clear c13
      try clear c13b0
      try clear c13b1
      try clear c13b2
      try clear c16
      try clear hcz11_0
      try clear hcz11_1
      try clear hcz4_0
      try clear hcz4_1
      try clear hcz9_0
      try clear hcz9_1
      try clear hfz11_0
      try clear hfz11_1
      try clear hfz4_0
      try clear hfz4_1
      try clear hfz9_0
      try clear hfz9_1
      try clear p2
      obtain ⟨x7_2, x8_2, x37_2, rfl, rfl, rfl, HA, HK2, HO_3, HO_5, HO_35, BK101, HB⟩ := hrel
      cases gk with
      | zero => exact absurd HA.out (by simp [laws_FnCalibrated.l0])
      | succ k2 =>
       have H := HA.out
       clear HA
       simp only [laws_FnCalibrated.l0] at H
       by_cases c18 : x37_2 < (t102.length : Int)
       ·
        rw [if_pos c18] at H
        have c18b0 : decide (x37_2 < (t102.length : Int)) = true := decide_eq_true c18
        clear c18
        by_cases c19 : 0 ≤ x37_2
        ·
         rw [if_pos c19] at H
         have c19b0 : decide (0 ≤ x37_2) = true := decide_eq_true c19
         clear c19
         by_cases c20 : x37_2 < (t102.length : Int)
         ·
          rw [if_pos c20] at H
          have c20b0 : decide (x37_2 < (t102.length : Int)) = true := decide_eq_true c20
          clear c20
          have HC21 := Aside0.mk H
          clear H
          have p110 : 0 ≤ (x37_2 : Int) := of_decide_eq_true (by first | (with_reducible assumption) | assumption)
          have q110 : x37_2 < (t102.length : Int) := of_decide_eq_true (by first | (with_reducible assumption) | assumption)
          obtain ⟨ad110, e110, hx110_0, hx110_1⟩ := at_T55 (Kd.R_reads' HO_35.out).2.2 x37_2 p110 q110
          cases e110
          replace p110 := eq_true p110
          replace q110 := eq_true q110
          go_upto_region 11 with (first | ((with_reducible refine gate_dst (N := 10) rfl ?_); (try (refine gate_guard (by rfl) ?_; dsimp only)); refine box_event ?hg (N := 10) ?hd (cs := #[.int .i64 0, .int .i64 0]) (t := 55) ?hr ?_; (case hd => rfl); (case hg => rfl); (case hr => first | (go_simp; done) | (go_simp; rfl)); intro gb111 hg w22 hbox hb; have n0_ := aK (Kd.R_below (Kd.R_elderB (pR HO_3.out) gb111 (Nat.le_of_eq hg.symm)) hb); have n1_ := aK (Kd.R_below (Kd.R_elderB (pR HO_5.out) gb111 (Nat.le_of_eq hg.symm)) hb); have n2_ := aK (Kd.R_below (Kd.R_elderB (pR HO_35.out) gb111 (Nat.le_of_eq hg.symm)) hb); have BK111 := aK (hbox); have GW111 := aK (gE hg (pS HB.out)); have GE111 := aK (gE hg (pS HB.out)); have NB101_111 := aK (nL hg (pB BK101.out)); have NB111_101 := aK (nG hg (pB BK101.out)); replace BK101 := bB BK101 hb; replace HB := bS HB hb; clear HO_3 HO_5 HO_35; have HO_3 := n0_; have HO_5 := n1_; have HO_35 := n2_; clear n0_ n1_ n2_ hb hbox hg; have hnb23 := NB111_101.out; have hnc23 := NB101_111.out; have hcz24_0 : w22.cell? ⟨gb111, 0, none⟩ = some (.int .i64 0) := (blk_cell BK111.out 0).trans rfl; have hcz24_1 : w22.cell? ⟨gb111, 1, none⟩ = some (.int .i64 0) := (blk_cell BK111.out 1).trans rfl; have hfz24_0 := blk_frozen BK111.out 0; have hfz24_1 := blk_frozen BK111.out 1))
          repeat (go_quiet (first | ((with_reducible refine gate_dst (N := 10) rfl ?_); (try (refine gate_guard (by rfl) ?_; dsimp only)); refine box_event ?hg (N := 10) ?hd (cs := #[.int .i64 0, .int .i64 0]) (t := 55) ?hr ?_; (case hd => rfl); (case hg => rfl); (case hr => first | (go_simp; done) | (go_simp; rfl)); intro gb111 hg w22 hbox hb; have n0_ := aK (Kd.R_below (Kd.R_elderB (pR HO_3.out) gb111 (Nat.le_of_eq hg.symm)) hb); have n1_ := aK (Kd.R_below (Kd.R_elderB (pR HO_5.out) gb111 (Nat.le_of_eq hg.symm)) hb); have n2_ := aK (Kd.R_below (Kd.R_elderB (pR HO_35.out) gb111 (Nat.le_of_eq hg.symm)) hb); have BK111 := aK (hbox); have GW111 := aK (gE hg (pS HB.out)); have GE111 := aK (gE hg (pS HB.out)); have NB101_111 := aK (nL hg (pB BK101.out)); have NB111_101 := aK (nG hg (pB BK101.out)); replace BK101 := bB BK101 hb; replace HB := bS HB hb; clear HO_3 HO_5 HO_35; have HO_3 := n0_; have HO_5 := n1_; have HO_35 := n2_; clear n0_ n1_ n2_ hb hbox hg; have hnb23 := NB111_101.out; have hnc23 := NB101_111.out; have hcz24_0 : w22.cell? ⟨gb111, 0, none⟩ = some (.int .i64 0) := (blk_cell BK111.out 0).trans rfl; have hcz24_1 : w22.cell? ⟨gb111, 1, none⟩ = some (.int .i64 0) := (blk_cell BK111.out 1).trans rfl; have hfz24_0 := blk_frozen BK111.out 0; have hfz24_1 := blk_frozen BK111.out 1)); go_upto_region 11 with (first | ((with_reducible refine gate_dst (N := 10) rfl ?_); (try (refine gate_guard (by rfl) ?_; dsimp only)); refine box_event ?hg (N := 10) ?hd (cs := #[.int .i64 0, .int .i64 0]) (t := 55) ?hr ?_; (case hd => rfl); (case hg => rfl); (case hr => first | (go_simp; done) | (go_simp; rfl)); intro gb111 hg w22 hbox hb; have n0_ := aK (Kd.R_below (Kd.R_elderB (pR HO_3.out) gb111 (Nat.le_of_eq hg.symm)) hb); have n1_ := aK (Kd.R_below (Kd.R_elderB (pR HO_5.out) gb111 (Nat.le_of_eq hg.symm)) hb); have n2_ := aK (Kd.R_below (Kd.R_elderB (pR HO_35.out) gb111 (Nat.le_of_eq hg.symm)) hb); have BK111 := aK (hbox); have GW111 := aK (gE hg (pS HB.out)); have GE111 := aK (gE hg (pS HB.out)); have NB101_111 := aK (nL hg (pB BK101.out)); have NB111_101 := aK (nG hg (pB BK101.out)); replace BK101 := bB BK101 hb; replace HB := bS HB hb; clear HO_3 HO_5 HO_35; have HO_3 := n0_; have HO_5 := n1_; have HO_35 := n2_; clear n0_ n1_ n2_ hb hbox hg; have hnb23 := NB111_101.out; have hnc23 := NB101_111.out; have hcz24_0 : w22.cell? ⟨gb111, 0, none⟩ = some (.int .i64 0) := (blk_cell BK111.out 0).trans rfl; have hcz24_1 : w22.cell? ⟨gb111, 1, none⟩ = some (.int .i64 0) := (blk_cell BK111.out 1).trans rfl; have hfz24_0 := blk_frozen BK111.out 0; have hfz24_1 := blk_frozen BK111.out 1)))
          (try simp only [Act.put, List.setIfInBounds_toArray, List.set_cons_zero, List.set_cons_succ])
          go_cut [72] (fun v72 wc => ∃ (kq : Nat) (x72_20 : Bool), v72 = .bool x72_20 ∧ Aside0 (laws_FnCalibrated.j2 kq t102 t106 x7_2 x8_2 x37_2 t102 (t102.length : Int) x37_2 x72_20 l0_0 l0_1 ((rd_T55 t102 x37_2).f0) ((rd_T55 t102 x37_2).f1) = some r) ∧ Aside0 (kq ≤ k2) ∧ Aside0 (Kd.R k55 55 wc w.heap.size (fun k_ => some k_ ≠ (v107 : Value).ownBlock ∧ k_ ≠ gb111) (.slice (some ad110) t102.length co17) t102) ∧ Aside0 (Kd.R k55 55 wc w.heap.size (fun k_ => some k_ ≠ ((.slice (some ad110) t102.length co17) : Value).ownBlock ∧ some k_ ≠ ((.slice (some ad110) t102.length co17) : Value).ownBlock ∧ k_ ≠ gb111) v107 t106) ∧ Aside0 (Kd.R k55 55 wc w.heap.size (fun k_ => some k_ ≠ (v107 : Value).ownBlock ∧ k_ ≠ gb111) (.slice (some ad110) t102.length co17) t102) ∧ Aside0 (wc.heap[gb101]? = some (.cells #[(.slice A0_0 l0_0.length c0_0), (.slice A0_1 l0_1.length c0_1)] 44 (0, 0))) ∧ Aside0 (wc.heap[gb111]? = some (.cells #[.int .i64 ((rd_T55 t102 x37_2).f0), .int .i64 ((rd_T55 t102 x37_2).f1)] 55 (0, 0))) ∧ Aside0 (Below w.heap.size w wc))
          case first =>
           have H := HC21.out
           clear HC21
           by_cases c25 : x37_2 < (t106.length : Int)
           ·
            rw [if_pos c25] at H
            have c25b0 : decide (x37_2 < (t106.length : Int)) = true := decide_eq_true c25
            clear c25
            (first | rw [c25b0] | (simp only [i64_w, i32_w]; rw [c25b0]) | skip)
            by_cases c26 : (!(((rd_T55 t102 x37_2).f0) == ((rd_T55 t106 x37_2).f0)) || (!(((rd_T55 t102 x37_2).f1) == ((rd_T55 t106 x37_2).f1)))) = true
            ·
             rw [if_pos c26] at H
             have c26b0 : (!(((rd_T55 t102 x37_2).f0) == ((rd_T55 t106 x37_2).f0)) || (!(((rd_T55 t102 x37_2).f1) == ((rd_T55 t106 x37_2).f1)))) = true := c26
             clear c26
             have H' := Aside0.mk H
             clear H
             have hnb27 := NB111_101.out
             have hnc27 := NB101_111.out
             have hcz28_0 : w22.cell? ⟨gb111, 0, none⟩ = some (.int .i64 0) := (blk_cell BK111.out 0).trans rfl
             have hcz28_1 : w22.cell? ⟨gb111, 1, none⟩ = some (.int .i64 0) := (blk_cell BK111.out 1).trans rfl
             have hfz28_0 := blk_frozen BK111.out 0
             have hfz28_1 := blk_frozen BK111.out 1
             obtain ⟨Ao29, co29, eo29⟩ := Kd.R_slice HO_5.out
             subst eo29
             have p112 : 0 ≤ (x37_2 : Int) := of_decide_eq_true (by first | (with_reducible assumption) | assumption)
             have q112 : x37_2 < (t106.length : Int) := of_decide_eq_true (by first | (with_reducible assumption) | assumption)
             obtain ⟨ad112, e112, hx112_0, hx112_1⟩ := at_T55 (Kd.R_reads' HO_5.out).2.2 x37_2 p112 q112
             cases e112
             have hn112_0 : ad112.block ≠ gb111 := Kd.own_blk (by first | exact Kd.R_ne HO_5.out BK111.out (by decide) | exact Kd.R_away HO_5.out (fun _ hk => by first | exact hk | exact hk.2 | exact hk.2.2 | exact hk.2.2.2))
             have hn112_1 : ad112.block ≠ gb111 := Kd.own_blk (by first | exact Kd.R_ne HO_5.out BK111.out (by decide) | exact Kd.R_away HO_5.out (fun _ hk => by first | exact hk | exact hk.2 | exact hk.2.2 | exact hk.2.2.2))
             replace hx112_0 := (cell_far (p := ⟨gb111, 0, none⟩) (by first | (rw [add_block]; exact hn112_0) | (show (Addr.add _ _).block ≠ _; rw [add_block]; exact hn112_0) | exact hn112_0) (.int .i64 ((rd_T55 t102 x37_2).f0))).trans hx112_0
             replace hx112_1 := (cell_far (p := ⟨gb111, 0, none⟩) (by first | (rw [add_block]; exact hn112_0) | (show (Addr.add _ _).block ≠ _; rw [add_block]; exact hn112_0) | exact hn112_0) (.int .i64 ((rd_T55 t102 x37_2).f0))).trans hx112_1
             replace hx112_0 := (cell_far (p := ⟨gb111, 1, none⟩) (by first | (rw [add_block]; exact hn112_1) | (show (Addr.add _ _).block ≠ _; rw [add_block]; exact hn112_1) | exact hn112_1) (.int .i64 ((rd_T55 t102 x37_2).f1))).trans hx112_0
             replace hx112_1 := (cell_far (p := ⟨gb111, 1, none⟩) (by first | (rw [add_block]; exact hn112_1) | (show (Addr.add _ _).block ≠ _; rw [add_block]; exact hn112_1) | exact hn112_1) (.int .i64 ((rd_T55 t102 x37_2).f1))).trans hx112_1
             (try have hy112_0 := fun (n_ : Nat) => (show ((((w22.drewN n_).setCell ⟨gb111, 0, none⟩ (.int .i64 ((rd_T55 t102 x37_2).f0))).setCell ⟨gb111, 1, none⟩ (.int .i64 ((rd_T55 t102 x37_2).f1)))).cell? _ = some _ from hx112_0))
             (try have hy112_1 := fun (n_ : Nat) => (show ((((w22.drewN n_).setCell ⟨gb111, 0, none⟩ (.int .i64 ((rd_T55 t102 x37_2).f0))).setCell ⟨gb111, 1, none⟩ (.int .i64 ((rd_T55 t102 x37_2).f1)))).cell? _ = some _ from hx112_1))
             clear hn112_0 hn112_1
             replace p112 := eq_true p112
             replace q112 := eq_true q112
             go_wp2
             repeat (go_quiet (fail); try go_wp2)
             go_meet
             case rel => exact ⟨_, (true), (by first | rfl | (simp; done) | (simp [*]; done)), H', ⟨by have := HJ6.out; have := HK2.out; first | omega | exact Nat.le_refl _⟩, ⟨by (with_reducible repeat (first | apply Kd.R_alloc | apply Kd.R_drewN | apply Kd.R_drew)); exact Kd.R_mono (Kd.R_far (p := ⟨gb111, 1, none⟩) (Kd.R_far (p := ⟨gb111, 0, none⟩) (Kd.R_mono HO_3.out (fun k_ hk => (⟨hk, hk.2⟩ : _ ∧ k_ ≠ gb111))) (fun _ hk => hk.2) (.int .i64 ((rd_T55 t102 x37_2).f0))) (fun _ hk => hk.2) (.int .i64 ((rd_T55 t102 x37_2).f1))) (fun _ hk => ⟨hk.1.1, hk.1.2⟩)⟩, ⟨by (with_reducible repeat (first | apply Kd.R_alloc | apply Kd.R_drewN | apply Kd.R_drew)); exact Kd.R_mono (Kd.R_far (p := ⟨gb111, 1, none⟩) (Kd.R_far (p := ⟨gb111, 0, none⟩) (Kd.R_mono HO_5.out (fun k_ hk => (⟨hk, hk.2⟩ : _ ∧ k_ ≠ gb111))) (fun _ hk => hk.2) (.int .i64 ((rd_T55 t102 x37_2).f0))) (fun _ hk => hk.2) (.int .i64 ((rd_T55 t102 x37_2).f1))) (fun _ hk => ⟨hk.1.1.1, ⟨hk.1.1.2, hk.1.2⟩⟩)⟩, ⟨by (with_reducible repeat (first | apply Kd.R_alloc | apply Kd.R_drewN | apply Kd.R_drew)); exact Kd.R_mono (Kd.R_far (p := ⟨gb111, 1, none⟩) (Kd.R_far (p := ⟨gb111, 0, none⟩) (Kd.R_mono HO_35.out (fun k_ hk => (⟨hk, hk.2⟩ : _ ∧ k_ ≠ gb111))) (fun _ hk => hk.2) (.int .i64 ((rd_T55 t102 x37_2).f0))) (fun _ hk => hk.2) (.int .i64 ((rd_T55 t102 x37_2).f1))) (fun _ hk => ⟨hk.1.1, hk.1.2⟩)⟩, ⟨by (with_reducible repeat (first | refine blk_drewN ?_ _ | refine blk_drew ?_ | refine blk_alloc ?_ _)); refine blk_far ?_ NB101_111.out _; (with_reducible repeat (first | refine blk_drewN ?_ _ | refine blk_drew ?_ | refine blk_alloc ?_ _)); refine blk_far ?_ NB101_111.out _; (with_reducible repeat (first | refine blk_drewN ?_ _ | refine blk_drew ?_ | refine blk_alloc ?_ _)); exact BK101.out⟩, ⟨by (with_reducible repeat (first | refine blk_drewN ?_ _ | refine blk_drew ?_ | refine blk_alloc ?_ _)); refine blk_put (cs := #[.int .i64 ((rd_T55 t102 x37_2).f0), .int .i64 0]) ?_ 1 _ rfl; (with_reducible repeat (first | refine blk_drewN ?_ _ | refine blk_drew ?_ | refine blk_alloc ?_ _)); refine blk_put (cs := #[.int .i64 0, .int .i64 0]) ?_ 0 _ rfl; (with_reducible repeat (first | refine blk_drewN ?_ _ | refine blk_drew ?_ | refine blk_alloc ?_ _)); exact BK111.out⟩, ⟨by repeat (first | (with_reducible first | exact HB.out | apply below_alloc | apply pw_below_drewN | apply below_drew1 | refine below_set ?_ GE101.out | refine below_set ?_ GE111.out) | exact HB.out)⟩⟩
            ·
             rw [if_neg c26] at H
             have c26b0 : (!(((rd_T55 t102 x37_2).f0) == ((rd_T55 t106 x37_2).f0)) || (!(((rd_T55 t102 x37_2).f1) == ((rd_T55 t106 x37_2).f1)))) = false := by simpa using c26
             clear c26
             by_cases c30 : x37_2 > 0
             ·
              rw [if_pos c30] at H
              have c30b0 : decide (0 < x37_2) = true := decide_eq_true c30
              clear c30
              obtain ⟨ji31, hji31⟩ : ∃ j_ : Int, (wrap64 (x37_2 - 1)) = j_ := ⟨_, rfl⟩
              replace H : (if 0 ≤ (ji31) then (if (ji31) < (t102.length : Int) then (laws_FnCalibrated.j2 k2 t102 t106 x7_2 x8_2 x37_2 t102 (t102.length : Int) x37_2 (decide ((wrap64 (((rd_T55 t102 (ji31)).f0) * ((rd_T55 t102 x37_2).f1))) > (wrap64 (((rd_T55 t102 x37_2).f0) * ((rd_T55 t102 (ji31)).f1))))) l0_0 l0_1 ((rd_T55 t102 x37_2).f0) ((rd_T55 t102 x37_2).f1)) else (none)) else (none)) = some r := by first | (rw [hji31] at H; exact H) | (simp only [hji31] at H ⊢; exact H)
              have hji31w : (IntKind.i64.wrap (x37_2 - 1)) = ji31 := (i64_w _).trans hji31
              by_cases c32 : 0 ≤ (ji31)
              ·
               rw [if_pos c32] at H
               have c32b0 : decide (0 ≤ (ji31)) = true := decide_eq_true c32
               clear c32
               by_cases c33 : (ji31) < (t102.length : Int)
               ·
                rw [if_pos c33] at H
                have c33b0 : decide ((ji31) < (t102.length : Int)) = true := decide_eq_true c33
                clear c33
                have H' := Aside0.mk H
                clear H
                have hnb34 := NB111_101.out
                have hnc34 := NB101_111.out
                have hcz35_0 : w22.cell? ⟨gb111, 0, none⟩ = some (.int .i64 0) := (blk_cell BK111.out 0).trans rfl
                have hcz35_1 : w22.cell? ⟨gb111, 1, none⟩ = some (.int .i64 0) := (blk_cell BK111.out 1).trans rfl
                have hfz35_0 := blk_frozen BK111.out 0
                have hfz35_1 := blk_frozen BK111.out 1
                obtain ⟨Ao36, co36, eo36⟩ := Kd.R_slice HO_5.out
                subst eo36
                have p112 : 0 ≤ (x37_2 : Int) := of_decide_eq_true (by first | (with_reducible assumption) | assumption)
                have q112 : x37_2 < (t106.length : Int) := of_decide_eq_true (by first | (with_reducible assumption) | assumption)
                obtain ⟨ad112, e112, hx112_0, hx112_1⟩ := at_T55 (Kd.R_reads' HO_5.out).2.2 x37_2 p112 q112
                cases e112
                have hn112_0 : ad112.block ≠ gb111 := Kd.own_blk (by first | exact Kd.R_ne HO_5.out BK111.out (by decide) | exact Kd.R_away HO_5.out (fun _ hk => by first | exact hk | exact hk.2 | exact hk.2.2 | exact hk.2.2.2))
                have hn112_1 : ad112.block ≠ gb111 := Kd.own_blk (by first | exact Kd.R_ne HO_5.out BK111.out (by decide) | exact Kd.R_away HO_5.out (fun _ hk => by first | exact hk | exact hk.2 | exact hk.2.2 | exact hk.2.2.2))
                replace hx112_0 := (cell_far (p := ⟨gb111, 0, none⟩) (by first | (rw [add_block]; exact hn112_0) | (show (Addr.add _ _).block ≠ _; rw [add_block]; exact hn112_0) | exact hn112_0) (.int .i64 ((rd_T55 t102 x37_2).f0))).trans hx112_0
                replace hx112_1 := (cell_far (p := ⟨gb111, 0, none⟩) (by first | (rw [add_block]; exact hn112_0) | (show (Addr.add _ _).block ≠ _; rw [add_block]; exact hn112_0) | exact hn112_0) (.int .i64 ((rd_T55 t102 x37_2).f0))).trans hx112_1
                replace hx112_0 := (cell_far (p := ⟨gb111, 1, none⟩) (by first | (rw [add_block]; exact hn112_1) | (show (Addr.add _ _).block ≠ _; rw [add_block]; exact hn112_1) | exact hn112_1) (.int .i64 ((rd_T55 t102 x37_2).f1))).trans hx112_0
                replace hx112_1 := (cell_far (p := ⟨gb111, 1, none⟩) (by first | (rw [add_block]; exact hn112_1) | (show (Addr.add _ _).block ≠ _; rw [add_block]; exact hn112_1) | exact hn112_1) (.int .i64 ((rd_T55 t102 x37_2).f1))).trans hx112_1
                (try have hy112_0 := fun (n_ : Nat) => (show ((((w22.drewN n_).setCell ⟨gb111, 0, none⟩ (.int .i64 ((rd_T55 t102 x37_2).f0))).setCell ⟨gb111, 1, none⟩ (.int .i64 ((rd_T55 t102 x37_2).f1)))).cell? _ = some _ from hx112_0))
                (try have hy112_1 := fun (n_ : Nat) => (show ((((w22.drewN n_).setCell ⟨gb111, 0, none⟩ (.int .i64 ((rd_T55 t102 x37_2).f0))).setCell ⟨gb111, 1, none⟩ (.int .i64 ((rd_T55 t102 x37_2).f1)))).cell? _ = some _ from hx112_1))
                clear hn112_0 hn112_1
                replace p112 := eq_true p112
                replace q112 := eq_true q112
                have p113 : 0 ≤ ((ji31) : Int) := of_decide_eq_true (by first | (with_reducible assumption) | assumption)
                have q113 : (ji31) < (t102.length : Int) := of_decide_eq_true (by first | (with_reducible assumption) | assumption)
                obtain ⟨ad113, e113, hx113_0, hx113_1⟩ := at_T55 (Kd.R_reads' HO_3.out).2.2 (ji31) p113 q113
                obtain rfl : ad110 = ad113 := (by injection e113)
                have hn113_0 : ad110.block ≠ gb111 := Kd.own_blk (by first | exact Kd.R_ne HO_3.out BK111.out (by decide) | exact Kd.R_away HO_3.out (fun _ hk => by first | exact hk | exact hk.2 | exact hk.2.2 | exact hk.2.2.2))
                have hn113_1 : ad110.block ≠ gb111 := Kd.own_blk (by first | exact Kd.R_ne HO_3.out BK111.out (by decide) | exact Kd.R_away HO_3.out (fun _ hk => by first | exact hk | exact hk.2 | exact hk.2.2 | exact hk.2.2.2))
                replace hx113_0 := (cell_far (p := ⟨gb111, 0, none⟩) (by first | (rw [add_block]; exact hn113_0) | (show (Addr.add _ _).block ≠ _; rw [add_block]; exact hn113_0) | exact hn113_0) (.int .i64 ((rd_T55 t102 x37_2).f0))).trans hx113_0
                replace hx113_1 := (cell_far (p := ⟨gb111, 0, none⟩) (by first | (rw [add_block]; exact hn113_0) | (show (Addr.add _ _).block ≠ _; rw [add_block]; exact hn113_0) | exact hn113_0) (.int .i64 ((rd_T55 t102 x37_2).f0))).trans hx113_1
                replace hx113_0 := (cell_far (p := ⟨gb111, 1, none⟩) (by first | (rw [add_block]; exact hn113_1) | (show (Addr.add _ _).block ≠ _; rw [add_block]; exact hn113_1) | exact hn113_1) (.int .i64 ((rd_T55 t102 x37_2).f1))).trans hx113_0
                replace hx113_1 := (cell_far (p := ⟨gb111, 1, none⟩) (by first | (rw [add_block]; exact hn113_1) | (show (Addr.add _ _).block ≠ _; rw [add_block]; exact hn113_1) | exact hn113_1) (.int .i64 ((rd_T55 t102 x37_2).f1))).trans hx113_1
                (try have hy113_0 := fun (n_ : Nat) => (show ((((w22.drewN n_).setCell ⟨gb111, 0, none⟩ (.int .i64 ((rd_T55 t102 x37_2).f0))).setCell ⟨gb111, 1, none⟩ (.int .i64 ((rd_T55 t102 x37_2).f1)))).cell? _ = some _ from hx113_0))
                (try have hy113_1 := fun (n_ : Nat) => (show ((((w22.drewN n_).setCell ⟨gb111, 0, none⟩ (.int .i64 ((rd_T55 t102 x37_2).f0))).setCell ⟨gb111, 1, none⟩ (.int .i64 ((rd_T55 t102 x37_2).f1)))).cell? _ = some _ from hx113_1))
                clear hn113_0 hn113_1
                replace p113 := eq_true p113
                replace q113 := eq_true q113
                have p114 : 0 ≤ ((ji31) : Int) := of_decide_eq_true (by first | (with_reducible assumption) | assumption)
                have q114 : (ji31) < (t102.length : Int) := of_decide_eq_true (by first | (with_reducible assumption) | assumption)
                obtain ⟨ad114, e114, hx114_0, hx114_1⟩ := at_T55 (Kd.R_reads' HO_3.out).2.2 (ji31) p114 q114
                obtain rfl : ad110 = ad114 := (by injection e114)
                have hn114_0 : ad110.block ≠ gb111 := Kd.own_blk (by first | exact Kd.R_ne HO_3.out BK111.out (by decide) | exact Kd.R_away HO_3.out (fun _ hk => by first | exact hk | exact hk.2 | exact hk.2.2 | exact hk.2.2.2))
                have hn114_1 : ad110.block ≠ gb111 := Kd.own_blk (by first | exact Kd.R_ne HO_3.out BK111.out (by decide) | exact Kd.R_away HO_3.out (fun _ hk => by first | exact hk | exact hk.2 | exact hk.2.2 | exact hk.2.2.2))
                replace hx114_0 := (cell_far (p := ⟨gb111, 0, none⟩) (by first | (rw [add_block]; exact hn114_0) | (show (Addr.add _ _).block ≠ _; rw [add_block]; exact hn114_0) | exact hn114_0) (.int .i64 ((rd_T55 t102 x37_2).f0))).trans hx114_0
                replace hx114_1 := (cell_far (p := ⟨gb111, 0, none⟩) (by first | (rw [add_block]; exact hn114_0) | (show (Addr.add _ _).block ≠ _; rw [add_block]; exact hn114_0) | exact hn114_0) (.int .i64 ((rd_T55 t102 x37_2).f0))).trans hx114_1
                replace hx114_0 := (cell_far (p := ⟨gb111, 1, none⟩) (by first | (rw [add_block]; exact hn114_1) | (show (Addr.add _ _).block ≠ _; rw [add_block]; exact hn114_1) | exact hn114_1) (.int .i64 ((rd_T55 t102 x37_2).f1))).trans hx114_0
                replace hx114_1 := (cell_far (p := ⟨gb111, 1, none⟩) (by first | (rw [add_block]; exact hn114_1) | (show (Addr.add _ _).block ≠ _; rw [add_block]; exact hn114_1) | exact hn114_1) (.int .i64 ((rd_T55 t102 x37_2).f1))).trans hx114_1
                (try have hy114_0 := fun (n_ : Nat) => (show ((((w22.drewN n_).setCell ⟨gb111, 0, none⟩ (.int .i64 ((rd_T55 t102 x37_2).f0))).setCell ⟨gb111, 1, none⟩ (.int .i64 ((rd_T55 t102 x37_2).f1)))).cell? _ = some _ from hx114_0))
                (try have hy114_1 := fun (n_ : Nat) => (show ((((w22.drewN n_).setCell ⟨gb111, 0, none⟩ (.int .i64 ((rd_T55 t102 x37_2).f0))).setCell ⟨gb111, 1, none⟩ (.int .i64 ((rd_T55 t102 x37_2).f1)))).cell? _ = some _ from hx114_1))
                clear hn114_0 hn114_1
                replace p114 := eq_true p114
                replace q114 := eq_true q114
                go_wp2
                repeat (go_quiet (fail); try go_wp2)
                go_meet
                case rel => exact ⟨_, (decide ((wrap64 (((rd_T55 t102 (ji31)).f0) * ((rd_T55 t102 x37_2).f1))) > (wrap64 (((rd_T55 t102 x37_2).f0) * ((rd_T55 t102 (ji31)).f1))))), (by first | rfl | (simp; done) | (simp only [← hji31] <;> (first | rfl | simp)) | (simp [*]; done)), H', ⟨by have := HJ6.out; have := HK2.out; first | omega | exact Nat.le_refl _⟩, ⟨by (with_reducible repeat (first | apply Kd.R_alloc | apply Kd.R_drewN | apply Kd.R_drew)); exact Kd.R_mono (Kd.R_far (p := ⟨gb111, 1, none⟩) (Kd.R_far (p := ⟨gb111, 0, none⟩) (Kd.R_mono HO_3.out (fun k_ hk => (⟨hk, hk.2⟩ : _ ∧ k_ ≠ gb111))) (fun _ hk => hk.2) (.int .i64 ((rd_T55 t102 x37_2).f0))) (fun _ hk => hk.2) (.int .i64 ((rd_T55 t102 x37_2).f1))) (fun _ hk => ⟨hk.1.1, hk.1.2⟩)⟩, ⟨by (with_reducible repeat (first | apply Kd.R_alloc | apply Kd.R_drewN | apply Kd.R_drew)); exact Kd.R_mono (Kd.R_far (p := ⟨gb111, 1, none⟩) (Kd.R_far (p := ⟨gb111, 0, none⟩) (Kd.R_mono HO_5.out (fun k_ hk => (⟨hk, hk.2⟩ : _ ∧ k_ ≠ gb111))) (fun _ hk => hk.2) (.int .i64 ((rd_T55 t102 x37_2).f0))) (fun _ hk => hk.2) (.int .i64 ((rd_T55 t102 x37_2).f1))) (fun _ hk => ⟨hk.1.1.1, ⟨hk.1.1.2, hk.1.2⟩⟩)⟩, ⟨by (with_reducible repeat (first | apply Kd.R_alloc | apply Kd.R_drewN | apply Kd.R_drew)); exact Kd.R_mono (Kd.R_far (p := ⟨gb111, 1, none⟩) (Kd.R_far (p := ⟨gb111, 0, none⟩) (Kd.R_mono HO_35.out (fun k_ hk => (⟨hk, hk.2⟩ : _ ∧ k_ ≠ gb111))) (fun _ hk => hk.2) (.int .i64 ((rd_T55 t102 x37_2).f0))) (fun _ hk => hk.2) (.int .i64 ((rd_T55 t102 x37_2).f1))) (fun _ hk => ⟨hk.1.1, hk.1.2⟩)⟩, ⟨by (with_reducible repeat (first | refine blk_drewN ?_ _ | refine blk_drew ?_ | refine blk_alloc ?_ _)); refine blk_far ?_ NB101_111.out _; (with_reducible repeat (first | refine blk_drewN ?_ _ | refine blk_drew ?_ | refine blk_alloc ?_ _)); refine blk_far ?_ NB101_111.out _; (with_reducible repeat (first | refine blk_drewN ?_ _ | refine blk_drew ?_ | refine blk_alloc ?_ _)); exact BK101.out⟩, ⟨by (with_reducible repeat (first | refine blk_drewN ?_ _ | refine blk_drew ?_ | refine blk_alloc ?_ _)); refine blk_put (cs := #[.int .i64 ((rd_T55 t102 x37_2).f0), .int .i64 0]) ?_ 1 _ rfl; (with_reducible repeat (first | refine blk_drewN ?_ _ | refine blk_drew ?_ | refine blk_alloc ?_ _)); refine blk_put (cs := #[.int .i64 0, .int .i64 0]) ?_ 0 _ rfl; (with_reducible repeat (first | refine blk_drewN ?_ _ | refine blk_drew ?_ | refine blk_alloc ?_ _)); exact BK111.out⟩, ⟨by repeat (first | (with_reducible first | exact HB.out | apply below_alloc | apply pw_below_drewN | apply below_drew1 | refine below_set ?_ GE101.out | refine below_set ?_ GE111.out) | exact HB.out)⟩⟩
               ·
                rw [if_neg c33] at H
                exact absurd H (by simp)
              ·
               rw [if_neg c32] at H
               exact absurd H (by simp)
             ·
              rw [if_neg c30] at H
              have c30b0 : decide (0 < x37_2) = false := decide_eq_false c30
              clear c30
              have H' := Aside0.mk H
              clear H
              have hnb37 := NB111_101.out
              have hnc37 := NB101_111.out
              have hcz38_0 : w22.cell? ⟨gb111, 0, none⟩ = some (.int .i64 0) := (blk_cell BK111.out 0).trans rfl
              have hcz38_1 : w22.cell? ⟨gb111, 1, none⟩ = some (.int .i64 0) := (blk_cell BK111.out 1).trans rfl
              have hfz38_0 := blk_frozen BK111.out 0
              have hfz38_1 := blk_frozen BK111.out 1
              obtain ⟨Ao39, co39, eo39⟩ := Kd.R_slice HO_5.out
              subst eo39
              have p112 : 0 ≤ (x37_2 : Int) := of_decide_eq_true (by first | (with_reducible assumption) | assumption)
              have q112 : x37_2 < (t106.length : Int) := of_decide_eq_true (by first | (with_reducible assumption) | assumption)
              obtain ⟨ad112, e112, hx112_0, hx112_1⟩ := at_T55 (Kd.R_reads' HO_5.out).2.2 x37_2 p112 q112
              cases e112
              have hn112_0 : ad112.block ≠ gb111 := Kd.own_blk (by first | exact Kd.R_ne HO_5.out BK111.out (by decide) | exact Kd.R_away HO_5.out (fun _ hk => by first | exact hk | exact hk.2 | exact hk.2.2 | exact hk.2.2.2))
              have hn112_1 : ad112.block ≠ gb111 := Kd.own_blk (by first | exact Kd.R_ne HO_5.out BK111.out (by decide) | exact Kd.R_away HO_5.out (fun _ hk => by first | exact hk | exact hk.2 | exact hk.2.2 | exact hk.2.2.2))
              replace hx112_0 := (cell_far (p := ⟨gb111, 0, none⟩) (by first | (rw [add_block]; exact hn112_0) | (show (Addr.add _ _).block ≠ _; rw [add_block]; exact hn112_0) | exact hn112_0) (.int .i64 ((rd_T55 t102 x37_2).f0))).trans hx112_0
              replace hx112_1 := (cell_far (p := ⟨gb111, 0, none⟩) (by first | (rw [add_block]; exact hn112_0) | (show (Addr.add _ _).block ≠ _; rw [add_block]; exact hn112_0) | exact hn112_0) (.int .i64 ((rd_T55 t102 x37_2).f0))).trans hx112_1
              replace hx112_0 := (cell_far (p := ⟨gb111, 1, none⟩) (by first | (rw [add_block]; exact hn112_1) | (show (Addr.add _ _).block ≠ _; rw [add_block]; exact hn112_1) | exact hn112_1) (.int .i64 ((rd_T55 t102 x37_2).f1))).trans hx112_0
              replace hx112_1 := (cell_far (p := ⟨gb111, 1, none⟩) (by first | (rw [add_block]; exact hn112_1) | (show (Addr.add _ _).block ≠ _; rw [add_block]; exact hn112_1) | exact hn112_1) (.int .i64 ((rd_T55 t102 x37_2).f1))).trans hx112_1
              (try have hy112_0 := fun (n_ : Nat) => (show ((((w22.drewN n_).setCell ⟨gb111, 0, none⟩ (.int .i64 ((rd_T55 t102 x37_2).f0))).setCell ⟨gb111, 1, none⟩ (.int .i64 ((rd_T55 t102 x37_2).f1)))).cell? _ = some _ from hx112_0))
              (try have hy112_1 := fun (n_ : Nat) => (show ((((w22.drewN n_).setCell ⟨gb111, 0, none⟩ (.int .i64 ((rd_T55 t102 x37_2).f0))).setCell ⟨gb111, 1, none⟩ (.int .i64 ((rd_T55 t102 x37_2).f1)))).cell? _ = some _ from hx112_1))
              clear hn112_0 hn112_1
              replace p112 := eq_true p112
              replace q112 := eq_true q112
              go_wp2
              repeat (go_quiet (fail); try go_wp2)
              go_meet
              case rel => exact ⟨_, (false), (by first | rfl | (simp; done) | (simp [*]; done)), H', ⟨by have := HJ6.out; have := HK2.out; first | omega | exact Nat.le_refl _⟩, ⟨by (with_reducible repeat (first | apply Kd.R_alloc | apply Kd.R_drewN | apply Kd.R_drew)); exact Kd.R_mono (Kd.R_far (p := ⟨gb111, 1, none⟩) (Kd.R_far (p := ⟨gb111, 0, none⟩) (Kd.R_mono HO_3.out (fun k_ hk => (⟨hk, hk.2⟩ : _ ∧ k_ ≠ gb111))) (fun _ hk => hk.2) (.int .i64 ((rd_T55 t102 x37_2).f0))) (fun _ hk => hk.2) (.int .i64 ((rd_T55 t102 x37_2).f1))) (fun _ hk => ⟨hk.1.1, hk.1.2⟩)⟩, ⟨by (with_reducible repeat (first | apply Kd.R_alloc | apply Kd.R_drewN | apply Kd.R_drew)); exact Kd.R_mono (Kd.R_far (p := ⟨gb111, 1, none⟩) (Kd.R_far (p := ⟨gb111, 0, none⟩) (Kd.R_mono HO_5.out (fun k_ hk => (⟨hk, hk.2⟩ : _ ∧ k_ ≠ gb111))) (fun _ hk => hk.2) (.int .i64 ((rd_T55 t102 x37_2).f0))) (fun _ hk => hk.2) (.int .i64 ((rd_T55 t102 x37_2).f1))) (fun _ hk => ⟨hk.1.1.1, ⟨hk.1.1.2, hk.1.2⟩⟩)⟩, ⟨by (with_reducible repeat (first | apply Kd.R_alloc | apply Kd.R_drewN | apply Kd.R_drew)); exact Kd.R_mono (Kd.R_far (p := ⟨gb111, 1, none⟩) (Kd.R_far (p := ⟨gb111, 0, none⟩) (Kd.R_mono HO_35.out (fun k_ hk => (⟨hk, hk.2⟩ : _ ∧ k_ ≠ gb111))) (fun _ hk => hk.2) (.int .i64 ((rd_T55 t102 x37_2).f0))) (fun _ hk => hk.2) (.int .i64 ((rd_T55 t102 x37_2).f1))) (fun _ hk => ⟨hk.1.1, hk.1.2⟩)⟩, ⟨by (with_reducible repeat (first | refine blk_drewN ?_ _ | refine blk_drew ?_ | refine blk_alloc ?_ _)); refine blk_far ?_ NB101_111.out _; (with_reducible repeat (first | refine blk_drewN ?_ _ | refine blk_drew ?_ | refine blk_alloc ?_ _)); refine blk_far ?_ NB101_111.out _; (with_reducible repeat (first | refine blk_drewN ?_ _ | refine blk_drew ?_ | refine blk_alloc ?_ _)); exact BK101.out⟩, ⟨by (with_reducible repeat (first | refine blk_drewN ?_ _ | refine blk_drew ?_ | refine blk_alloc ?_ _)); refine blk_put (cs := #[.int .i64 ((rd_T55 t102 x37_2).f0), .int .i64 0]) ?_ 1 _ rfl; (with_reducible repeat (first | refine blk_drewN ?_ _ | refine blk_drew ?_ | refine blk_alloc ?_ _)); refine blk_put (cs := #[.int .i64 0, .int .i64 0]) ?_ 0 _ rfl; (with_reducible repeat (first | refine blk_drewN ?_ _ | refine blk_drew ?_ | refine blk_alloc ?_ _)); exact BK111.out⟩, ⟨by repeat (first | (with_reducible first | exact HB.out | apply below_alloc | apply pw_below_drewN | apply below_drew1 | refine below_set ?_ GE101.out | refine below_set ?_ GE111.out) | exact HB.out)⟩⟩
           ·
            rw [if_neg c25] at H
            exact absurd H (by simp)
          case rest =>
           clear HC21
           try clear c1
           try clear p1
           try clear q1
           try clear hx1
           try clear c2
           try clear c2b0
           try clear c2b1
           try clear p2
           try clear c3
           try clear c6
           try clear p6
           try clear p11
           try clear q11
           try clear hx11
           try clear c13
           try clear c13b0
           try clear c13b1
           try clear c13b2
           try clear c16
           try clear c18
           try clear c18b0
           try clear c19
           try clear c19b0
           try clear c20
           try clear c20b0
           try clear c23
           try clear c25
           try clear c25b0
           try clear c26
           try clear c26b0
           try clear c27
           try clear c30
           try clear c30b0
           try clear c32
           try clear c32b0
           try clear c33
           try clear c33b0
           try clear c34
           try clear c37
           try clear hcz11_0
           try clear hcz11_1
           try clear hcz24_0
           try clear hcz24_1
           try clear hcz28_0
           try clear hcz28_1
           try clear hcz35_0
           try clear hcz35_1
           try clear hcz38_0
           try clear hcz38_1
           try clear hcz4_0
           try clear hcz4_1
           try clear hcz9_0
           try clear hcz9_1
           try clear hfz11_0
           try clear hfz11_1
           try clear hfz24_0
           try clear hfz24_1
           try clear hfz28_0
           try clear hfz28_1
           try clear hfz35_0
           try clear hfz35_1
           try clear hfz38_0
           try clear hfz38_1
           try clear hfz4_0
           try clear hfz4_1
           try clear hfz9_0
           try clear hfz9_1
           try clear hx110_0
           try clear hx110_1
           try clear hx112_0
           try clear hx112_1
           try clear hx113_0
           try clear hx113_1
           try clear hx114_0
           try clear hx114_1
           try clear p110
           try clear p112
           try clear p113
           try clear p114
           try clear p2
           try clear q110
           try clear q112
           try clear q113
           try clear q114
           obtain ⟨kq, x72_20, rfl, HA, HJ20, HO_3, HO_5, HO_35, BK101, BK111, HB⟩ := hcut
           cases kq with
           | zero => exact absurd HA.out (by simp [laws_FnCalibrated.j2])
           | succ kj20 =>
            have H := HA.out
            clear HA
            simp only [laws_FnCalibrated.j2] at H
            by_cases c40 : x72_20 = true
            ·
             subst c40
             have H1 : (some false) = some r := by rw [if_pos rfl] at H; exact H
             clear H
             have H := H1
             clear H1
             obtain rfl := Option.some.inj H
             go_wp2
             repeat (go_quiet (fail); try go_wp2)
             go_ret
             exact ⟨by first | rfl | (simp [errW_none, errW_some] <;> rfl) | (simp [*, errW_none, errW_some] <;> rfl), by repeat (first | (with_reducible first | exact HB.out | apply below_alloc | apply pw_below_drewN | apply below_drew1 | refine below_set ?_ GE111.out) | exact HB.out)⟩
            ·
             replace c40 := Bool.eq_false_iff.mpr c40
             subst c40
             have H1 : (if 0 ≤ x37_2 then (if x37_2 < (l0_1.length : Int) then (if x37_2 < (l0_0.length : Int) then (if (wrap64 (x37_2 + 1)) = (t102.length : Int) then (laws_FnCalibrated.j3 kj20 t102 t106 (wrap64 (x7_2 + (rd l0_1 x37_2))) (wrap64 (x8_2 + (rd l0_0 x37_2))) t102 (t102.length : Int) x37_2 true l0_0 l0_1 ((rd_T55 t102 x37_2).f0) ((rd_T55 t102 x37_2).f1)) else (if 0 ≤ (wrap64 (x37_2 + 1)) then (if (wrap64 (x37_2 + 1)) < (t102.length : Int) then (laws_FnCalibrated.j3 kj20 t102 t106 (wrap64 (x7_2 + (rd l0_1 x37_2))) (wrap64 (x8_2 + (rd l0_0 x37_2))) t102 (t102.length : Int) x37_2 (!(((rd_T55 t102 (wrap64 (x37_2 + 1))).f0) == ((rd_T55 t102 x37_2).f0)) || (!(((rd_T55 t102 (wrap64 (x37_2 + 1))).f1) == ((rd_T55 t102 x37_2).f1)))) l0_0 l0_1 ((rd_T55 t102 x37_2).f0) ((rd_T55 t102 x37_2).f1)) else (none)) else (none))) else (none)) else (none)) else (none)) = some r := by rw [if_neg (show ¬ (false = true) by decide)] at H; exact H
             clear H
             have H := H1
             clear H1
             by_cases c41 : 0 ≤ x37_2
             ·
              rw [if_pos c41] at H
              have c41b0 : decide (0 ≤ x37_2) = true := decide_eq_true c41
              clear c41
              by_cases c42 : x37_2 < (l0_1.length : Int)
              ·
               rw [if_pos c42] at H
               have c42b0 : decide (x37_2 < (l0_1.length : Int)) = true := decide_eq_true c42
               clear c42
               by_cases c43 : x37_2 < (l0_0.length : Int)
               ·
                rw [if_pos c43] at H
                have c43b0 : decide (x37_2 < (l0_0.length : Int)) = true := decide_eq_true c43
                clear c43
                have HC44 := Aside0.mk H
                clear H
                have hnb45 := NB101_111.out
                have hnc45 := NB111_101.out
                have hcz46_0 : wc.cell? ⟨gb101, 0, none⟩ = some (.slice A0_0 l0_0.length c0_0) := (blk_cell BK101.out 0).trans rfl
                have hcz46_1 : wc.cell? ⟨gb101, 1, none⟩ = some (.slice A0_1 l0_1.length c0_1) := (blk_cell BK101.out 1).trans rfl
                have hfz46_0 := blk_frozen BK101.out 0
                have hfz46_1 := blk_frozen BK101.out 1
                have p115 : 0 ≤ (x37_2 : Int) := of_decide_eq_true (by first | (with_reducible assumption) | assumption)
                have q115 : x37_2 < (l0_1.length : Int) := of_decide_eq_true (by first | (with_reducible assumption) | assumption)
                obtain ⟨ad115, e115, hx115_0⟩ := Kd.at_int HR0_1.out x37_2 p115 q115
                cases e115
                replace hx115_0 := (HB.out.cell (World.block_lt_of_cell? w _ hx115_0)).trans hx115_0
                replace p115 := eq_true p115
                replace q115 := eq_true q115
                have p116 : 0 ≤ (x37_2 : Int) := of_decide_eq_true (by first | (with_reducible assumption) | assumption)
                have q116 : x37_2 < (l0_0.length : Int) := of_decide_eq_true (by first | (with_reducible assumption) | assumption)
                obtain ⟨ad116, e116, hx116_0⟩ := Kd.at_int HR0_0.out x37_2 p116 q116
                cases e116
                replace hx116_0 := (HB.out.cell (World.block_lt_of_cell? w _ hx116_0)).trans hx116_0
                replace p116 := eq_true p116
                replace q116 := eq_true q116
                go_upto_region 15 with (fail)
                repeat (go_quiet (fail); go_upto_region 15 with (fail))
                go_cut [100] (fun v100 wc => ∃ (kq : Nat) (x100_43 : Bool), v100 = .bool x100_43 ∧ Aside0 (laws_FnCalibrated.j3 kq t102 t106 (wrap64 (x7_2 + (rd l0_1 x37_2))) (wrap64 (x8_2 + (rd l0_0 x37_2))) t102 (t102.length : Int) x37_2 x100_43 l0_0 l0_1 ((rd_T55 t102 x37_2).f0) ((rd_T55 t102 x37_2).f1) = some r) ∧ Aside0 (kq ≤ kj20) ∧ Aside0 (Kd.R k55 55 wc w.heap.size (fun k_ => some k_ ≠ (v107 : Value).ownBlock ∧ k_ ≠ gb111) (.slice (some ad110) t102.length co17) t102) ∧ Aside0 (Kd.R k55 55 wc w.heap.size (fun k_ => some k_ ≠ ((.slice (some ad110) t102.length co17) : Value).ownBlock ∧ some k_ ≠ ((.slice (some ad110) t102.length co17) : Value).ownBlock ∧ k_ ≠ gb111) v107 t106) ∧ Aside0 (Kd.R k55 55 wc w.heap.size (fun k_ => some k_ ≠ (v107 : Value).ownBlock ∧ k_ ≠ gb111) (.slice (some ad110) t102.length co17) t102) ∧ Aside0 (wc.heap[gb101]? = some (.cells #[(.slice (some ad116) l0_0.length c0_0), (.slice (some ad115) l0_1.length c0_1)] 44 (0, 0))) ∧ Aside0 (wc.heap[gb111]? = some (.cells #[.int .i64 ((rd_T55 t102 x37_2).f0), .int .i64 ((rd_T55 t102 x37_2).f1)] 55 (0, 0))) ∧ Aside0 (Below w.heap.size w wc))
                case first =>
                 have H := HC44.out
                 clear HC44
                 by_cases c47 : (wrap64 (x37_2 + 1)) = (t102.length : Int)
                 ·
                  rw [if_pos c47] at H
                  have c47b0 : ((wrap64 (x37_2 + 1)) == (t102.length : Int)) = true := beq_iff_eq.mpr c47
                  have c47b1 : ((wrap64 (x37_2 + 1)) != (t102.length : Int)) = false := bne_eq_false_iff_eq.mpr c47
                  clear c47
                  (first | rw [c47b0] | (simp only [i64_w, i32_w]; rw [c47b0]) | skip)
                  have H' := Aside0.mk H
                  clear H
                  go_wp2
                  repeat (go_quiet (fail); try go_wp2)
                  go_meet
                  case rel => exact ⟨_, (true), (by first | rfl | (simp; done) | (simp [*]; done)), H', ⟨by have := HJ6.out; have := HK2.out; have := HJ20.out; first | omega | exact Nat.le_refl _⟩, ⟨by (with_reducible repeat (first | apply Kd.R_alloc | apply Kd.R_drewN | apply Kd.R_drew)); exact HO_3.out⟩, ⟨by (with_reducible repeat (first | apply Kd.R_alloc | apply Kd.R_drewN | apply Kd.R_drew)); exact HO_5.out⟩, ⟨by (with_reducible repeat (first | apply Kd.R_alloc | apply Kd.R_drewN | apply Kd.R_drew)); exact HO_35.out⟩, ⟨by (with_reducible repeat (first | refine blk_drewN ?_ _ | refine blk_drew ?_ | refine blk_alloc ?_ _)); exact BK101.out⟩, ⟨by (with_reducible repeat (first | refine blk_drewN ?_ _ | refine blk_drew ?_ | refine blk_alloc ?_ _)); exact BK111.out⟩, ⟨by repeat (first | (with_reducible first | exact HB.out | apply below_alloc | apply pw_below_drewN | apply below_drew1 | refine below_set ?_ GE101.out | refine below_set ?_ GE111.out) | exact HB.out)⟩⟩
                 ·
                  rw [if_neg c47] at H
                  have c47b0 : ((wrap64 (x37_2 + 1)) == (t102.length : Int)) = false := beq_eq_false_iff_ne.mpr c47
                  have c47b1 : ((wrap64 (x37_2 + 1)) != (t102.length : Int)) = true := bne_iff_ne.mpr c47
                  (first | rw [c47b0] | (simp only [i64_w, i32_w]; rw [c47b0]) | skip)
                  obtain ⟨ji48, hji48⟩ : ∃ j_ : Int, (wrap64 (x37_2 + 1)) = j_ := ⟨_, rfl⟩
                  replace H : (if 0 ≤ (ji48) then (if (ji48) < (t102.length : Int) then (laws_FnCalibrated.j3 kj20 t102 t106 (wrap64 (x7_2 + (rd l0_1 x37_2))) (wrap64 (x8_2 + (rd l0_0 x37_2))) t102 (t102.length : Int) x37_2 (!(((rd_T55 t102 (ji48)).f0) == ((rd_T55 t102 x37_2).f0)) || (!(((rd_T55 t102 (ji48)).f1) == ((rd_T55 t102 x37_2).f1)))) l0_0 l0_1 ((rd_T55 t102 x37_2).f0) ((rd_T55 t102 x37_2).f1)) else (none)) else (none)) = some r := by first | (rw [hji48] at H; exact H) | (simp only [hji48] at H ⊢; exact H)
                  (try rw [hji48] at c47b0)
                  (try rw [hji48] at c47b1)
                  have hji48w : (IntKind.i64.wrap (x37_2 + 1)) = ji48 := (i64_w _).trans hji48
                  by_cases c49 : 0 ≤ (ji48)
                  ·
                   rw [if_pos c49] at H
                   have c49b0 : decide (0 ≤ (ji48)) = true := decide_eq_true c49
                   clear c49
                   by_cases c50 : (ji48) < (t102.length : Int)
                   ·
                    rw [if_pos c50] at H
                    have c50b0 : decide ((ji48) < (t102.length : Int)) = true := decide_eq_true c50
                    clear c50
                    have H' := Aside0.mk H
                    clear H
                    have p117 : 0 ≤ ((ji48) : Int) := of_decide_eq_true (by first | (with_reducible assumption) | assumption)
                    have q117 : (ji48) < (t102.length : Int) := of_decide_eq_true (by first | (with_reducible assumption) | assumption)
                    obtain ⟨ad117, e117, hx117_0, hx117_1⟩ := at_T55 (Kd.R_reads' HO_3.out).2.2 (ji48) p117 q117
                    obtain rfl : ad110 = ad117 := (by injection e117)
                    replace p117 := eq_true p117
                    replace q117 := eq_true q117
                    have hnb51 := NB111_101.out
                    have hnc51 := NB101_111.out
                    have hcz52_0 : wc.cell? ⟨gb111, 0, none⟩ = some (.int .i64 ((rd_T55 t102 x37_2).f0)) := (blk_cell BK111.out 0).trans rfl
                    have hcz52_1 : wc.cell? ⟨gb111, 1, none⟩ = some (.int .i64 ((rd_T55 t102 x37_2).f1)) := (blk_cell BK111.out 1).trans rfl
                    have hfz52_0 := blk_frozen BK111.out 0
                    have hfz52_1 := blk_frozen BK111.out 1
                    go_wp2
                    repeat (go_quiet (fail); try go_wp2)
                    go_meet
                    case rel => exact ⟨_, ((!(((rd_T55 t102 (ji48)).f0) == ((rd_T55 t102 x37_2).f0)) || (!(((rd_T55 t102 (ji48)).f1) == ((rd_T55 t102 x37_2).f1))))), (by first | rfl | (simp; done) | (simp only [← hji48] <;> (first | rfl | simp)) | (simp [*]; done)), H', ⟨by have := HJ6.out; have := HK2.out; have := HJ20.out; first | omega | exact Nat.le_refl _⟩, ⟨by (with_reducible repeat (first | apply Kd.R_alloc | apply Kd.R_drewN | apply Kd.R_drew)); exact HO_3.out⟩, ⟨by (with_reducible repeat (first | apply Kd.R_alloc | apply Kd.R_drewN | apply Kd.R_drew)); exact HO_5.out⟩, ⟨by (with_reducible repeat (first | apply Kd.R_alloc | apply Kd.R_drewN | apply Kd.R_drew)); exact HO_35.out⟩, ⟨by (with_reducible repeat (first | refine blk_drewN ?_ _ | refine blk_drew ?_ | refine blk_alloc ?_ _)); exact BK101.out⟩, ⟨by (with_reducible repeat (first | refine blk_drewN ?_ _ | refine blk_drew ?_ | refine blk_alloc ?_ _)); exact BK111.out⟩, ⟨by repeat (first | (with_reducible first | exact HB.out | apply below_alloc | apply pw_below_drewN | apply below_drew1 | refine below_set ?_ GE101.out | refine below_set ?_ GE111.out) | exact HB.out)⟩⟩
                   ·
                    rw [if_neg c50] at H
                    exact absurd H (by simp)
                  ·
                   rw [if_neg c49] at H
                   exact absurd H (by simp)
                case rest =>
                 clear HC44
                 try clear c1
                 try clear p1
                 try clear q1
                 try clear hx1
                 try clear c2
                 try clear c2b0
                 try clear c2b1
                 try clear p2
                 try clear c3
                 try clear c4
                 try clear c5
                 try clear c6
                 try clear p6
                 try clear p11
                 try clear q11
                 try clear hx11
                 try clear c13
                 try clear c13b0
                 try clear c13b1
                 try clear c13b2
                 try clear c16
                 try clear c18
                 try clear c18b0
                 try clear c19
                 try clear c19b0
                 try clear c20
                 try clear c20b0
                 try clear c23
                 try clear c25
                 try clear c25b0
                 try clear c26
                 try clear c26b0
                 try clear c27
                 try clear c30
                 try clear c30b0
                 try clear c32
                 try clear c32b0
                 try clear c33
                 try clear c33b0
                 try clear c34
                 try clear c37
                 try clear c40
                 try clear c41
                 try clear c41b0
                 try clear c42
                 try clear c42b0
                 try clear c43
                 try clear c43b0
                 try clear c45
                 try clear c47
                 try clear c47b0
                 try clear c47b1
                 try clear c49
                 try clear c49b0
                 try clear c50
                 try clear c50b0
                 try clear c51
                 try clear hcz11_0
                 try clear hcz11_1
                 try clear hcz24_0
                 try clear hcz24_1
                 try clear hcz28_0
                 try clear hcz28_1
                 try clear hcz35_0
                 try clear hcz35_1
                 try clear hcz38_0
                 try clear hcz38_1
                 try clear hcz46_0
                 try clear hcz46_1
                 try clear hcz4_0
                 try clear hcz4_1
                 try clear hcz52_0
                 try clear hcz52_1
                 try clear hcz9_0
                 try clear hcz9_1
                 try clear hfz11_0
                 try clear hfz11_1
                 try clear hfz24_0
                 try clear hfz24_1
                 try clear hfz28_0
                 try clear hfz28_1
                 try clear hfz35_0
                 try clear hfz35_1
                 try clear hfz38_0
                 try clear hfz38_1
                 try clear hfz46_0
                 try clear hfz46_1
                 try clear hfz4_0
                 try clear hfz4_1
                 try clear hfz52_0
                 try clear hfz52_1
                 try clear hfz9_0
                 try clear hfz9_1
                 try clear hx110_0
                 try clear hx110_1
                 try clear hx112_0
                 try clear hx112_1
                 try clear hx113_0
                 try clear hx113_1
                 try clear hx114_0
                 try clear hx114_1
                 try clear hx115_0
                 try clear hx116_0
                 try clear hx117_0
                 try clear hx117_1
                 try clear p1
                 try clear p11
                 try clear p110
                 try clear p112
                 try clear p113
                 try clear p114
                 try clear p115
                 try clear p116
                 try clear p117
                 try clear p2
                 try clear p6
                 try clear q1
                 try clear q11
                 try clear q110
                 try clear q112
                 try clear q113
                 try clear q114
                 try clear q115
                 try clear q116
                 try clear q117
                 obtain ⟨kq, x100_43, rfl, HA, HJ43, HO_3, HO_5, HO_35, BK101, BK111, HB⟩ := hcut
                 cases kq with
                 | zero => exact absurd HA.out (by simp [laws_FnCalibrated.j3])
                 | succ kj43 =>
                  have H := HA.out
                  clear HA
                  simp only [laws_FnCalibrated.j3] at H
                  by_cases c53 : x100_43 = true
                  ·
                   subst c53
                   have H1 : (if (wrap64 (x8_2 + (rd l0_0 x37_2))) > 0 then (if (wrap64 ((wrap64 (x7_2 + (rd l0_1 x37_2))) * ((rd_T55 t102 x37_2).f1))) = (wrap64 (((rd_T55 t102 x37_2).f0) * (wrap64 (x8_2 + (rd l0_0 x37_2))))) then (laws_FnCalibrated.l0 kj43 t102 t106 0 0 t102 (t102.length : Int) (wrap64 (x37_2 + 1)) l0_0 l0_1) else (some false)) else (laws_FnCalibrated.l0 kj43 t102 t106 0 0 t102 (t102.length : Int) (wrap64 (x37_2 + 1)) l0_0 l0_1)) = some r := by rw [if_pos rfl] at H; exact H
                   clear H
                   have H := H1
                   clear H1
                   by_cases c54 : (wrap64 (x8_2 + (rd l0_0 x37_2))) > 0
                   ·
                    rw [if_pos c54] at H
                    have c54b0 : decide (0 < (wrap64 (x8_2 + (rd l0_0 x37_2)))) = true := decide_eq_true c54
                    clear c54
                    by_cases c55 : (wrap64 ((wrap64 (x7_2 + (rd l0_1 x37_2))) * ((rd_T55 t102 x37_2).f1))) = (wrap64 (((rd_T55 t102 x37_2).f0) * (wrap64 (x8_2 + (rd l0_0 x37_2)))))
                    ·
                     rw [if_pos c55] at H
                     have c55b0 : ((wrap64 ((wrap64 (x7_2 + (rd l0_1 x37_2))) * ((rd_T55 t102 x37_2).f1))) == (wrap64 (((rd_T55 t102 x37_2).f0) * (wrap64 (x8_2 + (rd l0_0 x37_2)))))) = true := beq_iff_eq.mpr c55
                     have c55b1 : ((wrap64 ((wrap64 (x7_2 + (rd l0_1 x37_2))) * ((rd_T55 t102 x37_2).f1))) != (wrap64 (((rd_T55 t102 x37_2).f0) * (wrap64 (x8_2 + (rd l0_0 x37_2)))))) = false := bne_eq_false_iff_eq.mpr c55
                     clear c55
                     have H' := Aside0.mk H
                     clear H
                     have hnb56 := NB111_101.out
                     have hnc56 := NB101_111.out
                     have hcz57_0 : wc.cell? ⟨gb111, 0, none⟩ = some (.int .i64 ((rd_T55 t102 x37_2).f0)) := (blk_cell BK111.out 0).trans rfl
                     have hcz57_1 : wc.cell? ⟨gb111, 1, none⟩ = some (.int .i64 ((rd_T55 t102 x37_2).f1)) := (blk_cell BK111.out 1).trans rfl
                     have hfz57_0 := blk_frozen BK111.out 0
                     have hfz57_1 := blk_frozen BK111.out 1
                     go_wp2
                     repeat (go_quiet (fail); try go_wp2)
                     go_roundg kj43
                     case measure => have := HJ6.out; have := HK2.out; have := HJ20.out; have := HJ43.out; omega
                     case rel => exact ⟨(0), (0), (wrap64 (x37_2 + 1)), (by first | rfl | (simp; done) | (simp [*]; done)), (by first | rfl | (simp; done) | (simp [*]; done)), (by first | rfl | (simp; done) | (simp [*]; done)), H', ⟨by have := HJ6.out; have := HK2.out; have := HJ20.out; have := HJ43.out; omega⟩, ⟨by (with_reducible repeat (first | apply Kd.R_alloc | apply Kd.R_drewN | apply Kd.R_drew)); exact Kd.R_mono HO_3.out (fun _ hk => hk.1)⟩, ⟨by (with_reducible repeat (first | apply Kd.R_alloc | apply Kd.R_drewN | apply Kd.R_drew)); exact Kd.R_mono HO_5.out (fun _ hk => ⟨hk.1, hk.2.1⟩)⟩, ⟨by (with_reducible repeat (first | apply Kd.R_alloc | apply Kd.R_drewN | apply Kd.R_drew)); exact Kd.R_mono HO_35.out (fun _ hk => hk.1)⟩, ⟨by (with_reducible repeat (first | refine blk_drewN ?_ _ | refine blk_drew ?_ | refine blk_alloc ?_ _)); exact BK101.out⟩, ⟨by repeat (first | (with_reducible first | exact HB.out | apply below_alloc | apply pw_below_drewN | apply below_drew1 | refine below_set ?_ GE101.out | refine below_set ?_ GE111.out) | exact HB.out)⟩⟩
                    ·
                     rw [if_neg c55] at H
                     have c55b0 : ((wrap64 ((wrap64 (x7_2 + (rd l0_1 x37_2))) * ((rd_T55 t102 x37_2).f1))) == (wrap64 (((rd_T55 t102 x37_2).f0) * (wrap64 (x8_2 + (rd l0_0 x37_2)))))) = false := beq_eq_false_iff_ne.mpr c55
                     have c55b1 : ((wrap64 ((wrap64 (x7_2 + (rd l0_1 x37_2))) * ((rd_T55 t102 x37_2).f1))) != (wrap64 (((rd_T55 t102 x37_2).f0) * (wrap64 (x8_2 + (rd l0_0 x37_2)))))) = true := bne_iff_ne.mpr c55
                     obtain rfl := Option.some.inj H
                     have hcz58_0 : wc.cell? ⟨gb111, 0, none⟩ = some (.int .i64 ((rd_T55 t102 x37_2).f0)) := (blk_cell BK111.out 0).trans rfl
                     have hcz58_1 : wc.cell? ⟨gb111, 1, none⟩ = some (.int .i64 ((rd_T55 t102 x37_2).f1)) := (blk_cell BK111.out 1).trans rfl
                     have hfz58_0 := blk_frozen BK111.out 0
                     have hfz58_1 := blk_frozen BK111.out 1
                     go_wp2
                     repeat (go_quiet (fail); try go_wp2)
                     go_ret
                     exact ⟨by first | rfl | (simp [errW_none, errW_some] <;> rfl) | (simp [*, errW_none, errW_some] <;> rfl), by repeat (first | (with_reducible first | exact HB.out | apply below_alloc | apply pw_below_drewN | apply below_drew1 | refine below_set ?_ GE111.out) | exact HB.out)⟩
                   ·
                    rw [if_neg c54] at H
                    have c54b0 : decide (0 < (wrap64 (x8_2 + (rd l0_0 x37_2)))) = false := decide_eq_false c54
                    clear c54
                    have H' := Aside0.mk H
                    clear H
                    go_wp2
                    repeat (go_quiet (fail); try go_wp2)
                    go_roundg kj43
                    case measure => have := HJ6.out; have := HK2.out; have := HJ20.out; have := HJ43.out; omega
                    case rel => exact ⟨(0), (0), (wrap64 (x37_2 + 1)), (by first | rfl | (simp; done) | (simp [*]; done)), (by first | rfl | (simp; done) | (simp [*]; done)), (by first | rfl | (simp; done) | (simp [*]; done)), H', ⟨by have := HJ6.out; have := HK2.out; have := HJ20.out; have := HJ43.out; omega⟩, ⟨by (with_reducible repeat (first | apply Kd.R_alloc | apply Kd.R_drewN | apply Kd.R_drew)); exact Kd.R_mono HO_3.out (fun _ hk => hk.1)⟩, ⟨by (with_reducible repeat (first | apply Kd.R_alloc | apply Kd.R_drewN | apply Kd.R_drew)); exact Kd.R_mono HO_5.out (fun _ hk => ⟨hk.1, hk.2.1⟩)⟩, ⟨by (with_reducible repeat (first | apply Kd.R_alloc | apply Kd.R_drewN | apply Kd.R_drew)); exact Kd.R_mono HO_35.out (fun _ hk => hk.1)⟩, ⟨by (with_reducible repeat (first | refine blk_drewN ?_ _ | refine blk_drew ?_ | refine blk_alloc ?_ _)); exact BK101.out⟩, ⟨by repeat (first | (with_reducible first | exact HB.out | apply below_alloc | apply pw_below_drewN | apply below_drew1 | refine below_set ?_ GE101.out | refine below_set ?_ GE111.out) | exact HB.out)⟩⟩
                  ·
                   replace c53 := Bool.eq_false_iff.mpr c53
                   subst c53
                   have H1 : (laws_FnCalibrated.l0 kj43 t102 t106 (wrap64 (x7_2 + (rd l0_1 x37_2))) (wrap64 (x8_2 + (rd l0_0 x37_2))) t102 (t102.length : Int) (wrap64 (x37_2 + 1)) l0_0 l0_1) = some r := by rw [if_neg (show ¬ (false = true) by decide)] at H; exact H
                   clear H
                   have H := H1
                   clear H1
                   have H' := Aside0.mk H
                   clear H
                   go_wp2
                   repeat (go_quiet (fail); try go_wp2)
                   go_roundg kj43
                   case measure => have := HJ6.out; have := HK2.out; have := HJ20.out; have := HJ43.out; omega
                   case rel => exact ⟨((wrap64 (x7_2 + (rd l0_1 x37_2)))), ((wrap64 (x8_2 + (rd l0_0 x37_2)))), (wrap64 (x37_2 + 1)), (by first | rfl | (simp; done) | (simp [*]; done)), (by first | rfl | (simp; done) | (simp [*]; done)), (by first | rfl | (simp; done) | (simp [*]; done)), H', ⟨by have := HJ6.out; have := HK2.out; have := HJ20.out; have := HJ43.out; omega⟩, ⟨by (with_reducible repeat (first | apply Kd.R_alloc | apply Kd.R_drewN | apply Kd.R_drew)); exact Kd.R_mono HO_3.out (fun _ hk => hk.1)⟩, ⟨by (with_reducible repeat (first | apply Kd.R_alloc | apply Kd.R_drewN | apply Kd.R_drew)); exact Kd.R_mono HO_5.out (fun _ hk => ⟨hk.1, hk.2.1⟩)⟩, ⟨by (with_reducible repeat (first | apply Kd.R_alloc | apply Kd.R_drewN | apply Kd.R_drew)); exact Kd.R_mono HO_35.out (fun _ hk => hk.1)⟩, ⟨by (with_reducible repeat (first | refine blk_drewN ?_ _ | refine blk_drew ?_ | refine blk_alloc ?_ _)); exact BK101.out⟩, ⟨by repeat (first | (with_reducible first | exact HB.out | apply below_alloc | apply pw_below_drewN | apply below_drew1 | refine below_set ?_ GE101.out | refine below_set ?_ GE111.out) | exact HB.out)⟩⟩
               ·
                rw [if_neg c43] at H
                exact absurd H (by simp)
              ·
               rw [if_neg c42] at H
               exact absurd H (by simp)
             ·
              rw [if_neg c41] at H
              exact absurd H (by simp)
         ·
          rw [if_neg c20] at H
          exact absurd H (by simp)
        ·
         rw [if_neg c19] at H
         exact absurd H (by simp)
       ·
        rw [if_neg c18] at H
        have c18b0 : decide (x37_2 < (t102.length : Int)) = false := decide_eq_false c18
        clear c18
        obtain rfl := Option.some.inj H
        go_wp2
        repeat (go_quiet (fail); try go_wp2)
        go_ret
        exact ⟨by first | rfl | (simp [errW_none, errW_some] <;> rfl) | (simp [*, errW_none, errW_some] <;> rfl), by repeat (first | (with_reducible first | exact HB.out | apply below_alloc | apply pw_below_drewN | apply below_drew1) | exact HB.out)⟩

/-- The one plain statement of FnCalibrated. -/
def laws_FnCalibrated.Pure : Prop := ∀ (l0_0 : List Int) (l0_1 : List Int), (l0_0.length ≤ 9223372036854775807 ∧ ∀ z0 ∈ l0_0, (Lit.int .i64 z0).wf = true) → (l0_1.length ≤ 9223372036854775807 ∧ ∀ z0 ∈ l0_1, (Lit.int .i64 z0).wf = true) → ∃ k, laws_FnCalibrated.f k l0_0 l0_1 = some true

end Go.Proofs.Ythekngnkajjhnaa.P
