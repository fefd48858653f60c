/- Texts of the claim FnExactMedianFilter, merged: part 4 of 5: the program's and the reference's functions as Lean functions, the walks that show it, and plain lemmas; no conditions. -/
import Derived.Test.YtbjbanemmoalhaaKFnExactMedianFilter1
import Derived.Test.YtbjbanemmoalhaaKFnExactMedianFilter2
import Derived.Test.YtbjbanemmoalhaaKFnExactMedianFilter3
namespace Go.Proofs.Ytbjbanemmoalhaa.P
open Go.RowKit Go.Proofs.YtbjbanemmoalhaaW.PrintWords Go.Proofs.YtbjbanemmoalhaaW.PrintLast Go.Proofs.YtbjbanemmoalhaaW.PrintMore
attribute [local go_sem] max2_int min2_int max_two min_two max_three min_three max_four min_four   -- for this text's walks alone
set_option linter.unusedVariables false
set_option linter.unusedSimpArgs false

/-! ### laws_FnExactMedianFilter: function 6 -/
mutual
def laws_FnExactMedianFilter.j0 : Nat → Int → Bool → Bool → Bool → Int → Int → List Int → Int → Int → List Int → Int → Int → List Int → Int → Int → List Int → Option (Bool)
 | 0, _, _, _, _, _, _, _, _, _, _, _, _, _, _, _, _ => none
 | k + 1, x1, x7, x10, x44, x102000, x102001, x102002, x115000, x115001, x115002, x121000, x121001, x121002, x128000, x128001, x128002 => if x44 = true then (some false) else ((laws_toField.f k x102000 x102001 x102002).bind fun bt129 => ((laws_eqField.f k x121000 x121001 x121002 bt129.1 bt129.2.1 bt129.2.2).bind fun t134 => (if t134 = true then ((laws_markField.f k x121000 x121001 x121002 1).bind fun bt135 => (if bt135.1 < 0 then (laws_FnExactMedianFilter.j1 k x1 x7 true x102000 x102001 x102002 x115000 x115001 x115002 x128000 x128001 x128002) else ((laws_eqField.f k x128000 x128001 x128002 x115000 x115001 x115002).bind fun t137 => (if t137 = true then (laws_FnExactMedianFilter.j1 k x1 x7 (x10 != x7) x102000 x102001 x102002 x115000 x115001 x115002 x128000 x128001 x128002) else (laws_FnExactMedianFilter.j1 k x1 x7 true x102000 x102001 x102002 x115000 x115001 x115002 x128000 x128001 x128002))))) else (some false))))
def laws_FnExactMedianFilter.j1 : Nat → Int → Bool → Bool → Int → Int → List Int → Int → Int → List Int → Int → Int → List Int → Option (Bool)
 | 0, _, _, _, _, _, _, _, _, _, _, _, _ => none
 | k + 1, x1, x7, x65, x102000, x102001, x102002, x115000, x115001, x115002, x128000, x128001, x128002 => if x65 = true then (some false) else ((laws_markField.f k x128000 x128001 x128002 1).bind fun bt138 => ((laws_heldField.f k x128000 x128001 bt138.2 1).bind fun t140 => (if t140 < 0 then (some false) else (if t140 = bt138.1 then ((laws_toField.f k x102000 x102001 x102002).bind fun bt141 => ((impl_MedianFilter.f k bt141.1 bt141.2.1 bt141.2.2 x1).bind fun bt146 => ((laws_eqField.f k bt146.1 bt146.2.1 bt146.2.2.1 x115000 x115001 x115002).bind fun t153 => (if t153 = true then (laws_FnExactMedianFilter.j2 k bt138.1 (bt146.2.2.2 != x7) x128000 x128001 bt138.2) else (laws_FnExactMedianFilter.j2 k bt138.1 true x128000 x128001 bt138.2))))) else (some false)))))
def laws_FnExactMedianFilter.j2 : Nat → Int → Bool → Int → Int → List Int → Option (Bool)
 | 0, _, _, _, _, _ => none
 | k + 1, x12, x92, x128000, x128001, x128002 => if x92 = true then (some false) else ((laws_heldField.f k x128000 x128001 x128002 1).bind fun t154 => (if t154 < 0 then (some false) else (if t154 = x12 then (some true) else (some false))))
end
def laws_FnExactMedianFilter.f (k : Nat) (a0_0 : Int) (a0_1 : Int) (l0_2 : List Int) (a1 : Int) : Option (Bool) := (laws_szField.f a0_0 a0_1 l0_2 1048576).bind fun t102 => (if t102 < 0 then (some true) else ((laws_toField.f k a0_0 a0_1 l0_2).bind fun bt103 => ((spec_MedianFilter.f k bt103.1 bt103.2.1 bt103.2.2 a1).bind fun bt108 => ((laws_toField.f k a0_0 a0_1 l0_2).bind fun bt115 => ((impl_MedianFilter.f k bt115.1 bt115.2.1 bt115.2.2 a1).bind fun bt121 => ((laws_eqField.f k bt121.1 bt121.2.1 bt121.2.2.1 bt108.1 bt108.2.1 bt108.2.2.1).bind fun t128 => (if t128 = true then (laws_FnExactMedianFilter.j0 k a1 bt108.2.2.2 bt121.2.2.2 (bt121.2.2.2 != bt108.2.2.2) a0_0 a0_1 l0_2 bt108.1 bt108.2.1 bt108.2.2.1 bt115.1 bt115.2.1 bt115.2.2 bt121.1 bt121.2.1 bt121.2.2.1) else (laws_FnExactMedianFilter.j0 k a1 bt108.2.2.2 bt121.2.2.2 true a0_0 a0_1 l0_2 bt108.1 bt108.2.1 bt108.2.2.1 bt115.1 bt115.2.1 bt115.2.2 bt121.1 bt121.2.1 bt121.2.2.1))))))))

set_option maxHeartbeats 8000000 in
set_option maxRecDepth 100000 in
theorem laws_FnExactMedianFilter.calls (k : Nat) (a0_0 : Int) (a0_1 : Int) (A0_2 : Option Addr) (c0_2 : Nat) (l0_2 : List Int) (a1 : Int) (r : Bool) (w : World) (hr0_2 : Kd.C (Kd.int .i64) w A0_2 l0_2.length l0_2) (hc0_2 : l0_2.length ≤ c0_2) (h : laws_FnExactMedianFilter.f k a0_0 a0_1 l0_2 a1 = some r) :
  Calls Try.prog 6 #[.agg #[.int .i64 a0_0, .int .i64 a0_1, .slice A0_2 l0_2.length c0_2], .int .i64 a1] w fun e w' => e = .returned (.bool r) ∧ Below w.heap.size w w' := by
 have hu40 := Try.underlying40
 have hu42 := Try.underlying42
 have HR0_2 := Aside0.mk hr0_2
 have HC0_2 := Aside0.mk hc0_2
 clear hr0_2 hc0_2
 have HB := aK (Below.refl w.heap.size w)
 have H : ((laws_szField.f a0_0 a0_1 l0_2 1048576).bind fun t102 => (if t102 < 0 then (some true) else ((laws_toField.f k a0_0 a0_1 l0_2).bind fun bt103 => ((spec_MedianFilter.f k bt103.1 bt103.2.1 bt103.2.2 a1).bind fun bt108 => ((laws_toField.f k a0_0 a0_1 l0_2).bind fun bt115 => ((impl_MedianFilter.f k bt115.1 bt115.2.1 bt115.2.2 a1).bind fun bt121 => ((laws_eqField.f k bt121.1 bt121.2.1 bt121.2.2.1 bt108.1 bt108.2.1 bt108.2.2.1).bind fun t128 => (if t128 = true then (laws_FnExactMedianFilter.j0 k a1 bt108.2.2.2 bt121.2.2.2 (bt121.2.2.2 != bt108.2.2.2) a0_0 a0_1 l0_2 bt108.1 bt108.2.1 bt108.2.2.1 bt115.1 bt115.2.1 bt115.2.2 bt121.1 bt121.2.1 bt121.2.2.1) else (laws_FnExactMedianFilter.j0 k a1 bt108.2.2.2 bt121.2.2.2 true a0_0 a0_1 l0_2 bt108.1 bt108.2.1 bt108.2.2.1 bt115.1 bt115.2.1 bt115.2.2 bt121.1 bt121.2.1 bt121.2.2.1))))))))) = some r := h
 clear h
 replace H := Option.bind_eq_some_iff.mp H
 obtain ⟨t102, A30, H⟩ := H
 replace H : (if t102 < 0 then (some true) else ((laws_toField.f k a0_0 a0_1 l0_2).bind fun bt103 => ((spec_MedianFilter.f k bt103.1 bt103.2.1 bt103.2.2 a1).bind fun bt108 => ((laws_toField.f k a0_0 a0_1 l0_2).bind fun bt115 => ((impl_MedianFilter.f k bt115.1 bt115.2.1 bt115.2.2 a1).bind fun bt121 => ((laws_eqField.f k bt121.1 bt121.2.1 bt121.2.2.1 bt108.1 bt108.2.1 bt108.2.2.1).bind fun t128 => (if t128 = true then (laws_FnExactMedianFilter.j0 k a1 bt108.2.2.2 bt121.2.2.2 (bt121.2.2.2 != bt108.2.2.2) a0_0 a0_1 l0_2 bt108.1 bt108.2.1 bt108.2.2.1 bt115.1 bt115.2.1 bt115.2.2 bt121.1 bt121.2.1 bt121.2.2.1) else (laws_FnExactMedianFilter.j0 k a1 bt108.2.2.2 bt121.2.2.2 true a0_0 a0_1 l0_2 bt108.1 bt108.2.1 bt108.2.2.1 bt115.1 bt115.2.1 bt115.2.2 bt121.1 bt121.2.1 bt121.2.2.1)))))))) = some r := H
 have A3 := Aside0.mk A30
 clear A30
 by_cases c4 : t102 < 0
 ·
  rw [if_pos c4] at H
  have c4b0 : decide (t102 < 0) = true := decide_eq_true c4
  clear c4
  obtain rfl := Option.some.inj H
  go_enter Try.func6, Try.ntmps6
  go_wp2_with (first | ((with_reducible refine gate_dst (N := 2) rfl ?_); refine box_event ?hg (N := 2) ?hd (cs := #[.int .i64 a0_0, .int .i64 a0_1, .slice A0_2 l0_2.length c0_2]) (t := 40) ?hr ?_; (case hd => rfl); (case hg => rfl); (case hr => first | (go_simp; done) | (go_simp; rfl)); intro gb101 hg w5 hbox hb; have BK101 := aK (hbox); have GW101 := aK (gE hg (pS HB.out)); have GE101 := aK (gE hg (pS HB.out)); replace HB := bS HB hb; clear hb hbox hg; have hcz6_0 : w5.cell? ⟨gb101, 0, none⟩ = some (.int .i64 a0_0) := (blk_cell BK101.out 0).trans rfl; have hcz6_1 : w5.cell? ⟨gb101, 1, none⟩ = some (.int .i64 a0_1) := (blk_cell BK101.out 1).trans rfl; have hcz6_2 : w5.cell? ⟨gb101, 2, none⟩ = some (.slice A0_2 l0_2.length c0_2) := (blk_cell BK101.out 2).trans rfl; have hfz6_0 := blk_frozen BK101.out 0; have hfz6_1 := blk_frozen BK101.out 1; have hfz6_2 := blk_frozen BK101.out 2) | ((with_reducible refine gate_callee (f := 31) rfl ?_); refine goesL_ (some 18) rfl rfl Try.func31 (by kernel_rfl) rfl #[.agg #[.int .i64 a0_0, .int .i64 a0_1, .slice A0_2 l0_2.length c0_2], .int .i64 1048576] rfl (by (try simp only [List.map_toArray, List.map_cons, List.map_nil]); first | done | rfl | (simp only [List.length_drop, List.length_take]; rfl)) ?_; (with_reducible refine (laws_szField.calls a0_0 a0_1 _ _ l0_2 1048576 t102 _ ?side1 ?side2 A3.out).mono ?_); (case side1 => repeat (first | exact (Kd.C_below HR0_2.out HB.out) | (with_reducible refine Kd.C_alloc ?_ _) | (with_reducible refine Kd.C_drewN ?_ _) | (with_reducible refine Kd.C_drew ?_))); (case side2 => exact HC0_2.out); rintro e w7 ⟨rfl, hb⟩; refine ⟨_, rfl, ?_⟩; replace HB := bS HB hb; (try clear hb); (try clear hb2); (try clear hk); (try clear hi)))
  go_ret
  exact ⟨by first | rfl | (simp [errW_none, errW_some] <;> rfl) | (simp [*, errW_none, errW_some] <;> rfl), by repeat (first | (with_reducible first | exact HB.out | apply below_alloc | apply pw_below_drewN | apply below_drew1) | exact HB.out)⟩
 ·
  rw [if_neg c4] at H
  have c4b0 : decide (t102 < 0) = false := decide_eq_false c4
  clear c4
  replace H := Option.bind_eq_some_iff.mp H
  obtain ⟨⟨t103, t104, t105⟩, A80, H⟩ := H
  replace H : ((spec_MedianFilter.f k t103 t104 t105 a1).bind fun bt108 => ((laws_toField.f k a0_0 a0_1 l0_2).bind fun bt115 => ((impl_MedianFilter.f k bt115.1 bt115.2.1 bt115.2.2 a1).bind fun bt121 => ((laws_eqField.f k bt121.1 bt121.2.1 bt121.2.2.1 bt108.1 bt108.2.1 bt108.2.2.1).bind fun t128 => (if t128 = true then (laws_FnExactMedianFilter.j0 k a1 bt108.2.2.2 bt121.2.2.2 (bt121.2.2.2 != bt108.2.2.2) a0_0 a0_1 l0_2 bt108.1 bt108.2.1 bt108.2.2.1 bt115.1 bt115.2.1 bt115.2.2 bt121.1 bt121.2.1 bt121.2.2.1) else (laws_FnExactMedianFilter.j0 k a1 bt108.2.2.2 bt121.2.2.2 true a0_0 a0_1 l0_2 bt108.1 bt108.2.1 bt108.2.2.1 bt115.1 bt115.2.1 bt115.2.2 bt121.1 bt121.2.1 bt121.2.2.1)))))) = some r := H
  have A8 := Aside0.mk A80
  clear A80
  replace H := Option.bind_eq_some_iff.mp H
  obtain ⟨⟨t108, t109, t110, t113⟩, A90, H⟩ := H
  replace H : ((laws_toField.f k a0_0 a0_1 l0_2).bind fun bt115 => ((impl_MedianFilter.f k bt115.1 bt115.2.1 bt115.2.2 a1).bind fun bt121 => ((laws_eqField.f k bt121.1 bt121.2.1 bt121.2.2.1 t108 t109 t110).bind fun t128 => (if t128 = true then (laws_FnExactMedianFilter.j0 k a1 t113 bt121.2.2.2 (bt121.2.2.2 != t113) a0_0 a0_1 l0_2 t108 t109 t110 bt115.1 bt115.2.1 bt115.2.2 bt121.1 bt121.2.1 bt121.2.2.1) else (laws_FnExactMedianFilter.j0 k a1 t113 bt121.2.2.2 true a0_0 a0_1 l0_2 t108 t109 t110 bt115.1 bt115.2.1 bt115.2.2 bt121.1 bt121.2.1 bt121.2.2.1))))) = some r := H
  have A9 := Aside0.mk A90
  clear A90
  replace H := Option.bind_eq_some_iff.mp H
  obtain ⟨⟨t115, t116, t117⟩, A100, H⟩ := H
  replace H : ((impl_MedianFilter.f k t115 t116 t117 a1).bind fun bt121 => ((laws_eqField.f k bt121.1 bt121.2.1 bt121.2.2.1 t108 t109 t110).bind fun t128 => (if t128 = true then (laws_FnExactMedianFilter.j0 k a1 t113 bt121.2.2.2 (bt121.2.2.2 != t113) a0_0 a0_1 l0_2 t108 t109 t110 t115 t116 t117 bt121.1 bt121.2.1 bt121.2.2.1) else (laws_FnExactMedianFilter.j0 k a1 t113 bt121.2.2.2 true a0_0 a0_1 l0_2 t108 t109 t110 t115 t116 t117 bt121.1 bt121.2.1 bt121.2.2.1)))) = some r := H
  have A10 := Aside0.mk A100
  clear A100
  replace H := Option.bind_eq_some_iff.mp H
  obtain ⟨⟨t121, t122, t123, t126⟩, A110, H⟩ := H
  replace H : ((laws_eqField.f k t121 t122 t123 t108 t109 t110).bind fun t128 => (if t128 = true then (laws_FnExactMedianFilter.j0 k a1 t113 t126 (t126 != t113) a0_0 a0_1 l0_2 t108 t109 t110 t115 t116 t117 t121 t122 t123) else (laws_FnExactMedianFilter.j0 k a1 t113 t126 true a0_0 a0_1 l0_2 t108 t109 t110 t115 t116 t117 t121 t122 t123))) = some r := H
  have A11 := Aside0.mk A110
  clear A110
  have HC12 := Aside0.mk H
  clear H
  go_enter Try.func6, Try.ntmps6
  go_upto_region 8 with (first | ((with_reducible refine gate_dst (N := 2) rfl ?_); refine box_event ?hg (N := 2) ?hd (cs := #[.int .i64 a0_0, .int .i64 a0_1, .slice A0_2 l0_2.length c0_2]) (t := 40) ?hr ?_; (case hd => rfl); (case hg => rfl); (case hr => first | (go_simp; done) | (go_simp; rfl)); intro gb101 hg w13 hbox hb; have BK101 := aK (hbox); have GW101 := aK (gE hg (pS HB.out)); have GE101 := aK (gE hg (pS HB.out)); replace HB := bS HB hb; clear hb hbox hg; have hcz14_0 : w13.cell? ⟨gb101, 0, none⟩ = some (.int .i64 a0_0) := (blk_cell BK101.out 0).trans rfl; have hcz14_1 : w13.cell? ⟨gb101, 1, none⟩ = some (.int .i64 a0_1) := (blk_cell BK101.out 1).trans rfl; have hcz14_2 : w13.cell? ⟨gb101, 2, none⟩ = some (.slice A0_2 l0_2.length c0_2) := (blk_cell BK101.out 2).trans rfl; have hfz14_0 := blk_frozen BK101.out 0; have hfz14_1 := blk_frozen BK101.out 1; have hfz14_2 := blk_frozen BK101.out 2) | ((with_reducible refine gate_callee (f := 31) rfl ?_); refine goesL_ (some 18) rfl rfl Try.func31 (by kernel_rfl) rfl #[.agg #[.int .i64 a0_0, .int .i64 a0_1, .slice A0_2 l0_2.length c0_2], .int .i64 1048576] rfl (by (try simp only [List.map_toArray, List.map_cons, List.map_nil]); first | done | rfl | (simp only [List.length_drop, List.length_take]; rfl)) ?_; (with_reducible refine (laws_szField.calls a0_0 a0_1 _ _ l0_2 1048576 t102 _ ?side1 ?side2 A3.out).mono ?_); (case side1 => repeat (first | exact (Kd.C_below HR0_2.out HB.out) | (with_reducible refine Kd.C_alloc ?_ _) | (with_reducible refine Kd.C_drewN ?_ _) | (with_reducible refine Kd.C_drew ?_))); (case side2 => exact HC0_2.out); rintro e w15 ⟨rfl, hb⟩; refine ⟨_, rfl, ?_⟩; replace BK101 := bB BK101 hb; replace HB := bS HB hb; (try clear hb); (try clear hb2); (try clear hk); (try clear hi); have hcz16_0 : w15.cell? ⟨gb101, 0, none⟩ = some (.int .i64 a0_0) := (blk_cell BK101.out 0).trans rfl; have hcz16_1 : w15.cell? ⟨gb101, 1, none⟩ = some (.int .i64 a0_1) := (blk_cell BK101.out 1).trans rfl; have hcz16_2 : w15.cell? ⟨gb101, 2, none⟩ = some (.slice A0_2 l0_2.length c0_2) := (blk_cell BK101.out 2).trans rfl; have hfz16_0 := blk_frozen BK101.out 0; have hfz16_1 := blk_frozen BK101.out 1; have hfz16_2 := blk_frozen BK101.out 2) | ((with_reducible refine gate_callee (f := 33) rfl ?_); refine goesL_ (some 23) rfl rfl Try.func33 (by kernel_rfl) rfl #[.agg #[.int .i64 a0_0, .int .i64 a0_1, .slice A0_2 l0_2.length c0_2]] rfl (by (try simp only [List.map_toArray, List.map_cons, List.map_nil]); first | done | rfl | (simp only [List.length_drop, List.length_take]; rfl)) ?_; (with_reducible refine (laws_toField.calls k a0_0 a0_1 _ _ l0_2 t103 t104 t105 _ ?side1 ?side2 A8.out).mono ?_); (case side1 => repeat (first | exact (Kd.C_below HR0_2.out HB.out) | (with_reducible refine Kd.C_alloc ?_ _) | (with_reducible refine Kd.C_drewN ?_ _) | (with_reducible refine Kd.C_drew ?_))); (case side2 => exact HC0_2.out); rintro e w17 ⟨v106, rfl, ho0, hb⟩; refine ⟨_, rfl, ?_⟩; have HO107 := aK (Kd.R_lower ho0 (below_size (pS HB.out))); replace BK101 := bB BK101 hb; replace HB := bS HB hb; (try clear hb); (try clear hb2); (try clear hk); (try clear hi); (try clear ho0); obtain ⟨Ao18, co18, eo18⟩ := Kd.R_slice HO107.out; subst eo18) | ((with_reducible refine gate_callee (f := 32) rfl ?_); refine goesL_ (some 25) rfl rfl Try.func32 (by kernel_rfl) rfl #[.agg #[.int .i64 t103, .int .i64 t104, .slice Ao18 t105.length co18], .int .i64 a1] rfl (by (try simp only [List.map_toArray, List.map_cons, List.map_nil]); first | done | rfl | (simp only [List.length_drop, List.length_take]; rfl)) ?_; (with_reducible refine (spec_MedianFilter.calls k t103 t104 _ _ t105 a1 t108 t109 t110 t113 _ ?side1 ?side2 A9.out).mono ?_); (case side1 => repeat (first | exact (Kd.R_reads' HO107.out).2.2 | (with_reducible refine Kd.C_alloc ?_ _) | (with_reducible refine Kd.C_drewN ?_ _) | (with_reducible refine Kd.C_drew ?_))); (case side2 => exact (Kd.R_reads' HO107.out).2.1); rintro e w19 ⟨v111, rfl, ho0, hb⟩; refine ⟨_, rfl, ?_⟩; have n0_ := aK (Kd.R_elder' (pR HO107.out) (Kd.R_base ho0) hb); have HO112 := aK (Kd.R_lower (Kd.R_new' ho0 (Kd.R_lt (pR HO107.out))) (below_size (pS HB.out))); replace BK101 := bB BK101 hb; replace HB := bS HB hb; clear HO107; have HO107 := n0_; clear n0_; (try clear hb); (try clear hb2); (try clear hk); (try clear hi); (try clear ho0)) | ((with_reducible refine gate_dst (N := 6) rfl ?_); refine box_event ?hg (N := 6) ?hd (cs := #[.int .i64 0, .int .i64 0, .slice none 0 0]) (t := 42) ?hr ?_; (case hd => rfl); (case hg => rfl); (case hr => first | (go_simp; done) | (go_simp; rfl)); intro gb114 hg w20 hbox hb; have n0_ := aK (Kd.R_below (pR HO107.out) hb); have n1_ := aK (Kd.R_below (pR HO112.out) hb); have BK114 := aK (hbox); have GW114 := aK (gE hg (pS HB.out)); have GE114 := aK (gE hg (pS HB.out)); have NB101_114 := aK (nL hg (pB BK101.out)); have NB114_101 := aK (nG hg (pB BK101.out)); replace BK101 := bB BK101 hb; replace HB := bS HB hb; clear HO107 HO112; have HO107 := n0_; have HO112 := n1_; clear n0_ n1_ hb hbox hg; have hnb21 := NB114_101.out; have hnc21 := NB101_114.out; have hcz22_0 : w20.cell? ⟨gb114, 0, none⟩ = some (.int .i64 0) := (blk_cell BK114.out 0).trans rfl; have hcz22_1 : w20.cell? ⟨gb114, 1, none⟩ = some (.int .i64 0) := (blk_cell BK114.out 1).trans rfl; have hcz22_2 : w20.cell? ⟨gb114, 2, none⟩ = some (.slice none 0 0) := (blk_cell BK114.out 2).trans rfl; have hfz22_0 := blk_frozen BK114.out 0; have hfz22_1 := blk_frozen BK114.out 1; have hfz22_2 := blk_frozen BK114.out 2; obtain ⟨Ao23, co23, eo23⟩ := Kd.R_slice HO112.out; subst eo23; have hcz24_0 : w20.cell? ⟨gb101, 0, none⟩ = some (.int .i64 a0_0) := (blk_cell BK101.out 0).trans rfl; have hcz24_1 : w20.cell? ⟨gb101, 1, none⟩ = some (.int .i64 a0_1) := (blk_cell BK101.out 1).trans rfl; have hcz24_2 : w20.cell? ⟨gb101, 2, none⟩ = some (.slice A0_2 l0_2.length c0_2) := (blk_cell BK101.out 2).trans rfl; have hfz24_0 := blk_frozen BK101.out 0; have hfz24_1 := blk_frozen BK101.out 1; have hfz24_2 := blk_frozen BK101.out 2) | ((with_reducible refine gate_callee (f := 33) rfl ?_); refine goesL_ (some 29) rfl rfl Try.func33 (by kernel_rfl) rfl #[.agg #[.int .i64 a0_0, .int .i64 a0_1, .slice A0_2 l0_2.length c0_2]] rfl (by (try simp only [List.map_toArray, List.map_cons, List.map_nil]); first | done | rfl | (simp only [List.length_drop, List.length_take]; rfl)) ?_; (with_reducible refine (laws_toField.calls k a0_0 a0_1 _ _ l0_2 t115 t116 t117 _ ?side1 ?side2 A10.out).mono ?_); (case side1 => exact Kd.C_below HR0_2.out (pS HB.out)); (case side2 => exact HC0_2.out); rintro e w25 ⟨v118, rfl, ho0, hb⟩; refine ⟨_, rfl, ?_⟩; have n0_ := aK (Kd.R_elder' (pR ((Kd.R_mono (Kd.R_far (p := ⟨gb114, 2, none⟩) (Kd.R_far (p := ⟨gb114, 1, none⟩) (Kd.R_far (p := ⟨gb114, 0, none⟩) (Kd.R_types HO107.out BK114.out (by decide)) (fun _ hk => hk.2) (.int .i64 t108)) (fun _ hk => hk.2) (.int .i64 t109)) (fun _ hk => hk.2) (.slice Ao23 t110.length co23)) (fun _ h_ => h_.1)))) (Kd.R_base ho0) hb); have n1_ := aK (Kd.R_elder' (pR ((Kd.R_mono (Kd.R_far (p := ⟨gb114, 2, none⟩) (Kd.R_far (p := ⟨gb114, 1, none⟩) (Kd.R_far (p := ⟨gb114, 0, none⟩) (Kd.R_types HO112.out BK114.out (by decide)) (fun _ hk => hk.2) (.int .i64 t108)) (fun _ hk => hk.2) (.int .i64 t109)) (fun _ hk => hk.2) (.slice Ao23 t110.length co23)) (fun _ h_ => h_.1)))) (Kd.R_base ho0) hb); have HO119 := aK (Kd.R_lower (Kd.R_new' (Kd.R_new' ho0 (Kd.R_lt (pR ((Kd.R_mono (Kd.R_far (p := ⟨gb114, 2, none⟩) (Kd.R_far (p := ⟨gb114, 1, none⟩) (Kd.R_far (p := ⟨gb114, 0, none⟩) (Kd.R_types HO107.out BK114.out (by decide)) (fun _ hk => hk.2) (.int .i64 t108)) (fun _ hk => hk.2) (.int .i64 t109)) (fun _ hk => hk.2) (.slice Ao23 t110.length co23)) (fun _ h_ => h_.1)))))) (Kd.R_lt (pR ((Kd.R_mono (Kd.R_far (p := ⟨gb114, 2, none⟩) (Kd.R_far (p := ⟨gb114, 1, none⟩) (Kd.R_far (p := ⟨gb114, 0, none⟩) (Kd.R_types HO112.out BK114.out (by decide)) (fun _ hk => hk.2) (.int .i64 t108)) (fun _ hk => hk.2) (.int .i64 t109)) (fun _ hk => hk.2) (.slice Ao23 t110.length co23)) (fun _ h_ => h_.1)))))) (below_size (pS HB.out))); have n3_ := aK (blk_below (g := gb101) (o := .cells #[.int .i64 a0_0, .int .i64 a0_1, .slice A0_2 l0_2.length c0_2] 40 (0, 0)) (by (with_reducible repeat (first | refine blk_drewN ?_ _ | refine blk_drew ?_ | refine blk_alloc ?_ _)); refine blk_far ?_ NB101_114.out _; (with_reducible repeat (first | refine blk_drewN ?_ _ | refine blk_drew ?_ | refine blk_alloc ?_ _)); refine blk_far ?_ NB101_114.out _; (with_reducible repeat (first | refine blk_drewN ?_ _ | refine blk_drew ?_ | refine blk_alloc ?_ _)); refine blk_far ?_ NB101_114.out _; (with_reducible repeat (first | refine blk_drewN ?_ _ | refine blk_drew ?_ | refine blk_alloc ?_ _)); exact BK101.out) hb); have n4_ := aK (blk_below (g := gb114) (o := .cells #[.int .i64 t108, .int .i64 t109, .slice Ao23 t110.length co23] 42 (0, 0)) (by (with_reducible repeat (first | refine blk_drewN ?_ _ | refine blk_drew ?_ | refine blk_alloc ?_ _)); refine blk_put (cs := #[.int .i64 t108, .int .i64 t109, .slice none 0 0]) ?_ 2 _ rfl; (with_reducible repeat (first | refine blk_drewN ?_ _ | refine blk_drew ?_ | refine blk_alloc ?_ _)); refine blk_put (cs := #[.int .i64 t108, .int .i64 0, .slice none 0 0]) ?_ 1 _ rfl; (with_reducible repeat (first | refine blk_drewN ?_ _ | refine blk_drew ?_ | refine blk_alloc ?_ _)); refine blk_put (cs := #[.int .i64 0, .int .i64 0, .slice none 0 0]) ?_ 0 _ rfl; (with_reducible repeat (first | refine blk_drewN ?_ _ | refine blk_drew ?_ | refine blk_alloc ?_ _)); exact BK114.out) hb); replace HB := bS HB hb; clear HO107 HO112 BK101 BK114; have HO107 := n0_; have HO112 := n1_; have BK101 := n3_; have BK114 := n4_; clear n0_ n1_ n3_ n4_; (try clear hb); (try clear hb2); (try clear hk); (try clear hi); (try clear ho0)) | ((with_reducible refine gate_dst (N := 8) rfl ?_); refine box_event ?hg (N := 8) ?hd (cs := #[.int .i64 0, .int .i64 0, .slice none 0 0]) (t := 42) ?hr ?_; (case hd => rfl); (case hg => rfl); (case hr => first | (go_simp; done) | (go_simp; rfl)); intro gb120 hg w26 hbox hb; have n0_ := aK (Kd.R_below (pR HO107.out) hb); have n1_ := aK (Kd.R_below (pR HO112.out) hb); have n2_ := aK (Kd.R_below (pR HO119.out) hb); have BK120 := aK (hbox); have GW120 := aK (gE hg (pS HB.out)); have GE120 := aK (gE hg (pS HB.out)); have NB101_120 := aK (nL hg (pB BK101.out)); have NB120_101 := aK (nG hg (pB BK101.out)); have NB114_120 := aK (nL hg (pB BK114.out)); have NB120_114 := aK (nG hg (pB BK114.out)); replace BK101 := bB BK101 hb; replace BK114 := bB BK114 hb; replace HB := bS HB hb; clear HO107 HO112 HO119; have HO107 := n0_; have HO112 := n1_; have HO119 := n2_; clear n0_ n1_ n2_ hb hbox hg; have hnb27 := NB120_101.out; have hnc27 := NB101_120.out; have hnb28 := NB120_114.out; have hnc28 := NB114_120.out; have hcz29_0 : w26.cell? ⟨gb120, 0, none⟩ = some (.int .i64 0) := (blk_cell BK120.out 0).trans rfl; have hcz29_1 : w26.cell? ⟨gb120, 1, none⟩ = some (.int .i64 0) := (blk_cell BK120.out 1).trans rfl; have hcz29_2 : w26.cell? ⟨gb120, 2, none⟩ = some (.slice none 0 0) := (blk_cell BK120.out 2).trans rfl; have hfz29_0 := blk_frozen BK120.out 0; have hfz29_1 := blk_frozen BK120.out 1; have hfz29_2 := blk_frozen BK120.out 2; obtain ⟨Ao30, co30, eo30⟩ := Kd.R_slice HO119.out; subst eo30) | ((with_reducible refine gate_callee (f := 34) rfl ?_); refine goesL_ (some 33) rfl rfl Try.func34 (by kernel_rfl) rfl #[.agg #[.int .i64 t115, .int .i64 t116, .slice Ao30 t117.length co30], .int .i64 a1] rfl (by (try simp only [List.map_toArray, List.map_cons, List.map_nil]); first | done | rfl | (simp only [List.length_drop, List.length_take]; rfl)) ?_; (with_reducible refine (impl_MedianFilter.calls k t115 t116 _ _ t117 a1 t121 t122 t123 t126 _ ?side1 ?side2 A11.out).mono ?_); (case side1 => refine (Kd.R_reads' (e := 3) (base := w.heap.size) (ok := fun k_ => ((True ∧ some k_ ≠ (.slice Ao18 t105.length co18 : Value).ownBlock) ∧ some k_ ≠ (.slice Ao23 t110.length co23 : Value).ownBlock)) (n := t117.length) (c := co30) ?_).2.2; exact (pR ((Kd.R_mono (Kd.R_far (p := ⟨gb120, 2, none⟩) (Kd.R_far (p := ⟨gb120, 1, none⟩) (Kd.R_far (p := ⟨gb120, 0, none⟩) (Kd.R_types HO119.out BK120.out (by decide)) (fun _ hk => hk.2) (.int .i64 t115)) (fun _ hk => hk.2) (.int .i64 t116)) (fun _ hk => hk.2) (.slice Ao30 t117.length co30)) (fun _ h_ => h_.1))))); (case side2 => exact (Kd.R_reads' HO119.out).2.1); rintro e w31 ⟨v124, rfl, ho0, hb⟩; refine ⟨_, rfl, ?_⟩; have n0_ := aK (Kd.R_elder' (pR ((Kd.R_mono (Kd.R_far (p := ⟨gb120, 2, none⟩) (Kd.R_far (p := ⟨gb120, 1, none⟩) (Kd.R_far (p := ⟨gb120, 0, none⟩) (Kd.R_types HO107.out BK120.out (by decide)) (fun _ hk => hk.2) (.int .i64 t115)) (fun _ hk => hk.2) (.int .i64 t116)) (fun _ hk => hk.2) (.slice Ao30 t117.length co30)) (fun _ h_ => h_.1)))) (Kd.R_base ho0) hb); have n1_ := aK (Kd.R_elder' (pR ((Kd.R_mono (Kd.R_far (p := ⟨gb120, 2, none⟩) (Kd.R_far (p := ⟨gb120, 1, none⟩) (Kd.R_far (p := ⟨gb120, 0, none⟩) (Kd.R_types HO112.out BK120.out (by decide)) (fun _ hk => hk.2) (.int .i64 t115)) (fun _ hk => hk.2) (.int .i64 t116)) (fun _ hk => hk.2) (.slice Ao30 t117.length co30)) (fun _ h_ => h_.1)))) (Kd.R_base ho0) hb); have n2_ := aK (Kd.R_elder' (pR ((Kd.R_mono (Kd.R_far (p := ⟨gb120, 2, none⟩) (Kd.R_far (p := ⟨gb120, 1, none⟩) (Kd.R_far (p := ⟨gb120, 0, none⟩) (Kd.R_types HO119.out BK120.out (by decide)) (fun _ hk => hk.2) (.int .i64 t115)) (fun _ hk => hk.2) (.int .i64 t116)) (fun _ hk => hk.2) (.slice Ao30 t117.length co30)) (fun _ h_ => h_.1)))) (Kd.R_base ho0) hb); have HO125 := aK (Kd.R_lower (Kd.R_new' (Kd.R_new' (Kd.R_new' ho0 (Kd.R_lt (pR ((Kd.R_mono (Kd.R_far (p := ⟨gb120, 2, none⟩) (Kd.R_far (p := ⟨gb120, 1, none⟩) (Kd.R_far (p := ⟨gb120, 0, none⟩) (Kd.R_types HO107.out BK120.out (by decide)) (fun _ hk => hk.2) (.int .i64 t115)) (fun _ hk => hk.2) (.int .i64 t116)) (fun _ hk => hk.2) (.slice Ao30 t117.length co30)) (fun _ h_ => h_.1)))))) (Kd.R_lt (pR ((Kd.R_mono (Kd.R_far (p := ⟨gb120, 2, none⟩) (Kd.R_far (p := ⟨gb120, 1, none⟩) (Kd.R_far (p := ⟨gb120, 0, none⟩) (Kd.R_types HO112.out BK120.out (by decide)) (fun _ hk => hk.2) (.int .i64 t115)) (fun _ hk => hk.2) (.int .i64 t116)) (fun _ hk => hk.2) (.slice Ao30 t117.length co30)) (fun _ h_ => h_.1)))))) (Kd.R_lt (pR ((Kd.R_mono (Kd.R_far (p := ⟨gb120, 2, none⟩) (Kd.R_far (p := ⟨gb120, 1, none⟩) (Kd.R_far (p := ⟨gb120, 0, none⟩) (Kd.R_types HO119.out BK120.out (by decide)) (fun _ hk => hk.2) (.int .i64 t115)) (fun _ hk => hk.2) (.int .i64 t116)) (fun _ hk => hk.2) (.slice Ao30 t117.length co30)) (fun _ h_ => h_.1)))))) (below_size (pS HB.out))); have n4_ := aK (blk_below (g := gb101) (o := .cells #[.int .i64 a0_0, .int .i64 a0_1, .slice A0_2 l0_2.length c0_2] 40 (0, 0)) (by (with_reducible repeat (first | refine blk_drewN ?_ _ | refine blk_drew ?_ | refine blk_alloc ?_ _)); refine blk_far ?_ NB101_120.out _; (with_reducible repeat (first | refine blk_drewN ?_ _ | refine blk_drew ?_ | refine blk_alloc ?_ _)); refine blk_far ?_ NB101_120.out _; (with_reducible repeat (first | refine blk_drewN ?_ _ | refine blk_drew ?_ | refine blk_alloc ?_ _)); refine blk_far ?_ NB101_120.out _; (with_reducible repeat (first | refine blk_drewN ?_ _ | refine blk_drew ?_ | refine blk_alloc ?_ _)); exact BK101.out) hb); have n5_ := aK (blk_below (g := gb114) (o := .cells #[.int .i64 t108, .int .i64 t109, .slice Ao23 t110.length co23] 42 (0, 0)) (by (with_reducible repeat (first | refine blk_drewN ?_ _ | refine blk_drew ?_ | refine blk_alloc ?_ _)); refine blk_far ?_ NB114_120.out _; (with_reducible repeat (first | refine blk_drewN ?_ _ | refine blk_drew ?_ | refine blk_alloc ?_ _)); refine blk_far ?_ NB114_120.out _; (with_reducible repeat (first | refine blk_drewN ?_ _ | refine blk_drew ?_ | refine blk_alloc ?_ _)); refine blk_far ?_ NB114_120.out _; (with_reducible repeat (first | refine blk_drewN ?_ _ | refine blk_drew ?_ | refine blk_alloc ?_ _)); exact BK114.out) hb); have n6_ := aK (blk_below (g := gb120) (o := .cells #[.int .i64 t115, .int .i64 t116, .slice Ao30 t117.length co30] 42 (0, 0)) (by (with_reducible repeat (first | refine blk_drewN ?_ _ | refine blk_drew ?_ | refine blk_alloc ?_ _)); refine blk_put (cs := #[.int .i64 t115, .int .i64 t116, .slice none 0 0]) ?_ 2 _ rfl; (with_reducible repeat (first | refine blk_drewN ?_ _ | refine blk_drew ?_ | refine blk_alloc ?_ _)); refine blk_put (cs := #[.int .i64 t115, .int .i64 0, .slice none 0 0]) ?_ 1 _ rfl; (with_reducible repeat (first | refine blk_drewN ?_ _ | refine blk_drew ?_ | refine blk_alloc ?_ _)); refine blk_put (cs := #[.int .i64 0, .int .i64 0, .slice none 0 0]) ?_ 0 _ rfl; (with_reducible repeat (first | refine blk_drewN ?_ _ | refine blk_drew ?_ | refine blk_alloc ?_ _)); exact BK120.out) hb); replace HB := bS HB hb; clear HO107 HO112 HO119 BK101 BK114 BK120; have HO107 := n0_; have HO112 := n1_; have HO119 := n2_; have BK101 := n4_; have BK114 := n5_; have BK120 := n6_; clear n0_ n1_ n2_ n4_ n5_ n6_; (try clear hb); (try clear hb2); (try clear hk); (try clear hi); (try clear ho0)) | ((with_reducible refine gate_dst (N := 9) rfl ?_); refine box_event ?hg (N := 9) ?hd (cs := #[.int .i64 0, .int .i64 0, .slice none 0 0]) (t := 42) ?hr ?_; (case hd => rfl); (case hg => rfl); (case hr => first | (go_simp; done) | (go_simp; rfl)); intro gb127 hg w32 hbox hb; have n0_ := aK (Kd.R_below (pR HO107.out) hb); have n1_ := aK (Kd.R_below (pR HO112.out) hb); have n2_ := aK (Kd.R_below (pR HO119.out) hb); have n3_ := aK (Kd.R_below (pR HO125.out) hb); have BK127 := aK (hbox); have GW127 := aK (gE hg (pS HB.out)); have GE127 := aK (gE hg (pS HB.out)); have NB101_127 := aK (nL hg (pB BK101.out)); have NB127_101 := aK (nG hg (pB BK101.out)); have NB114_127 := aK (nL hg (pB BK114.out)); have NB127_114 := aK (nG hg (pB BK114.out)); have NB120_127 := aK (nL hg (pB BK120.out)); have NB127_120 := aK (nG hg (pB BK120.out)); replace BK101 := bB BK101 hb; replace BK114 := bB BK114 hb; replace BK120 := bB BK120 hb; replace HB := bS HB hb; clear HO107 HO112 HO119 HO125; have HO107 := n0_; have HO112 := n1_; have HO119 := n2_; have HO125 := n3_; clear n0_ n1_ n2_ n3_ hb hbox hg; have hnb33 := NB127_101.out; have hnc33 := NB101_127.out; have hnb34 := NB127_114.out; have hnc34 := NB114_127.out; have hnb35 := NB127_120.out; have hnc35 := NB120_127.out; have hcz36_0 : w32.cell? ⟨gb127, 0, none⟩ = some (.int .i64 0) := (blk_cell BK127.out 0).trans rfl; have hcz36_1 : w32.cell? ⟨gb127, 1, none⟩ = some (.int .i64 0) := (blk_cell BK127.out 1).trans rfl; have hcz36_2 : w32.cell? ⟨gb127, 2, none⟩ = some (.slice none 0 0) := (blk_cell BK127.out 2).trans rfl; have hfz36_0 := blk_frozen BK127.out 0; have hfz36_1 := blk_frozen BK127.out 1; have hfz36_2 := blk_frozen BK127.out 2; obtain ⟨Ao37, co37, eo37⟩ := Kd.R_slice HO125.out; subst eo37))
  (try simp only [Act.put, List.setIfInBounds_toArray, List.set_cons_zero, List.set_cons_succ])
  go_cut [44] (fun v44 wc => ∃ (kq : Nat) (x44_11 : Bool), v44 = .bool x44_11 ∧ Aside0 (laws_FnExactMedianFilter.j0 kq a1 t113 t126 x44_11 a0_0 a0_1 l0_2 t108 t109 t110 t115 t116 t117 t121 t122 t123 = some r) ∧ Aside0 (kq ≤ k) ∧ Aside0 (Kd.R (Kd.int .i64) 3 wc w.heap.size (fun k_ => some k_ ≠ ((.slice Ao30 t117.length co30) : Value).ownBlock ∧ some k_ ≠ ((.slice Ao37 t123.length co37) : Value).ownBlock) (.slice Ao23 t110.length co23) t110) ∧ Aside0 (Kd.R (Kd.int .i64) 3 wc w.heap.size (fun k_ => some k_ ≠ ((.slice Ao23 t110.length co23) : Value).ownBlock ∧ some k_ ≠ ((.slice Ao37 t123.length co37) : Value).ownBlock) (.slice Ao30 t117.length co30) t117) ∧ Aside0 (Kd.R (Kd.int .i64) 3 wc w.heap.size (fun k_ => some k_ ≠ ((.slice Ao23 t110.length co23) : Value).ownBlock ∧ some k_ ≠ ((.slice Ao30 t117.length co30) : Value).ownBlock) (.slice Ao37 t123.length co37) t123) ∧ Aside0 (wc.heap[gb101]? = some (.cells #[.int .i64 a0_0, .int .i64 a0_1, (.slice A0_2 l0_2.length c0_2)] 40 (0, 0))) ∧ Aside0 (wc.heap[gb114]? = some (.cells #[.int .i64 t108, .int .i64 t109, (.slice Ao23 t110.length co23)] 42 (0, 0))) ∧ Aside0 (wc.heap[gb120]? = some (.cells #[.int .i64 t115, .int .i64 t116, (.slice Ao30 t117.length co30)] 42 (0, 0))) ∧ Aside0 (wc.heap[gb127]? = some (.cells #[.int .i64 t121, .int .i64 t122, (.slice Ao37 t123.length co37)] 42 (0, 0))) ∧ Aside0 (Below w.heap.size w wc))
  case first =>
   have H := HC12.out
   clear HC12
   replace H := Option.bind_eq_some_iff.mp H
   obtain ⟨t128, A380, H⟩ := H
   replace H : (if t128 = true then (laws_FnExactMedianFilter.j0 k a1 t113 t126 (t126 != t113) a0_0 a0_1 l0_2 t108 t109 t110 t115 t116 t117 t121 t122 t123) else (laws_FnExactMedianFilter.j0 k a1 t113 t126 true a0_0 a0_1 l0_2 t108 t109 t110 t115 t116 t117 t121 t122 t123)) = some r := H
   have A38 := Aside0.mk A380
   clear A380
   by_cases c39 : t128 = true
   ·
    subst c39
    have H1 : (laws_FnExactMedianFilter.j0 k a1 t113 t126 (t126 != t113) a0_0 a0_1 l0_2 t108 t109 t110 t115 t116 t117 t121 t122 t123) = some r := by rw [if_pos rfl] at H; exact H
    clear H
    have H := H1
    clear H1
    have H' := Aside0.mk H
    clear H
    have hnb40 := NB127_101.out
    have hnc40 := NB101_127.out
    have hnb41 := NB127_114.out
    have hnc41 := NB114_127.out
    have hnb42 := NB127_120.out
    have hnc42 := NB120_127.out
    have hcz43_0 : w32.cell? ⟨gb127, 0, none⟩ = some (.int .i64 0) := (blk_cell BK127.out 0).trans rfl
    have hcz43_1 : w32.cell? ⟨gb127, 1, none⟩ = some (.int .i64 0) := (blk_cell BK127.out 1).trans rfl
    have hcz43_2 : w32.cell? ⟨gb127, 2, none⟩ = some (.slice none 0 0) := (blk_cell BK127.out 2).trans rfl
    have hfz43_0 := blk_frozen BK127.out 0
    have hfz43_1 := blk_frozen BK127.out 1
    have hfz43_2 := blk_frozen BK127.out 2
    have hnb44 := NB114_101.out
    have hnc44 := NB101_114.out
    have hnb45 := NB114_120.out
    have hnc45 := NB120_114.out
    have hcz46_0 : w32.cell? ⟨gb114, 0, none⟩ = some (.int .i64 t108) := (blk_cell BK114.out 0).trans rfl
    have hcz46_1 : w32.cell? ⟨gb114, 1, none⟩ = some (.int .i64 t109) := (blk_cell BK114.out 1).trans rfl
    have hcz46_2 : w32.cell? ⟨gb114, 2, none⟩ = some (.slice Ao23 t110.length co23) := (blk_cell BK114.out 2).trans rfl
    have hfz46_0 := blk_frozen BK114.out 0
    have hfz46_1 := blk_frozen BK114.out 1
    have hfz46_2 := blk_frozen BK114.out 2
    go_wp2_with (first | ((with_reducible refine gate_callee (f := 35) rfl ?_); refine goesL_ (some 38) rfl rfl Try.func35 (by kernel_rfl) rfl #[.agg #[.int .i64 t121, .int .i64 t122, .slice Ao37 t123.length co37], .agg #[.int .i64 t108, .int .i64 t109, .slice Ao23 t110.length co23]] rfl (by (try simp only [List.map_toArray, List.map_cons, List.map_nil]); first | done | rfl | (simp only [List.length_drop, List.length_take]; rfl)) ?_; (with_reducible refine (laws_eqField.calls k t121 t122 _ _ t123 t108 t109 _ _ t110 true _ ?side1 ?side2 ?side3 ?side4 A38.out).mono ?_); (case side1 => refine (Kd.R_reads' (e := 3) (base := w.heap.size) (ok := fun k_ => (((True ∧ some k_ ≠ (.slice Ao18 t105.length co18 : Value).ownBlock) ∧ some k_ ≠ (.slice Ao23 t110.length co23 : Value).ownBlock) ∧ some k_ ≠ (.slice Ao30 t117.length co30 : Value).ownBlock)) (n := t123.length) (c := co37) ?_).2.2; exact (pR ((Kd.R_mono (Kd.R_far (p := ⟨gb127, 2, none⟩) (Kd.R_far (p := ⟨gb127, 1, none⟩) (Kd.R_far (p := ⟨gb127, 0, none⟩) (Kd.R_types HO125.out BK127.out (by decide)) (fun _ hk => hk.2) (.int .i64 t121)) (fun _ hk => hk.2) (.int .i64 t122)) (fun _ hk => hk.2) (.slice Ao37 t123.length co37)) (fun _ h_ => h_.1))))); (case side2 => exact (Kd.R_reads' HO125.out).2.1); (case side3 => refine (Kd.R_reads' (e := 3) (base := w.heap.size) (ok := fun k_ => (((True ∧ some k_ ≠ (.slice Ao18 t105.length co18 : Value).ownBlock) ∧ some k_ ≠ (.slice Ao30 t117.length co30 : Value).ownBlock) ∧ some k_ ≠ (.slice Ao37 t123.length co37 : Value).ownBlock)) (n := t110.length) (c := co23) ?_).2.2; exact (pR ((Kd.R_mono (Kd.R_far (p := ⟨gb127, 2, none⟩) (Kd.R_far (p := ⟨gb127, 1, none⟩) (Kd.R_far (p := ⟨gb127, 0, none⟩) (Kd.R_types HO112.out BK127.out (by decide)) (fun _ hk => hk.2) (.int .i64 t121)) (fun _ hk => hk.2) (.int .i64 t122)) (fun _ hk => hk.2) (.slice Ao37 t123.length co37)) (fun _ h_ => h_.1))))); (case side4 => exact (Kd.R_reads' HO112.out).2.1); rintro e w47 ⟨rfl, hb⟩; refine ⟨_, rfl, ?_⟩; have n0_ := aK (Kd.R_below (pR ((Kd.R_mono (Kd.R_far (p := ⟨gb127, 2, none⟩) (Kd.R_far (p := ⟨gb127, 1, none⟩) (Kd.R_far (p := ⟨gb127, 0, none⟩) (Kd.R_types HO107.out BK127.out (by decide)) (fun _ hk => hk.2) (.int .i64 t121)) (fun _ hk => hk.2) (.int .i64 t122)) (fun _ hk => hk.2) (.slice Ao37 t123.length co37)) (fun _ h_ => h_.1)))) hb); have n1_ := aK (Kd.R_below (pR ((Kd.R_mono (Kd.R_far (p := ⟨gb127, 2, none⟩) (Kd.R_far (p := ⟨gb127, 1, none⟩) (Kd.R_far (p := ⟨gb127, 0, none⟩) (Kd.R_types HO112.out BK127.out (by decide)) (fun _ hk => hk.2) (.int .i64 t121)) (fun _ hk => hk.2) (.int .i64 t122)) (fun _ hk => hk.2) (.slice Ao37 t123.length co37)) (fun _ h_ => h_.1)))) hb); have n2_ := aK (Kd.R_below (pR ((Kd.R_mono (Kd.R_far (p := ⟨gb127, 2, none⟩) (Kd.R_far (p := ⟨gb127, 1, none⟩) (Kd.R_far (p := ⟨gb127, 0, none⟩) (Kd.R_types HO119.out BK127.out (by decide)) (fun _ hk => hk.2) (.int .i64 t121)) (fun _ hk => hk.2) (.int .i64 t122)) (fun _ hk => hk.2) (.slice Ao37 t123.length co37)) (fun _ h_ => h_.1)))) hb); have n3_ := aK (Kd.R_below (pR ((Kd.R_mono (Kd.R_far (p := ⟨gb127, 2, none⟩) (Kd.R_far (p := ⟨gb127, 1, none⟩) (Kd.R_far (p := ⟨gb127, 0, none⟩) (Kd.R_types HO125.out BK127.out (by decide)) (fun _ hk => hk.2) (.int .i64 t121)) (fun _ hk => hk.2) (.int .i64 t122)) (fun _ hk => hk.2) (.slice Ao37 t123.length co37)) (fun _ h_ => h_.1)))) hb); have n4_ := aK (blk_below (g := gb101) (o := .cells #[.int .i64 a0_0, .int .i64 a0_1, .slice A0_2 l0_2.length c0_2] 40 (0, 0)) (by (with_reducible repeat (first | refine blk_drewN ?_ _ | refine blk_drew ?_ | refine blk_alloc ?_ _)); refine blk_far ?_ NB101_127.out _; (with_reducible repeat (first | refine blk_drewN ?_ _ | refine blk_drew ?_ | refine blk_alloc ?_ _)); refine blk_far ?_ NB101_127.out _; (with_reducible repeat (first | refine blk_drewN ?_ _ | refine blk_drew ?_ | refine blk_alloc ?_ _)); refine blk_far ?_ NB101_127.out _; (with_reducible repeat (first | refine blk_drewN ?_ _ | refine blk_drew ?_ | refine blk_alloc ?_ _)); exact BK101.out) hb); have n5_ := aK (blk_below (g := gb114) (o := .cells #[.int .i64 t108, .int .i64 t109, .slice Ao23 t110.length co23] 42 (0, 0)) (by (with_reducible repeat (first | refine blk_drewN ?_ _ | refine blk_drew ?_ | refine blk_alloc ?_ _)); refine blk_far ?_ NB114_127.out _; (with_reducible repeat (first | refine blk_drewN ?_ _ | refine blk_drew ?_ | refine blk_alloc ?_ _)); refine blk_far ?_ NB114_127.out _; (with_reducible repeat (first | refine blk_drewN ?_ _ | refine blk_drew ?_ | refine blk_alloc ?_ _)); refine blk_far ?_ NB114_127.out _; (with_reducible repeat (first | refine blk_drewN ?_ _ | refine blk_drew ?_ | refine blk_alloc ?_ _)); exact BK114.out) hb); have n6_ := aK (blk_below (g := gb120) (o := .cells #[.int .i64 t115, .int .i64 t116, .slice Ao30 t117.length co30] 42 (0, 0)) (by (with_reducible repeat (first | refine blk_drewN ?_ _ | refine blk_drew ?_ | refine blk_alloc ?_ _)); refine blk_far ?_ NB120_127.out _; (with_reducible repeat (first | refine blk_drewN ?_ _ | refine blk_drew ?_ | refine blk_alloc ?_ _)); refine blk_far ?_ NB120_127.out _; (with_reducible repeat (first | refine blk_drewN ?_ _ | refine blk_drew ?_ | refine blk_alloc ?_ _)); refine blk_far ?_ NB120_127.out _; (with_reducible repeat (first | refine blk_drewN ?_ _ | refine blk_drew ?_ | refine blk_alloc ?_ _)); exact BK120.out) hb); have n7_ := aK (blk_below (g := gb127) (o := .cells #[.int .i64 t121, .int .i64 t122, .slice Ao37 t123.length co37] 42 (0, 0)) (by (with_reducible repeat (first | refine blk_drewN ?_ _ | refine blk_drew ?_ | refine blk_alloc ?_ _)); refine blk_put (cs := #[.int .i64 t121, .int .i64 t122, .slice none 0 0]) ?_ 2 _ rfl; (with_reducible repeat (first | refine blk_drewN ?_ _ | refine blk_drew ?_ | refine blk_alloc ?_ _)); refine blk_put (cs := #[.int .i64 t121, .int .i64 0, .slice none 0 0]) ?_ 1 _ rfl; (with_reducible repeat (first | refine blk_drewN ?_ _ | refine blk_drew ?_ | refine blk_alloc ?_ _)); refine blk_put (cs := #[.int .i64 0, .int .i64 0, .slice none 0 0]) ?_ 0 _ rfl; (with_reducible repeat (first | refine blk_drewN ?_ _ | refine blk_drew ?_ | refine blk_alloc ?_ _)); exact BK127.out) hb); replace HB := bS HB hb; clear HO107 HO112 HO119 HO125 BK101 BK114 BK120 BK127; have HO107 := n0_; have HO112 := n1_; have HO119 := n2_; have HO125 := n3_; have BK101 := n4_; have BK114 := n5_; have BK120 := n6_; have BK127 := n7_; clear n0_ n1_ n2_ n3_ n4_ n5_ n6_ n7_; (try clear hb); (try clear hb2); (try clear hk); (try clear hi)))
    go_meet
    case rel => exact ⟨_, ((t126 != t113)), (by first | rfl | (simp; done) | (simp [*]; done)), H', ⟨by first | omega | exact Nat.le_refl _⟩, ⟨by (with_reducible repeat (first | apply Kd.R_alloc | apply Kd.R_drewN | apply Kd.R_drew)); exact Kd.R_mono HO112.out (fun _ hk => ⟨hk.1.2, hk.2⟩)⟩, ⟨by (with_reducible repeat (first | apply Kd.R_alloc | apply Kd.R_drewN | apply Kd.R_drew)); exact Kd.R_mono HO119.out (fun _ hk => ⟨hk.1.2, hk.2⟩)⟩, ⟨by (with_reducible repeat (first | apply Kd.R_alloc | apply Kd.R_drewN | apply Kd.R_drew)); exact Kd.R_mono HO125.out (fun _ hk => ⟨hk.1.2, hk.2⟩)⟩, ⟨by (with_reducible repeat (first | refine blk_drewN ?_ _ | refine blk_drew ?_ | refine blk_alloc ?_ _)); exact BK101.out⟩, ⟨by (with_reducible repeat (first | refine blk_drewN ?_ _ | refine blk_drew ?_ | refine blk_alloc ?_ _)); exact BK114.out⟩, ⟨by (with_reducible repeat (first | refine blk_drewN ?_ _ | refine blk_drew ?_ | refine blk_alloc ?_ _)); exact BK120.out⟩, ⟨by (with_reducible repeat (first | refine blk_drewN ?_ _ | refine blk_drew ?_ | refine blk_alloc ?_ _)); exact BK127.out⟩, ⟨by repeat (first | (with_reducible first | exact HB.out | apply below_alloc | apply pw_below_drewN | apply below_drew1 | refine below_set ?_ GE101.out | refine below_set ?_ GE114.out | refine below_set ?_ GE120.out | refine below_set ?_ GE127.out) | exact HB.out)⟩⟩
   ·
    replace c39 := Bool.eq_false_iff.mpr c39
    subst c39
    have H1 : (laws_FnExactMedianFilter.j0 k a1 t113 t126 true a0_0 a0_1 l0_2 t108 t109 t110 t115 t116 t117 t121 t122 t123) = some r := by rw [if_neg (show ¬ (false = true) by decide)] at H; exact H
    clear H
    have H := H1
    clear H1
    have H' := Aside0.mk H
    clear H
    have hnb48 := NB127_101.out
    have hnc48 := NB101_127.out
    have hnb49 := NB127_114.out
    have hnc49 := NB114_127.out
    have hnb50 := NB127_120.out
    have hnc50 := NB120_127.out
    have hcz51_0 : w32.cell? ⟨gb127, 0, none⟩ = some (.int .i64 0) := (blk_cell BK127.out 0).trans rfl
    have hcz51_1 : w32.cell? ⟨gb127, 1, none⟩ = some (.int .i64 0) := (blk_cell BK127.out 1).trans rfl
    have hcz51_2 : w32.cell? ⟨gb127, 2, none⟩ = some (.slice none 0 0) := (blk_cell BK127.out 2).trans rfl
    have hfz51_0 := blk_frozen BK127.out 0
    have hfz51_1 := blk_frozen BK127.out 1
    have hfz51_2 := blk_frozen BK127.out 2
    have hnb52 := NB114_101.out
    have hnc52 := NB101_114.out
    have hnb53 := NB114_120.out
    have hnc53 := NB120_114.out
    have hcz54_0 : w32.cell? ⟨gb114, 0, none⟩ = some (.int .i64 t108) := (blk_cell BK114.out 0).trans rfl
    have hcz54_1 : w32.cell? ⟨gb114, 1, none⟩ = some (.int .i64 t109) := (blk_cell BK114.out 1).trans rfl
    have hcz54_2 : w32.cell? ⟨gb114, 2, none⟩ = some (.slice Ao23 t110.length co23) := (blk_cell BK114.out 2).trans rfl
    have hfz54_0 := blk_frozen BK114.out 0
    have hfz54_1 := blk_frozen BK114.out 1
    have hfz54_2 := blk_frozen BK114.out 2
    go_wp2_with (first | ((with_reducible refine gate_callee (f := 35) rfl ?_); refine goesL_ (some 38) rfl rfl Try.func35 (by kernel_rfl) rfl #[.agg #[.int .i64 t121, .int .i64 t122, .slice Ao37 t123.length co37], .agg #[.int .i64 t108, .int .i64 t109, .slice Ao23 t110.length co23]] rfl (by (try simp only [List.map_toArray, List.map_cons, List.map_nil]); first | done | rfl | (simp only [List.length_drop, List.length_take]; rfl)) ?_; (with_reducible refine (laws_eqField.calls k t121 t122 _ _ t123 t108 t109 _ _ t110 false _ ?side1 ?side2 ?side3 ?side4 A38.out).mono ?_); (case side1 => refine (Kd.R_reads' (e := 3) (base := w.heap.size) (ok := fun k_ => (((True ∧ some k_ ≠ (.slice Ao18 t105.length co18 : Value).ownBlock) ∧ some k_ ≠ (.slice Ao23 t110.length co23 : Value).ownBlock) ∧ some k_ ≠ (.slice Ao30 t117.length co30 : Value).ownBlock)) (n := t123.length) (c := co37) ?_).2.2; exact (pR ((Kd.R_mono (Kd.R_far (p := ⟨gb127, 2, none⟩) (Kd.R_far (p := ⟨gb127, 1, none⟩) (Kd.R_far (p := ⟨gb127, 0, none⟩) (Kd.R_types HO125.out BK127.out (by decide)) (fun _ hk => hk.2) (.int .i64 t121)) (fun _ hk => hk.2) (.int .i64 t122)) (fun _ hk => hk.2) (.slice Ao37 t123.length co37)) (fun _ h_ => h_.1))))); (case side2 => exact (Kd.R_reads' HO125.out).2.1); (case side3 => refine (Kd.R_reads' (e := 3) (base := w.heap.size) (ok := fun k_ => (((True ∧ some k_ ≠ (.slice Ao18 t105.length co18 : Value).ownBlock) ∧ some k_ ≠ (.slice Ao30 t117.length co30 : Value).ownBlock) ∧ some k_ ≠ (.slice Ao37 t123.length co37 : Value).ownBlock)) (n := t110.length) (c := co23) ?_).2.2; exact (pR ((Kd.R_mono (Kd.R_far (p := ⟨gb127, 2, none⟩) (Kd.R_far (p := ⟨gb127, 1, none⟩) (Kd.R_far (p := ⟨gb127, 0, none⟩) (Kd.R_types HO112.out BK127.out (by decide)) (fun _ hk => hk.2) (.int .i64 t121)) (fun _ hk => hk.2) (.int .i64 t122)) (fun _ hk => hk.2) (.slice Ao37 t123.length co37)) (fun _ h_ => h_.1))))); (case side4 => exact (Kd.R_reads' HO112.out).2.1); rintro e w55 ⟨rfl, hb⟩; refine ⟨_, rfl, ?_⟩; have n0_ := aK (Kd.R_below (pR ((Kd.R_mono (Kd.R_far (p := ⟨gb127, 2, none⟩) (Kd.R_far (p := ⟨gb127, 1, none⟩) (Kd.R_far (p := ⟨gb127, 0, none⟩) (Kd.R_types HO107.out BK127.out (by decide)) (fun _ hk => hk.2) (.int .i64 t121)) (fun _ hk => hk.2) (.int .i64 t122)) (fun _ hk => hk.2) (.slice Ao37 t123.length co37)) (fun _ h_ => h_.1)))) hb); have n1_ := aK (Kd.R_below (pR ((Kd.R_mono (Kd.R_far (p := ⟨gb127, 2, none⟩) (Kd.R_far (p := ⟨gb127, 1, none⟩) (Kd.R_far (p := ⟨gb127, 0, none⟩) (Kd.R_types HO112.out BK127.out (by decide)) (fun _ hk => hk.2) (.int .i64 t121)) (fun _ hk => hk.2) (.int .i64 t122)) (fun _ hk => hk.2) (.slice Ao37 t123.length co37)) (fun _ h_ => h_.1)))) hb); have n2_ := aK (Kd.R_below (pR ((Kd.R_mono (Kd.R_far (p := ⟨gb127, 2, none⟩) (Kd.R_far (p := ⟨gb127, 1, none⟩) (Kd.R_far (p := ⟨gb127, 0, none⟩) (Kd.R_types HO119.out BK127.out (by decide)) (fun _ hk => hk.2) (.int .i64 t121)) (fun _ hk => hk.2) (.int .i64 t122)) (fun _ hk => hk.2) (.slice Ao37 t123.length co37)) (fun _ h_ => h_.1)))) hb); have n3_ := aK (Kd.R_below (pR ((Kd.R_mono (Kd.R_far (p := ⟨gb127, 2, none⟩) (Kd.R_far (p := ⟨gb127, 1, none⟩) (Kd.R_far (p := ⟨gb127, 0, none⟩) (Kd.R_types HO125.out BK127.out (by decide)) (fun _ hk => hk.2) (.int .i64 t121)) (fun _ hk => hk.2) (.int .i64 t122)) (fun _ hk => hk.2) (.slice Ao37 t123.length co37)) (fun _ h_ => h_.1)))) hb); have n4_ := aK (blk_below (g := gb101) (o := .cells #[.int .i64 a0_0, .int .i64 a0_1, .slice A0_2 l0_2.length c0_2] 40 (0, 0)) (by (with_reducible repeat (first | refine blk_drewN ?_ _ | refine blk_drew ?_ | refine blk_alloc ?_ _)); refine blk_far ?_ NB101_127.out _; (with_reducible repeat (first | refine blk_drewN ?_ _ | refine blk_drew ?_ | refine blk_alloc ?_ _)); refine blk_far ?_ NB101_127.out _; (with_reducible repeat (first | refine blk_drewN ?_ _ | refine blk_drew ?_ | refine blk_alloc ?_ _)); refine blk_far ?_ NB101_127.out _; (with_reducible repeat (first | refine blk_drewN ?_ _ | refine blk_drew ?_ | refine blk_alloc ?_ _)); exact BK101.out) hb); have n5_ := aK (blk_below (g := gb114) (o := .cells #[.int .i64 t108, .int .i64 t109, .slice Ao23 t110.length co23] 42 (0, 0)) (by (with_reducible repeat (first | refine blk_drewN ?_ _ | refine blk_drew ?_ | refine blk_alloc ?_ _)); refine blk_far ?_ NB114_127.out _; (with_reducible repeat (first | refine blk_drewN ?_ _ | refine blk_drew ?_ | refine blk_alloc ?_ _)); refine blk_far ?_ NB114_127.out _; (with_reducible repeat (first | refine blk_drewN ?_ _ | refine blk_drew ?_ | refine blk_alloc ?_ _)); refine blk_far ?_ NB114_127.out _; (with_reducible repeat (first | refine blk_drewN ?_ _ | refine blk_drew ?_ | refine blk_alloc ?_ _)); exact BK114.out) hb); have n6_ := aK (blk_below (g := gb120) (o := .cells #[.int .i64 t115, .int .i64 t116, .slice Ao30 t117.length co30] 42 (0, 0)) (by (with_reducible repeat (first | refine blk_drewN ?_ _ | refine blk_drew ?_ | refine blk_alloc ?_ _)); refine blk_far ?_ NB120_127.out _; (with_reducible repeat (first | refine blk_drewN ?_ _ | refine blk_drew ?_ | refine blk_alloc ?_ _)); refine blk_far ?_ NB120_127.out _; (with_reducible repeat (first | refine blk_drewN ?_ _ | refine blk_drew ?_ | refine blk_alloc ?_ _)); refine blk_far ?_ NB120_127.out _; (with_reducible repeat (first | refine blk_drewN ?_ _ | refine blk_drew ?_ | refine blk_alloc ?_ _)); exact BK120.out) hb); have n7_ := aK (blk_below (g := gb127) (o := .cells #[.int .i64 t121, .int .i64 t122, .slice Ao37 t123.length co37] 42 (0, 0)) (by (with_reducible repeat (first | refine blk_drewN ?_ _ | refine blk_drew ?_ | refine blk_alloc ?_ _)); refine blk_put (cs := #[.int .i64 t121, .int .i64 t122, .slice none 0 0]) ?_ 2 _ rfl; (with_reducible repeat (first | refine blk_drewN ?_ _ | refine blk_drew ?_ | refine blk_alloc ?_ _)); refine blk_put (cs := #[.int .i64 t121, .int .i64 0, .slice none 0 0]) ?_ 1 _ rfl; (with_reducible repeat (first | refine blk_drewN ?_ _ | refine blk_drew ?_ | refine blk_alloc ?_ _)); refine blk_put (cs := #[.int .i64 0, .int .i64 0, .slice none 0 0]) ?_ 0 _ rfl; (with_reducible repeat (first | refine blk_drewN ?_ _ | refine blk_drew ?_ | refine blk_alloc ?_ _)); exact BK127.out) hb); replace HB := bS HB hb; clear HO107 HO112 HO119 HO125 BK101 BK114 BK120 BK127; have HO107 := n0_; have HO112 := n1_; have HO119 := n2_; have HO125 := n3_; have BK101 := n4_; have BK114 := n5_; have BK120 := n6_; have BK127 := n7_; clear n0_ n1_ n2_ n3_ n4_ n5_ n6_ n7_; (try clear hb); (try clear hb2); (try clear hk); (try clear hi)))
    go_meet
    case rel => exact ⟨_, (true), (by first | rfl | (simp; done) | (simp [*]; done)), H', ⟨by first | omega | exact Nat.le_refl _⟩, ⟨by (with_reducible repeat (first | apply Kd.R_alloc | apply Kd.R_drewN | apply Kd.R_drew)); exact Kd.R_mono HO112.out (fun _ hk => ⟨hk.1.2, hk.2⟩)⟩, ⟨by (with_reducible repeat (first | apply Kd.R_alloc | apply Kd.R_drewN | apply Kd.R_drew)); exact Kd.R_mono HO119.out (fun _ hk => ⟨hk.1.2, hk.2⟩)⟩, ⟨by (with_reducible repeat (first | apply Kd.R_alloc | apply Kd.R_drewN | apply Kd.R_drew)); exact Kd.R_mono HO125.out (fun _ hk => ⟨hk.1.2, hk.2⟩)⟩, ⟨by (with_reducible repeat (first | refine blk_drewN ?_ _ | refine blk_drew ?_ | refine blk_alloc ?_ _)); exact BK101.out⟩, ⟨by (with_reducible repeat (first | refine blk_drewN ?_ _ | refine blk_drew ?_ | refine blk_alloc ?_ _)); exact BK114.out⟩, ⟨by (with_reducible repeat (first | refine blk_drewN ?_ _ | refine blk_drew ?_ | refine blk_alloc ?_ _)); exact BK120.out⟩, ⟨by (with_reducible repeat (first | refine blk_drewN ?_ _ | refine blk_drew ?_ | refine blk_alloc ?_ _)); exact BK127.out⟩, ⟨by repeat (first | (with_reducible first | exact HB.out | apply below_alloc | apply pw_below_drewN | apply below_drew1 | refine below_set ?_ GE101.out | refine below_set ?_ GE114.out | refine below_set ?_ GE120.out | refine below_set ?_ GE127.out) | exact HB.out)⟩⟩
  case rest =>
   clear HC12
   try clear c2
   try clear p2
   try clear c3
   try clear c4
   try clear c4b0
   try clear c5
   try clear c6
   try clear c21
   try clear c27
   try clear c28
   try clear c31
   try clear c32
   try clear c33
   try clear c34
   try clear c35
   try clear c39
   try clear c40
   try clear c41
   try clear c42
   try clear c44
   try clear c45
   try clear c48
   try clear c49
   try clear c50
   try clear c52
   try clear c53
   try clear hcz14_0
   try clear hcz14_1
   try clear hcz14_2
   try clear hcz16_0
   try clear hcz16_1
   try clear hcz16_2
   try clear hcz22_0
   try clear hcz22_1
   try clear hcz22_2
   try clear hcz24_0
   try clear hcz24_1
   try clear hcz24_2
   try clear hcz29_0
   try clear hcz29_1
   try clear hcz29_2
   try clear hcz36_0
   try clear hcz36_1
   try clear hcz36_2
   try clear hcz43_0
   try clear hcz43_1
   try clear hcz43_2
   try clear hcz46_0
   try clear hcz46_1
   try clear hcz46_2
   try clear hcz51_0
   try clear hcz51_1
   try clear hcz51_2
   try clear hcz54_0
   try clear hcz54_1
   try clear hcz54_2
   try clear hcz6_0
   try clear hcz6_1
   try clear hcz6_2
   try clear hfz14_0
   try clear hfz14_1
   try clear hfz14_2
   try clear hfz16_0
   try clear hfz16_1
   try clear hfz16_2
   try clear hfz22_0
   try clear hfz22_1
   try clear hfz22_2
   try clear hfz24_0
   try clear hfz24_1
   try clear hfz24_2
   try clear hfz29_0
   try clear hfz29_1
   try clear hfz29_2
   try clear hfz36_0
   try clear hfz36_1
   try clear hfz36_2
   try clear hfz43_0
   try clear hfz43_1
   try clear hfz43_2
   try clear hfz46_0
   try clear hfz46_1
   try clear hfz46_2
   try clear hfz51_0
   try clear hfz51_1
   try clear hfz51_2
   try clear hfz54_0
   try clear hfz54_1
   try clear hfz54_2
   try clear hfz6_0
   try clear hfz6_1
   try clear hfz6_2
   obtain ⟨kq, x44_11, rfl, HA, HJ11, HO_115002, HO_121002, HO_128002, BK101, BK114, BK120, BK127, HB⟩ := hcut
   cases kq with
   | zero => exact absurd HA.out (by simp [laws_FnExactMedianFilter.j0])
   | succ kj11 =>
    have H := HA.out
    clear HA
    simp only [laws_FnExactMedianFilter.j0] at H
    by_cases c56 : x44_11 = true
    ·
     subst c56
     have H1 : (some false) = some r := by rw [if_pos rfl] at H; exact H
     clear H
     have H := H1
     clear H1
     obtain rfl := Option.some.inj H
     go_wp2
     go_ret
     exact ⟨by first | rfl | (simp [errW_none, errW_some] <;> rfl) | (simp [*, errW_none, errW_some] <;> rfl), by repeat (first | (with_reducible first | exact HB.out | apply below_alloc | apply pw_below_drewN | apply below_drew1) | exact HB.out)⟩
    ·
     replace c56 := Bool.eq_false_iff.mpr c56
     subst c56
     have H1 : ((laws_toField.f kj11 a0_0 a0_1 l0_2).bind fun bt129 => ((laws_eqField.f kj11 t115 t116 t117 bt129.1 bt129.2.1 bt129.2.2).bind fun t134 => (if t134 = true then ((laws_markField.f kj11 t115 t116 t117 1).bind fun bt135 => (if bt135.1 < 0 then (laws_FnExactMedianFilter.j1 kj11 a1 t113 true a0_0 a0_1 l0_2 t108 t109 t110 t121 t122 t123) else ((laws_eqField.f kj11 t121 t122 t123 t108 t109 t110).bind fun t137 => (if t137 = true then (laws_FnExactMedianFilter.j1 kj11 a1 t113 (t126 != t113) a0_0 a0_1 l0_2 t108 t109 t110 t121 t122 t123) else (laws_FnExactMedianFilter.j1 kj11 a1 t113 true a0_0 a0_1 l0_2 t108 t109 t110 t121 t122 t123))))) else (some false)))) = some r := by rw [if_neg (show ¬ (false = true) by decide)] at H; exact H
     clear H
     have H := H1
     clear H1
     replace H := Option.bind_eq_some_iff.mp H
     obtain ⟨⟨t129, t130, t131⟩, A570, H⟩ := H
     replace H : ((laws_eqField.f kj11 t115 t116 t117 t129 t130 t131).bind fun t134 => (if t134 = true then ((laws_markField.f kj11 t115 t116 t117 1).bind fun bt135 => (if bt135.1 < 0 then (laws_FnExactMedianFilter.j1 kj11 a1 t113 true a0_0 a0_1 l0_2 t108 t109 t110 t121 t122 t123) else ((laws_eqField.f kj11 t121 t122 t123 t108 t109 t110).bind fun t137 => (if t137 = true then (laws_FnExactMedianFilter.j1 kj11 a1 t113 (t126 != t113) a0_0 a0_1 l0_2 t108 t109 t110 t121 t122 t123) else (laws_FnExactMedianFilter.j1 kj11 a1 t113 true a0_0 a0_1 l0_2 t108 t109 t110 t121 t122 t123))))) else (some false))) = some r := H
     have A57 := Aside0.mk A570
     clear A570
     replace H := Option.bind_eq_some_iff.mp H
     obtain ⟨t134, A580, H⟩ := H
     replace H : (if t134 = true then ((laws_markField.f kj11 t115 t116 t117 1).bind fun bt135 => (if bt135.1 < 0 then (laws_FnExactMedianFilter.j1 kj11 a1 t113 true a0_0 a0_1 l0_2 t108 t109 t110 t121 t122 t123) else ((laws_eqField.f kj11 t121 t122 t123 t108 t109 t110).bind fun t137 => (if t137 = true then (laws_FnExactMedianFilter.j1 kj11 a1 t113 (t126 != t113) a0_0 a0_1 l0_2 t108 t109 t110 t121 t122 t123) else (laws_FnExactMedianFilter.j1 kj11 a1 t113 true a0_0 a0_1 l0_2 t108 t109 t110 t121 t122 t123))))) else (some false)) = some r := H
     have A58 := Aside0.mk A580
     clear A580
     by_cases c59 : t134 = true
     ·
      subst c59
      have H1 : ((laws_markField.f kj11 t115 t116 t117 1).bind fun bt135 => (if bt135.1 < 0 then (laws_FnExactMedianFilter.j1 kj11 a1 t113 true a0_0 a0_1 l0_2 t108 t109 t110 t121 t122 t123) else ((laws_eqField.f kj11 t121 t122 t123 t108 t109 t110).bind fun t137 => (if t137 = true then (laws_FnExactMedianFilter.j1 kj11 a1 t113 (t126 != t113) a0_0 a0_1 l0_2 t108 t109 t110 t121 t122 t123) else (laws_FnExactMedianFilter.j1 kj11 a1 t113 true a0_0 a0_1 l0_2 t108 t109 t110 t121 t122 t123))))) = some r := by rw [if_pos rfl] at H; exact H
      clear H
      have H := H1
      clear H1
      replace H := Option.bind_eq_some_iff.mp H
      obtain ⟨⟨t135, t136⟩, A600, H⟩ := H
      replace H : (if t135 < 0 then (laws_FnExactMedianFilter.j1 kj11 a1 t113 true a0_0 a0_1 l0_2 t108 t109 t110 t121 t122 t123) else ((laws_eqField.f kj11 t121 t122 t123 t108 t109 t110).bind fun t137 => (if t137 = true then (laws_FnExactMedianFilter.j1 kj11 a1 t113 (t126 != t113) a0_0 a0_1 l0_2 t108 t109 t110 t121 t122 t123) else (laws_FnExactMedianFilter.j1 kj11 a1 t113 true a0_0 a0_1 l0_2 t108 t109 t110 t121 t122 t123)))) = some r := H
      have A60 := Aside0.mk A600
      clear A600
      have HC61 := Aside0.mk H
      clear H
      try go_wp2
      have n0_ := aK (Kd.R_drew HO_115002.out)
      have n1_ := aK (Kd.R_drew HO_121002.out)
      have n2_ := aK (Kd.R_drew HO_128002.out)
      have n3_ := aK (blk_drew BK101.out)
      have n4_ := aK (blk_drew BK114.out)
      have n5_ := aK (blk_drew BK120.out)
      have n6_ := aK (blk_drew BK127.out)
      have n7_ := aK (below_drew1 HB.out)
      clear HO_115002 HO_121002 HO_128002 BK101 BK114 BK120 BK127 HB
      have HO_115002 := n0_
      have HO_121002 := n1_
      have HO_128002 := n2_
      have BK101 := n3_
      have BK114 := n4_
      have BK120 := n5_
      have BK127 := n6_
      have HB := n7_
      clear n0_ n1_ n2_ n3_ n4_ n5_ n6_ n7_
      refine start_ (n := 5) (S := fun w' => w'.cell? ⟨gb120, 0, none⟩ = some (.int .i64 t115) ∧ w'.cell? ⟨gb120, 1, none⟩ = some (.int .i64 t116) ∧ w'.cell? ⟨gb120, 2, none⟩ = some (.slice Ao30 t117.length co30) ∧ w'.cell? ⟨gb101, 0, none⟩ = some (.int .i64 a0_0) ∧ w'.cell? ⟨gb101, 1, none⟩ = some (.int .i64 a0_1) ∧ w'.cell? ⟨gb101, 2, none⟩ = some (.slice A0_2 l0_2.length c0_2)) (ds := []) #[false, false, false, false, false] (by kernel_rfl) rfl rfl ⟨(blk_cell BK120.out 0).trans rfl, (blk_cell BK120.out 1).trans rfl, (blk_cell BK120.out 2).trans rfl, (blk_cell BK101.out 0).trans rfl, (blk_cell BK101.out 1).trans rfl, (blk_cell BK101.out 2).trans rfl⟩ (fun hHeld => ?_)
      generalize wc.drew = w62 at HO_115002 HO_121002 HO_128002 BK101 BK114 BK120 BK127 HB hHeld ⊢
      refine take_ (i := 0) (N := some 45) (v := ?_) (a' := ?_) #[true, false, false, false, false] rfl rfl (by kernel_rfl) (fun _ _ _ h => h) (Or.inl ⟨by rfl, ?_⟩) hHeld ?_ ?_
      rotate_left
      ·
       rintro w' ⟨s0, s1, s2, s3, s4, s5⟩
       go_simp
       with_reducible rfl
      rotate_left
      ·
       simp only [Act.put, List.setIfInBounds_toArray, List.set_cons_zero, List.set_cons_succ, i64_w, i32_w]
       rfl
      refine take_ (i := 1) (N := some 46) (v := ?_) (a' := ?_) #[true, true, false, false, false] rfl rfl (by kernel_rfl) (fun _ _ _ h => h) (Or.inl ⟨by rfl, ?_⟩) hHeld ?_ ?_
      rotate_left
      ·
       rintro w' ⟨s0, s1, s2, s3, s4, s5⟩
       go_simp
       with_reducible rfl
      rotate_left
      ·
       simp only [Act.put, List.setIfInBounds_toArray, List.set_cons_zero, List.set_cons_succ, i64_w, i32_w]
       rfl
      refine one_ (i := 2) (N := some 47) #[true, true, true, false, false] rfl rfl (by kernel_rfl) (by decide) (fun K hK => ?_)
      refine goes_ Try.func33 (by kernel_rfl) rfl #[.agg #[.int .i64 a0_0, .int .i64 a0_1, .slice A0_2 l0_2.length c0_2]] (by rfl) rfl rfl (by (try simp only [List.map_toArray, List.map_cons, List.map_nil]); first | done | rfl | (simp only [List.length_drop, List.length_take]; rfl)) ?_
      with_reducible refine (laws_toField.calls kj11 a0_0 a0_1 _ _ l0_2 t129 t130 t131 _ ?side1 ?side2 A57.out).mono ?_
      (case side1 => repeat (first | exact (Kd.C_below HR0_2.out HB.out) | (with_reducible refine Kd.C_alloc ?_ _) | (with_reducible refine Kd.C_drewN ?_ _) | (with_reducible refine Kd.C_drew ?_)))
      (case side2 => exact HC0_2.out)
      rintro e w63 ⟨v132, rfl, ho0, hb⟩
      refine ⟨_, rfl, ?_⟩
      have n0_ := aK (Kd.R_elder' (pR HO_115002.out) (Kd.R_base ho0) hb)
      have n1_ := aK (Kd.R_elder' (pR HO_121002.out) (Kd.R_base ho0) hb)
      have n2_ := aK (Kd.R_elder' (pR HO_128002.out) (Kd.R_base ho0) hb)
      have HO133 := aK (Kd.R_lower (Kd.R_new' (Kd.R_new' (Kd.R_new' ho0 (Kd.R_lt (pR HO_115002.out))) (Kd.R_lt (pR HO_121002.out))) (Kd.R_lt (pR HO_128002.out))) (below_size (pS HB.out)))
      replace BK101 := bB BK101 hb
      replace BK114 := bB BK114 hb
      replace BK120 := bB BK120 hb
      replace BK127 := bB BK127 hb
      replace HB := bS HB hb
      clear HO_115002 HO_121002 HO_128002
      have HO_115002 := n0_
      have HO_121002 := n1_
      have HO_128002 := n2_
      clear n0_ n1_ n2_
      (try clear hb)
      (try clear hb2)
      (try clear hk)
      (try clear hi)
      (try clear ho0)
      obtain ⟨Ao64, co64, eo64⟩ := Kd.R_slice HO133.out
      (first | subst eo64 | (injection eo64 with f1_ f2_ f3_; have f4_ := f1_.symm; have f5_ := f3_.symm; clear f1_ f2_ f3_; subst f4_; subst f5_))
      refine hK.out _ _ ⟨(blk_cell BK120.out 0).trans rfl, (blk_cell BK120.out 1).trans rfl, (blk_cell BK120.out 2).trans rfl, (blk_cell BK101.out 0).trans rfl, (blk_cell BK101.out 1).trans rfl, (blk_cell BK101.out 2).trans rfl⟩ (fun hHeld => ?_)
      clear hK K
      refine norm_ (a' := ?_) ?_ ?_
      rotate_left
      ·
       show Act.put _ (some 47) _ = _
       simp only [Act.put, List.setIfInBounds_toArray, List.set_cons_zero, List.set_cons_succ, i64_w, i32_w]
       rfl
      refine one_ (i := 3) (N := some 48) #[true, true, true, true, false] rfl rfl (by kernel_rfl) (by decide) (fun K hK => ?_)
      refine goes_ Try.func35 (by kernel_rfl) rfl #[.agg #[.int .i64 t115, .int .i64 t116, .slice Ao30 t117.length co30], .agg #[.int .i64 t129, .int .i64 t130, .slice Ao64 t131.length co64]] (by rfl) rfl rfl (by (try simp only [List.map_toArray, List.map_cons, List.map_nil]); first | done | rfl | (simp only [List.length_drop, List.length_take]; rfl)) ?_
      with_reducible refine (laws_eqField.calls kj11 t115 t116 _ _ t117 t129 t130 _ _ t131 true _ ?side1 ?side2 ?side3 ?side4 A58.out).mono ?_
      (case side1 => repeat (first | exact (Kd.R_reads' HO_121002.out).2.2 | (with_reducible refine Kd.C_alloc ?_ _) | (with_reducible refine Kd.C_drewN ?_ _) | (with_reducible refine Kd.C_drew ?_)))
      (case side2 => exact (Kd.R_reads' HO_121002.out).2.1)
      (case side3 => repeat (first | exact (Kd.R_reads' HO133.out).2.2 | (with_reducible refine Kd.C_alloc ?_ _) | (with_reducible refine Kd.C_drewN ?_ _) | (with_reducible refine Kd.C_drew ?_)))
      (case side4 => exact (Kd.R_reads' HO133.out).2.1)
      rintro e w65 ⟨rfl, hb⟩
      refine ⟨_, rfl, ?_⟩
      have n0_ := aK (Kd.R_below (pR HO_115002.out) hb)
      have n1_ := aK (Kd.R_below (pR HO_121002.out) hb)
      have n2_ := aK (Kd.R_below (pR HO_128002.out) hb)
      have n3_ := aK (Kd.R_below (pR HO133.out) hb)
      replace BK101 := bB BK101 hb
      replace BK114 := bB BK114 hb
      replace BK120 := bB BK120 hb
      replace BK127 := bB BK127 hb
      replace HB := bS HB hb
      clear HO_115002 HO_121002 HO_128002 HO133
      have HO_115002 := n0_
      have HO_121002 := n1_
      have HO_128002 := n2_
      have HO133 := n3_
      clear n0_ n1_ n2_ n3_
      (try clear hb)
      (try clear hb2)
      (try clear hk)
      (try clear hi)
      refine hK.out _ _ ⟨(blk_cell BK120.out 0).trans rfl, (blk_cell BK120.out 1).trans rfl, (blk_cell BK120.out 2).trans rfl, (blk_cell BK101.out 0).trans rfl, (blk_cell BK101.out 1).trans rfl, (blk_cell BK101.out 2).trans rfl⟩ (fun hHeld => ?_)
      clear hK K
      refine norm_ (a' := ?_) ?_ ?_
      rotate_left
      ·
       show Act.put _ (some 48) _ = _
       simp only [Act.put, List.setIfInBounds_toArray, List.set_cons_zero, List.set_cons_succ, i64_w, i32_w]
       rfl
      refine pure_ (i := 4) (N := some 49) (v := ?_) (a' := ?_) #[true, true, true, true, true] rfl rfl (by kernel_rfl) (fun _ _ _ h => h) (Or.inl ⟨by rfl, ?_⟩) ?_ ?_
      rotate_left
      ·
       intro w'
       go_simp
       with_reducible rfl
      rotate_left
      ·
       simp only [Act.put, List.setIfInBounds_toArray, List.set_cons_zero, List.set_cons_succ, i64_w, i32_w]
       rfl
      refine done_ (by kernel_rfl) ?_
      have hnb66 := NB120_101.out
      have hnc66 := NB101_120.out
      have hnb67 := NB120_114.out
      have hnc67 := NB114_120.out
      have hnb68 := NB120_127.out
      have hnc68 := NB127_120.out
      have hcz69_0 : w65.cell? ⟨gb120, 0, none⟩ = some (.int .i64 t115) := (blk_cell BK120.out 0).trans rfl
      have hcz69_1 : w65.cell? ⟨gb120, 1, none⟩ = some (.int .i64 t116) := (blk_cell BK120.out 1).trans rfl
      have hcz69_2 : w65.cell? ⟨gb120, 2, none⟩ = some (.slice Ao30 t117.length co30) := (blk_cell BK120.out 2).trans rfl
      have hfz69_0 := blk_frozen BK120.out 0
      have hfz69_1 := blk_frozen BK120.out 1
      have hfz69_2 := blk_frozen BK120.out 2
      go_upto_region 14 with (first | ((with_reducible refine gate_callee (f := 36) rfl ?_); refine goesL_ (some 52) rfl rfl Try.func36 (by kernel_rfl) rfl #[.agg #[.int .i64 t115, .int .i64 t116, .slice Ao30 t117.length co30], .int .i64 1] rfl (by (try simp only [List.map_toArray, List.map_cons, List.map_nil]); first | done | rfl | (simp only [List.length_drop, List.length_take]; rfl)) ?_; (with_reducible refine (laws_markField.calls kj11 t115 t116 (fun k_ => some k_ = (.slice Ao30 t117.length co30 : Value).ownBlock) (.slice Ao30 t117.length co30) t117 1 t135 t136 w _ ?side1 ?side2 A60.out).mono ?_); (case side1 => repeat (first | (with_reducible first | exact HB.out | apply below_alloc | apply pw_below_drewN | apply below_drew1 | refine below_set ?_ GE101.out | refine below_set ?_ GE114.out | refine below_set ?_ GE127.out) | exact HB.out)); (case side2 => exact Kd.R_tight rfl HO_121002.out); rintro e w70 ⟨rfl, hy0, hb, hkp⟩; refine ⟨_, rfl, ?_⟩; have n0_ := aK (Kd.R_mono (ok' := fun k_ => some k_ ≠ (.slice Ao30 t117.length co30 : Value).ownBlock ∧ some k_ ≠ (.slice Ao37 t123.length co37 : Value).ownBlock ∧ some k_ ≠ (.slice Ao64 t131.length co64 : Value).ownBlock) (Kd.R_keptB (HO_115002.out) hkp (fun k_ hk_ hs_ => (hk_.1.1) hs_)) (fun k_ hk_ => ⟨hk_.1.1.1, hk_.1.1.2, hk_.1.2⟩)); have n1_ := aK (Kd.R_reok rfl hy0 (fun k_ e_ => HO_121002.out.1 k_ e_)); have n2_ := aK (Kd.R_mono (ok' := fun k_ => some k_ ≠ (.slice Ao23 t110.length co23 : Value).ownBlock ∧ some k_ ≠ (.slice Ao30 t117.length co30 : Value).ownBlock ∧ some k_ ≠ (.slice Ao64 t131.length co64 : Value).ownBlock) (Kd.R_keptB (HO_128002.out) hkp (fun k_ hk_ hs_ => (hk_.1.2) hs_)) (fun k_ hk_ => ⟨hk_.1.1.1, hk_.1.1.2, hk_.1.2⟩)); have n3_ := aK (blk_kept (pB BK101.out) hkp (fun hs_ => (fun e_ => (Kd.R_ne HO_121002.out BK101.out (by decide)) e_) hs_)); have n4_ := aK (blk_kept (pB BK114.out) hkp (fun hs_ => (fun e_ => (Kd.R_ne HO_121002.out BK114.out (by decide)) e_) hs_)); have n5_ := aK (blk_kept (pB BK127.out) hkp (fun hs_ => (fun e_ => (Kd.R_ne HO_121002.out BK127.out (by decide)) e_) hs_)); have n6_ := aK (Kd.R_mono (ok' := fun k_ => some k_ ≠ (.slice Ao23 t110.length co23 : Value).ownBlock ∧ some k_ ≠ (.slice Ao30 t117.length co30 : Value).ownBlock ∧ some k_ ≠ (.slice Ao37 t123.length co37 : Value).ownBlock) (Kd.R_keptB (HO133.out) hkp (fun k_ hk_ hs_ => (hk_.1.2) hs_)) (fun k_ hk_ => ⟨hk_.1.1.1.2, hk_.1.1.2, hk_.1.2⟩)); have n7_ := aK (hb); clear HO_115002 HO_121002 HO_128002 BK101 BK114 BK127 HO133 HB; have HO_115002 := n0_; have HO_121002 := n1_; have HO_128002 := n2_; have BK101 := n3_; have BK114 := n4_; have BK127 := n5_; have HO133 := n6_; have HB := n7_; clear n0_ n1_ n2_ n3_ n4_ n5_ n6_ n7_; (try clear hb); (try clear hkp); (try clear hy0)))
      (try simp only [Act.put, List.setIfInBounds_toArray, List.set_cons_zero, List.set_cons_succ])
      go_cut [65] (fun v65 wc => ∃ (kq : Nat) (x65_60 : Bool), v65 = .bool x65_60 ∧ Aside0 (laws_FnExactMedianFilter.j1 kq a1 t113 x65_60 a0_0 a0_1 l0_2 t108 t109 t110 t121 t122 t123 = some r) ∧ Aside0 (kq ≤ kj11) ∧ Aside0 (Kd.R (Kd.int .i64) 3 wc w.heap.size (fun k_ => some k_ ≠ ((.slice Ao37 t123.length co37) : Value).ownBlock) (.slice Ao23 t110.length co23) t110) ∧ Aside0 (Kd.R (Kd.int .i64) 3 wc w.heap.size (fun k_ => some k_ ≠ ((.slice Ao23 t110.length co23) : Value).ownBlock) (.slice Ao37 t123.length co37) t123) ∧ Aside0 (wc.heap[gb101]? = some (.cells #[.int .i64 a0_0, .int .i64 a0_1, (.slice A0_2 l0_2.length c0_2)] 40 (0, 0))) ∧ Aside0 (wc.heap[gb114]? = some (.cells #[.int .i64 t108, .int .i64 t109, (.slice Ao23 t110.length co23)] 42 (0, 0))) ∧ Aside0 (wc.heap[gb127]? = some (.cells #[.int .i64 t121, .int .i64 t122, (.slice Ao37 t123.length co37)] 42 (0, 0))) ∧ Aside0 (Below w.heap.size w wc))
      case first =>
       have H := HC61.out
       clear HC61
       by_cases c71 : t135 < 0
       ·
        rw [if_pos c71] at H
        have c71b0 : decide (t135 < 0) = true := decide_eq_true c71
        clear c71
        (first | rw [c71b0] | (simp only [i64_w, i32_w]; rw [c71b0]) | skip)
        have H' := Aside0.mk H
        clear H
        go_wp2
        go_meet
        case rel => exact ⟨_, (true), (by first | rfl | (simp; done) | (simp [*]; done)), H', ⟨by have := HJ11.out; first | omega | exact Nat.le_refl _⟩, ⟨by (with_reducible repeat (first | apply Kd.R_alloc | apply Kd.R_drewN | apply Kd.R_drew)); exact Kd.R_mono HO_115002.out (fun _ hk => hk.2.1)⟩, ⟨by (with_reducible repeat (first | apply Kd.R_alloc | apply Kd.R_drewN | apply Kd.R_drew)); exact Kd.R_mono HO_128002.out (fun _ hk => hk.1)⟩, ⟨by (with_reducible repeat (first | refine blk_drewN ?_ _ | refine blk_drew ?_ | refine blk_alloc ?_ _)); exact BK101.out⟩, ⟨by (with_reducible repeat (first | refine blk_drewN ?_ _ | refine blk_drew ?_ | refine blk_alloc ?_ _)); exact BK114.out⟩, ⟨by (with_reducible repeat (first | refine blk_drewN ?_ _ | refine blk_drew ?_ | refine blk_alloc ?_ _)); exact BK127.out⟩, ⟨by repeat (first | (with_reducible first | exact HB.out | apply below_alloc | apply pw_below_drewN | apply below_drew1 | refine below_set ?_ GE101.out | refine below_set ?_ GE114.out | refine below_set ?_ GE127.out) | exact HB.out)⟩⟩
       ·
        rw [if_neg c71] at H
        have c71b0 : decide (t135 < 0) = false := decide_eq_false c71
        clear c71
        (first | rw [c71b0] | (simp only [i64_w, i32_w]; rw [c71b0]) | skip)
        replace H := Option.bind_eq_some_iff.mp H
        obtain ⟨t137, A720, H⟩ := H
        replace H : (if t137 = true then (laws_FnExactMedianFilter.j1 kj11 a1 t113 (t126 != t113) a0_0 a0_1 l0_2 t108 t109 t110 t121 t122 t123) else (laws_FnExactMedianFilter.j1 kj11 a1 t113 true a0_0 a0_1 l0_2 t108 t109 t110 t121 t122 t123)) = some r := H
        have A72 := Aside0.mk A720
        clear A720
        by_cases c73 : t137 = true
        ·
         subst c73
         have H1 : (laws_FnExactMedianFilter.j1 kj11 a1 t113 (t126 != t113) a0_0 a0_1 l0_2 t108 t109 t110 t121 t122 t123) = some r := by rw [if_pos rfl] at H; exact H
         clear H
         have H := H1
         clear H1
         have H' := Aside0.mk H
         clear H
         have hnb74 := NB127_101.out
         have hnc74 := NB101_127.out
         have hnb75 := NB127_114.out
         have hnc75 := NB114_127.out
         have hcz76_0 : w70.cell? ⟨gb127, 0, none⟩ = some (.int .i64 t121) := (blk_cell BK127.out 0).trans rfl
         have hcz76_1 : w70.cell? ⟨gb127, 1, none⟩ = some (.int .i64 t122) := (blk_cell BK127.out 1).trans rfl
         have hcz76_2 : w70.cell? ⟨gb127, 2, none⟩ = some (.slice Ao37 t123.length co37) := (blk_cell BK127.out 2).trans rfl
         have hfz76_0 := blk_frozen BK127.out 0
         have hfz76_1 := blk_frozen BK127.out 1
         have hfz76_2 := blk_frozen BK127.out 2
         have hnb77 := NB114_101.out
         have hnc77 := NB101_114.out
         have hcz78_0 : w70.cell? ⟨gb114, 0, none⟩ = some (.int .i64 t108) := (blk_cell BK114.out 0).trans rfl
         have hcz78_1 : w70.cell? ⟨gb114, 1, none⟩ = some (.int .i64 t109) := (blk_cell BK114.out 1).trans rfl
         have hcz78_2 : w70.cell? ⟨gb114, 2, none⟩ = some (.slice Ao23 t110.length co23) := (blk_cell BK114.out 2).trans rfl
         have hfz78_0 := blk_frozen BK114.out 0
         have hfz78_1 := blk_frozen BK114.out 1
         have hfz78_2 := blk_frozen BK114.out 2
         go_wp2_with (first | (go_at_call 35; (with_reducible refine (laws_eqField.calls kj11 t121 t122 _ _ t123 t108 t109 _ _ t110 true _ ?side1 ?side2 ?side3 ?side4 A72.out).mono ?_); (case side1 => repeat (first | exact (Kd.R_reads' HO_128002.out).2.2 | (with_reducible refine Kd.C_alloc ?_ _) | (with_reducible refine Kd.C_drewN ?_ _) | (with_reducible refine Kd.C_drew ?_))); (case side2 => exact (Kd.R_reads' HO_128002.out).2.1); (case side3 => repeat (first | exact (Kd.R_reads' HO_115002.out).2.2 | (with_reducible refine Kd.C_alloc ?_ _) | (with_reducible refine Kd.C_drewN ?_ _) | (with_reducible refine Kd.C_drew ?_))); (case side4 => exact (Kd.R_reads' HO_115002.out).2.1); rintro e w79 ⟨rfl, hb⟩; have n0_ := aK (Kd.R_below (pR HO_115002.out) hb); have n1_ := aK (Kd.R_below (pR HO_121002.out) hb); have n2_ := aK (Kd.R_below (pR HO_128002.out) hb); have n3_ := aK (Kd.R_below (pR HO133.out) hb); replace BK101 := bB BK101 hb; replace BK114 := bB BK114 hb; replace BK127 := bB BK127 hb; replace HB := bS HB hb; clear HO_115002 HO_121002 HO_128002 HO133; have HO_115002 := n0_; have HO_121002 := n1_; have HO_128002 := n2_; have HO133 := n3_; clear n0_ n1_ n2_ n3_; (try clear hb); (try clear hb2); (try clear hk); (try clear hi)))
         go_meet
         case rel => exact ⟨_, ((t126 != t113)), (by first | rfl | (simp; done) | (simp [*]; done)), H', ⟨by have := HJ11.out; first | omega | exact Nat.le_refl _⟩, ⟨by (with_reducible repeat (first | apply Kd.R_alloc | apply Kd.R_drewN | apply Kd.R_drew)); exact Kd.R_mono HO_115002.out (fun _ hk => hk.2.1)⟩, ⟨by (with_reducible repeat (first | apply Kd.R_alloc | apply Kd.R_drewN | apply Kd.R_drew)); exact Kd.R_mono HO_128002.out (fun _ hk => hk.1)⟩, ⟨by (with_reducible repeat (first | refine blk_drewN ?_ _ | refine blk_drew ?_ | refine blk_alloc ?_ _)); exact BK101.out⟩, ⟨by (with_reducible repeat (first | refine blk_drewN ?_ _ | refine blk_drew ?_ | refine blk_alloc ?_ _)); exact BK114.out⟩, ⟨by (with_reducible repeat (first | refine blk_drewN ?_ _ | refine blk_drew ?_ | refine blk_alloc ?_ _)); exact BK127.out⟩, ⟨by repeat (first | (with_reducible first | exact HB.out | apply below_alloc | apply pw_below_drewN | apply below_drew1 | refine below_set ?_ GE101.out | refine below_set ?_ GE114.out | refine below_set ?_ GE127.out) | exact HB.out)⟩⟩
        ·
         replace c73 := Bool.eq_false_iff.mpr c73
         subst c73
         have H1 : (laws_FnExactMedianFilter.j1 kj11 a1 t113 true a0_0 a0_1 l0_2 t108 t109 t110 t121 t122 t123) = some r := by rw [if_neg (show ¬ (false = true) by decide)] at H; exact H
         clear H
         have H := H1
         clear H1
         have H' := Aside0.mk H
         clear H
         have hnb80 := NB127_101.out
         have hnc80 := NB101_127.out
         have hnb81 := NB127_114.out
         have hnc81 := NB114_127.out
         have hcz82_0 : w70.cell? ⟨gb127, 0, none⟩ = some (.int .i64 t121) := (blk_cell BK127.out 0).trans rfl
         have hcz82_1 : w70.cell? ⟨gb127, 1, none⟩ = some (.int .i64 t122) := (blk_cell BK127.out 1).trans rfl
         have hcz82_2 : w70.cell? ⟨gb127, 2, none⟩ = some (.slice Ao37 t123.length co37) := (blk_cell BK127.out 2).trans rfl
         have hfz82_0 := blk_frozen BK127.out 0
         have hfz82_1 := blk_frozen BK127.out 1
         have hfz82_2 := blk_frozen BK127.out 2
         have hnb83 := NB114_101.out
         have hnc83 := NB101_114.out
         have hcz84_0 : w70.cell? ⟨gb114, 0, none⟩ = some (.int .i64 t108) := (blk_cell BK114.out 0).trans rfl
         have hcz84_1 : w70.cell? ⟨gb114, 1, none⟩ = some (.int .i64 t109) := (blk_cell BK114.out 1).trans rfl
         have hcz84_2 : w70.cell? ⟨gb114, 2, none⟩ = some (.slice Ao23 t110.length co23) := (blk_cell BK114.out 2).trans rfl
         have hfz84_0 := blk_frozen BK114.out 0
         have hfz84_1 := blk_frozen BK114.out 1
         have hfz84_2 := blk_frozen BK114.out 2
         go_wp2_with (first | (go_at_call 35; (with_reducible refine (laws_eqField.calls kj11 t121 t122 _ _ t123 t108 t109 _ _ t110 false _ ?side1 ?side2 ?side3 ?side4 A72.out).mono ?_); (case side1 => repeat (first | exact (Kd.R_reads' HO_128002.out).2.2 | (with_reducible refine Kd.C_alloc ?_ _) | (with_reducible refine Kd.C_drewN ?_ _) | (with_reducible refine Kd.C_drew ?_))); (case side2 => exact (Kd.R_reads' HO_128002.out).2.1); (case side3 => repeat (first | exact (Kd.R_reads' HO_115002.out).2.2 | (with_reducible refine Kd.C_alloc ?_ _) | (with_reducible refine Kd.C_drewN ?_ _) | (with_reducible refine Kd.C_drew ?_))); (case side4 => exact (Kd.R_reads' HO_115002.out).2.1); rintro e w85 ⟨rfl, hb⟩; have n0_ := aK (Kd.R_below (pR HO_115002.out) hb); have n1_ := aK (Kd.R_below (pR HO_121002.out) hb); have n2_ := aK (Kd.R_below (pR HO_128002.out) hb); have n3_ := aK (Kd.R_below (pR HO133.out) hb); replace BK101 := bB BK101 hb; replace BK114 := bB BK114 hb; replace BK127 := bB BK127 hb; replace HB := bS HB hb; clear HO_115002 HO_121002 HO_128002 HO133; have HO_115002 := n0_; have HO_121002 := n1_; have HO_128002 := n2_; have HO133 := n3_; clear n0_ n1_ n2_ n3_; (try clear hb); (try clear hb2); (try clear hk); (try clear hi)))
         go_meet
         case rel => exact ⟨_, (true), (by first | rfl | (simp; done) | (simp [*]; done)), H', ⟨by have := HJ11.out; first | omega | exact Nat.le_refl _⟩, ⟨by (with_reducible repeat (first | apply Kd.R_alloc | apply Kd.R_drewN | apply Kd.R_drew)); exact Kd.R_mono HO_115002.out (fun _ hk => hk.2.1)⟩, ⟨by (with_reducible repeat (first | apply Kd.R_alloc | apply Kd.R_drewN | apply Kd.R_drew)); exact Kd.R_mono HO_128002.out (fun _ hk => hk.1)⟩, ⟨by (with_reducible repeat (first | refine blk_drewN ?_ _ | refine blk_drew ?_ | refine blk_alloc ?_ _)); exact BK101.out⟩, ⟨by (with_reducible repeat (first | refine blk_drewN ?_ _ | refine blk_drew ?_ | refine blk_alloc ?_ _)); exact BK114.out⟩, ⟨by (with_reducible repeat (first | refine blk_drewN ?_ _ | refine blk_drew ?_ | refine blk_alloc ?_ _)); exact BK127.out⟩, ⟨by repeat (first | (with_reducible first | exact HB.out | apply below_alloc | apply pw_below_drewN | apply below_drew1 | refine below_set ?_ GE101.out | refine below_set ?_ GE114.out | refine below_set ?_ GE127.out) | exact HB.out)⟩⟩
      case rest =>
       clear HC61
       try clear c2
       try clear p2
       try clear c3
       try clear c4
       try clear c4b0
       try clear c5
       try clear c6
       try clear c7
       try clear c8
       try clear c21
       try clear c27
       try clear c28
       try clear c31
       try clear c32
       try clear c33
       try clear c34
       try clear c35
       try clear c36
       try clear c39
       try clear c40
       try clear c41
       try clear c42
       try clear c44
       try clear c45
       try clear c48
       try clear c49
       try clear c50
       try clear c52
       try clear c53
       try clear c56
       try clear c59
       try clear c66
       try clear c67
       try clear c68
       try clear c71
       try clear c71b0
       try clear c73
       try clear c74
       try clear c75
       try clear c77
       try clear c80
       try clear c81
       try clear c83
       try clear hcz14_0
       try clear hcz14_1
       try clear hcz14_2
       try clear hcz16_0
       try clear hcz16_1
       try clear hcz16_2
       try clear hcz22_0
       try clear hcz22_1
       try clear hcz22_2
       try clear hcz24_0
       try clear hcz24_1
       try clear hcz24_2
       try clear hcz29_0
       try clear hcz29_1
       try clear hcz29_2
       try clear hcz36_0
       try clear hcz36_1
       try clear hcz36_2
       try clear hcz43_0
       try clear hcz43_1
       try clear hcz43_2
       try clear hcz46_0
       try clear hcz46_1
       try clear hcz46_2
       try clear hcz51_0
       try clear hcz51_1
       try clear hcz51_2
       try clear hcz54_0
       try clear hcz54_1
       try clear hcz54_2
       try clear hcz69_0
       try clear hcz69_1
       try clear hcz69_2
       try clear hcz6_0
       try clear hcz6_1
       try clear hcz6_2
       try clear hcz76_0
       try clear hcz76_1
       try clear hcz76_2
       try clear hcz78_0
       try clear hcz78_1
       try clear hcz78_2
       try clear hcz82_0
       try clear hcz82_1
       try clear hcz82_2
       try clear hcz84_0
       try clear hcz84_1
       try clear hcz84_2
       try clear hfz14_0
       try clear hfz14_1
       try clear hfz14_2
       try clear hfz16_0
       try clear hfz16_1
       try clear hfz16_2
       try clear hfz22_0
       try clear hfz22_1
       try clear hfz22_2
       try clear hfz24_0
       try clear hfz24_1
       try clear hfz24_2
       try clear hfz29_0
       try clear hfz29_1
       try clear hfz29_2
       try clear hfz36_0
       try clear hfz36_1
       try clear hfz36_2
       try clear hfz43_0
       try clear hfz43_1
       try clear hfz43_2
       try clear hfz46_0
       try clear hfz46_1
       try clear hfz46_2
       try clear hfz51_0
       try clear hfz51_1
       try clear hfz51_2
       try clear hfz54_0
       try clear hfz54_1
       try clear hfz54_2
       try clear hfz69_0
       try clear hfz69_1
       try clear hfz69_2
       try clear hfz6_0
       try clear hfz6_1
       try clear hfz6_2
       try clear hfz76_0
       try clear hfz76_1
       try clear hfz76_2
       try clear hfz78_0
       try clear hfz78_1
       try clear hfz78_2
       try clear hfz82_0
       try clear hfz82_1
       try clear hfz82_2
       try clear hfz84_0
       try clear hfz84_1
       try clear hfz84_2
       try clear p2
       obtain ⟨kq, x65_60, rfl, HA, HJ60, HO_115002, HO_128002, BK101, BK114, BK127, HB⟩ := hcut
       cases kq with
       | zero => exact absurd HA.out (by simp [laws_FnExactMedianFilter.j1])
       | succ kj60 =>
        have H := HA.out
        clear HA
        simp only [laws_FnExactMedianFilter.j1] at H
        by_cases c86 : x65_60 = true
        ·
         subst c86
         have H1 : (some false) = some r := by rw [if_pos rfl] at H; exact H
         clear H
         have H := H1
         clear H1
         obtain rfl := Option.some.inj H
         go_wp2
         go_ret
         exact ⟨by first | rfl | (simp [errW_none, errW_some] <;> rfl) | (simp [*, errW_none, errW_some] <;> rfl), by repeat (first | (with_reducible first | exact HB.out | apply below_alloc | apply pw_below_drewN | apply below_drew1) | exact HB.out)⟩
        ·
         replace c86 := Bool.eq_false_iff.mpr c86
         subst c86
         have H1 : ((laws_markField.f kj60 t121 t122 t123 1).bind fun bt138 => ((laws_heldField.f kj60 t121 t122 bt138.2 1).bind fun t140 => (if t140 < 0 then (some false) else (if t140 = bt138.1 then ((laws_toField.f kj60 a0_0 a0_1 l0_2).bind fun bt141 => ((impl_MedianFilter.f kj60 bt141.1 bt141.2.1 bt141.2.2 a1).bind fun bt146 => ((laws_eqField.f kj60 bt146.1 bt146.2.1 bt146.2.2.1 t108 t109 t110).bind fun t153 => (if t153 = true then (laws_FnExactMedianFilter.j2 kj60 bt138.1 (bt146.2.2.2 != t113) t121 t122 bt138.2) else (laws_FnExactMedianFilter.j2 kj60 bt138.1 true t121 t122 bt138.2))))) else (some false))))) = some r := by rw [if_neg (show ¬ (false = true) by decide)] at H; exact H
         clear H
         have H := H1
         clear H1
         replace H := Option.bind_eq_some_iff.mp H
         obtain ⟨⟨t138, t139⟩, A870, H⟩ := H
         replace H : ((laws_heldField.f kj60 t121 t122 t139 1).bind fun t140 => (if t140 < 0 then (some false) else (if t140 = t138 then ((laws_toField.f kj60 a0_0 a0_1 l0_2).bind fun bt141 => ((impl_MedianFilter.f kj60 bt141.1 bt141.2.1 bt141.2.2 a1).bind fun bt146 => ((laws_eqField.f kj60 bt146.1 bt146.2.1 bt146.2.2.1 t108 t109 t110).bind fun t153 => (if t153 = true then (laws_FnExactMedianFilter.j2 kj60 t138 (bt146.2.2.2 != t113) t121 t122 t139) else (laws_FnExactMedianFilter.j2 kj60 t138 true t121 t122 t139))))) else (some false)))) = some r := H
         have A87 := Aside0.mk A870
         clear A870
         replace H := Option.bind_eq_some_iff.mp H
         obtain ⟨t140, A880, H⟩ := H
         replace H : (if t140 < 0 then (some false) else (if t140 = t138 then ((laws_toField.f kj60 a0_0 a0_1 l0_2).bind fun bt141 => ((impl_MedianFilter.f kj60 bt141.1 bt141.2.1 bt141.2.2 a1).bind fun bt146 => ((laws_eqField.f kj60 bt146.1 bt146.2.1 bt146.2.2.1 t108 t109 t110).bind fun t153 => (if t153 = true then (laws_FnExactMedianFilter.j2 kj60 t138 (bt146.2.2.2 != t113) t121 t122 t139) else (laws_FnExactMedianFilter.j2 kj60 t138 true t121 t122 t139))))) else (some false))) = some r := H
         have A88 := Aside0.mk A880
         clear A880
         by_cases c89 : t140 < 0
         ·
          rw [if_pos c89] at H
          have c89b0 : decide (t140 < 0) = true := decide_eq_true c89
          clear c89
          obtain rfl := Option.some.inj H
          have hcz90_0 : wc.cell? ⟨gb127, 0, none⟩ = some (.int .i64 t121) := (blk_cell BK127.out 0).trans rfl
          have hcz90_1 : wc.cell? ⟨gb127, 1, none⟩ = some (.int .i64 t122) := (blk_cell BK127.out 1).trans rfl
          have hcz90_2 : wc.cell? ⟨gb127, 2, none⟩ = some (.slice Ao37 t123.length co37) := (blk_cell BK127.out 2).trans rfl
          have hfz90_0 := blk_frozen BK127.out 0
          have hfz90_1 := blk_frozen BK127.out 1
          have hfz90_2 := blk_frozen BK127.out 2
          go_wp2_with (first | ((with_reducible refine gate_callee (f := 36) rfl ?_); refine goesL_ (some 68) rfl rfl Try.func36 (by kernel_rfl) rfl #[.agg #[.int .i64 t121, .int .i64 t122, .slice Ao37 t123.length co37], .int .i64 1] rfl (by (try simp only [List.map_toArray, List.map_cons, List.map_nil]); first | done | rfl | (simp only [List.length_drop, List.length_take]; rfl)) ?_; (with_reducible refine (laws_markField.calls kj60 t121 t122 (fun k_ => some k_ = (.slice Ao37 t123.length co37 : Value).ownBlock) (.slice Ao37 t123.length co37) t123 1 t138 t139 w _ ?side1 ?side2 A87.out).mono ?_); (case side1 => repeat (first | (with_reducible first | exact HB.out | apply below_alloc | apply pw_below_drewN | apply below_drew1 | refine below_set ?_ GE127.out) | exact HB.out)); (case side2 => exact Kd.R_tight rfl HO_128002.out); rintro e w91 ⟨rfl, hy0, hb, hkp⟩; refine ⟨_, rfl, ?_⟩; have n0_ := aK (Kd.R_mono (ok' := fun k_ => some k_ ≠ (.slice Ao37 t123.length co37 : Value).ownBlock) (Kd.R_keptB (HO_115002.out) hkp (fun k_ hk_ hs_ => (hk_) hs_)) (fun k_ hk_ => hk_.1)); have n1_ := aK (Kd.R_reok rfl hy0 (fun k_ e_ => HO_128002.out.1 k_ e_)); have n2_ := aK (blk_kept (pB BK127.out) hkp (fun hs_ => (fun e_ => (Kd.R_ne HO_128002.out BK127.out (by decide)) e_) hs_)); have n3_ := aK (hb); clear HO_115002 HO_128002 BK127 HB; have HO_115002 := n0_; have HO_128002 := n1_; have BK127 := n2_; have HB := n3_; clear n0_ n1_ n2_ n3_; (try clear hb); (try clear hkp); (try clear hy0); have hcz92_0 : w91.cell? ⟨gb127, 0, none⟩ = some (.int .i64 t121) := (blk_cell BK127.out 0).trans rfl; have hcz92_1 : w91.cell? ⟨gb127, 1, none⟩ = some (.int .i64 t122) := (blk_cell BK127.out 1).trans rfl; have hcz92_2 : w91.cell? ⟨gb127, 2, none⟩ = some (.slice Ao37 t123.length co37) := (blk_cell BK127.out 2).trans rfl; have hfz92_0 := blk_frozen BK127.out 0; have hfz92_1 := blk_frozen BK127.out 1; have hfz92_2 := blk_frozen BK127.out 2) | ((with_reducible refine gate_callee (f := 37) rfl ?_); refine goesL_ (some 71) rfl rfl Try.func37 (by kernel_rfl) rfl #[.agg #[.int .i64 t121, .int .i64 t122, .slice Ao37 t139.length co37], .int .i64 1] rfl (by (try simp only [List.map_toArray, List.map_cons, List.map_nil]); first | done | (rw [show t139.length = t123.length from (Kd.R_reads' HO_128002.out).1.symm] <;> rfl) | rfl | (simp only [List.length_drop, List.length_take]; rfl)) ?_; (with_reducible refine (laws_heldField.calls kj60 t121 t122 _ _ t139 1 t140 _ ?side1 ?side2 A88.out).mono ?_); (case side1 => repeat (first | exact (Kd.R_reads' HO_128002.out).2.2 | (with_reducible refine Kd.C_alloc ?_ _) | (with_reducible refine Kd.C_drewN ?_ _) | (with_reducible refine Kd.C_drew ?_))); (case side2 => rw [show t139.length = t123.length from (Kd.R_reads' HO_128002.out).1.symm]; exact (Kd.R_reads' HO_128002.out).2.1); rintro e w93 ⟨rfl, hb⟩; refine ⟨_, rfl, ?_⟩; have n0_ := aK (Kd.R_below (pR HO_115002.out) hb); have n1_ := aK (Kd.R_below (pR HO_128002.out) hb); replace HB := bS HB hb; clear HO_115002 HO_128002; have HO_115002 := n0_; have HO_128002 := n1_; clear n0_ n1_; (try clear hb); (try clear hb2); (try clear hk); (try clear hi)))
          go_ret
          exact ⟨by first | rfl | (simp [errW_none, errW_some] <;> rfl) | (simp [*, errW_none, errW_some] <;> rfl), by repeat (first | (with_reducible first | exact HB.out | apply below_alloc | apply pw_below_drewN | apply below_drew1) | exact HB.out)⟩
         ·
          rw [if_neg c89] at H
          have c89b0 : decide (t140 < 0) = false := decide_eq_false c89
          clear c89
          by_cases c94 : t140 = t138
          ·
           rw [if_pos c94] at H
           have c94b0 : (t140 == t138) = true := beq_iff_eq.mpr c94
           have c94b1 : (t140 != t138) = false := bne_eq_false_iff_eq.mpr c94
           clear c94
           replace H := Option.bind_eq_some_iff.mp H
           obtain ⟨⟨t141, t142, t143⟩, A950, H⟩ := H
           replace H : ((impl_MedianFilter.f kj60 t141 t142 t143 a1).bind fun bt146 => ((laws_eqField.f kj60 bt146.1 bt146.2.1 bt146.2.2.1 t108 t109 t110).bind fun t153 => (if t153 = true then (laws_FnExactMedianFilter.j2 kj60 t138 (bt146.2.2.2 != t113) t121 t122 t139) else (laws_FnExactMedianFilter.j2 kj60 t138 true t121 t122 t139)))) = some r := H
           have A95 := Aside0.mk A950
           clear A950
           replace H := Option.bind_eq_some_iff.mp H
           obtain ⟨⟨t146, t147, t148, t151⟩, A960, H⟩ := H
           replace H : ((laws_eqField.f kj60 t146 t147 t148 t108 t109 t110).bind fun t153 => (if t153 = true then (laws_FnExactMedianFilter.j2 kj60 t138 (t151 != t113) t121 t122 t139) else (laws_FnExactMedianFilter.j2 kj60 t138 true t121 t122 t139))) = some r := H
           have A96 := Aside0.mk A960
           clear A960
           have HC97 := Aside0.mk H
           clear H
           have hnb98 := NB127_101.out
           have hnc98 := NB101_127.out
           have hnb99 := NB127_114.out
           have hnc99 := NB114_127.out
           have hcz100_0 : wc.cell? ⟨gb127, 0, none⟩ = some (.int .i64 t121) := (blk_cell BK127.out 0).trans rfl
           have hcz100_1 : wc.cell? ⟨gb127, 1, none⟩ = some (.int .i64 t122) := (blk_cell BK127.out 1).trans rfl
           have hcz100_2 : wc.cell? ⟨gb127, 2, none⟩ = some (.slice Ao37 t123.length co37) := (blk_cell BK127.out 2).trans rfl
           have hfz100_0 := blk_frozen BK127.out 0
           have hfz100_1 := blk_frozen BK127.out 1
           have hfz100_2 := blk_frozen BK127.out 2
           go_upto_region 25 with (first | ((with_reducible refine gate_callee (f := 36) rfl ?_); refine goesL_ (some 68) rfl rfl Try.func36 (by kernel_rfl) rfl #[.agg #[.int .i64 t121, .int .i64 t122, .slice Ao37 t123.length co37], .int .i64 1] rfl (by (try simp only [List.map_toArray, List.map_cons, List.map_nil]); first | done | rfl | (simp only [List.length_drop, List.length_take]; rfl)) ?_; (with_reducible refine (laws_markField.calls kj60 t121 t122 (fun k_ => some k_ = (.slice Ao37 t123.length co37 : Value).ownBlock) (.slice Ao37 t123.length co37) t123 1 t138 t139 w _ ?side1 ?side2 A87.out).mono ?_); (case side1 => repeat (first | (with_reducible first | exact HB.out | apply below_alloc | apply pw_below_drewN | apply below_drew1 | refine below_set ?_ GE101.out | refine below_set ?_ GE114.out | refine below_set ?_ GE127.out) | exact HB.out)); (case side2 => exact Kd.R_tight rfl HO_128002.out); rintro e w101 ⟨rfl, hy0, hb, hkp⟩; refine ⟨_, rfl, ?_⟩; have n0_ := aK (Kd.R_mono (ok' := fun k_ => some k_ ≠ (.slice Ao37 t123.length co37 : Value).ownBlock) (Kd.R_keptB (HO_115002.out) hkp (fun k_ hk_ hs_ => (hk_) hs_)) (fun k_ hk_ => hk_.1)); have n1_ := aK (Kd.R_reok rfl hy0 (fun k_ e_ => HO_128002.out.1 k_ e_)); have n2_ := aK (blk_kept (pB BK101.out) hkp (fun hs_ => (fun e_ => (Kd.R_ne HO_128002.out BK101.out (by decide)) e_) hs_)); have n3_ := aK (blk_kept (pB BK114.out) hkp (fun hs_ => (fun e_ => (Kd.R_ne HO_128002.out BK114.out (by decide)) e_) hs_)); have n4_ := aK (blk_kept (pB BK127.out) hkp (fun hs_ => (fun e_ => (Kd.R_ne HO_128002.out BK127.out (by decide)) e_) hs_)); have n5_ := aK (hb); clear HO_115002 HO_128002 BK101 BK114 BK127 HB; have HO_115002 := n0_; have HO_128002 := n1_; have BK101 := n2_; have BK114 := n3_; have BK127 := n4_; have HB := n5_; clear n0_ n1_ n2_ n3_ n4_ n5_; (try clear hb); (try clear hkp); (try clear hy0); have hcz102_0 : w101.cell? ⟨gb127, 0, none⟩ = some (.int .i64 t121) := (blk_cell BK127.out 0).trans rfl; have hcz102_1 : w101.cell? ⟨gb127, 1, none⟩ = some (.int .i64 t122) := (blk_cell BK127.out 1).trans rfl; have hcz102_2 : w101.cell? ⟨gb127, 2, none⟩ = some (.slice Ao37 t123.length co37) := (blk_cell BK127.out 2).trans rfl; have hfz102_0 := blk_frozen BK127.out 0; have hfz102_1 := blk_frozen BK127.out 1; have hfz102_2 := blk_frozen BK127.out 2) | ((with_reducible refine gate_callee (f := 37) rfl ?_); refine goesL_ (some 71) rfl rfl Try.func37 (by kernel_rfl) rfl #[.agg #[.int .i64 t121, .int .i64 t122, .slice Ao37 t139.length co37], .int .i64 1] rfl (by (try simp only [List.map_toArray, List.map_cons, List.map_nil]); first | done | (rw [show t139.length = t123.length from (Kd.R_reads' HO_128002.out).1.symm] <;> rfl) | rfl | (simp only [List.length_drop, List.length_take]; rfl)) ?_; (with_reducible refine (laws_heldField.calls kj60 t121 t122 _ _ t139 1 t140 _ ?side1 ?side2 A88.out).mono ?_); (case side1 => repeat (first | exact (Kd.R_reads' HO_128002.out).2.2 | (with_reducible refine Kd.C_alloc ?_ _) | (with_reducible refine Kd.C_drewN ?_ _) | (with_reducible refine Kd.C_drew ?_))); (case side2 => rw [show t139.length = t123.length from (Kd.R_reads' HO_128002.out).1.symm]; exact (Kd.R_reads' HO_128002.out).2.1); rintro e w103 ⟨rfl, hb⟩; refine ⟨_, rfl, ?_⟩; have n0_ := aK (Kd.R_below (pR HO_115002.out) hb); have n1_ := aK (Kd.R_below (pR HO_128002.out) hb); replace BK101 := bB BK101 hb; replace BK114 := bB BK114 hb; replace BK127 := bB BK127 hb; replace HB := bS HB hb; clear HO_115002 HO_128002; have HO_115002 := n0_; have HO_128002 := n1_; clear n0_ n1_; (try clear hb); (try clear hb2); (try clear hk); (try clear hi); have hnb104 := NB101_114.out; have hnc104 := NB114_101.out; have hcz105_0 : w103.cell? ⟨gb101, 0, none⟩ = some (.int .i64 a0_0) := (blk_cell BK101.out 0).trans rfl; have hcz105_1 : w103.cell? ⟨gb101, 1, none⟩ = some (.int .i64 a0_1) := (blk_cell BK101.out 1).trans rfl; have hcz105_2 : w103.cell? ⟨gb101, 2, none⟩ = some (.slice A0_2 l0_2.length c0_2) := (blk_cell BK101.out 2).trans rfl; have hfz105_0 := blk_frozen BK101.out 0; have hfz105_1 := blk_frozen BK101.out 1; have hfz105_2 := blk_frozen BK101.out 2) | ((with_reducible refine gate_callee (f := 33) rfl ?_); refine goesL_ (some 79) rfl rfl Try.func33 (by kernel_rfl) rfl #[.agg #[.int .i64 a0_0, .int .i64 a0_1, .slice A0_2 l0_2.length c0_2]] rfl (by (try simp only [List.map_toArray, List.map_cons, List.map_nil]); first | done | rfl | (simp only [List.length_drop, List.length_take]; rfl)) ?_; (with_reducible refine (laws_toField.calls kj60 a0_0 a0_1 _ _ l0_2 t141 t142 t143 _ ?side1 ?side2 A95.out).mono ?_); (case side1 => repeat (first | exact (Kd.C_below HR0_2.out HB.out) | (with_reducible refine Kd.C_alloc ?_ _) | (with_reducible refine Kd.C_drewN ?_ _) | (with_reducible refine Kd.C_drew ?_))); (case side2 => exact HC0_2.out); rintro e w106 ⟨v144, rfl, ho0, hb⟩; refine ⟨_, rfl, ?_⟩; have n0_ := aK (Kd.R_elder' (pR HO_115002.out) (Kd.R_base ho0) hb); have n1_ := aK (Kd.R_elder' (pR HO_128002.out) (Kd.R_base ho0) hb); have HO145 := aK (Kd.R_lower (Kd.R_new' (Kd.R_new' ho0 (Kd.R_lt (pR HO_115002.out))) (Kd.R_lt (pR HO_128002.out))) (below_size (pS HB.out))); replace BK114 := bB BK114 hb; replace BK127 := bB BK127 hb; replace HB := bS HB hb; clear HO_115002 HO_128002; have HO_115002 := n0_; have HO_128002 := n1_; clear n0_ n1_; (try clear hb); (try clear hb2); (try clear hk); (try clear hi); (try clear ho0); obtain ⟨Ao107, co107, eo107⟩ := Kd.R_slice HO145.out; subst eo107) | ((with_reducible refine gate_callee (f := 34) rfl ?_); refine goesL_ (some 81) rfl rfl Try.func34 (by kernel_rfl) rfl #[.agg #[.int .i64 t141, .int .i64 t142, .slice Ao107 t143.length co107], .int .i64 a1] rfl (by (try simp only [List.map_toArray, List.map_cons, List.map_nil]); first | done | rfl | (simp only [List.length_drop, List.length_take]; rfl)) ?_; (with_reducible refine (impl_MedianFilter.calls kj60 t141 t142 _ _ t143 a1 t146 t147 t148 t151 _ ?side1 ?side2 A96.out).mono ?_); (case side1 => repeat (first | exact (Kd.R_reads' HO145.out).2.2 | (with_reducible refine Kd.C_alloc ?_ _) | (with_reducible refine Kd.C_drewN ?_ _) | (with_reducible refine Kd.C_drew ?_))); (case side2 => exact (Kd.R_reads' HO145.out).2.1); rintro e w108 ⟨v149, rfl, ho0, hb⟩; refine ⟨_, rfl, ?_⟩; have n0_ := aK (Kd.R_elder' (pR HO_115002.out) (Kd.R_base ho0) hb); have n1_ := aK (Kd.R_elder' (pR HO_128002.out) (Kd.R_base ho0) hb); have n2_ := aK (Kd.R_elder' (pR HO145.out) (Kd.R_base ho0) hb); have HO150 := aK (Kd.R_lower (Kd.R_new' (Kd.R_new' (Kd.R_new' ho0 (Kd.R_lt (pR HO_115002.out))) (Kd.R_lt (pR HO_128002.out))) (Kd.R_lt (pR HO145.out))) (below_size (pS HB.out))); replace BK114 := bB BK114 hb; replace BK127 := bB BK127 hb; replace HB := bS HB hb; clear HO_115002 HO_128002 HO145; have HO_115002 := n0_; have HO_128002 := n1_; have HO145 := n2_; clear n0_ n1_ n2_; (try clear hb); (try clear hb2); (try clear hk); (try clear hi); (try clear ho0)) | ((with_reducible refine gate_dst (N := 14) rfl ?_); refine box_event ?hg (N := 14) ?hd (cs := #[.int .i64 0, .int .i64 0, .slice none 0 0]) (t := 42) ?hr ?_; (case hd => rfl); (case hg => rfl); (case hr => first | (go_simp; done) | (go_simp; rfl)); intro gb152 hg w109 hbox hb; have n0_ := aK (Kd.R_below (pR HO_115002.out) hb); have n1_ := aK (Kd.R_below (pR HO_128002.out) hb); have n2_ := aK (Kd.R_below (pR HO145.out) hb); have n3_ := aK (Kd.R_below (pR HO150.out) hb); have BK152 := aK (hbox); have GW152 := aK (gE hg (pS HB.out)); have GE152 := aK (gE hg (pS HB.out)); have NB114_152 := aK (nL hg (pB BK114.out)); have NB152_114 := aK (nG hg (pB BK114.out)); have NB127_152 := aK (nL hg (pB BK127.out)); have NB152_127 := aK (nG hg (pB BK127.out)); replace BK114 := bB BK114 hb; replace BK127 := bB BK127 hb; replace HB := bS HB hb; clear HO_115002 HO_128002 HO145 HO150; have HO_115002 := n0_; have HO_128002 := n1_; have HO145 := n2_; have HO150 := n3_; clear n0_ n1_ n2_ n3_ hb hbox hg; have hnb110 := NB152_114.out; have hnc110 := NB114_152.out; have hnb111 := NB152_127.out; have hnc111 := NB127_152.out; have hcz112_0 : w109.cell? ⟨gb152, 0, none⟩ = some (.int .i64 0) := (blk_cell BK152.out 0).trans rfl; have hcz112_1 : w109.cell? ⟨gb152, 1, none⟩ = some (.int .i64 0) := (blk_cell BK152.out 1).trans rfl; have hcz112_2 : w109.cell? ⟨gb152, 2, none⟩ = some (.slice none 0 0) := (blk_cell BK152.out 2).trans rfl; have hfz112_0 := blk_frozen BK152.out 0; have hfz112_1 := blk_frozen BK152.out 1; have hfz112_2 := blk_frozen BK152.out 2; obtain ⟨Ao113, co113, eo113⟩ := Kd.R_slice HO150.out; subst eo113))
           (try simp only [Act.put, List.setIfInBounds_toArray, List.set_cons_zero, List.set_cons_succ])
           go_cut [92] (fun v92 wc => ∃ (kq : Nat) (x92_96 : Bool), v92 = .bool x92_96 ∧ Aside0 (laws_FnExactMedianFilter.j2 kq t138 x92_96 t121 t122 t139 = some r) ∧ Aside0 (kq ≤ kj60) ∧ Aside0 (Kd.R (Kd.int .i64) 3 wc w.heap.size (fun _ => True) (.slice Ao37 t123.length co37) t139) ∧ Aside0 (wc.heap[gb127]? = some (.cells #[.int .i64 t121, .int .i64 t122, (.slice Ao37 t123.length co37)] 42 (0, 0))) ∧ Aside0 (Below w.heap.size w wc))
           case first =>
            have H := HC97.out
            clear HC97
            replace H := Option.bind_eq_some_iff.mp H
            obtain ⟨t153, A1140, H⟩ := H
            replace H : (if t153 = true then (laws_FnExactMedianFilter.j2 kj60 t138 (t151 != t113) t121 t122 t139) else (laws_FnExactMedianFilter.j2 kj60 t138 true t121 t122 t139)) = some r := H
            have A114 := Aside0.mk A1140
            clear A1140
            by_cases c115 : t153 = true
            ·
             subst c115
             have H1 : (laws_FnExactMedianFilter.j2 kj60 t138 (t151 != t113) t121 t122 t139) = some r := by rw [if_pos rfl] at H; exact H
             clear H
             have H := H1
             clear H1
             have H' := Aside0.mk H
             clear H
             have hnb116 := NB152_114.out
             have hnc116 := NB114_152.out
             have hnb117 := NB152_127.out
             have hnc117 := NB127_152.out
             have hcz118_0 : w109.cell? ⟨gb152, 0, none⟩ = some (.int .i64 0) := (blk_cell BK152.out 0).trans rfl
             have hcz118_1 : w109.cell? ⟨gb152, 1, none⟩ = some (.int .i64 0) := (blk_cell BK152.out 1).trans rfl
             have hcz118_2 : w109.cell? ⟨gb152, 2, none⟩ = some (.slice none 0 0) := (blk_cell BK152.out 2).trans rfl
             have hfz118_0 := blk_frozen BK152.out 0
             have hfz118_1 := blk_frozen BK152.out 1
             have hfz118_2 := blk_frozen BK152.out 2
             have hnb119 := NB114_127.out
             have hnc119 := NB127_114.out
             have hcz120_0 : w109.cell? ⟨gb114, 0, none⟩ = some (.int .i64 t108) := (blk_cell BK114.out 0).trans rfl
             have hcz120_1 : w109.cell? ⟨gb114, 1, none⟩ = some (.int .i64 t109) := (blk_cell BK114.out 1).trans rfl
             have hcz120_2 : w109.cell? ⟨gb114, 2, none⟩ = some (.slice Ao23 t110.length co23) := (blk_cell BK114.out 2).trans rfl
             have hfz120_0 := blk_frozen BK114.out 0
             have hfz120_1 := blk_frozen BK114.out 1
             have hfz120_2 := blk_frozen BK114.out 2
             go_wp2_with (first | ((with_reducible refine gate_callee (f := 35) rfl ?_); refine goesL_ (some 86) rfl rfl Try.func35 (by kernel_rfl) rfl #[.agg #[.int .i64 t146, .int .i64 t147, .slice Ao113 t148.length co113], .agg #[.int .i64 t108, .int .i64 t109, .slice Ao23 t110.length co23]] rfl (by (try simp only [List.map_toArray, List.map_cons, List.map_nil]); first | done | rfl | (simp only [List.length_drop, List.length_take]; rfl)) ?_; (with_reducible refine (laws_eqField.calls kj60 t146 t147 _ _ t148 t108 t109 _ _ t110 true _ ?side1 ?side2 ?side3 ?side4 A114.out).mono ?_); (case side1 => refine (Kd.R_reads' (e := 3) (base := w.heap.size) (ok := fun k_ => (((True ∧ some k_ ≠ (.slice Ao23 t110.length co23 : Value).ownBlock) ∧ some k_ ≠ (.slice Ao37 t123.length co37 : Value).ownBlock) ∧ some k_ ≠ (.slice Ao107 t143.length co107 : Value).ownBlock)) (n := t148.length) (c := co113) ?_).2.2; exact (pR ((Kd.R_mono (Kd.R_far (p := ⟨gb152, 2, none⟩) (Kd.R_far (p := ⟨gb152, 1, none⟩) (Kd.R_far (p := ⟨gb152, 0, none⟩) (Kd.R_types HO150.out BK152.out (by decide)) (fun _ hk => hk.2) (.int .i64 t146)) (fun _ hk => hk.2) (.int .i64 t147)) (fun _ hk => hk.2) (.slice Ao113 t148.length co113)) (fun _ h_ => h_.1))))); (case side2 => exact (Kd.R_reads' HO150.out).2.1); (case side3 => refine (Kd.R_reads' (e := 3) (base := w.heap.size) (ok := fun k_ => ((some k_ ≠ (.slice Ao37 t123.length co37 : Value).ownBlock ∧ some k_ ≠ (.slice Ao107 t143.length co107 : Value).ownBlock) ∧ some k_ ≠ (.slice Ao113 t148.length co113 : Value).ownBlock)) (n := t110.length) (c := co23) ?_).2.2; exact (pR ((Kd.R_mono (Kd.R_far (p := ⟨gb152, 2, none⟩) (Kd.R_far (p := ⟨gb152, 1, none⟩) (Kd.R_far (p := ⟨gb152, 0, none⟩) (Kd.R_types HO_115002.out BK152.out (by decide)) (fun _ hk => hk.2) (.int .i64 t146)) (fun _ hk => hk.2) (.int .i64 t147)) (fun _ hk => hk.2) (.slice Ao113 t148.length co113)) (fun _ h_ => h_.1))))); (case side4 => exact (Kd.R_reads' HO_115002.out).2.1); rintro e w121 ⟨rfl, hb⟩; refine ⟨_, rfl, ?_⟩; have n0_ := aK (Kd.R_below (pR ((Kd.R_mono (Kd.R_far (p := ⟨gb152, 2, none⟩) (Kd.R_far (p := ⟨gb152, 1, none⟩) (Kd.R_far (p := ⟨gb152, 0, none⟩) (Kd.R_types HO_115002.out BK152.out (by decide)) (fun _ hk => hk.2) (.int .i64 t146)) (fun _ hk => hk.2) (.int .i64 t147)) (fun _ hk => hk.2) (.slice Ao113 t148.length co113)) (fun _ h_ => h_.1)))) hb); have n1_ := aK (Kd.R_below (pR ((Kd.R_mono (Kd.R_far (p := ⟨gb152, 2, none⟩) (Kd.R_far (p := ⟨gb152, 1, none⟩) (Kd.R_far (p := ⟨gb152, 0, none⟩) (Kd.R_types HO_128002.out BK152.out (by decide)) (fun _ hk => hk.2) (.int .i64 t146)) (fun _ hk => hk.2) (.int .i64 t147)) (fun _ hk => hk.2) (.slice Ao113 t148.length co113)) (fun _ h_ => h_.1)))) hb); have n2_ := aK (Kd.R_below (pR ((Kd.R_mono (Kd.R_far (p := ⟨gb152, 2, none⟩) (Kd.R_far (p := ⟨gb152, 1, none⟩) (Kd.R_far (p := ⟨gb152, 0, none⟩) (Kd.R_types HO145.out BK152.out (by decide)) (fun _ hk => hk.2) (.int .i64 t146)) (fun _ hk => hk.2) (.int .i64 t147)) (fun _ hk => hk.2) (.slice Ao113 t148.length co113)) (fun _ h_ => h_.1)))) hb); have n3_ := aK (Kd.R_below (pR ((Kd.R_mono (Kd.R_far (p := ⟨gb152, 2, none⟩) (Kd.R_far (p := ⟨gb152, 1, none⟩) (Kd.R_far (p := ⟨gb152, 0, none⟩) (Kd.R_types HO150.out BK152.out (by decide)) (fun _ hk => hk.2) (.int .i64 t146)) (fun _ hk => hk.2) (.int .i64 t147)) (fun _ hk => hk.2) (.slice Ao113 t148.length co113)) (fun _ h_ => h_.1)))) hb); have n4_ := aK (blk_below (g := gb127) (o := .cells #[.int .i64 t121, .int .i64 t122, .slice Ao37 t123.length co37] 42 (0, 0)) (by (with_reducible repeat (first | refine blk_drewN ?_ _ | refine blk_drew ?_ | refine blk_alloc ?_ _)); refine blk_far ?_ NB127_152.out _; (with_reducible repeat (first | refine blk_drewN ?_ _ | refine blk_drew ?_ | refine blk_alloc ?_ _)); refine blk_far ?_ NB127_152.out _; (with_reducible repeat (first | refine blk_drewN ?_ _ | refine blk_drew ?_ | refine blk_alloc ?_ _)); refine blk_far ?_ NB127_152.out _; (with_reducible repeat (first | refine blk_drewN ?_ _ | refine blk_drew ?_ | refine blk_alloc ?_ _)); exact BK127.out) hb); have n5_ := aK (blk_below (g := gb152) (o := .cells #[.int .i64 t146, .int .i64 t147, .slice Ao113 t148.length co113] 42 (0, 0)) (by (with_reducible repeat (first | refine blk_drewN ?_ _ | refine blk_drew ?_ | refine blk_alloc ?_ _)); refine blk_put (cs := #[.int .i64 t146, .int .i64 t147, .slice none 0 0]) ?_ 2 _ rfl; (with_reducible repeat (first | refine blk_drewN ?_ _ | refine blk_drew ?_ | refine blk_alloc ?_ _)); refine blk_put (cs := #[.int .i64 t146, .int .i64 0, .slice none 0 0]) ?_ 1 _ rfl; (with_reducible repeat (first | refine blk_drewN ?_ _ | refine blk_drew ?_ | refine blk_alloc ?_ _)); refine blk_put (cs := #[.int .i64 0, .int .i64 0, .slice none 0 0]) ?_ 0 _ rfl; (with_reducible repeat (first | refine blk_drewN ?_ _ | refine blk_drew ?_ | refine blk_alloc ?_ _)); exact BK152.out) hb); replace HB := bS HB hb; clear HO_115002 HO_128002 HO145 HO150 BK127 BK152; have HO_115002 := n0_; have HO_128002 := n1_; have HO145 := n2_; have HO150 := n3_; have BK127 := n4_; have BK152 := n5_; clear n0_ n1_ n2_ n3_ n4_ n5_; (try clear hb); (try clear hb2); (try clear hk); (try clear hi)))
             go_meet
             case rel => exact ⟨_, ((t151 != t113)), (by first | rfl | (simp; done) | (simp [*]; done)), H', ⟨by have := HJ11.out; have := HJ60.out; first | omega | exact Nat.le_refl _⟩, ⟨by (with_reducible repeat (first | apply Kd.R_alloc | apply Kd.R_drewN | apply Kd.R_drew)); exact Kd.R_mono HO_128002.out (fun _ hk => trivial)⟩, ⟨by (with_reducible repeat (first | refine blk_drewN ?_ _ | refine blk_drew ?_ | refine blk_alloc ?_ _)); exact BK127.out⟩, ⟨by repeat (first | (with_reducible first | exact HB.out | apply below_alloc | apply pw_below_drewN | apply below_drew1 | refine below_set ?_ GE127.out) | exact HB.out)⟩⟩
            ·
             replace c115 := Bool.eq_false_iff.mpr c115
             subst c115
             have H1 : (laws_FnExactMedianFilter.j2 kj60 t138 true t121 t122 t139) = some r := by rw [if_neg (show ¬ (false = true) by decide)] at H; exact H
             clear H
             have H := H1
             clear H1
             have H' := Aside0.mk H
             clear H
             have hnb122 := NB152_114.out
             have hnc122 := NB114_152.out
             have hnb123 := NB152_127.out
             have hnc123 := NB127_152.out
             have hcz124_0 : w109.cell? ⟨gb152, 0, none⟩ = some (.int .i64 0) := (blk_cell BK152.out 0).trans rfl
             have hcz124_1 : w109.cell? ⟨gb152, 1, none⟩ = some (.int .i64 0) := (blk_cell BK152.out 1).trans rfl
             have hcz124_2 : w109.cell? ⟨gb152, 2, none⟩ = some (.slice none 0 0) := (blk_cell BK152.out 2).trans rfl
             have hfz124_0 := blk_frozen BK152.out 0
             have hfz124_1 := blk_frozen BK152.out 1
             have hfz124_2 := blk_frozen BK152.out 2
             have hnb125 := NB114_127.out
             have hnc125 := NB127_114.out
             have hcz126_0 : w109.cell? ⟨gb114, 0, none⟩ = some (.int .i64 t108) := (blk_cell BK114.out 0).trans rfl
             have hcz126_1 : w109.cell? ⟨gb114, 1, none⟩ = some (.int .i64 t109) := (blk_cell BK114.out 1).trans rfl
             have hcz126_2 : w109.cell? ⟨gb114, 2, none⟩ = some (.slice Ao23 t110.length co23) := (blk_cell BK114.out 2).trans rfl
             have hfz126_0 := blk_frozen BK114.out 0
             have hfz126_1 := blk_frozen BK114.out 1
             have hfz126_2 := blk_frozen BK114.out 2
             go_wp2_with (first | ((with_reducible refine gate_callee (f := 35) rfl ?_); refine goesL_ (some 86) rfl rfl Try.func35 (by kernel_rfl) rfl #[.agg #[.int .i64 t146, .int .i64 t147, .slice Ao113 t148.length co113], .agg #[.int .i64 t108, .int .i64 t109, .slice Ao23 t110.length co23]] rfl (by (try simp only [List.map_toArray, List.map_cons, List.map_nil]); first | done | rfl | (simp only [List.length_drop, List.length_take]; rfl)) ?_; (with_reducible refine (laws_eqField.calls kj60 t146 t147 _ _ t148 t108 t109 _ _ t110 false _ ?side1 ?side2 ?side3 ?side4 A114.out).mono ?_); (case side1 => refine (Kd.R_reads' (e := 3) (base := w.heap.size) (ok := fun k_ => (((True ∧ some k_ ≠ (.slice Ao23 t110.length co23 : Value).ownBlock) ∧ some k_ ≠ (.slice Ao37 t123.length co37 : Value).ownBlock) ∧ some k_ ≠ (.slice Ao107 t143.length co107 : Value).ownBlock)) (n := t148.length) (c := co113) ?_).2.2; exact (pR ((Kd.R_mono (Kd.R_far (p := ⟨gb152, 2, none⟩) (Kd.R_far (p := ⟨gb152, 1, none⟩) (Kd.R_far (p := ⟨gb152, 0, none⟩) (Kd.R_types HO150.out BK152.out (by decide)) (fun _ hk => hk.2) (.int .i64 t146)) (fun _ hk => hk.2) (.int .i64 t147)) (fun _ hk => hk.2) (.slice Ao113 t148.length co113)) (fun _ h_ => h_.1))))); (case side2 => exact (Kd.R_reads' HO150.out).2.1); (case side3 => refine (Kd.R_reads' (e := 3) (base := w.heap.size) (ok := fun k_ => ((some k_ ≠ (.slice Ao37 t123.length co37 : Value).ownBlock ∧ some k_ ≠ (.slice Ao107 t143.length co107 : Value).ownBlock) ∧ some k_ ≠ (.slice Ao113 t148.length co113 : Value).ownBlock)) (n := t110.length) (c := co23) ?_).2.2; exact (pR ((Kd.R_mono (Kd.R_far (p := ⟨gb152, 2, none⟩) (Kd.R_far (p := ⟨gb152, 1, none⟩) (Kd.R_far (p := ⟨gb152, 0, none⟩) (Kd.R_types HO_115002.out BK152.out (by decide)) (fun _ hk => hk.2) (.int .i64 t146)) (fun _ hk => hk.2) (.int .i64 t147)) (fun _ hk => hk.2) (.slice Ao113 t148.length co113)) (fun _ h_ => h_.1))))); (case side4 => exact (Kd.R_reads' HO_115002.out).2.1); rintro e w127 ⟨rfl, hb⟩; refine ⟨_, rfl, ?_⟩; have n0_ := aK (Kd.R_below (pR ((Kd.R_mono (Kd.R_far (p := ⟨gb152, 2, none⟩) (Kd.R_far (p := ⟨gb152, 1, none⟩) (Kd.R_far (p := ⟨gb152, 0, none⟩) (Kd.R_types HO_115002.out BK152.out (by decide)) (fun _ hk => hk.2) (.int .i64 t146)) (fun _ hk => hk.2) (.int .i64 t147)) (fun _ hk => hk.2) (.slice Ao113 t148.length co113)) (fun _ h_ => h_.1)))) hb); have n1_ := aK (Kd.R_below (pR ((Kd.R_mono (Kd.R_far (p := ⟨gb152, 2, none⟩) (Kd.R_far (p := ⟨gb152, 1, none⟩) (Kd.R_far (p := ⟨gb152, 0, none⟩) (Kd.R_types HO_128002.out BK152.out (by decide)) (fun _ hk => hk.2) (.int .i64 t146)) (fun _ hk => hk.2) (.int .i64 t147)) (fun _ hk => hk.2) (.slice Ao113 t148.length co113)) (fun _ h_ => h_.1)))) hb); have n2_ := aK (Kd.R_below (pR ((Kd.R_mono (Kd.R_far (p := ⟨gb152, 2, none⟩) (Kd.R_far (p := ⟨gb152, 1, none⟩) (Kd.R_far (p := ⟨gb152, 0, none⟩) (Kd.R_types HO145.out BK152.out (by decide)) (fun _ hk => hk.2) (.int .i64 t146)) (fun _ hk => hk.2) (.int .i64 t147)) (fun _ hk => hk.2) (.slice Ao113 t148.length co113)) (fun _ h_ => h_.1)))) hb); have n3_ := aK (Kd.R_below (pR ((Kd.R_mono (Kd.R_far (p := ⟨gb152, 2, none⟩) (Kd.R_far (p := ⟨gb152, 1, none⟩) (Kd.R_far (p := ⟨gb152, 0, none⟩) (Kd.R_types HO150.out BK152.out (by decide)) (fun _ hk => hk.2) (.int .i64 t146)) (fun _ hk => hk.2) (.int .i64 t147)) (fun _ hk => hk.2) (.slice Ao113 t148.length co113)) (fun _ h_ => h_.1)))) hb); have n4_ := aK (blk_below (g := gb127) (o := .cells #[.int .i64 t121, .int .i64 t122, .slice Ao37 t123.length co37] 42 (0, 0)) (by (with_reducible repeat (first | refine blk_drewN ?_ _ | refine blk_drew ?_ | refine blk_alloc ?_ _)); refine blk_far ?_ NB127_152.out _; (with_reducible repeat (first | refine blk_drewN ?_ _ | refine blk_drew ?_ | refine blk_alloc ?_ _)); refine blk_far ?_ NB127_152.out _; (with_reducible repeat (first | refine blk_drewN ?_ _ | refine blk_drew ?_ | refine blk_alloc ?_ _)); refine blk_far ?_ NB127_152.out _; (with_reducible repeat (first | refine blk_drewN ?_ _ | refine blk_drew ?_ | refine blk_alloc ?_ _)); exact BK127.out) hb); have n5_ := aK (blk_below (g := gb152) (o := .cells #[.int .i64 t146, .int .i64 t147, .slice Ao113 t148.length co113] 42 (0, 0)) (by (with_reducible repeat (first | refine blk_drewN ?_ _ | refine blk_drew ?_ | refine blk_alloc ?_ _)); refine blk_put (cs := #[.int .i64 t146, .int .i64 t147, .slice none 0 0]) ?_ 2 _ rfl; (with_reducible repeat (first | refine blk_drewN ?_ _ | refine blk_drew ?_ | refine blk_alloc ?_ _)); refine blk_put (cs := #[.int .i64 t146, .int .i64 0, .slice none 0 0]) ?_ 1 _ rfl; (with_reducible repeat (first | refine blk_drewN ?_ _ | refine blk_drew ?_ | refine blk_alloc ?_ _)); refine blk_put (cs := #[.int .i64 0, .int .i64 0, .slice none 0 0]) ?_ 0 _ rfl; (with_reducible repeat (first | refine blk_drewN ?_ _ | refine blk_drew ?_ | refine blk_alloc ?_ _)); exact BK152.out) hb); replace HB := bS HB hb; clear HO_115002 HO_128002 HO145 HO150 BK127 BK152; have HO_115002 := n0_; have HO_128002 := n1_; have HO145 := n2_; have HO150 := n3_; have BK127 := n4_; have BK152 := n5_; clear n0_ n1_ n2_ n3_ n4_ n5_; (try clear hb); (try clear hb2); (try clear hk); (try clear hi)))
             go_meet
             case rel => exact ⟨_, (true), (by first | rfl | (simp; done) | (simp [*]; done)), H', ⟨by have := HJ11.out; have := HJ60.out; first | omega | exact Nat.le_refl _⟩, ⟨by (with_reducible repeat (first | apply Kd.R_alloc | apply Kd.R_drewN | apply Kd.R_drew)); exact Kd.R_mono HO_128002.out (fun _ hk => trivial)⟩, ⟨by (with_reducible repeat (first | refine blk_drewN ?_ _ | refine blk_drew ?_ | refine blk_alloc ?_ _)); exact BK127.out⟩, ⟨by repeat (first | (with_reducible first | exact HB.out | apply below_alloc | apply pw_below_drewN | apply below_drew1 | refine below_set ?_ GE127.out) | exact HB.out)⟩⟩
           case rest =>
            clear HC97
            try clear c1
            try clear c2
            try clear p2
            try clear c3
            try clear c4
            try clear c4b0
            try clear c5
            try clear c6
            try clear c7
            try clear c8
            try clear c9
            try clear c10
            try clear c11
            try clear c12
            try clear c21
            try clear c27
            try clear c28
            try clear c31
            try clear c32
            try clear c33
            try clear c34
            try clear c35
            try clear c36
            try clear c37
            try clear c39
            try clear c40
            try clear c41
            try clear c42
            try clear c44
            try clear c45
            try clear c48
            try clear c49
            try clear c50
            try clear c52
            try clear c53
            try clear c56
            try clear c59
            try clear c66
            try clear c67
            try clear c68
            try clear c71
            try clear c71b0
            try clear c73
            try clear c74
            try clear c75
            try clear c77
            try clear c80
            try clear c81
            try clear c83
            try clear c86
            try clear c89
            try clear c89b0
            try clear c94
            try clear c94b0
            try clear c94b1
            try clear c98
            try clear c99
            try clear c104
            try clear c110
            try clear c111
            try clear c115
            try clear c116
            try clear c117
            try clear c119
            try clear c122
            try clear c123
            try clear c125
            try clear hcz100_0
            try clear hcz100_1
            try clear hcz100_2
            try clear hcz102_0
            try clear hcz102_1
            try clear hcz102_2
            try clear hcz105_0
            try clear hcz105_1
            try clear hcz105_2
            try clear hcz112_0
            try clear hcz112_1
            try clear hcz112_2
            try clear hcz118_0
            try clear hcz118_1
            try clear hcz118_2
            try clear hcz120_0
            try clear hcz120_1
            try clear hcz120_2
            try clear hcz124_0
            try clear hcz124_1
            try clear hcz124_2
            try clear hcz126_0
            try clear hcz126_1
            try clear hcz126_2
            try clear hcz14_0
            try clear hcz14_1
            try clear hcz14_2
            try clear hcz16_0
            try clear hcz16_1
            try clear hcz16_2
            try clear hcz22_0
            try clear hcz22_1
            try clear hcz22_2
            try clear hcz24_0
            try clear hcz24_1
            try clear hcz24_2
            try clear hcz29_0
            try clear hcz29_1
            try clear hcz29_2
            try clear hcz36_0
            try clear hcz36_1
            try clear hcz36_2
            try clear hcz43_0
            try clear hcz43_1
            try clear hcz43_2
            try clear hcz46_0
            try clear hcz46_1
            try clear hcz46_2
            try clear hcz51_0
            try clear hcz51_1
            try clear hcz51_2
            try clear hcz54_0
            try clear hcz54_1
            try clear hcz54_2
            try clear hcz69_0
            try clear hcz69_1
            try clear hcz69_2
            try clear hcz6_0
            try clear hcz6_1
            try clear hcz6_2
            try clear hcz76_0
            try clear hcz76_1
            try clear hcz76_2
            try clear hcz78_0
            try clear hcz78_1
            try clear hcz78_2
            try clear hcz82_0
            try clear hcz82_1
            try clear hcz82_2
            try clear hcz84_0
            try clear hcz84_1
            try clear hcz84_2
            try clear hcz90_0
            try clear hcz90_1
            try clear hcz90_2
            try clear hcz92_0
            try clear hcz92_1
            try clear hcz92_2
            try clear hfz100_0
            try clear hfz100_1
            try clear hfz100_2
            try clear hfz102_0
            try clear hfz102_1
            try clear hfz102_2
            try clear hfz105_0
            try clear hfz105_1
            try clear hfz105_2
            try clear hfz112_0
            try clear hfz112_1
            try clear hfz112_2
            try clear hfz118_0
            try clear hfz118_1
            try clear hfz118_2
            try clear hfz120_0
            try clear hfz120_1
            try clear hfz120_2
            try clear hfz124_0
            try clear hfz124_1
            try clear hfz124_2
            try clear hfz126_0
            try clear hfz126_1
            try clear hfz126_2
            try clear hfz14_0
            try clear hfz14_1
            try clear hfz14_2
            try clear hfz16_0
            try clear hfz16_1
            try clear hfz16_2
            try clear hfz22_0
            try clear hfz22_1
            try clear hfz22_2
            try clear hfz24_0
            try clear hfz24_1
            try clear hfz24_2
            try clear hfz29_0
            try clear hfz29_1
            try clear hfz29_2
            try clear hfz36_0
            try clear hfz36_1
            try clear hfz36_2
            try clear hfz43_0
            try clear hfz43_1
            try clear hfz43_2
            try clear hfz46_0
            try clear hfz46_1
            try clear hfz46_2
            try clear hfz51_0
            try clear hfz51_1
            try clear hfz51_2
            try clear hfz54_0
            try clear hfz54_1
            try clear hfz54_2
            try clear hfz69_0
            try clear hfz69_1
            try clear hfz69_2
            try clear hfz6_0
            try clear hfz6_1
            try clear hfz6_2
            try clear hfz76_0
            try clear hfz76_1
            try clear hfz76_2
            try clear hfz78_0
            try clear hfz78_1
            try clear hfz78_2
            try clear hfz82_0
            try clear hfz82_1
            try clear hfz82_2
            try clear hfz84_0
            try clear hfz84_1
            try clear hfz84_2
            try clear hfz90_0
            try clear hfz90_1
            try clear hfz90_2
            try clear hfz92_0
            try clear hfz92_1
            try clear hfz92_2
            try clear p2
            obtain ⟨kq, x92_96, rfl, HA, HJ96, HO_128002, BK127, HB⟩ := hcut
            have hl128002_96 := (Kd.R_reads' HO_128002.out).1
            rw [hl128002_96] at HO_128002
            (try simp only [hl128002_96])
            (try simp only [hl128002_96] at BK127)
            cases kq with
            | zero => exact absurd HA.out (by simp [laws_FnExactMedianFilter.j2])
            | succ kj96 =>
             have H := HA.out
             clear HA
             simp only [laws_FnExactMedianFilter.j2] at H
             by_cases c128 : x92_96 = true
             ·
              subst c128
              have H1 : (some false) = some r := by rw [if_pos rfl] at H; exact H
              clear H
              have H := H1
              clear H1
              obtain rfl := Option.some.inj H
              go_wp2
              go_ret
              exact ⟨by first | rfl | (simp [errW_none, errW_some] <;> rfl) | (simp [*, errW_none, errW_some] <;> rfl), by repeat (first | (with_reducible first | exact HB.out | apply below_alloc | apply pw_below_drewN | apply below_drew1) | exact HB.out)⟩
             ·
              replace c128 := Bool.eq_false_iff.mpr c128
              subst c128
              have H1 : ((laws_heldField.f kj96 t121 t122 t139 1).bind fun t154 => (if t154 < 0 then (some false) else (if t154 = t138 then (some true) else (some false)))) = some r := by rw [if_neg (show ¬ (false = true) by decide)] at H; exact H
              clear H
              have H := H1
              clear H1
              replace H := Option.bind_eq_some_iff.mp H
              obtain ⟨t154, A1290, H⟩ := H
              replace H : (if t154 < 0 then (some false) else (if t154 = t138 then (some true) else (some false))) = some r := H
              have A129 := Aside0.mk A1290
              clear A1290
              by_cases c130 : t154 < 0
              ·
               rw [if_pos c130] at H
               have c130b0 : decide (t154 < 0) = true := decide_eq_true c130
               clear c130
               obtain rfl := Option.some.inj H
               have hcz131_0 : wc.cell? ⟨gb127, 0, none⟩ = some (.int .i64 t121) := (blk_cell BK127.out 0).trans rfl
               have hcz131_1 : wc.cell? ⟨gb127, 1, none⟩ = some (.int .i64 t122) := (blk_cell BK127.out 1).trans rfl
               have hcz131_2 : wc.cell? ⟨gb127, 2, none⟩ = some (.slice Ao37 t139.length co37) := (blk_cell BK127.out 2).trans rfl
               have hfz131_0 := blk_frozen BK127.out 0
               have hfz131_1 := blk_frozen BK127.out 1
               have hfz131_2 := blk_frozen BK127.out 2
               go_wp2_with (first | ((with_reducible refine gate_callee (f := 37) rfl ?_); refine goesL_ (some 95) rfl rfl Try.func37 (by kernel_rfl) rfl #[.agg #[.int .i64 t121, .int .i64 t122, .slice Ao37 t139.length co37], .int .i64 1] rfl (by (try simp only [List.map_toArray, List.map_cons, List.map_nil]); first | done | rfl | (simp only [List.length_drop, List.length_take]; rfl)) ?_; (with_reducible refine (laws_heldField.calls kj96 t121 t122 _ _ t139 1 t154 _ ?side1 ?side2 A129.out).mono ?_); (case side1 => repeat (first | exact (Kd.R_reads' HO_128002.out).2.2 | (with_reducible refine Kd.C_alloc ?_ _) | (with_reducible refine Kd.C_drewN ?_ _) | (with_reducible refine Kd.C_drew ?_))); (case side2 => exact (Kd.R_reads' HO_128002.out).2.1); rintro e w132 ⟨rfl, hb⟩; refine ⟨_, rfl, ?_⟩; have n0_ := aK (Kd.R_below (pR HO_128002.out) hb); replace HB := bS HB hb; clear HO_128002; have HO_128002 := n0_; clear n0_; (try clear hb); (try clear hb2); (try clear hk); (try clear hi)))
               go_ret
               exact ⟨by first | rfl | (simp [errW_none, errW_some] <;> rfl) | (simp [*, errW_none, errW_some] <;> rfl), by repeat (first | (with_reducible first | exact HB.out | apply below_alloc | apply pw_below_drewN | apply below_drew1) | exact HB.out)⟩
              ·
               rw [if_neg c130] at H
               have c130b0 : decide (t154 < 0) = false := decide_eq_false c130
               clear c130
               by_cases c133 : t154 = t138
               ·
                rw [if_pos c133] at H
                have c133b0 : (t154 == t138) = true := beq_iff_eq.mpr c133
                have c133b1 : (t154 != t138) = false := bne_eq_false_iff_eq.mpr c133
                clear c133
                obtain rfl := Option.some.inj H
                have hcz134_0 : wc.cell? ⟨gb127, 0, none⟩ = some (.int .i64 t121) := (blk_cell BK127.out 0).trans rfl
                have hcz134_1 : wc.cell? ⟨gb127, 1, none⟩ = some (.int .i64 t122) := (blk_cell BK127.out 1).trans rfl
                have hcz134_2 : wc.cell? ⟨gb127, 2, none⟩ = some (.slice Ao37 t139.length co37) := (blk_cell BK127.out 2).trans rfl
                have hfz134_0 := blk_frozen BK127.out 0
                have hfz134_1 := blk_frozen BK127.out 1
                have hfz134_2 := blk_frozen BK127.out 2
                go_wp2_with (first | ((with_reducible refine gate_callee (f := 37) rfl ?_); refine goesL_ (some 95) rfl rfl Try.func37 (by kernel_rfl) rfl #[.agg #[.int .i64 t121, .int .i64 t122, .slice Ao37 t139.length co37], .int .i64 1] rfl (by (try simp only [List.map_toArray, List.map_cons, List.map_nil]); first | done | rfl | (simp only [List.length_drop, List.length_take]; rfl)) ?_; (with_reducible refine (laws_heldField.calls kj96 t121 t122 _ _ t139 1 t154 _ ?side1 ?side2 A129.out).mono ?_); (case side1 => repeat (first | exact (Kd.R_reads' HO_128002.out).2.2 | (with_reducible refine Kd.C_alloc ?_ _) | (with_reducible refine Kd.C_drewN ?_ _) | (with_reducible refine Kd.C_drew ?_))); (case side2 => exact (Kd.R_reads' HO_128002.out).2.1); rintro e w135 ⟨rfl, hb⟩; refine ⟨_, rfl, ?_⟩; have n0_ := aK (Kd.R_below (pR HO_128002.out) hb); replace HB := bS HB hb; clear HO_128002; have HO_128002 := n0_; clear n0_; (try clear hb); (try clear hb2); (try clear hk); (try clear hi)))
                go_ret
                exact ⟨by first | rfl | (simp [errW_none, errW_some] <;> rfl) | (simp [*, errW_none, errW_some] <;> rfl), by repeat (first | (with_reducible first | exact HB.out | apply below_alloc | apply pw_below_drewN | apply below_drew1) | exact HB.out)⟩
               ·
                rw [if_neg c133] at H
                have c133b0 : (t154 == t138) = false := beq_eq_false_iff_ne.mpr c133
                have c133b1 : (t154 != t138) = true := bne_iff_ne.mpr c133
                obtain rfl := Option.some.inj H
                have hcz136_0 : wc.cell? ⟨gb127, 0, none⟩ = some (.int .i64 t121) := (blk_cell BK127.out 0).trans rfl
                have hcz136_1 : wc.cell? ⟨gb127, 1, none⟩ = some (.int .i64 t122) := (blk_cell BK127.out 1).trans rfl
                have hcz136_2 : wc.cell? ⟨gb127, 2, none⟩ = some (.slice Ao37 t139.length co37) := (blk_cell BK127.out 2).trans rfl
                have hfz136_0 := blk_frozen BK127.out 0
                have hfz136_1 := blk_frozen BK127.out 1
                have hfz136_2 := blk_frozen BK127.out 2
                go_wp2_with (first | ((with_reducible refine gate_callee (f := 37) rfl ?_); refine goesL_ (some 95) rfl rfl Try.func37 (by kernel_rfl) rfl #[.agg #[.int .i64 t121, .int .i64 t122, .slice Ao37 t139.length co37], .int .i64 1] rfl (by (try simp only [List.map_toArray, List.map_cons, List.map_nil]); first | done | rfl | (simp only [List.length_drop, List.length_take]; rfl)) ?_; (with_reducible refine (laws_heldField.calls kj96 t121 t122 _ _ t139 1 t154 _ ?side1 ?side2 A129.out).mono ?_); (case side1 => repeat (first | exact (Kd.R_reads' HO_128002.out).2.2 | (with_reducible refine Kd.C_alloc ?_ _) | (with_reducible refine Kd.C_drewN ?_ _) | (with_reducible refine Kd.C_drew ?_))); (case side2 => exact (Kd.R_reads' HO_128002.out).2.1); rintro e w137 ⟨rfl, hb⟩; refine ⟨_, rfl, ?_⟩; have n0_ := aK (Kd.R_below (pR HO_128002.out) hb); replace HB := bS HB hb; clear HO_128002; have HO_128002 := n0_; clear n0_; (try clear hb); (try clear hb2); (try clear hk); (try clear hi)))
                go_ret
                exact ⟨by first | rfl | (simp [errW_none, errW_some] <;> rfl) | (simp [*, errW_none, errW_some] <;> rfl), by repeat (first | (with_reducible first | exact HB.out | apply below_alloc | apply pw_below_drewN | apply below_drew1) | exact HB.out)⟩
          ·
           rw [if_neg c94] at H
           have c94b0 : (t140 == t138) = false := beq_eq_false_iff_ne.mpr c94
           have c94b1 : (t140 != t138) = true := bne_iff_ne.mpr c94
           obtain rfl := Option.some.inj H
           have hcz138_0 : wc.cell? ⟨gb127, 0, none⟩ = some (.int .i64 t121) := (blk_cell BK127.out 0).trans rfl
           have hcz138_1 : wc.cell? ⟨gb127, 1, none⟩ = some (.int .i64 t122) := (blk_cell BK127.out 1).trans rfl
           have hcz138_2 : wc.cell? ⟨gb127, 2, none⟩ = some (.slice Ao37 t123.length co37) := (blk_cell BK127.out 2).trans rfl
           have hfz138_0 := blk_frozen BK127.out 0
           have hfz138_1 := blk_frozen BK127.out 1
           have hfz138_2 := blk_frozen BK127.out 2
           go_wp2_with (first | ((with_reducible refine gate_callee (f := 36) rfl ?_); refine goesL_ (some 68) rfl rfl Try.func36 (by kernel_rfl) rfl #[.agg #[.int .i64 t121, .int .i64 t122, .slice Ao37 t123.length co37], .int .i64 1] rfl (by (try simp only [List.map_toArray, List.map_cons, List.map_nil]); first | done | rfl | (simp only [List.length_drop, List.length_take]; rfl)) ?_; (with_reducible refine (laws_markField.calls kj60 t121 t122 (fun k_ => some k_ = (.slice Ao37 t123.length co37 : Value).ownBlock) (.slice Ao37 t123.length co37) t123 1 t138 t139 w _ ?side1 ?side2 A87.out).mono ?_); (case side1 => repeat (first | (with_reducible first | exact HB.out | apply below_alloc | apply pw_below_drewN | apply below_drew1 | refine below_set ?_ GE127.out) | exact HB.out)); (case side2 => exact Kd.R_tight rfl HO_128002.out); rintro e w139 ⟨rfl, hy0, hb, hkp⟩; refine ⟨_, rfl, ?_⟩; have n0_ := aK (Kd.R_mono (ok' := fun k_ => some k_ ≠ (.slice Ao37 t123.length co37 : Value).ownBlock) (Kd.R_keptB (HO_115002.out) hkp (fun k_ hk_ hs_ => (hk_) hs_)) (fun k_ hk_ => hk_.1)); have n1_ := aK (Kd.R_reok rfl hy0 (fun k_ e_ => HO_128002.out.1 k_ e_)); have n2_ := aK (blk_kept (pB BK127.out) hkp (fun hs_ => (fun e_ => (Kd.R_ne HO_128002.out BK127.out (by decide)) e_) hs_)); have n3_ := aK (hb); clear HO_115002 HO_128002 BK127 HB; have HO_115002 := n0_; have HO_128002 := n1_; have BK127 := n2_; have HB := n3_; clear n0_ n1_ n2_ n3_; (try clear hb); (try clear hkp); (try clear hy0); have hcz140_0 : w139.cell? ⟨gb127, 0, none⟩ = some (.int .i64 t121) := (blk_cell BK127.out 0).trans rfl; have hcz140_1 : w139.cell? ⟨gb127, 1, none⟩ = some (.int .i64 t122) := (blk_cell BK127.out 1).trans rfl; have hcz140_2 : w139.cell? ⟨gb127, 2, none⟩ = some (.slice Ao37 t123.length co37) := (blk_cell BK127.out 2).trans rfl; have hfz140_0 := blk_frozen BK127.out 0; have hfz140_1 := blk_frozen BK127.out 1; have hfz140_2 := blk_frozen BK127.out 2) | ((with_reducible refine gate_callee (f := 37) rfl ?_); refine goesL_ (some 71) rfl rfl Try.func37 (by kernel_rfl) rfl #[.agg #[.int .i64 t121, .int .i64 t122, .slice Ao37 t139.length co37], .int .i64 1] rfl (by (try simp only [List.map_toArray, List.map_cons, List.map_nil]); first | done | (rw [show t139.length = t123.length from (Kd.R_reads' HO_128002.out).1.symm] <;> rfl) | rfl | (simp only [List.length_drop, List.length_take]; rfl)) ?_; (with_reducible refine (laws_heldField.calls kj60 t121 t122 _ _ t139 1 t140 _ ?side1 ?side2 A88.out).mono ?_); (case side1 => repeat (first | exact (Kd.R_reads' HO_128002.out).2.2 | (with_reducible refine Kd.C_alloc ?_ _) | (with_reducible refine Kd.C_drewN ?_ _) | (with_reducible refine Kd.C_drew ?_))); (case side2 => rw [show t139.length = t123.length from (Kd.R_reads' HO_128002.out).1.symm]; exact (Kd.R_reads' HO_128002.out).2.1); rintro e w141 ⟨rfl, hb⟩; refine ⟨_, rfl, ?_⟩; have n0_ := aK (Kd.R_below (pR HO_115002.out) hb); have n1_ := aK (Kd.R_below (pR HO_128002.out) hb); replace HB := bS HB hb; clear HO_115002 HO_128002; have HO_115002 := n0_; have HO_128002 := n1_; clear n0_ n1_; (try clear hb); (try clear hb2); (try clear hk); (try clear hi)))
           go_ret
           exact ⟨by first | rfl | (simp [errW_none, errW_some] <;> rfl) | (simp [*, errW_none, errW_some] <;> rfl), by repeat (first | (with_reducible first | exact HB.out | apply below_alloc | apply pw_below_drewN | apply below_drew1) | exact HB.out)⟩
     ·
      replace c59 := Bool.eq_false_iff.mpr c59
      subst c59
      have H1 : (some false) = some r := by rw [if_neg (show ¬ (false = true) by decide)] at H; exact H
      clear H
      have H := H1
      clear H1
      obtain rfl := Option.some.inj H
      try go_wp2
      have n0_ := aK (Kd.R_drew HO_115002.out)
      have n1_ := aK (Kd.R_drew HO_121002.out)
      have n2_ := aK (Kd.R_drew HO_128002.out)
      have n3_ := aK (blk_drew BK101.out)
      have n4_ := aK (blk_drew BK114.out)
      have n5_ := aK (blk_drew BK120.out)
      have n6_ := aK (blk_drew BK127.out)
      have n7_ := aK (below_drew1 HB.out)
      clear HO_115002 HO_121002 HO_128002 BK101 BK114 BK120 BK127 HB
      have HO_115002 := n0_
      have HO_121002 := n1_
      have HO_128002 := n2_
      have BK101 := n3_
      have BK114 := n4_
      have BK120 := n5_
      have BK127 := n6_
      have HB := n7_
      clear n0_ n1_ n2_ n3_ n4_ n5_ n6_ n7_
      refine start_ (n := 5) (S := fun w' => w'.cell? ⟨gb120, 0, none⟩ = some (.int .i64 t115) ∧ w'.cell? ⟨gb120, 1, none⟩ = some (.int .i64 t116) ∧ w'.cell? ⟨gb120, 2, none⟩ = some (.slice Ao30 t117.length co30) ∧ w'.cell? ⟨gb101, 0, none⟩ = some (.int .i64 a0_0) ∧ w'.cell? ⟨gb101, 1, none⟩ = some (.int .i64 a0_1) ∧ w'.cell? ⟨gb101, 2, none⟩ = some (.slice A0_2 l0_2.length c0_2)) (ds := []) #[false, false, false, false, false] (by kernel_rfl) rfl rfl ⟨(blk_cell BK120.out 0).trans rfl, (blk_cell BK120.out 1).trans rfl, (blk_cell BK120.out 2).trans rfl, (blk_cell BK101.out 0).trans rfl, (blk_cell BK101.out 1).trans rfl, (blk_cell BK101.out 2).trans rfl⟩ (fun hHeld => ?_)
      generalize wc.drew = w142 at HO_115002 HO_121002 HO_128002 BK101 BK114 BK120 BK127 HB hHeld ⊢
      refine take_ (i := 0) (N := some 45) (v := ?_) (a' := ?_) #[true, false, false, false, false] rfl rfl (by kernel_rfl) (fun _ _ _ h => h) (Or.inl ⟨by rfl, ?_⟩) hHeld ?_ ?_
      rotate_left
      ·
       rintro w' ⟨s0, s1, s2, s3, s4, s5⟩
       go_simp
       with_reducible rfl
      rotate_left
      ·
       simp only [Act.put, List.setIfInBounds_toArray, List.set_cons_zero, List.set_cons_succ, i64_w, i32_w]
       rfl
      refine take_ (i := 1) (N := some 46) (v := ?_) (a' := ?_) #[true, true, false, false, false] rfl rfl (by kernel_rfl) (fun _ _ _ h => h) (Or.inl ⟨by rfl, ?_⟩) hHeld ?_ ?_
      rotate_left
      ·
       rintro w' ⟨s0, s1, s2, s3, s4, s5⟩
       go_simp
       with_reducible rfl
      rotate_left
      ·
       simp only [Act.put, List.setIfInBounds_toArray, List.set_cons_zero, List.set_cons_succ, i64_w, i32_w]
       rfl
      refine one_ (i := 2) (N := some 47) #[true, true, true, false, false] rfl rfl (by kernel_rfl) (by decide) (fun K hK => ?_)
      refine goes_ Try.func33 (by kernel_rfl) rfl #[.agg #[.int .i64 a0_0, .int .i64 a0_1, .slice A0_2 l0_2.length c0_2]] (by rfl) rfl rfl (by (try simp only [List.map_toArray, List.map_cons, List.map_nil]); first | done | rfl | (simp only [List.length_drop, List.length_take]; rfl)) ?_
      with_reducible refine (laws_toField.calls kj11 a0_0 a0_1 _ _ l0_2 t129 t130 t131 _ ?side1 ?side2 A57.out).mono ?_
      (case side1 => repeat (first | exact (Kd.C_below HR0_2.out HB.out) | (with_reducible refine Kd.C_alloc ?_ _) | (with_reducible refine Kd.C_drewN ?_ _) | (with_reducible refine Kd.C_drew ?_)))
      (case side2 => exact HC0_2.out)
      rintro e w143 ⟨v132, rfl, ho0, hb⟩
      refine ⟨_, rfl, ?_⟩
      have n0_ := aK (Kd.R_elder' (pR HO_115002.out) (Kd.R_base ho0) hb)
      have n1_ := aK (Kd.R_elder' (pR HO_121002.out) (Kd.R_base ho0) hb)
      have n2_ := aK (Kd.R_elder' (pR HO_128002.out) (Kd.R_base ho0) hb)
      have HO133 := aK (Kd.R_lower (Kd.R_new' (Kd.R_new' (Kd.R_new' ho0 (Kd.R_lt (pR HO_115002.out))) (Kd.R_lt (pR HO_121002.out))) (Kd.R_lt (pR HO_128002.out))) (below_size (pS HB.out)))
      replace BK101 := bB BK101 hb
      replace BK114 := bB BK114 hb
      replace BK120 := bB BK120 hb
      replace BK127 := bB BK127 hb
      replace HB := bS HB hb
      clear HO_115002 HO_121002 HO_128002
      have HO_115002 := n0_
      have HO_121002 := n1_
      have HO_128002 := n2_
      clear n0_ n1_ n2_
      (try clear hb)
      (try clear hb2)
      (try clear hk)
      (try clear hi)
      (try clear ho0)
      obtain ⟨Ao144, co144, eo144⟩ := Kd.R_slice HO133.out
      (first | subst eo144 | (injection eo144 with f1_ f2_ f3_; have f4_ := f1_.symm; have f5_ := f3_.symm; clear f1_ f2_ f3_; subst f4_; subst f5_))
      refine hK.out _ _ ⟨(blk_cell BK120.out 0).trans rfl, (blk_cell BK120.out 1).trans rfl, (blk_cell BK120.out 2).trans rfl, (blk_cell BK101.out 0).trans rfl, (blk_cell BK101.out 1).trans rfl, (blk_cell BK101.out 2).trans rfl⟩ (fun hHeld => ?_)
      clear hK K
      refine norm_ (a' := ?_) ?_ ?_
      rotate_left
      ·
       show Act.put _ (some 47) _ = _
       simp only [Act.put, List.setIfInBounds_toArray, List.set_cons_zero, List.set_cons_succ, i64_w, i32_w]
       rfl
      refine one_ (i := 3) (N := some 48) #[true, true, true, true, false] rfl rfl (by kernel_rfl) (by decide) (fun K hK => ?_)
      refine goes_ Try.func35 (by kernel_rfl) rfl #[.agg #[.int .i64 t115, .int .i64 t116, .slice Ao30 t117.length co30], .agg #[.int .i64 t129, .int .i64 t130, .slice Ao144 t131.length co144]] (by rfl) rfl rfl (by (try simp only [List.map_toArray, List.map_cons, List.map_nil]); first | done | rfl | (simp only [List.length_drop, List.length_take]; rfl)) ?_
      with_reducible refine (laws_eqField.calls kj11 t115 t116 _ _ t117 t129 t130 _ _ t131 false _ ?side1 ?side2 ?side3 ?side4 A58.out).mono ?_
      (case side1 => repeat (first | exact (Kd.R_reads' HO_121002.out).2.2 | (with_reducible refine Kd.C_alloc ?_ _) | (with_reducible refine Kd.C_drewN ?_ _) | (with_reducible refine Kd.C_drew ?_)))
      (case side2 => exact (Kd.R_reads' HO_121002.out).2.1)
      (case side3 => repeat (first | exact (Kd.R_reads' HO133.out).2.2 | (with_reducible refine Kd.C_alloc ?_ _) | (with_reducible refine Kd.C_drewN ?_ _) | (with_reducible refine Kd.C_drew ?_)))
      (case side4 => exact (Kd.R_reads' HO133.out).2.1)
      rintro e w145 ⟨rfl, hb⟩
      refine ⟨_, rfl, ?_⟩
      have n0_ := aK (Kd.R_below (pR HO_115002.out) hb)
      have n1_ := aK (Kd.R_below (pR HO_121002.out) hb)
      have n2_ := aK (Kd.R_below (pR HO_128002.out) hb)
      have n3_ := aK (Kd.R_below (pR HO133.out) hb)
      replace BK101 := bB BK101 hb
      replace BK114 := bB BK114 hb
      replace BK120 := bB BK120 hb
      replace BK127 := bB BK127 hb
      replace HB := bS HB hb
      clear HO_115002 HO_121002 HO_128002 HO133
      have HO_115002 := n0_
      have HO_121002 := n1_
      have HO_128002 := n2_
      have HO133 := n3_
      clear n0_ n1_ n2_ n3_
      (try clear hb)
      (try clear hb2)
      (try clear hk)
      (try clear hi)
      refine hK.out _ _ ⟨(blk_cell BK120.out 0).trans rfl, (blk_cell BK120.out 1).trans rfl, (blk_cell BK120.out 2).trans rfl, (blk_cell BK101.out 0).trans rfl, (blk_cell BK101.out 1).trans rfl, (blk_cell BK101.out 2).trans rfl⟩ (fun hHeld => ?_)
      clear hK K
      refine norm_ (a' := ?_) ?_ ?_
      rotate_left
      ·
       show Act.put _ (some 48) _ = _
       simp only [Act.put, List.setIfInBounds_toArray, List.set_cons_zero, List.set_cons_succ, i64_w, i32_w]
       rfl
      refine pure_ (i := 4) (N := some 49) (v := ?_) (a' := ?_) #[true, true, true, true, true] rfl rfl (by kernel_rfl) (fun _ _ _ h => h) (Or.inl ⟨by rfl, ?_⟩) ?_ ?_
      rotate_left
      ·
       intro w'
       go_simp
       with_reducible rfl
      rotate_left
      ·
       simp only [Act.put, List.setIfInBounds_toArray, List.set_cons_zero, List.set_cons_succ, i64_w, i32_w]
       rfl
      refine done_ (by kernel_rfl) ?_
      try go_wp2
      go_ret
      exact ⟨by first | rfl | (simp [errW_none, errW_some] <;> rfl) | (simp [*, errW_none, errW_some] <;> rfl), by repeat (first | (with_reducible first | exact HB.out | apply below_alloc | apply pw_below_drewN | apply below_drew1) | exact HB.out)⟩

/-- The one plain statement of FnExactMedianFilter. -/
def laws_FnExactMedianFilter.Pure : Prop := ∀ (a0_0 : Int) (a0_1 : Int) (l0_2 : List Int) (a1 : Int), (Lit.int .i64 a0_0).wf = true → (Lit.int .i64 a0_1).wf = true → (l0_2.length ≤ 9223372036854775807 ∧ ∀ z0 ∈ l0_2, (Lit.int .i64 z0).wf = true) → (Lit.int .i64 a1).wf = true → ∃ k, laws_FnExactMedianFilter.f k a0_0 a0_1 l0_2 a1 = some true

end Go.Proofs.Ytbjbanemmoalhaa.P
