/- Texts of the claim FnExactRepeatMaximum, merged: part 5 of 6: the program's and the reference's functions as Lean functions, the walks that show it, and plain lemmas; no conditions. -/
import Derived.Test.YtmhbakmgcogmoaaKFnExactRepeatMaximum1
import Derived.Test.YtmhbakmgcogmoaaKFnExactRepeatMaximum2
import Derived.Test.YtmhbakmgcogmoaaKFnExactRepeatMaximum3
import Derived.Test.YtmhbakmgcogmoaaKFnExactRepeatMaximum4
namespace Go.Proofs.Ytmhbakmgcogmoaa.P
open Go.RowKit Go.Proofs.YtmhbakmgcogmoaaW.PrintWords Go.Proofs.YtmhbakmgcogmoaaW.PrintLast Go.Proofs.YtmhbakmgcogmoaaW.PrintMore
attribute [local go_sem] max2_int min2_int max_two min_two max_three min_three max_four min_four   -- for this text's walks alone
set_option linter.unusedVariables false
set_option linter.unusedSimpArgs false

/-! ### laws_FnExactRepeatMaximum: function 6 -/
mutual
def laws_FnExactRepeatMaximum.j0 : Nat → Int → Int → Bool → Bool → Bool → Int → Int → List Int → Int → Int → List Int → Int → Int → List Int → Int → Int → List Int → Option (Bool)
 | 0, _, _, _, _, _, _, _, _, _, _, _, _, _, _, _, _, _ => none
 | k + 1, x1, x2, x9, x12, x48, x102000, x102001, x102002, x115000, x115001, x115002, x121000, x121001, x121002, x128000, x128001, x128002 => if x48 = true then (some false) else ((laws_toField.f k x102000 x102001 x102002).bind fun bt129 => ((laws_eqField.f k x121000 x121001 x121002 bt129.1 bt129.2.1 bt129.2.2).bind fun t134 => (if t134 = true then ((laws_markField.f k x121000 x121001 x121002 1).bind fun bt135 => (if bt135.1 < 0 then (laws_FnExactRepeatMaximum.j1 k x1 x2 x9 true x102000 x102001 x102002 x115000 x115001 x115002 x128000 x128001 x128002) else ((laws_eqField.f k x128000 x128001 x128002 x115000 x115001 x115002).bind fun t137 => (if t137 = true then (laws_FnExactRepeatMaximum.j1 k x1 x2 x9 (x12 != x9) x102000 x102001 x102002 x115000 x115001 x115002 x128000 x128001 x128002) else (laws_FnExactRepeatMaximum.j1 k x1 x2 x9 true x102000 x102001 x102002 x115000 x115001 x115002 x128000 x128001 x128002))))) else (some false))))
def laws_FnExactRepeatMaximum.j1 : Nat → Int → Int → Bool → Bool → Int → Int → List Int → Int → Int → List Int → Int → Int → List Int → Option (Bool)
 | 0, _, _, _, _, _, _, _, _, _, _, _, _, _ => none
 | k + 1, x1, x2, x9, x69, x102000, x102001, x102002, x115000, x115001, x115002, x128000, x128001, x128002 => if x69 = true then (some false) else ((laws_markField.f k x128000 x128001 x128002 1).bind fun bt138 => ((laws_heldField.f k x128000 x128001 bt138.2 1).bind fun t140 => (if t140 < 0 then (some false) else (if t140 = bt138.1 then ((laws_toField.f k x102000 x102001 x102002).bind fun bt141 => ((impl_RepeatMaximum.f k bt141.1 bt141.2.1 bt141.2.2 x1 x2).bind fun bt146 => ((laws_eqField.f k bt146.1 bt146.2.1 bt146.2.2.1 x115000 x115001 x115002).bind fun t153 => (if t153 = true then (laws_FnExactRepeatMaximum.j2 k bt138.1 (bt146.2.2.2 != x9) x128000 x128001 bt138.2) else (laws_FnExactRepeatMaximum.j2 k bt138.1 true x128000 x128001 bt138.2))))) else (some false)))))
def laws_FnExactRepeatMaximum.j2 : Nat → Int → Bool → Int → Int → List Int → Option (Bool)
 | 0, _, _, _, _, _ => none
 | k + 1, x14, x97, x128000, x128001, x128002 => if x97 = true then (some false) else ((laws_heldField.f k x128000 x128001 x128002 1).bind fun t154 => (if t154 < 0 then (some false) else (if t154 = x14 then (some true) else (some false))))
end
def laws_FnExactRepeatMaximum.f (k : Nat) (a0_0 : Int) (a0_1 : Int) (l0_2 : List Int) (a1 : Int) (a2 : Int) : Option (Bool) := (laws_szField.f a0_0 a0_1 l0_2 1048576).bind fun t102 => (if t102 < 0 then (some true) else ((laws_toField.f k a0_0 a0_1 l0_2).bind fun bt103 => ((spec_RepeatMaximum.f k bt103.1 bt103.2.1 bt103.2.2 a1 a2).bind fun bt108 => ((laws_toField.f k a0_0 a0_1 l0_2).bind fun bt115 => ((impl_RepeatMaximum.f k bt115.1 bt115.2.1 bt115.2.2 a1 a2).bind fun bt121 => ((laws_eqField.f k bt121.1 bt121.2.1 bt121.2.2.1 bt108.1 bt108.2.1 bt108.2.2.1).bind fun t128 => (if t128 = true then (laws_FnExactRepeatMaximum.j0 k a1 a2 bt108.2.2.2 bt121.2.2.2 (bt121.2.2.2 != bt108.2.2.2) a0_0 a0_1 l0_2 bt108.1 bt108.2.1 bt108.2.2.1 bt115.1 bt115.2.1 bt115.2.2 bt121.1 bt121.2.1 bt121.2.2.1) else (laws_FnExactRepeatMaximum.j0 k a1 a2 bt108.2.2.2 bt121.2.2.2 true a0_0 a0_1 l0_2 bt108.1 bt108.2.1 bt108.2.2.1 bt115.1 bt115.2.1 bt115.2.2 bt121.1 bt121.2.1 bt121.2.2.1))))))))

set_option maxHeartbeats 8000000 in
set_option maxRecDepth 100000 in
theorem laws_FnExactRepeatMaximum.calls (k : Nat) (a0_0 : Int) (a0_1 : Int) (A0_2 : Option Addr) (c0_2 : Nat) (l0_2 : List Int) (a1 : Int) (a2 : Int) (r : Bool) (w : World) (hr0_2 : Kd.C (Kd.int .i64) w A0_2 l0_2.length l0_2) (hc0_2 : l0_2.length ≤ c0_2) (h : laws_FnExactRepeatMaximum.f k a0_0 a0_1 l0_2 a1 a2 = some r) :
  Calls Try.prog 6 #[.agg #[.int .i64 a0_0, .int .i64 a0_1, .slice A0_2 l0_2.length c0_2], .int .i64 a1, .int .i64 a2] w fun e w' => e = .returned (.bool r) ∧ Below w.heap.size w w' := by
 have hu40 := Try.underlying40
 have hu24 := Try.underlying24
 have HR0_2 := Aside0.mk hr0_2
 have HC0_2 := Aside0.mk hc0_2
 clear hr0_2 hc0_2
 have HB := aK (Below.refl w.heap.size w)
 have H : ((laws_szField.f a0_0 a0_1 l0_2 1048576).bind fun t102 => (if t102 < 0 then (some true) else ((laws_toField.f k a0_0 a0_1 l0_2).bind fun bt103 => ((spec_RepeatMaximum.f k bt103.1 bt103.2.1 bt103.2.2 a1 a2).bind fun bt108 => ((laws_toField.f k a0_0 a0_1 l0_2).bind fun bt115 => ((impl_RepeatMaximum.f k bt115.1 bt115.2.1 bt115.2.2 a1 a2).bind fun bt121 => ((laws_eqField.f k bt121.1 bt121.2.1 bt121.2.2.1 bt108.1 bt108.2.1 bt108.2.2.1).bind fun t128 => (if t128 = true then (laws_FnExactRepeatMaximum.j0 k a1 a2 bt108.2.2.2 bt121.2.2.2 (bt121.2.2.2 != bt108.2.2.2) a0_0 a0_1 l0_2 bt108.1 bt108.2.1 bt108.2.2.1 bt115.1 bt115.2.1 bt115.2.2 bt121.1 bt121.2.1 bt121.2.2.1) else (laws_FnExactRepeatMaximum.j0 k a1 a2 bt108.2.2.2 bt121.2.2.2 true a0_0 a0_1 l0_2 bt108.1 bt108.2.1 bt108.2.2.1 bt115.1 bt115.2.1 bt115.2.2 bt121.1 bt121.2.1 bt121.2.2.1))))))))) = some r := h
 clear h
 replace H := Option.bind_eq_some_iff.mp H
 obtain ⟨t102, A40, H⟩ := H
 replace H : (if t102 < 0 then (some true) else ((laws_toField.f k a0_0 a0_1 l0_2).bind fun bt103 => ((spec_RepeatMaximum.f k bt103.1 bt103.2.1 bt103.2.2 a1 a2).bind fun bt108 => ((laws_toField.f k a0_0 a0_1 l0_2).bind fun bt115 => ((impl_RepeatMaximum.f k bt115.1 bt115.2.1 bt115.2.2 a1 a2).bind fun bt121 => ((laws_eqField.f k bt121.1 bt121.2.1 bt121.2.2.1 bt108.1 bt108.2.1 bt108.2.2.1).bind fun t128 => (if t128 = true then (laws_FnExactRepeatMaximum.j0 k a1 a2 bt108.2.2.2 bt121.2.2.2 (bt121.2.2.2 != bt108.2.2.2) a0_0 a0_1 l0_2 bt108.1 bt108.2.1 bt108.2.2.1 bt115.1 bt115.2.1 bt115.2.2 bt121.1 bt121.2.1 bt121.2.2.1) else (laws_FnExactRepeatMaximum.j0 k a1 a2 bt108.2.2.2 bt121.2.2.2 true a0_0 a0_1 l0_2 bt108.1 bt108.2.1 bt108.2.2.1 bt115.1 bt115.2.1 bt115.2.2 bt121.1 bt121.2.1 bt121.2.2.1)))))))) = some r := H
 have A4 := Aside0.mk A40
 clear A40
 by_cases c5 : t102 < 0
 ·
  rw [if_pos c5] at H
  have c5b0 : decide (t102 < 0) = true := decide_eq_true c5
  clear c5
  obtain rfl := Option.some.inj H
  go_enter Try.func6, Try.ntmps6
  go_wp2_with (first | ((with_reducible refine gate_dst (N := 3) rfl ?_); refine box_event ?hg (N := 3) ?hd (cs := #[.int .i64 a0_0, .int .i64 a0_1, .slice A0_2 l0_2.length c0_2]) (t := 40) ?hr ?_; (case hd => rfl); (case hg => rfl); (case hr => first | (go_simp; done) | (go_simp; rfl)); intro gb101 hg w6 hbox hb; have BK101 := aK (hbox); have GW101 := aK (gE hg (pS HB.out)); have GE101 := aK (gE hg (pS HB.out)); replace HB := bS HB hb; clear hb hbox hg; have hcz7_0 : w6.cell? ⟨gb101, 0, none⟩ = some (.int .i64 a0_0) := (blk_cell BK101.out 0).trans rfl; have hcz7_1 : w6.cell? ⟨gb101, 1, none⟩ = some (.int .i64 a0_1) := (blk_cell BK101.out 1).trans rfl; have hcz7_2 : w6.cell? ⟨gb101, 2, none⟩ = some (.slice A0_2 l0_2.length c0_2) := (blk_cell BK101.out 2).trans rfl; have hfz7_0 := blk_frozen BK101.out 0; have hfz7_1 := blk_frozen BK101.out 1; have hfz7_2 := blk_frozen BK101.out 2) | ((with_reducible refine gate_callee (f := 28) rfl ?_); refine goesL_ (some 20) rfl rfl Try.func28 (by kernel_rfl) rfl #[.agg #[.int .i64 a0_0, .int .i64 a0_1, .slice A0_2 l0_2.length c0_2], .int .i64 1048576] rfl (by (try simp only [List.map_toArray, List.map_cons, List.map_nil]); first | done | rfl | (simp only [List.length_drop, List.length_take]; rfl)) ?_; (with_reducible refine (laws_szField.calls a0_0 a0_1 _ _ l0_2 1048576 t102 _ ?side1 ?side2 A4.out).mono ?_); (case side1 => repeat (first | exact (Kd.C_below HR0_2.out HB.out) | (with_reducible refine Kd.C_alloc ?_ _) | (with_reducible refine Kd.C_drewN ?_ _) | (with_reducible refine Kd.C_drew ?_))); (case side2 => exact HC0_2.out); rintro e w8 ⟨rfl, hb⟩; refine ⟨_, rfl, ?_⟩; replace HB := bS HB hb; (try clear hb); (try clear hb2); (try clear hk); (try clear hi)))
  go_ret
  exact ⟨by first | rfl | (simp [errW_none, errW_some] <;> rfl) | (simp [*, errW_none, errW_some] <;> rfl), by repeat (first | (with_reducible first | exact HB.out | apply below_alloc | apply pw_below_drewN | apply below_drew1) | exact HB.out)⟩
 ·
  rw [if_neg c5] at H
  have c5b0 : decide (t102 < 0) = false := decide_eq_false c5
  clear c5
  replace H := Option.bind_eq_some_iff.mp H
  obtain ⟨⟨t103, t104, t105⟩, A90, H⟩ := H
  replace H : ((spec_RepeatMaximum.f k t103 t104 t105 a1 a2).bind fun bt108 => ((laws_toField.f k a0_0 a0_1 l0_2).bind fun bt115 => ((impl_RepeatMaximum.f k bt115.1 bt115.2.1 bt115.2.2 a1 a2).bind fun bt121 => ((laws_eqField.f k bt121.1 bt121.2.1 bt121.2.2.1 bt108.1 bt108.2.1 bt108.2.2.1).bind fun t128 => (if t128 = true then (laws_FnExactRepeatMaximum.j0 k a1 a2 bt108.2.2.2 bt121.2.2.2 (bt121.2.2.2 != bt108.2.2.2) a0_0 a0_1 l0_2 bt108.1 bt108.2.1 bt108.2.2.1 bt115.1 bt115.2.1 bt115.2.2 bt121.1 bt121.2.1 bt121.2.2.1) else (laws_FnExactRepeatMaximum.j0 k a1 a2 bt108.2.2.2 bt121.2.2.2 true a0_0 a0_1 l0_2 bt108.1 bt108.2.1 bt108.2.2.1 bt115.1 bt115.2.1 bt115.2.2 bt121.1 bt121.2.1 bt121.2.2.1)))))) = some r := H
  have A9 := Aside0.mk A90
  clear A90
  replace H := Option.bind_eq_some_iff.mp H
  obtain ⟨⟨t108, t109, t110, t113⟩, A100, H⟩ := H
  replace H : ((laws_toField.f k a0_0 a0_1 l0_2).bind fun bt115 => ((impl_RepeatMaximum.f k bt115.1 bt115.2.1 bt115.2.2 a1 a2).bind fun bt121 => ((laws_eqField.f k bt121.1 bt121.2.1 bt121.2.2.1 t108 t109 t110).bind fun t128 => (if t128 = true then (laws_FnExactRepeatMaximum.j0 k a1 a2 t113 bt121.2.2.2 (bt121.2.2.2 != t113) a0_0 a0_1 l0_2 t108 t109 t110 bt115.1 bt115.2.1 bt115.2.2 bt121.1 bt121.2.1 bt121.2.2.1) else (laws_FnExactRepeatMaximum.j0 k a1 a2 t113 bt121.2.2.2 true a0_0 a0_1 l0_2 t108 t109 t110 bt115.1 bt115.2.1 bt115.2.2 bt121.1 bt121.2.1 bt121.2.2.1))))) = some r := H
  have A10 := Aside0.mk A100
  clear A100
  replace H := Option.bind_eq_some_iff.mp H
  obtain ⟨⟨t115, t116, t117⟩, A110, H⟩ := H
  replace H : ((impl_RepeatMaximum.f k t115 t116 t117 a1 a2).bind fun bt121 => ((laws_eqField.f k bt121.1 bt121.2.1 bt121.2.2.1 t108 t109 t110).bind fun t128 => (if t128 = true then (laws_FnExactRepeatMaximum.j0 k a1 a2 t113 bt121.2.2.2 (bt121.2.2.2 != t113) a0_0 a0_1 l0_2 t108 t109 t110 t115 t116 t117 bt121.1 bt121.2.1 bt121.2.2.1) else (laws_FnExactRepeatMaximum.j0 k a1 a2 t113 bt121.2.2.2 true a0_0 a0_1 l0_2 t108 t109 t110 t115 t116 t117 bt121.1 bt121.2.1 bt121.2.2.1)))) = some r := H
  have A11 := Aside0.mk A110
  clear A110
  replace H := Option.bind_eq_some_iff.mp H
  obtain ⟨⟨t121, t122, t123, t126⟩, A120, H⟩ := H
  replace H : ((laws_eqField.f k t121 t122 t123 t108 t109 t110).bind fun t128 => (if t128 = true then (laws_FnExactRepeatMaximum.j0 k a1 a2 t113 t126 (t126 != t113) a0_0 a0_1 l0_2 t108 t109 t110 t115 t116 t117 t121 t122 t123) else (laws_FnExactRepeatMaximum.j0 k a1 a2 t113 t126 true a0_0 a0_1 l0_2 t108 t109 t110 t115 t116 t117 t121 t122 t123))) = some r := H
  have A12 := Aside0.mk A120
  clear A120
  have HC13 := Aside0.mk H
  clear H
  go_enter Try.func6, Try.ntmps6
  go_upto_region 8 with (first | ((with_reducible refine gate_dst (N := 3) rfl ?_); refine box_event ?hg (N := 3) ?hd (cs := #[.int .i64 a0_0, .int .i64 a0_1, .slice A0_2 l0_2.length c0_2]) (t := 40) ?hr ?_; (case hd => rfl); (case hg => rfl); (case hr => first | (go_simp; done) | (go_simp; rfl)); intro gb101 hg w14 hbox hb; have BK101 := aK (hbox); have GW101 := aK (gE hg (pS HB.out)); have GE101 := aK (gE hg (pS HB.out)); replace HB := bS HB hb; clear hb hbox hg; have hcz15_0 : w14.cell? ⟨gb101, 0, none⟩ = some (.int .i64 a0_0) := (blk_cell BK101.out 0).trans rfl; have hcz15_1 : w14.cell? ⟨gb101, 1, none⟩ = some (.int .i64 a0_1) := (blk_cell BK101.out 1).trans rfl; have hcz15_2 : w14.cell? ⟨gb101, 2, none⟩ = some (.slice A0_2 l0_2.length c0_2) := (blk_cell BK101.out 2).trans rfl; have hfz15_0 := blk_frozen BK101.out 0; have hfz15_1 := blk_frozen BK101.out 1; have hfz15_2 := blk_frozen BK101.out 2) | ((with_reducible refine gate_callee (f := 28) rfl ?_); refine goesL_ (some 20) rfl rfl Try.func28 (by kernel_rfl) rfl #[.agg #[.int .i64 a0_0, .int .i64 a0_1, .slice A0_2 l0_2.length c0_2], .int .i64 1048576] rfl (by (try simp only [List.map_toArray, List.map_cons, List.map_nil]); first | done | rfl | (simp only [List.length_drop, List.length_take]; rfl)) ?_; (with_reducible refine (laws_szField.calls a0_0 a0_1 _ _ l0_2 1048576 t102 _ ?side1 ?side2 A4.out).mono ?_); (case side1 => repeat (first | exact (Kd.C_below HR0_2.out HB.out) | (with_reducible refine Kd.C_alloc ?_ _) | (with_reducible refine Kd.C_drewN ?_ _) | (with_reducible refine Kd.C_drew ?_))); (case side2 => exact HC0_2.out); rintro e w16 ⟨rfl, hb⟩; refine ⟨_, rfl, ?_⟩; replace BK101 := bB BK101 hb; replace HB := bS HB hb; (try clear hb); (try clear hb2); (try clear hk); (try clear hi); have hcz17_0 : w16.cell? ⟨gb101, 0, none⟩ = some (.int .i64 a0_0) := (blk_cell BK101.out 0).trans rfl; have hcz17_1 : w16.cell? ⟨gb101, 1, none⟩ = some (.int .i64 a0_1) := (blk_cell BK101.out 1).trans rfl; have hcz17_2 : w16.cell? ⟨gb101, 2, none⟩ = some (.slice A0_2 l0_2.length c0_2) := (blk_cell BK101.out 2).trans rfl; have hfz17_0 := blk_frozen BK101.out 0; have hfz17_1 := blk_frozen BK101.out 1; have hfz17_2 := blk_frozen BK101.out 2) | ((with_reducible refine gate_callee (f := 30) rfl ?_); refine goesL_ (some 25) rfl rfl Try.func30 (by kernel_rfl) rfl #[.agg #[.int .i64 a0_0, .int .i64 a0_1, .slice A0_2 l0_2.length c0_2]] rfl (by (try simp only [List.map_toArray, List.map_cons, List.map_nil]); first | done | rfl | (simp only [List.length_drop, List.length_take]; rfl)) ?_; (with_reducible refine (laws_toField.calls k a0_0 a0_1 _ _ l0_2 t103 t104 t105 _ ?side1 ?side2 A9.out).mono ?_); (case side1 => repeat (first | exact (Kd.C_below HR0_2.out HB.out) | (with_reducible refine Kd.C_alloc ?_ _) | (with_reducible refine Kd.C_drewN ?_ _) | (with_reducible refine Kd.C_drew ?_))); (case side2 => exact HC0_2.out); rintro e w18 ⟨v106, rfl, ho0, hb⟩; refine ⟨_, rfl, ?_⟩; have HO107 := aK (Kd.R_lower ho0 (below_size (pS HB.out))); replace BK101 := bB BK101 hb; replace HB := bS HB hb; (try clear hb); (try clear hb2); (try clear hk); (try clear hi); (try clear ho0); obtain ⟨Ao19, co19, eo19⟩ := Kd.R_slice HO107.out; subst eo19) | ((with_reducible refine gate_callee (f := 29) rfl ?_); refine goesL_ (some 28) rfl rfl Try.func29 (by kernel_rfl) rfl #[.agg #[.int .i64 t103, .int .i64 t104, .slice Ao19 t105.length co19], .int .i64 a1, .int .i64 a2] rfl (by (try simp only [List.map_toArray, List.map_cons, List.map_nil]); first | done | rfl | (simp only [List.length_drop, List.length_take]; rfl)) ?_; (with_reducible refine (spec_RepeatMaximum.calls k t103 t104 _ _ t105 a1 a2 t108 t109 t110 t113 _ ?side1 ?side2 A10.out).mono ?_); (case side1 => repeat (first | exact (Kd.R_reads' HO107.out).2.2 | (with_reducible refine Kd.C_alloc ?_ _) | (with_reducible refine Kd.C_drewN ?_ _) | (with_reducible refine Kd.C_drew ?_))); (case side2 => exact (Kd.R_reads' HO107.out).2.1); rintro e w20 ⟨v111, rfl, ho0, hb⟩; refine ⟨_, rfl, ?_⟩; have n0_ := aK (Kd.R_elder' (pR HO107.out) (Kd.R_base ho0) hb); have HO112 := aK (Kd.R_lower (Kd.R_new' ho0 (Kd.R_lt (pR HO107.out))) (below_size (pS HB.out))); replace BK101 := bB BK101 hb; replace HB := bS HB hb; clear HO107; have HO107 := n0_; clear n0_; (try clear hb); (try clear hb2); (try clear hk); (try clear hi); (try clear ho0)) | ((with_reducible refine gate_dst (N := 8) rfl ?_); refine box_event ?hg (N := 8) ?hd (cs := #[.int .i64 0, .int .i64 0, .slice none 0 0]) (t := 24) ?hr ?_; (case hd => rfl); (case hg => rfl); (case hr => first | (go_simp; done) | (go_simp; rfl)); intro gb114 hg w21 hbox hb; have n0_ := aK (Kd.R_below (pR HO107.out) hb); have n1_ := aK (Kd.R_below (pR HO112.out) hb); have BK114 := aK (hbox); have GW114 := aK (gE hg (pS HB.out)); have GE114 := aK (gE hg (pS HB.out)); have NB101_114 := aK (nL hg (pB BK101.out)); have NB114_101 := aK (nG hg (pB BK101.out)); replace BK101 := bB BK101 hb; replace HB := bS HB hb; clear HO107 HO112; have HO107 := n0_; have HO112 := n1_; clear n0_ n1_ hb hbox hg; have hnb22 := NB114_101.out; have hnc22 := NB101_114.out; have hcz23_0 : w21.cell? ⟨gb114, 0, none⟩ = some (.int .i64 0) := (blk_cell BK114.out 0).trans rfl; have hcz23_1 : w21.cell? ⟨gb114, 1, none⟩ = some (.int .i64 0) := (blk_cell BK114.out 1).trans rfl; have hcz23_2 : w21.cell? ⟨gb114, 2, none⟩ = some (.slice none 0 0) := (blk_cell BK114.out 2).trans rfl; have hfz23_0 := blk_frozen BK114.out 0; have hfz23_1 := blk_frozen BK114.out 1; have hfz23_2 := blk_frozen BK114.out 2; obtain ⟨Ao24, co24, eo24⟩ := Kd.R_slice HO112.out; subst eo24; have hcz25_0 : w21.cell? ⟨gb101, 0, none⟩ = some (.int .i64 a0_0) := (blk_cell BK101.out 0).trans rfl; have hcz25_1 : w21.cell? ⟨gb101, 1, none⟩ = some (.int .i64 a0_1) := (blk_cell BK101.out 1).trans rfl; have hcz25_2 : w21.cell? ⟨gb101, 2, none⟩ = some (.slice A0_2 l0_2.length c0_2) := (blk_cell BK101.out 2).trans rfl; have hfz25_0 := blk_frozen BK101.out 0; have hfz25_1 := blk_frozen BK101.out 1; have hfz25_2 := blk_frozen BK101.out 2) | ((with_reducible refine gate_callee (f := 30) rfl ?_); refine goesL_ (some 32) rfl rfl Try.func30 (by kernel_rfl) rfl #[.agg #[.int .i64 a0_0, .int .i64 a0_1, .slice A0_2 l0_2.length c0_2]] rfl (by (try simp only [List.map_toArray, List.map_cons, List.map_nil]); first | done | rfl | (simp only [List.length_drop, List.length_take]; rfl)) ?_; (with_reducible refine (laws_toField.calls k a0_0 a0_1 _ _ l0_2 t115 t116 t117 _ ?side1 ?side2 A11.out).mono ?_); (case side1 => exact Kd.C_below HR0_2.out (pS HB.out)); (case side2 => exact HC0_2.out); rintro e w26 ⟨v118, rfl, ho0, hb⟩; refine ⟨_, rfl, ?_⟩; have n0_ := aK (Kd.R_elder' (pR ((Kd.R_mono (Kd.R_far (p := ⟨gb114, 2, none⟩) (Kd.R_far (p := ⟨gb114, 1, none⟩) (Kd.R_far (p := ⟨gb114, 0, none⟩) (Kd.R_types HO107.out BK114.out (by decide)) (fun _ hk => hk.2) (.int .i64 t108)) (fun _ hk => hk.2) (.int .i64 t109)) (fun _ hk => hk.2) (.slice Ao24 t110.length co24)) (fun _ h_ => h_.1)))) (Kd.R_base ho0) hb); have n1_ := aK (Kd.R_elder' (pR ((Kd.R_mono (Kd.R_far (p := ⟨gb114, 2, none⟩) (Kd.R_far (p := ⟨gb114, 1, none⟩) (Kd.R_far (p := ⟨gb114, 0, none⟩) (Kd.R_types HO112.out BK114.out (by decide)) (fun _ hk => hk.2) (.int .i64 t108)) (fun _ hk => hk.2) (.int .i64 t109)) (fun _ hk => hk.2) (.slice Ao24 t110.length co24)) (fun _ h_ => h_.1)))) (Kd.R_base ho0) hb); have HO119 := aK (Kd.R_lower (Kd.R_new' (Kd.R_new' ho0 (Kd.R_lt (pR ((Kd.R_mono (Kd.R_far (p := ⟨gb114, 2, none⟩) (Kd.R_far (p := ⟨gb114, 1, none⟩) (Kd.R_far (p := ⟨gb114, 0, none⟩) (Kd.R_types HO107.out BK114.out (by decide)) (fun _ hk => hk.2) (.int .i64 t108)) (fun _ hk => hk.2) (.int .i64 t109)) (fun _ hk => hk.2) (.slice Ao24 t110.length co24)) (fun _ h_ => h_.1)))))) (Kd.R_lt (pR ((Kd.R_mono (Kd.R_far (p := ⟨gb114, 2, none⟩) (Kd.R_far (p := ⟨gb114, 1, none⟩) (Kd.R_far (p := ⟨gb114, 0, none⟩) (Kd.R_types HO112.out BK114.out (by decide)) (fun _ hk => hk.2) (.int .i64 t108)) (fun _ hk => hk.2) (.int .i64 t109)) (fun _ hk => hk.2) (.slice Ao24 t110.length co24)) (fun _ h_ => h_.1)))))) (below_size (pS HB.out))); have n3_ := aK (blk_below (g := gb101) (o := .cells #[.int .i64 a0_0, .int .i64 a0_1, .slice A0_2 l0_2.length c0_2] 40 (0, 0)) (by (with_reducible repeat (first | refine blk_drewN ?_ _ | refine blk_drew ?_ | refine blk_alloc ?_ _)); refine blk_far ?_ NB101_114.out _; (with_reducible repeat (first | refine blk_drewN ?_ _ | refine blk_drew ?_ | refine blk_alloc ?_ _)); refine blk_far ?_ NB101_114.out _; (with_reducible repeat (first | refine blk_drewN ?_ _ | refine blk_drew ?_ | refine blk_alloc ?_ _)); refine blk_far ?_ NB101_114.out _; (with_reducible repeat (first | refine blk_drewN ?_ _ | refine blk_drew ?_ | refine blk_alloc ?_ _)); exact BK101.out) hb); have n4_ := aK (blk_below (g := gb114) (o := .cells #[.int .i64 t108, .int .i64 t109, .slice Ao24 t110.length co24] 24 (0, 0)) (by (with_reducible repeat (first | refine blk_drewN ?_ _ | refine blk_drew ?_ | refine blk_alloc ?_ _)); refine blk_put (cs := #[.int .i64 t108, .int .i64 t109, .slice none 0 0]) ?_ 2 _ rfl; (with_reducible repeat (first | refine blk_drewN ?_ _ | refine blk_drew ?_ | refine blk_alloc ?_ _)); refine blk_put (cs := #[.int .i64 t108, .int .i64 0, .slice none 0 0]) ?_ 1 _ rfl; (with_reducible repeat (first | refine blk_drewN ?_ _ | refine blk_drew ?_ | refine blk_alloc ?_ _)); refine blk_put (cs := #[.int .i64 0, .int .i64 0, .slice none 0 0]) ?_ 0 _ rfl; (with_reducible repeat (first | refine blk_drewN ?_ _ | refine blk_drew ?_ | refine blk_alloc ?_ _)); exact BK114.out) hb); replace HB := bS HB hb; clear HO107 HO112 BK101 BK114; have HO107 := n0_; have HO112 := n1_; have BK101 := n3_; have BK114 := n4_; clear n0_ n1_ n3_ n4_; (try clear hb); (try clear hb2); (try clear hk); (try clear hi); (try clear ho0)) | ((with_reducible refine gate_dst (N := 10) rfl ?_); refine box_event ?hg (N := 10) ?hd (cs := #[.int .i64 0, .int .i64 0, .slice none 0 0]) (t := 24) ?hr ?_; (case hd => rfl); (case hg => rfl); (case hr => first | (go_simp; done) | (go_simp; rfl)); intro gb120 hg w27 hbox hb; have n0_ := aK (Kd.R_below (pR HO107.out) hb); have n1_ := aK (Kd.R_below (pR HO112.out) hb); have n2_ := aK (Kd.R_below (pR HO119.out) hb); have BK120 := aK (hbox); have GW120 := aK (gE hg (pS HB.out)); have GE120 := aK (gE hg (pS HB.out)); have NB101_120 := aK (nL hg (pB BK101.out)); have NB120_101 := aK (nG hg (pB BK101.out)); have NB114_120 := aK (nL hg (pB BK114.out)); have NB120_114 := aK (nG hg (pB BK114.out)); replace BK101 := bB BK101 hb; replace BK114 := bB BK114 hb; replace HB := bS HB hb; clear HO107 HO112 HO119; have HO107 := n0_; have HO112 := n1_; have HO119 := n2_; clear n0_ n1_ n2_ hb hbox hg; have hnb28 := NB120_101.out; have hnc28 := NB101_120.out; have hnb29 := NB120_114.out; have hnc29 := NB114_120.out; have hcz30_0 : w27.cell? ⟨gb120, 0, none⟩ = some (.int .i64 0) := (blk_cell BK120.out 0).trans rfl; have hcz30_1 : w27.cell? ⟨gb120, 1, none⟩ = some (.int .i64 0) := (blk_cell BK120.out 1).trans rfl; have hcz30_2 : w27.cell? ⟨gb120, 2, none⟩ = some (.slice none 0 0) := (blk_cell BK120.out 2).trans rfl; have hfz30_0 := blk_frozen BK120.out 0; have hfz30_1 := blk_frozen BK120.out 1; have hfz30_2 := blk_frozen BK120.out 2; obtain ⟨Ao31, co31, eo31⟩ := Kd.R_slice HO119.out; subst eo31) | ((with_reducible refine gate_callee (f := 31) rfl ?_); refine goesL_ (some 37) rfl rfl Try.func31 (by kernel_rfl) rfl #[.agg #[.int .i64 t115, .int .i64 t116, .slice Ao31 t117.length co31], .int .i64 a1, .int .i64 a2] rfl (by (try simp only [List.map_toArray, List.map_cons, List.map_nil]); first | done | rfl | (simp only [List.length_drop, List.length_take]; rfl)) ?_; (with_reducible refine (impl_RepeatMaximum.calls k t115 t116 _ _ t117 a1 a2 t121 t122 t123 t126 _ ?side1 ?side2 A12.out).mono ?_); (case side1 => refine (Kd.R_reads' (e := 3) (base := w.heap.size) (ok := fun k_ => ((True ∧ some k_ ≠ (.slice Ao19 t105.length co19 : Value).ownBlock) ∧ some k_ ≠ (.slice Ao24 t110.length co24 : Value).ownBlock)) (n := t117.length) (c := co31) ?_).2.2; exact (pR ((Kd.R_mono (Kd.R_far (p := ⟨gb120, 2, none⟩) (Kd.R_far (p := ⟨gb120, 1, none⟩) (Kd.R_far (p := ⟨gb120, 0, none⟩) (Kd.R_types HO119.out BK120.out (by decide)) (fun _ hk => hk.2) (.int .i64 t115)) (fun _ hk => hk.2) (.int .i64 t116)) (fun _ hk => hk.2) (.slice Ao31 t117.length co31)) (fun _ h_ => h_.1))))); (case side2 => exact (Kd.R_reads' HO119.out).2.1); rintro e w32 ⟨v124, rfl, ho0, hb⟩; refine ⟨_, rfl, ?_⟩; have n0_ := aK (Kd.R_elder' (pR ((Kd.R_mono (Kd.R_far (p := ⟨gb120, 2, none⟩) (Kd.R_far (p := ⟨gb120, 1, none⟩) (Kd.R_far (p := ⟨gb120, 0, none⟩) (Kd.R_types HO107.out BK120.out (by decide)) (fun _ hk => hk.2) (.int .i64 t115)) (fun _ hk => hk.2) (.int .i64 t116)) (fun _ hk => hk.2) (.slice Ao31 t117.length co31)) (fun _ h_ => h_.1)))) (Kd.R_base ho0) hb); have n1_ := aK (Kd.R_elder' (pR ((Kd.R_mono (Kd.R_far (p := ⟨gb120, 2, none⟩) (Kd.R_far (p := ⟨gb120, 1, none⟩) (Kd.R_far (p := ⟨gb120, 0, none⟩) (Kd.R_types HO112.out BK120.out (by decide)) (fun _ hk => hk.2) (.int .i64 t115)) (fun _ hk => hk.2) (.int .i64 t116)) (fun _ hk => hk.2) (.slice Ao31 t117.length co31)) (fun _ h_ => h_.1)))) (Kd.R_base ho0) hb); have n2_ := aK (Kd.R_elder' (pR ((Kd.R_mono (Kd.R_far (p := ⟨gb120, 2, none⟩) (Kd.R_far (p := ⟨gb120, 1, none⟩) (Kd.R_far (p := ⟨gb120, 0, none⟩) (Kd.R_types HO119.out BK120.out (by decide)) (fun _ hk => hk.2) (.int .i64 t115)) (fun _ hk => hk.2) (.int .i64 t116)) (fun _ hk => hk.2) (.slice Ao31 t117.length co31)) (fun _ h_ => h_.1)))) (Kd.R_base ho0) hb); have HO125 := aK (Kd.R_lower (Kd.R_new' (Kd.R_new' (Kd.R_new' ho0 (Kd.R_lt (pR ((Kd.R_mono (Kd.R_far (p := ⟨gb120, 2, none⟩) (Kd.R_far (p := ⟨gb120, 1, none⟩) (Kd.R_far (p := ⟨gb120, 0, none⟩) (Kd.R_types HO107.out BK120.out (by decide)) (fun _ hk => hk.2) (.int .i64 t115)) (fun _ hk => hk.2) (.int .i64 t116)) (fun _ hk => hk.2) (.slice Ao31 t117.length co31)) (fun _ h_ => h_.1)))))) (Kd.R_lt (pR ((Kd.R_mono (Kd.R_far (p := ⟨gb120, 2, none⟩) (Kd.R_far (p := ⟨gb120, 1, none⟩) (Kd.R_far (p := ⟨gb120, 0, none⟩) (Kd.R_types HO112.out BK120.out (by decide)) (fun _ hk => hk.2) (.int .i64 t115)) (fun _ hk => hk.2) (.int .i64 t116)) (fun _ hk => hk.2) (.slice Ao31 t117.length co31)) (fun _ h_ => h_.1)))))) (Kd.R_lt (pR ((Kd.R_mono (Kd.R_far (p := ⟨gb120, 2, none⟩) (Kd.R_far (p := ⟨gb120, 1, none⟩) (Kd.R_far (p := ⟨gb120, 0, none⟩) (Kd.R_types HO119.out BK120.out (by decide)) (fun _ hk => hk.2) (.int .i64 t115)) (fun _ hk => hk.2) (.int .i64 t116)) (fun _ hk => hk.2) (.slice Ao31 t117.length co31)) (fun _ h_ => h_.1)))))) (below_size (pS HB.out))); have n4_ := aK (blk_below (g := gb101) (o := .cells #[.int .i64 a0_0, .int .i64 a0_1, .slice A0_2 l0_2.length c0_2] 40 (0, 0)) (by (with_reducible repeat (first | refine blk_drewN ?_ _ | refine blk_drew ?_ | refine blk_alloc ?_ _)); refine blk_far ?_ NB101_120.out _; (with_reducible repeat (first | refine blk_drewN ?_ _ | refine blk_drew ?_ | refine blk_alloc ?_ _)); refine blk_far ?_ NB101_120.out _; (with_reducible repeat (first | refine blk_drewN ?_ _ | refine blk_drew ?_ | refine blk_alloc ?_ _)); refine blk_far ?_ NB101_120.out _; (with_reducible repeat (first | refine blk_drewN ?_ _ | refine blk_drew ?_ | refine blk_alloc ?_ _)); exact BK101.out) hb); have n5_ := aK (blk_below (g := gb114) (o := .cells #[.int .i64 t108, .int .i64 t109, .slice Ao24 t110.length co24] 24 (0, 0)) (by (with_reducible repeat (first | refine blk_drewN ?_ _ | refine blk_drew ?_ | refine blk_alloc ?_ _)); refine blk_far ?_ NB114_120.out _; (with_reducible repeat (first | refine blk_drewN ?_ _ | refine blk_drew ?_ | refine blk_alloc ?_ _)); refine blk_far ?_ NB114_120.out _; (with_reducible repeat (first | refine blk_drewN ?_ _ | refine blk_drew ?_ | refine blk_alloc ?_ _)); refine blk_far ?_ NB114_120.out _; (with_reducible repeat (first | refine blk_drewN ?_ _ | refine blk_drew ?_ | refine blk_alloc ?_ _)); exact BK114.out) hb); have n6_ := aK (blk_below (g := gb120) (o := .cells #[.int .i64 t115, .int .i64 t116, .slice Ao31 t117.length co31] 24 (0, 0)) (by (with_reducible repeat (first | refine blk_drewN ?_ _ | refine blk_drew ?_ | refine blk_alloc ?_ _)); refine blk_put (cs := #[.int .i64 t115, .int .i64 t116, .slice none 0 0]) ?_ 2 _ rfl; (with_reducible repeat (first | refine blk_drewN ?_ _ | refine blk_drew ?_ | refine blk_alloc ?_ _)); refine blk_put (cs := #[.int .i64 t115, .int .i64 0, .slice none 0 0]) ?_ 1 _ rfl; (with_reducible repeat (first | refine blk_drewN ?_ _ | refine blk_drew ?_ | refine blk_alloc ?_ _)); refine blk_put (cs := #[.int .i64 0, .int .i64 0, .slice none 0 0]) ?_ 0 _ rfl; (with_reducible repeat (first | refine blk_drewN ?_ _ | refine blk_drew ?_ | refine blk_alloc ?_ _)); exact BK120.out) hb); replace HB := bS HB hb; clear HO107 HO112 HO119 BK101 BK114 BK120; have HO107 := n0_; have HO112 := n1_; have HO119 := n2_; have BK101 := n4_; have BK114 := n5_; have BK120 := n6_; clear n0_ n1_ n2_ n4_ n5_ n6_; (try clear hb); (try clear hb2); (try clear hk); (try clear hi); (try clear ho0)) | ((with_reducible refine gate_dst (N := 11) rfl ?_); refine box_event ?hg (N := 11) ?hd (cs := #[.int .i64 0, .int .i64 0, .slice none 0 0]) (t := 24) ?hr ?_; (case hd => rfl); (case hg => rfl); (case hr => first | (go_simp; done) | (go_simp; rfl)); intro gb127 hg w33 hbox hb; have n0_ := aK (Kd.R_below (pR HO107.out) hb); have n1_ := aK (Kd.R_below (pR HO112.out) hb); have n2_ := aK (Kd.R_below (pR HO119.out) hb); have n3_ := aK (Kd.R_below (pR HO125.out) hb); have BK127 := aK (hbox); have GW127 := aK (gE hg (pS HB.out)); have GE127 := aK (gE hg (pS HB.out)); have NB101_127 := aK (nL hg (pB BK101.out)); have NB127_101 := aK (nG hg (pB BK101.out)); have NB114_127 := aK (nL hg (pB BK114.out)); have NB127_114 := aK (nG hg (pB BK114.out)); have NB120_127 := aK (nL hg (pB BK120.out)); have NB127_120 := aK (nG hg (pB BK120.out)); replace BK101 := bB BK101 hb; replace BK114 := bB BK114 hb; replace BK120 := bB BK120 hb; replace HB := bS HB hb; clear HO107 HO112 HO119 HO125; have HO107 := n0_; have HO112 := n1_; have HO119 := n2_; have HO125 := n3_; clear n0_ n1_ n2_ n3_ hb hbox hg; have hnb34 := NB127_101.out; have hnc34 := NB101_127.out; have hnb35 := NB127_114.out; have hnc35 := NB114_127.out; have hnb36 := NB127_120.out; have hnc36 := NB120_127.out; have hcz37_0 : w33.cell? ⟨gb127, 0, none⟩ = some (.int .i64 0) := (blk_cell BK127.out 0).trans rfl; have hcz37_1 : w33.cell? ⟨gb127, 1, none⟩ = some (.int .i64 0) := (blk_cell BK127.out 1).trans rfl; have hcz37_2 : w33.cell? ⟨gb127, 2, none⟩ = some (.slice none 0 0) := (blk_cell BK127.out 2).trans rfl; have hfz37_0 := blk_frozen BK127.out 0; have hfz37_1 := blk_frozen BK127.out 1; have hfz37_2 := blk_frozen BK127.out 2; obtain ⟨Ao38, co38, eo38⟩ := Kd.R_slice HO125.out; subst eo38))
  (try simp only [Act.put, List.setIfInBounds_toArray, List.set_cons_zero, List.set_cons_succ])
  go_cut [48] (fun v48 wc => ∃ (kq : Nat) (x48_12 : Bool), v48 = .bool x48_12 ∧ Aside0 (laws_FnExactRepeatMaximum.j0 kq a1 a2 t113 t126 x48_12 a0_0 a0_1 l0_2 t108 t109 t110 t115 t116 t117 t121 t122 t123 = some r) ∧ Aside0 (kq ≤ k) ∧ Aside0 (Kd.R (Kd.int .i64) 3 wc w.heap.size (fun k_ => some k_ ≠ ((.slice Ao31 t117.length co31) : Value).ownBlock ∧ some k_ ≠ ((.slice Ao38 t123.length co38) : Value).ownBlock) (.slice Ao24 t110.length co24) t110) ∧ Aside0 (Kd.R (Kd.int .i64) 3 wc w.heap.size (fun k_ => some k_ ≠ ((.slice Ao24 t110.length co24) : Value).ownBlock ∧ some k_ ≠ ((.slice Ao38 t123.length co38) : Value).ownBlock) (.slice Ao31 t117.length co31) t117) ∧ Aside0 (Kd.R (Kd.int .i64) 3 wc w.heap.size (fun k_ => some k_ ≠ ((.slice Ao24 t110.length co24) : Value).ownBlock ∧ some k_ ≠ ((.slice Ao31 t117.length co31) : Value).ownBlock) (.slice Ao38 t123.length co38) t123) ∧ Aside0 (wc.heap[gb101]? = some (.cells #[.int .i64 a0_0, .int .i64 a0_1, (.slice A0_2 l0_2.length c0_2)] 40 (0, 0))) ∧ Aside0 (wc.heap[gb114]? = some (.cells #[.int .i64 t108, .int .i64 t109, (.slice Ao24 t110.length co24)] 24 (0, 0))) ∧ Aside0 (wc.heap[gb120]? = some (.cells #[.int .i64 t115, .int .i64 t116, (.slice Ao31 t117.length co31)] 24 (0, 0))) ∧ Aside0 (wc.heap[gb127]? = some (.cells #[.int .i64 t121, .int .i64 t122, (.slice Ao38 t123.length co38)] 24 (0, 0))) ∧ Aside0 (Below w.heap.size w wc))
  case first =>
   have H := HC13.out
   clear HC13
   replace H := Option.bind_eq_some_iff.mp H
   obtain ⟨t128, A390, H⟩ := H
   replace H : (if t128 = true then (laws_FnExactRepeatMaximum.j0 k a1 a2 t113 t126 (t126 != t113) a0_0 a0_1 l0_2 t108 t109 t110 t115 t116 t117 t121 t122 t123) else (laws_FnExactRepeatMaximum.j0 k a1 a2 t113 t126 true a0_0 a0_1 l0_2 t108 t109 t110 t115 t116 t117 t121 t122 t123)) = some r := H
   have A39 := Aside0.mk A390
   clear A390
   by_cases c40 : t128 = true
   ·
    subst c40
    have H1 : (laws_FnExactRepeatMaximum.j0 k a1 a2 t113 t126 (t126 != t113) a0_0 a0_1 l0_2 t108 t109 t110 t115 t116 t117 t121 t122 t123) = some r := by rw [if_pos rfl] at H; exact H
    clear H
    have H := H1
    clear H1
    have H' := Aside0.mk H
    clear H
    have hnb41 := NB127_101.out
    have hnc41 := NB101_127.out
    have hnb42 := NB127_114.out
    have hnc42 := NB114_127.out
    have hnb43 := NB127_120.out
    have hnc43 := NB120_127.out
    have hcz44_0 : w33.cell? ⟨gb127, 0, none⟩ = some (.int .i64 0) := (blk_cell BK127.out 0).trans rfl
    have hcz44_1 : w33.cell? ⟨gb127, 1, none⟩ = some (.int .i64 0) := (blk_cell BK127.out 1).trans rfl
    have hcz44_2 : w33.cell? ⟨gb127, 2, none⟩ = some (.slice none 0 0) := (blk_cell BK127.out 2).trans rfl
    have hfz44_0 := blk_frozen BK127.out 0
    have hfz44_1 := blk_frozen BK127.out 1
    have hfz44_2 := blk_frozen BK127.out 2
    have hnb45 := NB114_101.out
    have hnc45 := NB101_114.out
    have hnb46 := NB114_120.out
    have hnc46 := NB120_114.out
    have hcz47_0 : w33.cell? ⟨gb114, 0, none⟩ = some (.int .i64 t108) := (blk_cell BK114.out 0).trans rfl
    have hcz47_1 : w33.cell? ⟨gb114, 1, none⟩ = some (.int .i64 t109) := (blk_cell BK114.out 1).trans rfl
    have hcz47_2 : w33.cell? ⟨gb114, 2, none⟩ = some (.slice Ao24 t110.length co24) := (blk_cell BK114.out 2).trans rfl
    have hfz47_0 := blk_frozen BK114.out 0
    have hfz47_1 := blk_frozen BK114.out 1
    have hfz47_2 := blk_frozen BK114.out 2
    go_wp2_with (first | ((with_reducible refine gate_callee (f := 21) rfl ?_); refine goesL_ (some 42) rfl rfl Try.func21 (by kernel_rfl) rfl #[.agg #[.int .i64 t121, .int .i64 t122, .slice Ao38 t123.length co38], .agg #[.int .i64 t108, .int .i64 t109, .slice Ao24 t110.length co24]] rfl (by (try simp only [List.map_toArray, List.map_cons, List.map_nil]); first | done | rfl | (simp only [List.length_drop, List.length_take]; rfl)) ?_; (with_reducible refine (laws_eqField.calls k t121 t122 _ _ t123 t108 t109 _ _ t110 true _ ?side1 ?side2 ?side3 ?side4 A39.out).mono ?_); (case side1 => refine (Kd.R_reads' (e := 3) (base := w.heap.size) (ok := fun k_ => (((True ∧ some k_ ≠ (.slice Ao19 t105.length co19 : Value).ownBlock) ∧ some k_ ≠ (.slice Ao24 t110.length co24 : Value).ownBlock) ∧ some k_ ≠ (.slice Ao31 t117.length co31 : Value).ownBlock)) (n := t123.length) (c := co38) ?_).2.2; exact (pR ((Kd.R_mono (Kd.R_far (p := ⟨gb127, 2, none⟩) (Kd.R_far (p := ⟨gb127, 1, none⟩) (Kd.R_far (p := ⟨gb127, 0, none⟩) (Kd.R_types HO125.out BK127.out (by decide)) (fun _ hk => hk.2) (.int .i64 t121)) (fun _ hk => hk.2) (.int .i64 t122)) (fun _ hk => hk.2) (.slice Ao38 t123.length co38)) (fun _ h_ => h_.1))))); (case side2 => exact (Kd.R_reads' HO125.out).2.1); (case side3 => refine (Kd.R_reads' (e := 3) (base := w.heap.size) (ok := fun k_ => (((True ∧ some k_ ≠ (.slice Ao19 t105.length co19 : Value).ownBlock) ∧ some k_ ≠ (.slice Ao31 t117.length co31 : Value).ownBlock) ∧ some k_ ≠ (.slice Ao38 t123.length co38 : Value).ownBlock)) (n := t110.length) (c := co24) ?_).2.2; exact (pR ((Kd.R_mono (Kd.R_far (p := ⟨gb127, 2, none⟩) (Kd.R_far (p := ⟨gb127, 1, none⟩) (Kd.R_far (p := ⟨gb127, 0, none⟩) (Kd.R_types HO112.out BK127.out (by decide)) (fun _ hk => hk.2) (.int .i64 t121)) (fun _ hk => hk.2) (.int .i64 t122)) (fun _ hk => hk.2) (.slice Ao38 t123.length co38)) (fun _ h_ => h_.1))))); (case side4 => exact (Kd.R_reads' HO112.out).2.1); rintro e w48 ⟨rfl, hb⟩; refine ⟨_, rfl, ?_⟩; have n0_ := aK (Kd.R_below (pR ((Kd.R_mono (Kd.R_far (p := ⟨gb127, 2, none⟩) (Kd.R_far (p := ⟨gb127, 1, none⟩) (Kd.R_far (p := ⟨gb127, 0, none⟩) (Kd.R_types HO107.out BK127.out (by decide)) (fun _ hk => hk.2) (.int .i64 t121)) (fun _ hk => hk.2) (.int .i64 t122)) (fun _ hk => hk.2) (.slice Ao38 t123.length co38)) (fun _ h_ => h_.1)))) hb); have n1_ := aK (Kd.R_below (pR ((Kd.R_mono (Kd.R_far (p := ⟨gb127, 2, none⟩) (Kd.R_far (p := ⟨gb127, 1, none⟩) (Kd.R_far (p := ⟨gb127, 0, none⟩) (Kd.R_types HO112.out BK127.out (by decide)) (fun _ hk => hk.2) (.int .i64 t121)) (fun _ hk => hk.2) (.int .i64 t122)) (fun _ hk => hk.2) (.slice Ao38 t123.length co38)) (fun _ h_ => h_.1)))) hb); have n2_ := aK (Kd.R_below (pR ((Kd.R_mono (Kd.R_far (p := ⟨gb127, 2, none⟩) (Kd.R_far (p := ⟨gb127, 1, none⟩) (Kd.R_far (p := ⟨gb127, 0, none⟩) (Kd.R_types HO119.out BK127.out (by decide)) (fun _ hk => hk.2) (.int .i64 t121)) (fun _ hk => hk.2) (.int .i64 t122)) (fun _ hk => hk.2) (.slice Ao38 t123.length co38)) (fun _ h_ => h_.1)))) hb); have n3_ := aK (Kd.R_below (pR ((Kd.R_mono (Kd.R_far (p := ⟨gb127, 2, none⟩) (Kd.R_far (p := ⟨gb127, 1, none⟩) (Kd.R_far (p := ⟨gb127, 0, none⟩) (Kd.R_types HO125.out BK127.out (by decide)) (fun _ hk => hk.2) (.int .i64 t121)) (fun _ hk => hk.2) (.int .i64 t122)) (fun _ hk => hk.2) (.slice Ao38 t123.length co38)) (fun _ h_ => h_.1)))) hb); have n4_ := aK (blk_below (g := gb101) (o := .cells #[.int .i64 a0_0, .int .i64 a0_1, .slice A0_2 l0_2.length c0_2] 40 (0, 0)) (by (with_reducible repeat (first | refine blk_drewN ?_ _ | refine blk_drew ?_ | refine blk_alloc ?_ _)); refine blk_far ?_ NB101_127.out _; (with_reducible repeat (first | refine blk_drewN ?_ _ | refine blk_drew ?_ | refine blk_alloc ?_ _)); refine blk_far ?_ NB101_127.out _; (with_reducible repeat (first | refine blk_drewN ?_ _ | refine blk_drew ?_ | refine blk_alloc ?_ _)); refine blk_far ?_ NB101_127.out _; (with_reducible repeat (first | refine blk_drewN ?_ _ | refine blk_drew ?_ | refine blk_alloc ?_ _)); exact BK101.out) hb); have n5_ := aK (blk_below (g := gb114) (o := .cells #[.int .i64 t108, .int .i64 t109, .slice Ao24 t110.length co24] 24 (0, 0)) (by (with_reducible repeat (first | refine blk_drewN ?_ _ | refine blk_drew ?_ | refine blk_alloc ?_ _)); refine blk_far ?_ NB114_127.out _; (with_reducible repeat (first | refine blk_drewN ?_ _ | refine blk_drew ?_ | refine blk_alloc ?_ _)); refine blk_far ?_ NB114_127.out _; (with_reducible repeat (first | refine blk_drewN ?_ _ | refine blk_drew ?_ | refine blk_alloc ?_ _)); refine blk_far ?_ NB114_127.out _; (with_reducible repeat (first | refine blk_drewN ?_ _ | refine blk_drew ?_ | refine blk_alloc ?_ _)); exact BK114.out) hb); have n6_ := aK (blk_below (g := gb120) (o := .cells #[.int .i64 t115, .int .i64 t116, .slice Ao31 t117.length co31] 24 (0, 0)) (by (with_reducible repeat (first | refine blk_drewN ?_ _ | refine blk_drew ?_ | refine blk_alloc ?_ _)); refine blk_far ?_ NB120_127.out _; (with_reducible repeat (first | refine blk_drewN ?_ _ | refine blk_drew ?_ | refine blk_alloc ?_ _)); refine blk_far ?_ NB120_127.out _; (with_reducible repeat (first | refine blk_drewN ?_ _ | refine blk_drew ?_ | refine blk_alloc ?_ _)); refine blk_far ?_ NB120_127.out _; (with_reducible repeat (first | refine blk_drewN ?_ _ | refine blk_drew ?_ | refine blk_alloc ?_ _)); exact BK120.out) hb); have n7_ := aK (blk_below (g := gb127) (o := .cells #[.int .i64 t121, .int .i64 t122, .slice Ao38 t123.length co38] 24 (0, 0)) (by (with_reducible repeat (first | refine blk_drewN ?_ _ | refine blk_drew ?_ | refine blk_alloc ?_ _)); refine blk_put (cs := #[.int .i64 t121, .int .i64 t122, .slice none 0 0]) ?_ 2 _ rfl; (with_reducible repeat (first | refine blk_drewN ?_ _ | refine blk_drew ?_ | refine blk_alloc ?_ _)); refine blk_put (cs := #[.int .i64 t121, .int .i64 0, .slice none 0 0]) ?_ 1 _ rfl; (with_reducible repeat (first | refine blk_drewN ?_ _ | refine blk_drew ?_ | refine blk_alloc ?_ _)); refine blk_put (cs := #[.int .i64 0, .int .i64 0, .slice none 0 0]) ?_ 0 _ rfl; (with_reducible repeat (first | refine blk_drewN ?_ _ | refine blk_drew ?_ | refine blk_alloc ?_ _)); exact BK127.out) hb); replace HB := bS HB hb; clear HO107 HO112 HO119 HO125 BK101 BK114 BK120 BK127; have HO107 := n0_; have HO112 := n1_; have HO119 := n2_; have HO125 := n3_; have BK101 := n4_; have BK114 := n5_; have BK120 := n6_; have BK127 := n7_; clear n0_ n1_ n2_ n3_ n4_ n5_ n6_ n7_; (try clear hb); (try clear hb2); (try clear hk); (try clear hi)))
    go_meet
    case rel => exact ⟨_, ((t126 != t113)), (by first | rfl | (simp; done) | (simp [*]; done)), H', ⟨by first | omega | exact Nat.le_refl _⟩, ⟨by (with_reducible repeat (first | apply Kd.R_alloc | apply Kd.R_drewN | apply Kd.R_drew)); exact Kd.R_mono HO112.out (fun _ hk => ⟨hk.1.2, hk.2⟩)⟩, ⟨by (with_reducible repeat (first | apply Kd.R_alloc | apply Kd.R_drewN | apply Kd.R_drew)); exact Kd.R_mono HO119.out (fun _ hk => ⟨hk.1.2, hk.2⟩)⟩, ⟨by (with_reducible repeat (first | apply Kd.R_alloc | apply Kd.R_drewN | apply Kd.R_drew)); exact Kd.R_mono HO125.out (fun _ hk => ⟨hk.1.2, hk.2⟩)⟩, ⟨by (with_reducible repeat (first | refine blk_drewN ?_ _ | refine blk_drew ?_ | refine blk_alloc ?_ _)); exact BK101.out⟩, ⟨by (with_reducible repeat (first | refine blk_drewN ?_ _ | refine blk_drew ?_ | refine blk_alloc ?_ _)); exact BK114.out⟩, ⟨by (with_reducible repeat (first | refine blk_drewN ?_ _ | refine blk_drew ?_ | refine blk_alloc ?_ _)); exact BK120.out⟩, ⟨by (with_reducible repeat (first | refine blk_drewN ?_ _ | refine blk_drew ?_ | refine blk_alloc ?_ _)); exact BK127.out⟩, ⟨by repeat (first | (with_reducible first | exact HB.out | apply below_alloc | apply pw_below_drewN | apply below_drew1 | refine below_set ?_ GE101.out | refine below_set ?_ GE114.out | refine below_set ?_ GE120.out | refine below_set ?_ GE127.out) | exact HB.out)⟩⟩
   ·
    replace c40 := Bool.eq_false_iff.mpr c40
    subst c40
    have H1 : (laws_FnExactRepeatMaximum.j0 k a1 a2 t113 t126 true a0_0 a0_1 l0_2 t108 t109 t110 t115 t116 t117 t121 t122 t123) = some r := by rw [if_neg (show ¬ (false = true) by decide)] at H; exact H
    clear H
    have H := H1
    clear H1
    have H' := Aside0.mk H
    clear H
    have hnb49 := NB127_101.out
    have hnc49 := NB101_127.out
    have hnb50 := NB127_114.out
    have hnc50 := NB114_127.out
    have hnb51 := NB127_120.out
    have hnc51 := NB120_127.out
    have hcz52_0 : w33.cell? ⟨gb127, 0, none⟩ = some (.int .i64 0) := (blk_cell BK127.out 0).trans rfl
    have hcz52_1 : w33.cell? ⟨gb127, 1, none⟩ = some (.int .i64 0) := (blk_cell BK127.out 1).trans rfl
    have hcz52_2 : w33.cell? ⟨gb127, 2, none⟩ = some (.slice none 0 0) := (blk_cell BK127.out 2).trans rfl
    have hfz52_0 := blk_frozen BK127.out 0
    have hfz52_1 := blk_frozen BK127.out 1
    have hfz52_2 := blk_frozen BK127.out 2
    have hnb53 := NB114_101.out
    have hnc53 := NB101_114.out
    have hnb54 := NB114_120.out
    have hnc54 := NB120_114.out
    have hcz55_0 : w33.cell? ⟨gb114, 0, none⟩ = some (.int .i64 t108) := (blk_cell BK114.out 0).trans rfl
    have hcz55_1 : w33.cell? ⟨gb114, 1, none⟩ = some (.int .i64 t109) := (blk_cell BK114.out 1).trans rfl
    have hcz55_2 : w33.cell? ⟨gb114, 2, none⟩ = some (.slice Ao24 t110.length co24) := (blk_cell BK114.out 2).trans rfl
    have hfz55_0 := blk_frozen BK114.out 0
    have hfz55_1 := blk_frozen BK114.out 1
    have hfz55_2 := blk_frozen BK114.out 2
    go_wp2_with (first | ((with_reducible refine gate_callee (f := 21) rfl ?_); refine goesL_ (some 42) rfl rfl Try.func21 (by kernel_rfl) rfl #[.agg #[.int .i64 t121, .int .i64 t122, .slice Ao38 t123.length co38], .agg #[.int .i64 t108, .int .i64 t109, .slice Ao24 t110.length co24]] rfl (by (try simp only [List.map_toArray, List.map_cons, List.map_nil]); first | done | rfl | (simp only [List.length_drop, List.length_take]; rfl)) ?_; (with_reducible refine (laws_eqField.calls k t121 t122 _ _ t123 t108 t109 _ _ t110 false _ ?side1 ?side2 ?side3 ?side4 A39.out).mono ?_); (case side1 => refine (Kd.R_reads' (e := 3) (base := w.heap.size) (ok := fun k_ => (((True ∧ some k_ ≠ (.slice Ao19 t105.length co19 : Value).ownBlock) ∧ some k_ ≠ (.slice Ao24 t110.length co24 : Value).ownBlock) ∧ some k_ ≠ (.slice Ao31 t117.length co31 : Value).ownBlock)) (n := t123.length) (c := co38) ?_).2.2; exact (pR ((Kd.R_mono (Kd.R_far (p := ⟨gb127, 2, none⟩) (Kd.R_far (p := ⟨gb127, 1, none⟩) (Kd.R_far (p := ⟨gb127, 0, none⟩) (Kd.R_types HO125.out BK127.out (by decide)) (fun _ hk => hk.2) (.int .i64 t121)) (fun _ hk => hk.2) (.int .i64 t122)) (fun _ hk => hk.2) (.slice Ao38 t123.length co38)) (fun _ h_ => h_.1))))); (case side2 => exact (Kd.R_reads' HO125.out).2.1); (case side3 => refine (Kd.R_reads' (e := 3) (base := w.heap.size) (ok := fun k_ => (((True ∧ some k_ ≠ (.slice Ao19 t105.length co19 : Value).ownBlock) ∧ some k_ ≠ (.slice Ao31 t117.length co31 : Value).ownBlock) ∧ some k_ ≠ (.slice Ao38 t123.length co38 : Value).ownBlock)) (n := t110.length) (c := co24) ?_).2.2; exact (pR ((Kd.R_mono (Kd.R_far (p := ⟨gb127, 2, none⟩) (Kd.R_far (p := ⟨gb127, 1, none⟩) (Kd.R_far (p := ⟨gb127, 0, none⟩) (Kd.R_types HO112.out BK127.out (by decide)) (fun _ hk => hk.2) (.int .i64 t121)) (fun _ hk => hk.2) (.int .i64 t122)) (fun _ hk => hk.2) (.slice Ao38 t123.length co38)) (fun _ h_ => h_.1))))); (case side4 => exact (Kd.R_reads' HO112.out).2.1); rintro e w56 ⟨rfl, hb⟩; refine ⟨_, rfl, ?_⟩; have n0_ := aK (Kd.R_below (pR ((Kd.R_mono (Kd.R_far (p := ⟨gb127, 2, none⟩) (Kd.R_far (p := ⟨gb127, 1, none⟩) (Kd.R_far (p := ⟨gb127, 0, none⟩) (Kd.R_types HO107.out BK127.out (by decide)) (fun _ hk => hk.2) (.int .i64 t121)) (fun _ hk => hk.2) (.int .i64 t122)) (fun _ hk => hk.2) (.slice Ao38 t123.length co38)) (fun _ h_ => h_.1)))) hb); have n1_ := aK (Kd.R_below (pR ((Kd.R_mono (Kd.R_far (p := ⟨gb127, 2, none⟩) (Kd.R_far (p := ⟨gb127, 1, none⟩) (Kd.R_far (p := ⟨gb127, 0, none⟩) (Kd.R_types HO112.out BK127.out (by decide)) (fun _ hk => hk.2) (.int .i64 t121)) (fun _ hk => hk.2) (.int .i64 t122)) (fun _ hk => hk.2) (.slice Ao38 t123.length co38)) (fun _ h_ => h_.1)))) hb); have n2_ := aK (Kd.R_below (pR ((Kd.R_mono (Kd.R_far (p := ⟨gb127, 2, none⟩) (Kd.R_far (p := ⟨gb127, 1, none⟩) (Kd.R_far (p := ⟨gb127, 0, none⟩) (Kd.R_types HO119.out BK127.out (by decide)) (fun _ hk => hk.2) (.int .i64 t121)) (fun _ hk => hk.2) (.int .i64 t122)) (fun _ hk => hk.2) (.slice Ao38 t123.length co38)) (fun _ h_ => h_.1)))) hb); have n3_ := aK (Kd.R_below (pR ((Kd.R_mono (Kd.R_far (p := ⟨gb127, 2, none⟩) (Kd.R_far (p := ⟨gb127, 1, none⟩) (Kd.R_far (p := ⟨gb127, 0, none⟩) (Kd.R_types HO125.out BK127.out (by decide)) (fun _ hk => hk.2) (.int .i64 t121)) (fun _ hk => hk.2) (.int .i64 t122)) (fun _ hk => hk.2) (.slice Ao38 t123.length co38)) (fun _ h_ => h_.1)))) hb); have n4_ := aK (blk_below (g := gb101) (o := .cells #[.int .i64 a0_0, .int .i64 a0_1, .slice A0_2 l0_2.length c0_2] 40 (0, 0)) (by (with_reducible repeat (first | refine blk_drewN ?_ _ | refine blk_drew ?_ | refine blk_alloc ?_ _)); refine blk_far ?_ NB101_127.out _; (with_reducible repeat (first | refine blk_drewN ?_ _ | refine blk_drew ?_ | refine blk_alloc ?_ _)); refine blk_far ?_ NB101_127.out _; (with_reducible repeat (first | refine blk_drewN ?_ _ | refine blk_drew ?_ | refine blk_alloc ?_ _)); refine blk_far ?_ NB101_127.out _; (with_reducible repeat (first | refine blk_drewN ?_ _ | refine blk_drew ?_ | refine blk_alloc ?_ _)); exact BK101.out) hb); have n5_ := aK (blk_below (g := gb114) (o := .cells #[.int .i64 t108, .int .i64 t109, .slice Ao24 t110.length co24] 24 (0, 0)) (by (with_reducible repeat (first | refine blk_drewN ?_ _ | refine blk_drew ?_ | refine blk_alloc ?_ _)); refine blk_far ?_ NB114_127.out _; (with_reducible repeat (first | refine blk_drewN ?_ _ | refine blk_drew ?_ | refine blk_alloc ?_ _)); refine blk_far ?_ NB114_127.out _; (with_reducible repeat (first | refine blk_drewN ?_ _ | refine blk_drew ?_ | refine blk_alloc ?_ _)); refine blk_far ?_ NB114_127.out _; (with_reducible repeat (first | refine blk_drewN ?_ _ | refine blk_drew ?_ | refine blk_alloc ?_ _)); exact BK114.out) hb); have n6_ := aK (blk_below (g := gb120) (o := .cells #[.int .i64 t115, .int .i64 t116, .slice Ao31 t117.length co31] 24 (0, 0)) (by (with_reducible repeat (first | refine blk_drewN ?_ _ | refine blk_drew ?_ | refine blk_alloc ?_ _)); refine blk_far ?_ NB120_127.out _; (with_reducible repeat (first | refine blk_drewN ?_ _ | refine blk_drew ?_ | refine blk_alloc ?_ _)); refine blk_far ?_ NB120_127.out _; (with_reducible repeat (first | refine blk_drewN ?_ _ | refine blk_drew ?_ | refine blk_alloc ?_ _)); refine blk_far ?_ NB120_127.out _; (with_reducible repeat (first | refine blk_drewN ?_ _ | refine blk_drew ?_ | refine blk_alloc ?_ _)); exact BK120.out) hb); have n7_ := aK (blk_below (g := gb127) (o := .cells #[.int .i64 t121, .int .i64 t122, .slice Ao38 t123.length co38] 24 (0, 0)) (by (with_reducible repeat (first | refine blk_drewN ?_ _ | refine blk_drew ?_ | refine blk_alloc ?_ _)); refine blk_put (cs := #[.int .i64 t121, .int .i64 t122, .slice none 0 0]) ?_ 2 _ rfl; (with_reducible repeat (first | refine blk_drewN ?_ _ | refine blk_drew ?_ | refine blk_alloc ?_ _)); refine blk_put (cs := #[.int .i64 t121, .int .i64 0, .slice none 0 0]) ?_ 1 _ rfl; (with_reducible repeat (first | refine blk_drewN ?_ _ | refine blk_drew ?_ | refine blk_alloc ?_ _)); refine blk_put (cs := #[.int .i64 0, .int .i64 0, .slice none 0 0]) ?_ 0 _ rfl; (with_reducible repeat (first | refine blk_drewN ?_ _ | refine blk_drew ?_ | refine blk_alloc ?_ _)); exact BK127.out) hb); replace HB := bS HB hb; clear HO107 HO112 HO119 HO125 BK101 BK114 BK120 BK127; have HO107 := n0_; have HO112 := n1_; have HO119 := n2_; have HO125 := n3_; have BK101 := n4_; have BK114 := n5_; have BK120 := n6_; have BK127 := n7_; clear n0_ n1_ n2_ n3_ n4_ n5_ n6_ n7_; (try clear hb); (try clear hb2); (try clear hk); (try clear hi)))
    go_meet
    case rel => exact ⟨_, (true), (by first | rfl | (simp; done) | (simp [*]; done)), H', ⟨by first | omega | exact Nat.le_refl _⟩, ⟨by (with_reducible repeat (first | apply Kd.R_alloc | apply Kd.R_drewN | apply Kd.R_drew)); exact Kd.R_mono HO112.out (fun _ hk => ⟨hk.1.2, hk.2⟩)⟩, ⟨by (with_reducible repeat (first | apply Kd.R_alloc | apply Kd.R_drewN | apply Kd.R_drew)); exact Kd.R_mono HO119.out (fun _ hk => ⟨hk.1.2, hk.2⟩)⟩, ⟨by (with_reducible repeat (first | apply Kd.R_alloc | apply Kd.R_drewN | apply Kd.R_drew)); exact Kd.R_mono HO125.out (fun _ hk => ⟨hk.1.2, hk.2⟩)⟩, ⟨by (with_reducible repeat (first | refine blk_drewN ?_ _ | refine blk_drew ?_ | refine blk_alloc ?_ _)); exact BK101.out⟩, ⟨by (with_reducible repeat (first | refine blk_drewN ?_ _ | refine blk_drew ?_ | refine blk_alloc ?_ _)); exact BK114.out⟩, ⟨by (with_reducible repeat (first | refine blk_drewN ?_ _ | refine blk_drew ?_ | refine blk_alloc ?_ _)); exact BK120.out⟩, ⟨by (with_reducible repeat (first | refine blk_drewN ?_ _ | refine blk_drew ?_ | refine blk_alloc ?_ _)); exact BK127.out⟩, ⟨by repeat (first | (with_reducible first | exact HB.out | apply below_alloc | apply pw_below_drewN | apply below_drew1 | refine below_set ?_ GE101.out | refine below_set ?_ GE114.out | refine below_set ?_ GE120.out | refine below_set ?_ GE127.out) | exact HB.out)⟩⟩
  case rest =>
   clear HC13
   try clear c2
   try clear p2
   try clear c3
   try clear c4
   try clear c5
   try clear c5b0
   try clear c6
   try clear c21
   try clear c22
   try clear c28
   try clear c29
   try clear c30
   try clear c31
   try clear c34
   try clear c35
   try clear c36
   try clear c40
   try clear c41
   try clear c42
   try clear c43
   try clear c45
   try clear c46
   try clear c49
   try clear c50
   try clear c51
   try clear c53
   try clear c54
   try clear hcz15_0
   try clear hcz15_1
   try clear hcz15_2
   try clear hcz17_0
   try clear hcz17_1
   try clear hcz17_2
   try clear hcz23_0
   try clear hcz23_1
   try clear hcz23_2
   try clear hcz25_0
   try clear hcz25_1
   try clear hcz25_2
   try clear hcz30_0
   try clear hcz30_1
   try clear hcz30_2
   try clear hcz37_0
   try clear hcz37_1
   try clear hcz37_2
   try clear hcz44_0
   try clear hcz44_1
   try clear hcz44_2
   try clear hcz47_0
   try clear hcz47_1
   try clear hcz47_2
   try clear hcz52_0
   try clear hcz52_1
   try clear hcz52_2
   try clear hcz55_0
   try clear hcz55_1
   try clear hcz55_2
   try clear hcz7_0
   try clear hcz7_1
   try clear hcz7_2
   try clear hfz15_0
   try clear hfz15_1
   try clear hfz15_2
   try clear hfz17_0
   try clear hfz17_1
   try clear hfz17_2
   try clear hfz23_0
   try clear hfz23_1
   try clear hfz23_2
   try clear hfz25_0
   try clear hfz25_1
   try clear hfz25_2
   try clear hfz30_0
   try clear hfz30_1
   try clear hfz30_2
   try clear hfz37_0
   try clear hfz37_1
   try clear hfz37_2
   try clear hfz44_0
   try clear hfz44_1
   try clear hfz44_2
   try clear hfz47_0
   try clear hfz47_1
   try clear hfz47_2
   try clear hfz52_0
   try clear hfz52_1
   try clear hfz52_2
   try clear hfz55_0
   try clear hfz55_1
   try clear hfz55_2
   try clear hfz7_0
   try clear hfz7_1
   try clear hfz7_2
   obtain ⟨kq, x48_12, rfl, HA, HJ12, HO_115002, HO_121002, HO_128002, BK101, BK114, BK120, BK127, HB⟩ := hcut
   cases kq with
   | zero => exact absurd HA.out (by simp [laws_FnExactRepeatMaximum.j0])
   | succ kj12 =>
    have H := HA.out
    clear HA
    simp only [laws_FnExactRepeatMaximum.j0] at H
    by_cases c57 : x48_12 = true
    ·
     subst c57
     have H1 : (some false) = some r := by rw [if_pos rfl] at H; exact H
     clear H
     have H := H1
     clear H1
     obtain rfl := Option.some.inj H
     go_wp2
     go_ret
     exact ⟨by first | rfl | (simp [errW_none, errW_some] <;> rfl) | (simp [*, errW_none, errW_some] <;> rfl), by repeat (first | (with_reducible first | exact HB.out | apply below_alloc | apply pw_below_drewN | apply below_drew1) | exact HB.out)⟩
    ·
     replace c57 := Bool.eq_false_iff.mpr c57
     subst c57
     have H1 : ((laws_toField.f kj12 a0_0 a0_1 l0_2).bind fun bt129 => ((laws_eqField.f kj12 t115 t116 t117 bt129.1 bt129.2.1 bt129.2.2).bind fun t134 => (if t134 = true then ((laws_markField.f kj12 t115 t116 t117 1).bind fun bt135 => (if bt135.1 < 0 then (laws_FnExactRepeatMaximum.j1 kj12 a1 a2 t113 true a0_0 a0_1 l0_2 t108 t109 t110 t121 t122 t123) else ((laws_eqField.f kj12 t121 t122 t123 t108 t109 t110).bind fun t137 => (if t137 = true then (laws_FnExactRepeatMaximum.j1 kj12 a1 a2 t113 (t126 != t113) a0_0 a0_1 l0_2 t108 t109 t110 t121 t122 t123) else (laws_FnExactRepeatMaximum.j1 kj12 a1 a2 t113 true a0_0 a0_1 l0_2 t108 t109 t110 t121 t122 t123))))) else (some false)))) = some r := by rw [if_neg (show ¬ (false = true) by decide)] at H; exact H
     clear H
     have H := H1
     clear H1
     replace H := Option.bind_eq_some_iff.mp H
     obtain ⟨⟨t129, t130, t131⟩, A580, H⟩ := H
     replace H : ((laws_eqField.f kj12 t115 t116 t117 t129 t130 t131).bind fun t134 => (if t134 = true then ((laws_markField.f kj12 t115 t116 t117 1).bind fun bt135 => (if bt135.1 < 0 then (laws_FnExactRepeatMaximum.j1 kj12 a1 a2 t113 true a0_0 a0_1 l0_2 t108 t109 t110 t121 t122 t123) else ((laws_eqField.f kj12 t121 t122 t123 t108 t109 t110).bind fun t137 => (if t137 = true then (laws_FnExactRepeatMaximum.j1 kj12 a1 a2 t113 (t126 != t113) a0_0 a0_1 l0_2 t108 t109 t110 t121 t122 t123) else (laws_FnExactRepeatMaximum.j1 kj12 a1 a2 t113 true a0_0 a0_1 l0_2 t108 t109 t110 t121 t122 t123))))) else (some false))) = some r := H
     have A58 := Aside0.mk A580
     clear A580
     replace H := Option.bind_eq_some_iff.mp H
     obtain ⟨t134, A590, H⟩ := H
     replace H : (if t134 = true then ((laws_markField.f kj12 t115 t116 t117 1).bind fun bt135 => (if bt135.1 < 0 then (laws_FnExactRepeatMaximum.j1 kj12 a1 a2 t113 true a0_0 a0_1 l0_2 t108 t109 t110 t121 t122 t123) else ((laws_eqField.f kj12 t121 t122 t123 t108 t109 t110).bind fun t137 => (if t137 = true then (laws_FnExactRepeatMaximum.j1 kj12 a1 a2 t113 (t126 != t113) a0_0 a0_1 l0_2 t108 t109 t110 t121 t122 t123) else (laws_FnExactRepeatMaximum.j1 kj12 a1 a2 t113 true a0_0 a0_1 l0_2 t108 t109 t110 t121 t122 t123))))) else (some false)) = some r := H
     have A59 := Aside0.mk A590
     clear A590
     by_cases c60 : t134 = true
     ·
      subst c60
      have H1 : ((laws_markField.f kj12 t115 t116 t117 1).bind fun bt135 => (if bt135.1 < 0 then (laws_FnExactRepeatMaximum.j1 kj12 a1 a2 t113 true a0_0 a0_1 l0_2 t108 t109 t110 t121 t122 t123) else ((laws_eqField.f kj12 t121 t122 t123 t108 t109 t110).bind fun t137 => (if t137 = true then (laws_FnExactRepeatMaximum.j1 kj12 a1 a2 t113 (t126 != t113) a0_0 a0_1 l0_2 t108 t109 t110 t121 t122 t123) else (laws_FnExactRepeatMaximum.j1 kj12 a1 a2 t113 true a0_0 a0_1 l0_2 t108 t109 t110 t121 t122 t123))))) = some r := by rw [if_pos rfl] at H; exact H
      clear H
      have H := H1
      clear H1
      replace H := Option.bind_eq_some_iff.mp H
      obtain ⟨⟨t135, t136⟩, A610, H⟩ := H
      replace H : (if t135 < 0 then (laws_FnExactRepeatMaximum.j1 kj12 a1 a2 t113 true a0_0 a0_1 l0_2 t108 t109 t110 t121 t122 t123) else ((laws_eqField.f kj12 t121 t122 t123 t108 t109 t110).bind fun t137 => (if t137 = true then (laws_FnExactRepeatMaximum.j1 kj12 a1 a2 t113 (t126 != t113) a0_0 a0_1 l0_2 t108 t109 t110 t121 t122 t123) else (laws_FnExactRepeatMaximum.j1 kj12 a1 a2 t113 true a0_0 a0_1 l0_2 t108 t109 t110 t121 t122 t123)))) = some r := H
      have A61 := Aside0.mk A610
      clear A610
      have HC62 := Aside0.mk H
      clear H
      try go_wp2
      have n0_ := aK (Kd.R_drew HO_115002.out)
      have n1_ := aK (Kd.R_drew HO_121002.out)
      have n2_ := aK (Kd.R_drew HO_128002.out)
      have n3_ := aK (blk_drew BK101.out)
      have n4_ := aK (blk_drew BK114.out)
      have n5_ := aK (blk_drew BK120.out)
      have n6_ := aK (blk_drew BK127.out)
      have n7_ := aK (below_drew1 HB.out)
      clear HO_115002 HO_121002 HO_128002 BK101 BK114 BK120 BK127 HB
      have HO_115002 := n0_
      have HO_121002 := n1_
      have HO_128002 := n2_
      have BK101 := n3_
      have BK114 := n4_
      have BK120 := n5_
      have BK127 := n6_
      have HB := n7_
      clear n0_ n1_ n2_ n3_ n4_ n5_ n6_ n7_
      refine start_ (n := 5) (S := fun w' => w'.cell? ⟨gb120, 0, none⟩ = some (.int .i64 t115) ∧ w'.cell? ⟨gb120, 1, none⟩ = some (.int .i64 t116) ∧ w'.cell? ⟨gb120, 2, none⟩ = some (.slice Ao31 t117.length co31) ∧ w'.cell? ⟨gb101, 0, none⟩ = some (.int .i64 a0_0) ∧ w'.cell? ⟨gb101, 1, none⟩ = some (.int .i64 a0_1) ∧ w'.cell? ⟨gb101, 2, none⟩ = some (.slice A0_2 l0_2.length c0_2)) (ds := []) #[false, false, false, false, false] (by kernel_rfl) rfl rfl ⟨(blk_cell BK120.out 0).trans rfl, (blk_cell BK120.out 1).trans rfl, (blk_cell BK120.out 2).trans rfl, (blk_cell BK101.out 0).trans rfl, (blk_cell BK101.out 1).trans rfl, (blk_cell BK101.out 2).trans rfl⟩ (fun hHeld => ?_)
      generalize wc.drew = w63 at HO_115002 HO_121002 HO_128002 BK101 BK114 BK120 BK127 HB hHeld ⊢
      refine take_ (i := 0) (N := some 49) (v := ?_) (a' := ?_) #[true, false, false, false, false] rfl rfl (by kernel_rfl) (fun _ _ _ h => h) (Or.inl ⟨by rfl, ?_⟩) hHeld ?_ ?_
      rotate_left
      ·
       rintro w' ⟨s0, s1, s2, s3, s4, s5⟩
       go_simp
       with_reducible rfl
      rotate_left
      ·
       simp only [Act.put, List.setIfInBounds_toArray, List.set_cons_zero, List.set_cons_succ, i64_w, i32_w]
       rfl
      refine take_ (i := 1) (N := some 50) (v := ?_) (a' := ?_) #[true, true, false, false, false] rfl rfl (by kernel_rfl) (fun _ _ _ h => h) (Or.inl ⟨by rfl, ?_⟩) hHeld ?_ ?_
      rotate_left
      ·
       rintro w' ⟨s0, s1, s2, s3, s4, s5⟩
       go_simp
       with_reducible rfl
      rotate_left
      ·
       simp only [Act.put, List.setIfInBounds_toArray, List.set_cons_zero, List.set_cons_succ, i64_w, i32_w]
       rfl
      refine one_ (i := 2) (N := some 51) #[true, true, true, false, false] rfl rfl (by kernel_rfl) (by decide) (fun K hK => ?_)
      refine goes_ Try.func30 (by kernel_rfl) rfl #[.agg #[.int .i64 a0_0, .int .i64 a0_1, .slice A0_2 l0_2.length c0_2]] (by rfl) rfl rfl (by (try simp only [List.map_toArray, List.map_cons, List.map_nil]); first | done | rfl | (simp only [List.length_drop, List.length_take]; rfl)) ?_
      with_reducible refine (laws_toField.calls kj12 a0_0 a0_1 _ _ l0_2 t129 t130 t131 _ ?side1 ?side2 A58.out).mono ?_
      (case side1 => repeat (first | exact (Kd.C_below HR0_2.out HB.out) | (with_reducible refine Kd.C_alloc ?_ _) | (with_reducible refine Kd.C_drewN ?_ _) | (with_reducible refine Kd.C_drew ?_)))
      (case side2 => exact HC0_2.out)
      rintro e w64 ⟨v132, rfl, ho0, hb⟩
      refine ⟨_, rfl, ?_⟩
      have n0_ := aK (Kd.R_elder' (pR HO_115002.out) (Kd.R_base ho0) hb)
      have n1_ := aK (Kd.R_elder' (pR HO_121002.out) (Kd.R_base ho0) hb)
      have n2_ := aK (Kd.R_elder' (pR HO_128002.out) (Kd.R_base ho0) hb)
      have HO133 := aK (Kd.R_lower (Kd.R_new' (Kd.R_new' (Kd.R_new' ho0 (Kd.R_lt (pR HO_115002.out))) (Kd.R_lt (pR HO_121002.out))) (Kd.R_lt (pR HO_128002.out))) (below_size (pS HB.out)))
      replace BK101 := bB BK101 hb
      replace BK114 := bB BK114 hb
      replace BK120 := bB BK120 hb
      replace BK127 := bB BK127 hb
      replace HB := bS HB hb
      clear HO_115002 HO_121002 HO_128002
      have HO_115002 := n0_
      have HO_121002 := n1_
      have HO_128002 := n2_
      clear n0_ n1_ n2_
      (try clear hb)
      (try clear hb2)
      (try clear hk)
      (try clear hi)
      (try clear ho0)
      obtain ⟨Ao65, co65, eo65⟩ := Kd.R_slice HO133.out
      (first | subst eo65 | (injection eo65 with f1_ f2_ f3_; have f4_ := f1_.symm; have f5_ := f3_.symm; clear f1_ f2_ f3_; subst f4_; subst f5_))
      refine hK.out _ _ ⟨(blk_cell BK120.out 0).trans rfl, (blk_cell BK120.out 1).trans rfl, (blk_cell BK120.out 2).trans rfl, (blk_cell BK101.out 0).trans rfl, (blk_cell BK101.out 1).trans rfl, (blk_cell BK101.out 2).trans rfl⟩ (fun hHeld => ?_)
      clear hK K
      refine norm_ (a' := ?_) ?_ ?_
      rotate_left
      ·
       show Act.put _ (some 51) _ = _
       simp only [Act.put, List.setIfInBounds_toArray, List.set_cons_zero, List.set_cons_succ, i64_w, i32_w]
       rfl
      refine one_ (i := 3) (N := some 52) #[true, true, true, true, false] rfl rfl (by kernel_rfl) (by decide) (fun K hK => ?_)
      refine goes_ Try.func21 (by kernel_rfl) rfl #[.agg #[.int .i64 t115, .int .i64 t116, .slice Ao31 t117.length co31], .agg #[.int .i64 t129, .int .i64 t130, .slice Ao65 t131.length co65]] (by rfl) rfl rfl (by (try simp only [List.map_toArray, List.map_cons, List.map_nil]); first | done | rfl | (simp only [List.length_drop, List.length_take]; rfl)) ?_
      with_reducible refine (laws_eqField.calls kj12 t115 t116 _ _ t117 t129 t130 _ _ t131 true _ ?side1 ?side2 ?side3 ?side4 A59.out).mono ?_
      (case side1 => repeat (first | exact (Kd.R_reads' HO_121002.out).2.2 | (with_reducible refine Kd.C_alloc ?_ _) | (with_reducible refine Kd.C_drewN ?_ _) | (with_reducible refine Kd.C_drew ?_)))
      (case side2 => exact (Kd.R_reads' HO_121002.out).2.1)
      (case side3 => repeat (first | exact (Kd.R_reads' HO133.out).2.2 | (with_reducible refine Kd.C_alloc ?_ _) | (with_reducible refine Kd.C_drewN ?_ _) | (with_reducible refine Kd.C_drew ?_)))
      (case side4 => exact (Kd.R_reads' HO133.out).2.1)
      rintro e w66 ⟨rfl, hb⟩
      refine ⟨_, rfl, ?_⟩
      have n0_ := aK (Kd.R_below (pR HO_115002.out) hb)
      have n1_ := aK (Kd.R_below (pR HO_121002.out) hb)
      have n2_ := aK (Kd.R_below (pR HO_128002.out) hb)
      have n3_ := aK (Kd.R_below (pR HO133.out) hb)
      replace BK101 := bB BK101 hb
      replace BK114 := bB BK114 hb
      replace BK120 := bB BK120 hb
      replace BK127 := bB BK127 hb
      replace HB := bS HB hb
      clear HO_115002 HO_121002 HO_128002 HO133
      have HO_115002 := n0_
      have HO_121002 := n1_
      have HO_128002 := n2_
      have HO133 := n3_
      clear n0_ n1_ n2_ n3_
      (try clear hb)
      (try clear hb2)
      (try clear hk)
      (try clear hi)
      refine hK.out _ _ ⟨(blk_cell BK120.out 0).trans rfl, (blk_cell BK120.out 1).trans rfl, (blk_cell BK120.out 2).trans rfl, (blk_cell BK101.out 0).trans rfl, (blk_cell BK101.out 1).trans rfl, (blk_cell BK101.out 2).trans rfl⟩ (fun hHeld => ?_)
      clear hK K
      refine norm_ (a' := ?_) ?_ ?_
      rotate_left
      ·
       show Act.put _ (some 52) _ = _
       simp only [Act.put, List.setIfInBounds_toArray, List.set_cons_zero, List.set_cons_succ, i64_w, i32_w]
       rfl
      refine pure_ (i := 4) (N := some 53) (v := ?_) (a' := ?_) #[true, true, true, true, true] rfl rfl (by kernel_rfl) (fun _ _ _ h => h) (Or.inl ⟨by rfl, ?_⟩) ?_ ?_
      rotate_left
      ·
       intro w'
       go_simp
       with_reducible rfl
      rotate_left
      ·
       simp only [Act.put, List.setIfInBounds_toArray, List.set_cons_zero, List.set_cons_succ, i64_w, i32_w]
       rfl
      refine done_ (by kernel_rfl) ?_
      have hnb67 := NB120_101.out
      have hnc67 := NB101_120.out
      have hnb68 := NB120_114.out
      have hnc68 := NB114_120.out
      have hnb69 := NB120_127.out
      have hnc69 := NB127_120.out
      have hcz70_0 : w66.cell? ⟨gb120, 0, none⟩ = some (.int .i64 t115) := (blk_cell BK120.out 0).trans rfl
      have hcz70_1 : w66.cell? ⟨gb120, 1, none⟩ = some (.int .i64 t116) := (blk_cell BK120.out 1).trans rfl
      have hcz70_2 : w66.cell? ⟨gb120, 2, none⟩ = some (.slice Ao31 t117.length co31) := (blk_cell BK120.out 2).trans rfl
      have hfz70_0 := blk_frozen BK120.out 0
      have hfz70_1 := blk_frozen BK120.out 1
      have hfz70_2 := blk_frozen BK120.out 2
      go_upto_region 14 with (first | ((with_reducible refine gate_callee (f := 24) rfl ?_); refine goesL_ (some 56) rfl rfl Try.func24 (by kernel_rfl) rfl #[.agg #[.int .i64 t115, .int .i64 t116, .slice Ao31 t117.length co31], .int .i64 1] rfl (by (try simp only [List.map_toArray, List.map_cons, List.map_nil]); first | done | rfl | (simp only [List.length_drop, List.length_take]; rfl)) ?_; (with_reducible refine (laws_markField.calls kj12 t115 t116 (fun k_ => some k_ = (.slice Ao31 t117.length co31 : Value).ownBlock) (.slice Ao31 t117.length co31) t117 1 t135 t136 w _ ?side1 ?side2 A61.out).mono ?_); (case side1 => repeat (first | (with_reducible first | exact HB.out | apply below_alloc | apply pw_below_drewN | apply below_drew1 | refine below_set ?_ GE101.out | refine below_set ?_ GE114.out | refine below_set ?_ GE127.out) | exact HB.out)); (case side2 => exact Kd.R_tight rfl HO_121002.out); rintro e w71 ⟨rfl, hy0, hb, hkp⟩; refine ⟨_, rfl, ?_⟩; have n0_ := aK (Kd.R_mono (ok' := fun k_ => some k_ ≠ (.slice Ao31 t117.length co31 : Value).ownBlock ∧ some k_ ≠ (.slice Ao38 t123.length co38 : Value).ownBlock ∧ some k_ ≠ (.slice Ao65 t131.length co65 : Value).ownBlock) (Kd.R_keptB (HO_115002.out) hkp (fun k_ hk_ hs_ => (hk_.1.1) hs_)) (fun k_ hk_ => ⟨hk_.1.1.1, hk_.1.1.2, hk_.1.2⟩)); have n1_ := aK (Kd.R_reok rfl hy0 (fun k_ e_ => HO_121002.out.1 k_ e_)); have n2_ := aK (Kd.R_mono (ok' := fun k_ => some k_ ≠ (.slice Ao24 t110.length co24 : Value).ownBlock ∧ some k_ ≠ (.slice Ao31 t117.length co31 : Value).ownBlock ∧ some k_ ≠ (.slice Ao65 t131.length co65 : Value).ownBlock) (Kd.R_keptB (HO_128002.out) hkp (fun k_ hk_ hs_ => (hk_.1.2) hs_)) (fun k_ hk_ => ⟨hk_.1.1.1, hk_.1.1.2, hk_.1.2⟩)); have n3_ := aK (blk_kept (pB BK101.out) hkp (fun hs_ => (fun e_ => (Kd.R_ne HO_121002.out BK101.out (by decide)) e_) hs_)); have n4_ := aK (blk_kept (pB BK114.out) hkp (fun hs_ => (fun e_ => (Kd.R_ne HO_121002.out BK114.out (by decide)) e_) hs_)); have n5_ := aK (blk_kept (pB BK127.out) hkp (fun hs_ => (fun e_ => (Kd.R_ne HO_121002.out BK127.out (by decide)) e_) hs_)); have n6_ := aK (Kd.R_mono (ok' := fun k_ => some k_ ≠ (.slice Ao24 t110.length co24 : Value).ownBlock ∧ some k_ ≠ (.slice Ao31 t117.length co31 : Value).ownBlock ∧ some k_ ≠ (.slice Ao38 t123.length co38 : Value).ownBlock) (Kd.R_keptB (HO133.out) hkp (fun k_ hk_ hs_ => (hk_.1.2) hs_)) (fun k_ hk_ => ⟨hk_.1.1.1.2, hk_.1.1.2, hk_.1.2⟩)); have n7_ := aK (hb); clear HO_115002 HO_121002 HO_128002 BK101 BK114 BK127 HO133 HB; have HO_115002 := n0_; have HO_121002 := n1_; have HO_128002 := n2_; have BK101 := n3_; have BK114 := n4_; have BK127 := n5_; have HO133 := n6_; have HB := n7_; clear n0_ n1_ n2_ n3_ n4_ n5_ n6_ n7_; (try clear hb); (try clear hkp); (try clear hy0)))
      (try simp only [Act.put, List.setIfInBounds_toArray, List.set_cons_zero, List.set_cons_succ])
      go_cut [69] (fun v69 wc => ∃ (kq : Nat) (x69_61 : Bool), v69 = .bool x69_61 ∧ Aside0 (laws_FnExactRepeatMaximum.j1 kq a1 a2 t113 x69_61 a0_0 a0_1 l0_2 t108 t109 t110 t121 t122 t123 = some r) ∧ Aside0 (kq ≤ kj12) ∧ Aside0 (Kd.R (Kd.int .i64) 3 wc w.heap.size (fun k_ => some k_ ≠ ((.slice Ao38 t123.length co38) : Value).ownBlock) (.slice Ao24 t110.length co24) t110) ∧ Aside0 (Kd.R (Kd.int .i64) 3 wc w.heap.size (fun k_ => some k_ ≠ ((.slice Ao24 t110.length co24) : Value).ownBlock) (.slice Ao38 t123.length co38) t123) ∧ Aside0 (wc.heap[gb101]? = some (.cells #[.int .i64 a0_0, .int .i64 a0_1, (.slice A0_2 l0_2.length c0_2)] 40 (0, 0))) ∧ Aside0 (wc.heap[gb114]? = some (.cells #[.int .i64 t108, .int .i64 t109, (.slice Ao24 t110.length co24)] 24 (0, 0))) ∧ Aside0 (wc.heap[gb127]? = some (.cells #[.int .i64 t121, .int .i64 t122, (.slice Ao38 t123.length co38)] 24 (0, 0))) ∧ Aside0 (Below w.heap.size w wc))
      case first =>
       have H := HC62.out
       clear HC62
       by_cases c72 : t135 < 0
       ·
        rw [if_pos c72] at H
        have c72b0 : decide (t135 < 0) = true := decide_eq_true c72
        clear c72
        (first | rw [c72b0] | (simp only [i64_w, i32_w]; rw [c72b0]) | skip)
        have H' := Aside0.mk H
        clear H
        go_wp2
        go_meet
        case rel => exact ⟨_, (true), (by first | rfl | (simp; done) | (simp [*]; done)), H', ⟨by have := HJ12.out; first | omega | exact Nat.le_refl _⟩, ⟨by (with_reducible repeat (first | apply Kd.R_alloc | apply Kd.R_drewN | apply Kd.R_drew)); exact Kd.R_mono HO_115002.out (fun _ hk => hk.2.1)⟩, ⟨by (with_reducible repeat (first | apply Kd.R_alloc | apply Kd.R_drewN | apply Kd.R_drew)); exact Kd.R_mono HO_128002.out (fun _ hk => hk.1)⟩, ⟨by (with_reducible repeat (first | refine blk_drewN ?_ _ | refine blk_drew ?_ | refine blk_alloc ?_ _)); exact BK101.out⟩, ⟨by (with_reducible repeat (first | refine blk_drewN ?_ _ | refine blk_drew ?_ | refine blk_alloc ?_ _)); exact BK114.out⟩, ⟨by (with_reducible repeat (first | refine blk_drewN ?_ _ | refine blk_drew ?_ | refine blk_alloc ?_ _)); exact BK127.out⟩, ⟨by repeat (first | (with_reducible first | exact HB.out | apply below_alloc | apply pw_below_drewN | apply below_drew1 | refine below_set ?_ GE101.out | refine below_set ?_ GE114.out | refine below_set ?_ GE127.out) | exact HB.out)⟩⟩
       ·
        rw [if_neg c72] at H
        have c72b0 : decide (t135 < 0) = false := decide_eq_false c72
        clear c72
        (first | rw [c72b0] | (simp only [i64_w, i32_w]; rw [c72b0]) | skip)
        replace H := Option.bind_eq_some_iff.mp H
        obtain ⟨t137, A730, H⟩ := H
        replace H : (if t137 = true then (laws_FnExactRepeatMaximum.j1 kj12 a1 a2 t113 (t126 != t113) a0_0 a0_1 l0_2 t108 t109 t110 t121 t122 t123) else (laws_FnExactRepeatMaximum.j1 kj12 a1 a2 t113 true a0_0 a0_1 l0_2 t108 t109 t110 t121 t122 t123)) = some r := H
        have A73 := Aside0.mk A730
        clear A730
        by_cases c74 : t137 = true
        ·
         subst c74
         have H1 : (laws_FnExactRepeatMaximum.j1 kj12 a1 a2 t113 (t126 != t113) a0_0 a0_1 l0_2 t108 t109 t110 t121 t122 t123) = some r := by rw [if_pos rfl] at H; exact H
         clear H
         have H := H1
         clear H1
         have H' := Aside0.mk H
         clear H
         have hnb75 := NB127_101.out
         have hnc75 := NB101_127.out
         have hnb76 := NB127_114.out
         have hnc76 := NB114_127.out
         have hcz77_0 : w71.cell? ⟨gb127, 0, none⟩ = some (.int .i64 t121) := (blk_cell BK127.out 0).trans rfl
         have hcz77_1 : w71.cell? ⟨gb127, 1, none⟩ = some (.int .i64 t122) := (blk_cell BK127.out 1).trans rfl
         have hcz77_2 : w71.cell? ⟨gb127, 2, none⟩ = some (.slice Ao38 t123.length co38) := (blk_cell BK127.out 2).trans rfl
         have hfz77_0 := blk_frozen BK127.out 0
         have hfz77_1 := blk_frozen BK127.out 1
         have hfz77_2 := blk_frozen BK127.out 2
         have hnb78 := NB114_101.out
         have hnc78 := NB101_114.out
         have hcz79_0 : w71.cell? ⟨gb114, 0, none⟩ = some (.int .i64 t108) := (blk_cell BK114.out 0).trans rfl
         have hcz79_1 : w71.cell? ⟨gb114, 1, none⟩ = some (.int .i64 t109) := (blk_cell BK114.out 1).trans rfl
         have hcz79_2 : w71.cell? ⟨gb114, 2, none⟩ = some (.slice Ao24 t110.length co24) := (blk_cell BK114.out 2).trans rfl
         have hfz79_0 := blk_frozen BK114.out 0
         have hfz79_1 := blk_frozen BK114.out 1
         have hfz79_2 := blk_frozen BK114.out 2
         go_wp2_with (first | (go_at_call 21; (with_reducible refine (laws_eqField.calls kj12 t121 t122 _ _ t123 t108 t109 _ _ t110 true _ ?side1 ?side2 ?side3 ?side4 A73.out).mono ?_); (case side1 => repeat (first | exact (Kd.R_reads' HO_128002.out).2.2 | (with_reducible refine Kd.C_alloc ?_ _) | (with_reducible refine Kd.C_drewN ?_ _) | (with_reducible refine Kd.C_drew ?_))); (case side2 => exact (Kd.R_reads' HO_128002.out).2.1); (case side3 => repeat (first | exact (Kd.R_reads' HO_115002.out).2.2 | (with_reducible refine Kd.C_alloc ?_ _) | (with_reducible refine Kd.C_drewN ?_ _) | (with_reducible refine Kd.C_drew ?_))); (case side4 => exact (Kd.R_reads' HO_115002.out).2.1); rintro e w80 ⟨rfl, hb⟩; have n0_ := aK (Kd.R_below (pR HO_115002.out) hb); have n1_ := aK (Kd.R_below (pR HO_121002.out) hb); have n2_ := aK (Kd.R_below (pR HO_128002.out) hb); have n3_ := aK (Kd.R_below (pR HO133.out) hb); replace BK101 := bB BK101 hb; replace BK114 := bB BK114 hb; replace BK127 := bB BK127 hb; replace HB := bS HB hb; clear HO_115002 HO_121002 HO_128002 HO133; have HO_115002 := n0_; have HO_121002 := n1_; have HO_128002 := n2_; have HO133 := n3_; clear n0_ n1_ n2_ n3_; (try clear hb); (try clear hb2); (try clear hk); (try clear hi)))
         go_meet
         case rel => exact ⟨_, ((t126 != t113)), (by first | rfl | (simp; done) | (simp [*]; done)), H', ⟨by have := HJ12.out; first | omega | exact Nat.le_refl _⟩, ⟨by (with_reducible repeat (first | apply Kd.R_alloc | apply Kd.R_drewN | apply Kd.R_drew)); exact Kd.R_mono HO_115002.out (fun _ hk => hk.2.1)⟩, ⟨by (with_reducible repeat (first | apply Kd.R_alloc | apply Kd.R_drewN | apply Kd.R_drew)); exact Kd.R_mono HO_128002.out (fun _ hk => hk.1)⟩, ⟨by (with_reducible repeat (first | refine blk_drewN ?_ _ | refine blk_drew ?_ | refine blk_alloc ?_ _)); exact BK101.out⟩, ⟨by (with_reducible repeat (first | refine blk_drewN ?_ _ | refine blk_drew ?_ | refine blk_alloc ?_ _)); exact BK114.out⟩, ⟨by (with_reducible repeat (first | refine blk_drewN ?_ _ | refine blk_drew ?_ | refine blk_alloc ?_ _)); exact BK127.out⟩, ⟨by repeat (first | (with_reducible first | exact HB.out | apply below_alloc | apply pw_below_drewN | apply below_drew1 | refine below_set ?_ GE101.out | refine below_set ?_ GE114.out | refine below_set ?_ GE127.out) | exact HB.out)⟩⟩
        ·
         replace c74 := Bool.eq_false_iff.mpr c74
         subst c74
         have H1 : (laws_FnExactRepeatMaximum.j1 kj12 a1 a2 t113 true a0_0 a0_1 l0_2 t108 t109 t110 t121 t122 t123) = some r := by rw [if_neg (show ¬ (false = true) by decide)] at H; exact H
         clear H
         have H := H1
         clear H1
         have H' := Aside0.mk H
         clear H
         have hnb81 := NB127_101.out
         have hnc81 := NB101_127.out
         have hnb82 := NB127_114.out
         have hnc82 := NB114_127.out
         have hcz83_0 : w71.cell? ⟨gb127, 0, none⟩ = some (.int .i64 t121) := (blk_cell BK127.out 0).trans rfl
         have hcz83_1 : w71.cell? ⟨gb127, 1, none⟩ = some (.int .i64 t122) := (blk_cell BK127.out 1).trans rfl
         have hcz83_2 : w71.cell? ⟨gb127, 2, none⟩ = some (.slice Ao38 t123.length co38) := (blk_cell BK127.out 2).trans rfl
         have hfz83_0 := blk_frozen BK127.out 0
         have hfz83_1 := blk_frozen BK127.out 1
         have hfz83_2 := blk_frozen BK127.out 2
         have hnb84 := NB114_101.out
         have hnc84 := NB101_114.out
         have hcz85_0 : w71.cell? ⟨gb114, 0, none⟩ = some (.int .i64 t108) := (blk_cell BK114.out 0).trans rfl
         have hcz85_1 : w71.cell? ⟨gb114, 1, none⟩ = some (.int .i64 t109) := (blk_cell BK114.out 1).trans rfl
         have hcz85_2 : w71.cell? ⟨gb114, 2, none⟩ = some (.slice Ao24 t110.length co24) := (blk_cell BK114.out 2).trans rfl
         have hfz85_0 := blk_frozen BK114.out 0
         have hfz85_1 := blk_frozen BK114.out 1
         have hfz85_2 := blk_frozen BK114.out 2
         go_wp2_with (first | (go_at_call 21; (with_reducible refine (laws_eqField.calls kj12 t121 t122 _ _ t123 t108 t109 _ _ t110 false _ ?side1 ?side2 ?side3 ?side4 A73.out).mono ?_); (case side1 => repeat (first | exact (Kd.R_reads' HO_128002.out).2.2 | (with_reducible refine Kd.C_alloc ?_ _) | (with_reducible refine Kd.C_drewN ?_ _) | (with_reducible refine Kd.C_drew ?_))); (case side2 => exact (Kd.R_reads' HO_128002.out).2.1); (case side3 => repeat (first | exact (Kd.R_reads' HO_115002.out).2.2 | (with_reducible refine Kd.C_alloc ?_ _) | (with_reducible refine Kd.C_drewN ?_ _) | (with_reducible refine Kd.C_drew ?_))); (case side4 => exact (Kd.R_reads' HO_115002.out).2.1); rintro e w86 ⟨rfl, hb⟩; have n0_ := aK (Kd.R_below (pR HO_115002.out) hb); have n1_ := aK (Kd.R_below (pR HO_121002.out) hb); have n2_ := aK (Kd.R_below (pR HO_128002.out) hb); have n3_ := aK (Kd.R_below (pR HO133.out) hb); replace BK101 := bB BK101 hb; replace BK114 := bB BK114 hb; replace BK127 := bB BK127 hb; replace HB := bS HB hb; clear HO_115002 HO_121002 HO_128002 HO133; have HO_115002 := n0_; have HO_121002 := n1_; have HO_128002 := n2_; have HO133 := n3_; clear n0_ n1_ n2_ n3_; (try clear hb); (try clear hb2); (try clear hk); (try clear hi)))
         go_meet
         case rel => exact ⟨_, (true), (by first | rfl | (simp; done) | (simp [*]; done)), H', ⟨by have := HJ12.out; first | omega | exact Nat.le_refl _⟩, ⟨by (with_reducible repeat (first | apply Kd.R_alloc | apply Kd.R_drewN | apply Kd.R_drew)); exact Kd.R_mono HO_115002.out (fun _ hk => hk.2.1)⟩, ⟨by (with_reducible repeat (first | apply Kd.R_alloc | apply Kd.R_drewN | apply Kd.R_drew)); exact Kd.R_mono HO_128002.out (fun _ hk => hk.1)⟩, ⟨by (with_reducible repeat (first | refine blk_drewN ?_ _ | refine blk_drew ?_ | refine blk_alloc ?_ _)); exact BK101.out⟩, ⟨by (with_reducible repeat (first | refine blk_drewN ?_ _ | refine blk_drew ?_ | refine blk_alloc ?_ _)); exact BK114.out⟩, ⟨by (with_reducible repeat (first | refine blk_drewN ?_ _ | refine blk_drew ?_ | refine blk_alloc ?_ _)); exact BK127.out⟩, ⟨by repeat (first | (with_reducible first | exact HB.out | apply below_alloc | apply pw_below_drewN | apply below_drew1 | refine below_set ?_ GE101.out | refine below_set ?_ GE114.out | refine below_set ?_ GE127.out) | exact HB.out)⟩⟩
      case rest =>
       clear HC62
       try clear c2
       try clear p2
       try clear c3
       try clear c4
       try clear c5
       try clear c5b0
       try clear c6
       try clear c7
       try clear c8
       try clear c21
       try clear c22
       try clear c24
       try clear c28
       try clear c29
       try clear c30
       try clear c31
       try clear c34
       try clear c35
       try clear c36
       try clear c40
       try clear c41
       try clear c42
       try clear c43
       try clear c45
       try clear c46
       try clear c49
       try clear c50
       try clear c51
       try clear c53
       try clear c54
       try clear c57
       try clear c60
       try clear c67
       try clear c68
       try clear c69
       try clear c72
       try clear c72b0
       try clear c74
       try clear c75
       try clear c76
       try clear c78
       try clear c81
       try clear c82
       try clear c84
       try clear hcz15_0
       try clear hcz15_1
       try clear hcz15_2
       try clear hcz17_0
       try clear hcz17_1
       try clear hcz17_2
       try clear hcz23_0
       try clear hcz23_1
       try clear hcz23_2
       try clear hcz25_0
       try clear hcz25_1
       try clear hcz25_2
       try clear hcz30_0
       try clear hcz30_1
       try clear hcz30_2
       try clear hcz37_0
       try clear hcz37_1
       try clear hcz37_2
       try clear hcz44_0
       try clear hcz44_1
       try clear hcz44_2
       try clear hcz47_0
       try clear hcz47_1
       try clear hcz47_2
       try clear hcz52_0
       try clear hcz52_1
       try clear hcz52_2
       try clear hcz55_0
       try clear hcz55_1
       try clear hcz55_2
       try clear hcz70_0
       try clear hcz70_1
       try clear hcz70_2
       try clear hcz77_0
       try clear hcz77_1
       try clear hcz77_2
       try clear hcz79_0
       try clear hcz79_1
       try clear hcz79_2
       try clear hcz7_0
       try clear hcz7_1
       try clear hcz7_2
       try clear hcz83_0
       try clear hcz83_1
       try clear hcz83_2
       try clear hcz85_0
       try clear hcz85_1
       try clear hcz85_2
       try clear hfz15_0
       try clear hfz15_1
       try clear hfz15_2
       try clear hfz17_0
       try clear hfz17_1
       try clear hfz17_2
       try clear hfz23_0
       try clear hfz23_1
       try clear hfz23_2
       try clear hfz25_0
       try clear hfz25_1
       try clear hfz25_2
       try clear hfz30_0
       try clear hfz30_1
       try clear hfz30_2
       try clear hfz37_0
       try clear hfz37_1
       try clear hfz37_2
       try clear hfz44_0
       try clear hfz44_1
       try clear hfz44_2
       try clear hfz47_0
       try clear hfz47_1
       try clear hfz47_2
       try clear hfz52_0
       try clear hfz52_1
       try clear hfz52_2
       try clear hfz55_0
       try clear hfz55_1
       try clear hfz55_2
       try clear hfz70_0
       try clear hfz70_1
       try clear hfz70_2
       try clear hfz77_0
       try clear hfz77_1
       try clear hfz77_2
       try clear hfz79_0
       try clear hfz79_1
       try clear hfz79_2
       try clear hfz7_0
       try clear hfz7_1
       try clear hfz7_2
       try clear hfz83_0
       try clear hfz83_1
       try clear hfz83_2
       try clear hfz85_0
       try clear hfz85_1
       try clear hfz85_2
       try clear p2
       obtain ⟨kq, x69_61, rfl, HA, HJ61, HO_115002, HO_128002, BK101, BK114, BK127, HB⟩ := hcut
       cases kq with
       | zero => exact absurd HA.out (by simp [laws_FnExactRepeatMaximum.j1])
       | succ kj61 =>
        have H := HA.out
        clear HA
        simp only [laws_FnExactRepeatMaximum.j1] at H
        by_cases c87 : x69_61 = true
        ·
         subst c87
         have H1 : (some false) = some r := by rw [if_pos rfl] at H; exact H
         clear H
         have H := H1
         clear H1
         obtain rfl := Option.some.inj H
         go_wp2
         go_ret
         exact ⟨by first | rfl | (simp [errW_none, errW_some] <;> rfl) | (simp [*, errW_none, errW_some] <;> rfl), by repeat (first | (with_reducible first | exact HB.out | apply below_alloc | apply pw_below_drewN | apply below_drew1) | exact HB.out)⟩
        ·
         replace c87 := Bool.eq_false_iff.mpr c87
         subst c87
         have H1 : ((laws_markField.f kj61 t121 t122 t123 1).bind fun bt138 => ((laws_heldField.f kj61 t121 t122 bt138.2 1).bind fun t140 => (if t140 < 0 then (some false) else (if t140 = bt138.1 then ((laws_toField.f kj61 a0_0 a0_1 l0_2).bind fun bt141 => ((impl_RepeatMaximum.f kj61 bt141.1 bt141.2.1 bt141.2.2 a1 a2).bind fun bt146 => ((laws_eqField.f kj61 bt146.1 bt146.2.1 bt146.2.2.1 t108 t109 t110).bind fun t153 => (if t153 = true then (laws_FnExactRepeatMaximum.j2 kj61 bt138.1 (bt146.2.2.2 != t113) t121 t122 bt138.2) else (laws_FnExactRepeatMaximum.j2 kj61 bt138.1 true t121 t122 bt138.2))))) else (some false))))) = some r := by rw [if_neg (show ¬ (false = true) by decide)] at H; exact H
         clear H
         have H := H1
         clear H1
         replace H := Option.bind_eq_some_iff.mp H
         obtain ⟨⟨t138, t139⟩, A880, H⟩ := H
         replace H : ((laws_heldField.f kj61 t121 t122 t139 1).bind fun t140 => (if t140 < 0 then (some false) else (if t140 = t138 then ((laws_toField.f kj61 a0_0 a0_1 l0_2).bind fun bt141 => ((impl_RepeatMaximum.f kj61 bt141.1 bt141.2.1 bt141.2.2 a1 a2).bind fun bt146 => ((laws_eqField.f kj61 bt146.1 bt146.2.1 bt146.2.2.1 t108 t109 t110).bind fun t153 => (if t153 = true then (laws_FnExactRepeatMaximum.j2 kj61 t138 (bt146.2.2.2 != t113) t121 t122 t139) else (laws_FnExactRepeatMaximum.j2 kj61 t138 true t121 t122 t139))))) else (some false)))) = some r := H
         have A88 := Aside0.mk A880
         clear A880
         replace H := Option.bind_eq_some_iff.mp H
         obtain ⟨t140, A890, H⟩ := H
         replace H : (if t140 < 0 then (some false) else (if t140 = t138 then ((laws_toField.f kj61 a0_0 a0_1 l0_2).bind fun bt141 => ((impl_RepeatMaximum.f kj61 bt141.1 bt141.2.1 bt141.2.2 a1 a2).bind fun bt146 => ((laws_eqField.f kj61 bt146.1 bt146.2.1 bt146.2.2.1 t108 t109 t110).bind fun t153 => (if t153 = true then (laws_FnExactRepeatMaximum.j2 kj61 t138 (bt146.2.2.2 != t113) t121 t122 t139) else (laws_FnExactRepeatMaximum.j2 kj61 t138 true t121 t122 t139))))) else (some false))) = some r := H
         have A89 := Aside0.mk A890
         clear A890
         by_cases c90 : t140 < 0
         ·
          rw [if_pos c90] at H
          have c90b0 : decide (t140 < 0) = true := decide_eq_true c90
          clear c90
          obtain rfl := Option.some.inj H
          have hcz91_0 : wc.cell? ⟨gb127, 0, none⟩ = some (.int .i64 t121) := (blk_cell BK127.out 0).trans rfl
          have hcz91_1 : wc.cell? ⟨gb127, 1, none⟩ = some (.int .i64 t122) := (blk_cell BK127.out 1).trans rfl
          have hcz91_2 : wc.cell? ⟨gb127, 2, none⟩ = some (.slice Ao38 t123.length co38) := (blk_cell BK127.out 2).trans rfl
          have hfz91_0 := blk_frozen BK127.out 0
          have hfz91_1 := blk_frozen BK127.out 1
          have hfz91_2 := blk_frozen BK127.out 2
          go_wp2_with (first | ((with_reducible refine gate_callee (f := 24) rfl ?_); refine goesL_ (some 72) rfl rfl Try.func24 (by kernel_rfl) rfl #[.agg #[.int .i64 t121, .int .i64 t122, .slice Ao38 t123.length co38], .int .i64 1] rfl (by (try simp only [List.map_toArray, List.map_cons, List.map_nil]); first | done | rfl | (simp only [List.length_drop, List.length_take]; rfl)) ?_; (with_reducible refine (laws_markField.calls kj61 t121 t122 (fun k_ => some k_ = (.slice Ao38 t123.length co38 : Value).ownBlock) (.slice Ao38 t123.length co38) t123 1 t138 t139 w _ ?side1 ?side2 A88.out).mono ?_); (case side1 => repeat (first | (with_reducible first | exact HB.out | apply below_alloc | apply pw_below_drewN | apply below_drew1 | refine below_set ?_ GE127.out) | exact HB.out)); (case side2 => exact Kd.R_tight rfl HO_128002.out); rintro e w92 ⟨rfl, hy0, hb, hkp⟩; refine ⟨_, rfl, ?_⟩; have n0_ := aK (Kd.R_mono (ok' := fun k_ => some k_ ≠ (.slice Ao38 t123.length co38 : Value).ownBlock) (Kd.R_keptB (HO_115002.out) hkp (fun k_ hk_ hs_ => (hk_) hs_)) (fun k_ hk_ => hk_.1)); have n1_ := aK (Kd.R_reok rfl hy0 (fun k_ e_ => HO_128002.out.1 k_ e_)); have n2_ := aK (blk_kept (pB BK127.out) hkp (fun hs_ => (fun e_ => (Kd.R_ne HO_128002.out BK127.out (by decide)) e_) hs_)); have n3_ := aK (hb); clear HO_115002 HO_128002 BK127 HB; have HO_115002 := n0_; have HO_128002 := n1_; have BK127 := n2_; have HB := n3_; clear n0_ n1_ n2_ n3_; (try clear hb); (try clear hkp); (try clear hy0); have hcz93_0 : w92.cell? ⟨gb127, 0, none⟩ = some (.int .i64 t121) := (blk_cell BK127.out 0).trans rfl; have hcz93_1 : w92.cell? ⟨gb127, 1, none⟩ = some (.int .i64 t122) := (blk_cell BK127.out 1).trans rfl; have hcz93_2 : w92.cell? ⟨gb127, 2, none⟩ = some (.slice Ao38 t123.length co38) := (blk_cell BK127.out 2).trans rfl; have hfz93_0 := blk_frozen BK127.out 0; have hfz93_1 := blk_frozen BK127.out 1; have hfz93_2 := blk_frozen BK127.out 2) | ((with_reducible refine gate_callee (f := 25) rfl ?_); refine goesL_ (some 75) rfl rfl Try.func25 (by kernel_rfl) rfl #[.agg #[.int .i64 t121, .int .i64 t122, .slice Ao38 t139.length co38], .int .i64 1] rfl (by (try simp only [List.map_toArray, List.map_cons, List.map_nil]); first | done | (rw [show t139.length = t123.length from (Kd.R_reads' HO_128002.out).1.symm] <;> rfl) | rfl | (simp only [List.length_drop, List.length_take]; rfl)) ?_; (with_reducible refine (laws_heldField.calls kj61 t121 t122 _ _ t139 1 t140 _ ?side1 ?side2 A89.out).mono ?_); (case side1 => repeat (first | exact (Kd.R_reads' HO_128002.out).2.2 | (with_reducible refine Kd.C_alloc ?_ _) | (with_reducible refine Kd.C_drewN ?_ _) | (with_reducible refine Kd.C_drew ?_))); (case side2 => rw [show t139.length = t123.length from (Kd.R_reads' HO_128002.out).1.symm]; exact (Kd.R_reads' HO_128002.out).2.1); rintro e w94 ⟨rfl, hb⟩; refine ⟨_, rfl, ?_⟩; have n0_ := aK (Kd.R_below (pR HO_115002.out) hb); have n1_ := aK (Kd.R_below (pR HO_128002.out) hb); replace HB := bS HB hb; clear HO_115002 HO_128002; have HO_115002 := n0_; have HO_128002 := n1_; clear n0_ n1_; (try clear hb); (try clear hb2); (try clear hk); (try clear hi)))
          go_ret
          exact ⟨by first | rfl | (simp [errW_none, errW_some] <;> rfl) | (simp [*, errW_none, errW_some] <;> rfl), by repeat (first | (with_reducible first | exact HB.out | apply below_alloc | apply pw_below_drewN | apply below_drew1) | exact HB.out)⟩
         ·
          rw [if_neg c90] at H
          have c90b0 : decide (t140 < 0) = false := decide_eq_false c90
          clear c90
          by_cases c95 : t140 = t138
          ·
           rw [if_pos c95] at H
           have c95b0 : (t140 == t138) = true := beq_iff_eq.mpr c95
           have c95b1 : (t140 != t138) = false := bne_eq_false_iff_eq.mpr c95
           clear c95
           replace H := Option.bind_eq_some_iff.mp H
           obtain ⟨⟨t141, t142, t143⟩, A960, H⟩ := H
           replace H : ((impl_RepeatMaximum.f kj61 t141 t142 t143 a1 a2).bind fun bt146 => ((laws_eqField.f kj61 bt146.1 bt146.2.1 bt146.2.2.1 t108 t109 t110).bind fun t153 => (if t153 = true then (laws_FnExactRepeatMaximum.j2 kj61 t138 (bt146.2.2.2 != t113) t121 t122 t139) else (laws_FnExactRepeatMaximum.j2 kj61 t138 true t121 t122 t139)))) = some r := H
           have A96 := Aside0.mk A960
           clear A960
           replace H := Option.bind_eq_some_iff.mp H
           obtain ⟨⟨t146, t147, t148, t151⟩, A970, H⟩ := H
           replace H : ((laws_eqField.f kj61 t146 t147 t148 t108 t109 t110).bind fun t153 => (if t153 = true then (laws_FnExactRepeatMaximum.j2 kj61 t138 (t151 != t113) t121 t122 t139) else (laws_FnExactRepeatMaximum.j2 kj61 t138 true t121 t122 t139))) = some r := H
           have A97 := Aside0.mk A970
           clear A970
           have HC98 := Aside0.mk H
           clear H
           have hnb99 := NB127_101.out
           have hnc99 := NB101_127.out
           have hnb100 := NB127_114.out
           have hnc100 := NB114_127.out
           have hcz101_0 : wc.cell? ⟨gb127, 0, none⟩ = some (.int .i64 t121) := (blk_cell BK127.out 0).trans rfl
           have hcz101_1 : wc.cell? ⟨gb127, 1, none⟩ = some (.int .i64 t122) := (blk_cell BK127.out 1).trans rfl
           have hcz101_2 : wc.cell? ⟨gb127, 2, none⟩ = some (.slice Ao38 t123.length co38) := (blk_cell BK127.out 2).trans rfl
           have hfz101_0 := blk_frozen BK127.out 0
           have hfz101_1 := blk_frozen BK127.out 1
           have hfz101_2 := blk_frozen BK127.out 2
           go_upto_region 25 with (first | ((with_reducible refine gate_callee (f := 24) rfl ?_); refine goesL_ (some 72) rfl rfl Try.func24 (by kernel_rfl) rfl #[.agg #[.int .i64 t121, .int .i64 t122, .slice Ao38 t123.length co38], .int .i64 1] rfl (by (try simp only [List.map_toArray, List.map_cons, List.map_nil]); first | done | rfl | (simp only [List.length_drop, List.length_take]; rfl)) ?_; (with_reducible refine (laws_markField.calls kj61 t121 t122 (fun k_ => some k_ = (.slice Ao38 t123.length co38 : Value).ownBlock) (.slice Ao38 t123.length co38) t123 1 t138 t139 w _ ?side1 ?side2 A88.out).mono ?_); (case side1 => repeat (first | (with_reducible first | exact HB.out | apply below_alloc | apply pw_below_drewN | apply below_drew1 | refine below_set ?_ GE101.out | refine below_set ?_ GE114.out | refine below_set ?_ GE127.out) | exact HB.out)); (case side2 => exact Kd.R_tight rfl HO_128002.out); rintro e w102 ⟨rfl, hy0, hb, hkp⟩; refine ⟨_, rfl, ?_⟩; have n0_ := aK (Kd.R_mono (ok' := fun k_ => some k_ ≠ (.slice Ao38 t123.length co38 : Value).ownBlock) (Kd.R_keptB (HO_115002.out) hkp (fun k_ hk_ hs_ => (hk_) hs_)) (fun k_ hk_ => hk_.1)); have n1_ := aK (Kd.R_reok rfl hy0 (fun k_ e_ => HO_128002.out.1 k_ e_)); have n2_ := aK (blk_kept (pB BK101.out) hkp (fun hs_ => (fun e_ => (Kd.R_ne HO_128002.out BK101.out (by decide)) e_) hs_)); have n3_ := aK (blk_kept (pB BK114.out) hkp (fun hs_ => (fun e_ => (Kd.R_ne HO_128002.out BK114.out (by decide)) e_) hs_)); have n4_ := aK (blk_kept (pB BK127.out) hkp (fun hs_ => (fun e_ => (Kd.R_ne HO_128002.out BK127.out (by decide)) e_) hs_)); have n5_ := aK (hb); clear HO_115002 HO_128002 BK101 BK114 BK127 HB; have HO_115002 := n0_; have HO_128002 := n1_; have BK101 := n2_; have BK114 := n3_; have BK127 := n4_; have HB := n5_; clear n0_ n1_ n2_ n3_ n4_ n5_; (try clear hb); (try clear hkp); (try clear hy0); have hcz103_0 : w102.cell? ⟨gb127, 0, none⟩ = some (.int .i64 t121) := (blk_cell BK127.out 0).trans rfl; have hcz103_1 : w102.cell? ⟨gb127, 1, none⟩ = some (.int .i64 t122) := (blk_cell BK127.out 1).trans rfl; have hcz103_2 : w102.cell? ⟨gb127, 2, none⟩ = some (.slice Ao38 t123.length co38) := (blk_cell BK127.out 2).trans rfl; have hfz103_0 := blk_frozen BK127.out 0; have hfz103_1 := blk_frozen BK127.out 1; have hfz103_2 := blk_frozen BK127.out 2) | ((with_reducible refine gate_callee (f := 25) rfl ?_); refine goesL_ (some 75) rfl rfl Try.func25 (by kernel_rfl) rfl #[.agg #[.int .i64 t121, .int .i64 t122, .slice Ao38 t139.length co38], .int .i64 1] rfl (by (try simp only [List.map_toArray, List.map_cons, List.map_nil]); first | done | (rw [show t139.length = t123.length from (Kd.R_reads' HO_128002.out).1.symm] <;> rfl) | rfl | (simp only [List.length_drop, List.length_take]; rfl)) ?_; (with_reducible refine (laws_heldField.calls kj61 t121 t122 _ _ t139 1 t140 _ ?side1 ?side2 A89.out).mono ?_); (case side1 => repeat (first | exact (Kd.R_reads' HO_128002.out).2.2 | (with_reducible refine Kd.C_alloc ?_ _) | (with_reducible refine Kd.C_drewN ?_ _) | (with_reducible refine Kd.C_drew ?_))); (case side2 => rw [show t139.length = t123.length from (Kd.R_reads' HO_128002.out).1.symm]; exact (Kd.R_reads' HO_128002.out).2.1); rintro e w104 ⟨rfl, hb⟩; refine ⟨_, rfl, ?_⟩; have n0_ := aK (Kd.R_below (pR HO_115002.out) hb); have n1_ := aK (Kd.R_below (pR HO_128002.out) hb); replace BK101 := bB BK101 hb; replace BK114 := bB BK114 hb; replace BK127 := bB BK127 hb; replace HB := bS HB hb; clear HO_115002 HO_128002; have HO_115002 := n0_; have HO_128002 := n1_; clear n0_ n1_; (try clear hb); (try clear hb2); (try clear hk); (try clear hi); have hnb105 := NB101_114.out; have hnc105 := NB114_101.out; have hcz106_0 : w104.cell? ⟨gb101, 0, none⟩ = some (.int .i64 a0_0) := (blk_cell BK101.out 0).trans rfl; have hcz106_1 : w104.cell? ⟨gb101, 1, none⟩ = some (.int .i64 a0_1) := (blk_cell BK101.out 1).trans rfl; have hcz106_2 : w104.cell? ⟨gb101, 2, none⟩ = some (.slice A0_2 l0_2.length c0_2) := (blk_cell BK101.out 2).trans rfl; have hfz106_0 := blk_frozen BK101.out 0; have hfz106_1 := blk_frozen BK101.out 1; have hfz106_2 := blk_frozen BK101.out 2) | ((with_reducible refine gate_callee (f := 30) rfl ?_); refine goesL_ (some 83) rfl rfl Try.func30 (by kernel_rfl) rfl #[.agg #[.int .i64 a0_0, .int .i64 a0_1, .slice A0_2 l0_2.length c0_2]] rfl (by (try simp only [List.map_toArray, List.map_cons, List.map_nil]); first | done | rfl | (simp only [List.length_drop, List.length_take]; rfl)) ?_; (with_reducible refine (laws_toField.calls kj61 a0_0 a0_1 _ _ l0_2 t141 t142 t143 _ ?side1 ?side2 A96.out).mono ?_); (case side1 => repeat (first | exact (Kd.C_below HR0_2.out HB.out) | (with_reducible refine Kd.C_alloc ?_ _) | (with_reducible refine Kd.C_drewN ?_ _) | (with_reducible refine Kd.C_drew ?_))); (case side2 => exact HC0_2.out); rintro e w107 ⟨v144, rfl, ho0, hb⟩; refine ⟨_, rfl, ?_⟩; have n0_ := aK (Kd.R_elder' (pR HO_115002.out) (Kd.R_base ho0) hb); have n1_ := aK (Kd.R_elder' (pR HO_128002.out) (Kd.R_base ho0) hb); have HO145 := aK (Kd.R_lower (Kd.R_new' (Kd.R_new' ho0 (Kd.R_lt (pR HO_115002.out))) (Kd.R_lt (pR HO_128002.out))) (below_size (pS HB.out))); replace BK114 := bB BK114 hb; replace BK127 := bB BK127 hb; replace HB := bS HB hb; clear HO_115002 HO_128002; have HO_115002 := n0_; have HO_128002 := n1_; clear n0_ n1_; (try clear hb); (try clear hb2); (try clear hk); (try clear hi); (try clear ho0); obtain ⟨Ao108, co108, eo108⟩ := Kd.R_slice HO145.out; subst eo108) | ((with_reducible refine gate_callee (f := 31) rfl ?_); refine goesL_ (some 86) rfl rfl Try.func31 (by kernel_rfl) rfl #[.agg #[.int .i64 t141, .int .i64 t142, .slice Ao108 t143.length co108], .int .i64 a1, .int .i64 a2] rfl (by (try simp only [List.map_toArray, List.map_cons, List.map_nil]); first | done | rfl | (simp only [List.length_drop, List.length_take]; rfl)) ?_; (with_reducible refine (impl_RepeatMaximum.calls kj61 t141 t142 _ _ t143 a1 a2 t146 t147 t148 t151 _ ?side1 ?side2 A97.out).mono ?_); (case side1 => repeat (first | exact (Kd.R_reads' HO145.out).2.2 | (with_reducible refine Kd.C_alloc ?_ _) | (with_reducible refine Kd.C_drewN ?_ _) | (with_reducible refine Kd.C_drew ?_))); (case side2 => exact (Kd.R_reads' HO145.out).2.1); rintro e w109 ⟨v149, rfl, ho0, hb⟩; refine ⟨_, rfl, ?_⟩; have n0_ := aK (Kd.R_elder' (pR HO_115002.out) (Kd.R_base ho0) hb); have n1_ := aK (Kd.R_elder' (pR HO_128002.out) (Kd.R_base ho0) hb); have n2_ := aK (Kd.R_elder' (pR HO145.out) (Kd.R_base ho0) hb); have HO150 := aK (Kd.R_lower (Kd.R_new' (Kd.R_new' (Kd.R_new' ho0 (Kd.R_lt (pR HO_115002.out))) (Kd.R_lt (pR HO_128002.out))) (Kd.R_lt (pR HO145.out))) (below_size (pS HB.out))); replace BK114 := bB BK114 hb; replace BK127 := bB BK127 hb; replace HB := bS HB hb; clear HO_115002 HO_128002 HO145; have HO_115002 := n0_; have HO_128002 := n1_; have HO145 := n2_; clear n0_ n1_ n2_; (try clear hb); (try clear hb2); (try clear hk); (try clear hi); (try clear ho0)) | ((with_reducible refine gate_dst (N := 16) rfl ?_); refine box_event ?hg (N := 16) ?hd (cs := #[.int .i64 0, .int .i64 0, .slice none 0 0]) (t := 24) ?hr ?_; (case hd => rfl); (case hg => rfl); (case hr => first | (go_simp; done) | (go_simp; rfl)); intro gb152 hg w110 hbox hb; have n0_ := aK (Kd.R_below (pR HO_115002.out) hb); have n1_ := aK (Kd.R_below (pR HO_128002.out) hb); have n2_ := aK (Kd.R_below (pR HO145.out) hb); have n3_ := aK (Kd.R_below (pR HO150.out) hb); have BK152 := aK (hbox); have GW152 := aK (gE hg (pS HB.out)); have GE152 := aK (gE hg (pS HB.out)); have NB114_152 := aK (nL hg (pB BK114.out)); have NB152_114 := aK (nG hg (pB BK114.out)); have NB127_152 := aK (nL hg (pB BK127.out)); have NB152_127 := aK (nG hg (pB BK127.out)); replace BK114 := bB BK114 hb; replace BK127 := bB BK127 hb; replace HB := bS HB hb; clear HO_115002 HO_128002 HO145 HO150; have HO_115002 := n0_; have HO_128002 := n1_; have HO145 := n2_; have HO150 := n3_; clear n0_ n1_ n2_ n3_ hb hbox hg; have hnb111 := NB152_114.out; have hnc111 := NB114_152.out; have hnb112 := NB152_127.out; have hnc112 := NB127_152.out; have hcz113_0 : w110.cell? ⟨gb152, 0, none⟩ = some (.int .i64 0) := (blk_cell BK152.out 0).trans rfl; have hcz113_1 : w110.cell? ⟨gb152, 1, none⟩ = some (.int .i64 0) := (blk_cell BK152.out 1).trans rfl; have hcz113_2 : w110.cell? ⟨gb152, 2, none⟩ = some (.slice none 0 0) := (blk_cell BK152.out 2).trans rfl; have hfz113_0 := blk_frozen BK152.out 0; have hfz113_1 := blk_frozen BK152.out 1; have hfz113_2 := blk_frozen BK152.out 2; obtain ⟨Ao114, co114, eo114⟩ := Kd.R_slice HO150.out; subst eo114))
           (try simp only [Act.put, List.setIfInBounds_toArray, List.set_cons_zero, List.set_cons_succ])
           go_cut [97] (fun v97 wc => ∃ (kq : Nat) (x97_97 : Bool), v97 = .bool x97_97 ∧ Aside0 (laws_FnExactRepeatMaximum.j2 kq t138 x97_97 t121 t122 t139 = some r) ∧ Aside0 (kq ≤ kj61) ∧ Aside0 (Kd.R (Kd.int .i64) 3 wc w.heap.size (fun _ => True) (.slice Ao38 t123.length co38) t139) ∧ Aside0 (wc.heap[gb127]? = some (.cells #[.int .i64 t121, .int .i64 t122, (.slice Ao38 t123.length co38)] 24 (0, 0))) ∧ Aside0 (Below w.heap.size w wc))
           case first =>
            have H := HC98.out
            clear HC98
            replace H := Option.bind_eq_some_iff.mp H
            obtain ⟨t153, A1150, H⟩ := H
            replace H : (if t153 = true then (laws_FnExactRepeatMaximum.j2 kj61 t138 (t151 != t113) t121 t122 t139) else (laws_FnExactRepeatMaximum.j2 kj61 t138 true t121 t122 t139)) = some r := H
            have A115 := Aside0.mk A1150
            clear A1150
            by_cases c116 : t153 = true
            ·
             subst c116
             have H1 : (laws_FnExactRepeatMaximum.j2 kj61 t138 (t151 != t113) t121 t122 t139) = some r := by rw [if_pos rfl] at H; exact H
             clear H
             have H := H1
             clear H1
             have H' := Aside0.mk H
             clear H
             have hnb117 := NB152_114.out
             have hnc117 := NB114_152.out
             have hnb118 := NB152_127.out
             have hnc118 := NB127_152.out
             have hcz119_0 : w110.cell? ⟨gb152, 0, none⟩ = some (.int .i64 0) := (blk_cell BK152.out 0).trans rfl
             have hcz119_1 : w110.cell? ⟨gb152, 1, none⟩ = some (.int .i64 0) := (blk_cell BK152.out 1).trans rfl
             have hcz119_2 : w110.cell? ⟨gb152, 2, none⟩ = some (.slice none 0 0) := (blk_cell BK152.out 2).trans rfl
             have hfz119_0 := blk_frozen BK152.out 0
             have hfz119_1 := blk_frozen BK152.out 1
             have hfz119_2 := blk_frozen BK152.out 2
             have hnb120 := NB114_127.out
             have hnc120 := NB127_114.out
             have hcz121_0 : w110.cell? ⟨gb114, 0, none⟩ = some (.int .i64 t108) := (blk_cell BK114.out 0).trans rfl
             have hcz121_1 : w110.cell? ⟨gb114, 1, none⟩ = some (.int .i64 t109) := (blk_cell BK114.out 1).trans rfl
             have hcz121_2 : w110.cell? ⟨gb114, 2, none⟩ = some (.slice Ao24 t110.length co24) := (blk_cell BK114.out 2).trans rfl
             have hfz121_0 := blk_frozen BK114.out 0
             have hfz121_1 := blk_frozen BK114.out 1
             have hfz121_2 := blk_frozen BK114.out 2
             go_wp2_with (first | ((with_reducible refine gate_callee (f := 21) rfl ?_); refine goesL_ (some 91) rfl rfl Try.func21 (by kernel_rfl) rfl #[.agg #[.int .i64 t146, .int .i64 t147, .slice Ao114 t148.length co114], .agg #[.int .i64 t108, .int .i64 t109, .slice Ao24 t110.length co24]] rfl (by (try simp only [List.map_toArray, List.map_cons, List.map_nil]); first | done | rfl | (simp only [List.length_drop, List.length_take]; rfl)) ?_; (with_reducible refine (laws_eqField.calls kj61 t146 t147 _ _ t148 t108 t109 _ _ t110 true _ ?side1 ?side2 ?side3 ?side4 A115.out).mono ?_); (case side1 => refine (Kd.R_reads' (e := 3) (base := w.heap.size) (ok := fun k_ => (((True ∧ some k_ ≠ (.slice Ao24 t110.length co24 : Value).ownBlock) ∧ some k_ ≠ (.slice Ao38 t123.length co38 : Value).ownBlock) ∧ some k_ ≠ (.slice Ao108 t143.length co108 : Value).ownBlock)) (n := t148.length) (c := co114) ?_).2.2; exact (pR ((Kd.R_mono (Kd.R_far (p := ⟨gb152, 2, none⟩) (Kd.R_far (p := ⟨gb152, 1, none⟩) (Kd.R_far (p := ⟨gb152, 0, none⟩) (Kd.R_types HO150.out BK152.out (by decide)) (fun _ hk => hk.2) (.int .i64 t146)) (fun _ hk => hk.2) (.int .i64 t147)) (fun _ hk => hk.2) (.slice Ao114 t148.length co114)) (fun _ h_ => h_.1))))); (case side2 => exact (Kd.R_reads' HO150.out).2.1); (case side3 => refine (Kd.R_reads' (e := 3) (base := w.heap.size) (ok := fun k_ => ((some k_ ≠ (.slice Ao38 t123.length co38 : Value).ownBlock ∧ some k_ ≠ (.slice Ao108 t143.length co108 : Value).ownBlock) ∧ some k_ ≠ (.slice Ao114 t148.length co114 : Value).ownBlock)) (n := t110.length) (c := co24) ?_).2.2; exact (pR ((Kd.R_mono (Kd.R_far (p := ⟨gb152, 2, none⟩) (Kd.R_far (p := ⟨gb152, 1, none⟩) (Kd.R_far (p := ⟨gb152, 0, none⟩) (Kd.R_types HO_115002.out BK152.out (by decide)) (fun _ hk => hk.2) (.int .i64 t146)) (fun _ hk => hk.2) (.int .i64 t147)) (fun _ hk => hk.2) (.slice Ao114 t148.length co114)) (fun _ h_ => h_.1))))); (case side4 => exact (Kd.R_reads' HO_115002.out).2.1); rintro e w122 ⟨rfl, hb⟩; refine ⟨_, rfl, ?_⟩; have n0_ := aK (Kd.R_below (pR ((Kd.R_mono (Kd.R_far (p := ⟨gb152, 2, none⟩) (Kd.R_far (p := ⟨gb152, 1, none⟩) (Kd.R_far (p := ⟨gb152, 0, none⟩) (Kd.R_types HO_115002.out BK152.out (by decide)) (fun _ hk => hk.2) (.int .i64 t146)) (fun _ hk => hk.2) (.int .i64 t147)) (fun _ hk => hk.2) (.slice Ao114 t148.length co114)) (fun _ h_ => h_.1)))) hb); have n1_ := aK (Kd.R_below (pR ((Kd.R_mono (Kd.R_far (p := ⟨gb152, 2, none⟩) (Kd.R_far (p := ⟨gb152, 1, none⟩) (Kd.R_far (p := ⟨gb152, 0, none⟩) (Kd.R_types HO_128002.out BK152.out (by decide)) (fun _ hk => hk.2) (.int .i64 t146)) (fun _ hk => hk.2) (.int .i64 t147)) (fun _ hk => hk.2) (.slice Ao114 t148.length co114)) (fun _ h_ => h_.1)))) hb); have n2_ := aK (Kd.R_below (pR ((Kd.R_mono (Kd.R_far (p := ⟨gb152, 2, none⟩) (Kd.R_far (p := ⟨gb152, 1, none⟩) (Kd.R_far (p := ⟨gb152, 0, none⟩) (Kd.R_types HO145.out BK152.out (by decide)) (fun _ hk => hk.2) (.int .i64 t146)) (fun _ hk => hk.2) (.int .i64 t147)) (fun _ hk => hk.2) (.slice Ao114 t148.length co114)) (fun _ h_ => h_.1)))) hb); have n3_ := aK (Kd.R_below (pR ((Kd.R_mono (Kd.R_far (p := ⟨gb152, 2, none⟩) (Kd.R_far (p := ⟨gb152, 1, none⟩) (Kd.R_far (p := ⟨gb152, 0, none⟩) (Kd.R_types HO150.out BK152.out (by decide)) (fun _ hk => hk.2) (.int .i64 t146)) (fun _ hk => hk.2) (.int .i64 t147)) (fun _ hk => hk.2) (.slice Ao114 t148.length co114)) (fun _ h_ => h_.1)))) hb); have n4_ := aK (blk_below (g := gb127) (o := .cells #[.int .i64 t121, .int .i64 t122, .slice Ao38 t123.length co38] 24 (0, 0)) (by (with_reducible repeat (first | refine blk_drewN ?_ _ | refine blk_drew ?_ | refine blk_alloc ?_ _)); refine blk_far ?_ NB127_152.out _; (with_reducible repeat (first | refine blk_drewN ?_ _ | refine blk_drew ?_ | refine blk_alloc ?_ _)); refine blk_far ?_ NB127_152.out _; (with_reducible repeat (first | refine blk_drewN ?_ _ | refine blk_drew ?_ | refine blk_alloc ?_ _)); refine blk_far ?_ NB127_152.out _; (with_reducible repeat (first | refine blk_drewN ?_ _ | refine blk_drew ?_ | refine blk_alloc ?_ _)); exact BK127.out) hb); have n5_ := aK (blk_below (g := gb152) (o := .cells #[.int .i64 t146, .int .i64 t147, .slice Ao114 t148.length co114] 24 (0, 0)) (by (with_reducible repeat (first | refine blk_drewN ?_ _ | refine blk_drew ?_ | refine blk_alloc ?_ _)); refine blk_put (cs := #[.int .i64 t146, .int .i64 t147, .slice none 0 0]) ?_ 2 _ rfl; (with_reducible repeat (first | refine blk_drewN ?_ _ | refine blk_drew ?_ | refine blk_alloc ?_ _)); refine blk_put (cs := #[.int .i64 t146, .int .i64 0, .slice none 0 0]) ?_ 1 _ rfl; (with_reducible repeat (first | refine blk_drewN ?_ _ | refine blk_drew ?_ | refine blk_alloc ?_ _)); refine blk_put (cs := #[.int .i64 0, .int .i64 0, .slice none 0 0]) ?_ 0 _ rfl; (with_reducible repeat (first | refine blk_drewN ?_ _ | refine blk_drew ?_ | refine blk_alloc ?_ _)); exact BK152.out) hb); replace HB := bS HB hb; clear HO_115002 HO_128002 HO145 HO150 BK127 BK152; have HO_115002 := n0_; have HO_128002 := n1_; have HO145 := n2_; have HO150 := n3_; have BK127 := n4_; have BK152 := n5_; clear n0_ n1_ n2_ n3_ n4_ n5_; (try clear hb); (try clear hb2); (try clear hk); (try clear hi)))
             go_meet
             case rel => exact ⟨_, ((t151 != t113)), (by first | rfl | (simp; done) | (simp [*]; done)), H', ⟨by have := HJ12.out; have := HJ61.out; first | omega | exact Nat.le_refl _⟩, ⟨by (with_reducible repeat (first | apply Kd.R_alloc | apply Kd.R_drewN | apply Kd.R_drew)); exact Kd.R_mono HO_128002.out (fun _ hk => trivial)⟩, ⟨by (with_reducible repeat (first | refine blk_drewN ?_ _ | refine blk_drew ?_ | refine blk_alloc ?_ _)); exact BK127.out⟩, ⟨by repeat (first | (with_reducible first | exact HB.out | apply below_alloc | apply pw_below_drewN | apply below_drew1 | refine below_set ?_ GE127.out) | exact HB.out)⟩⟩
            ·
             replace c116 := Bool.eq_false_iff.mpr c116
             subst c116
             have H1 : (laws_FnExactRepeatMaximum.j2 kj61 t138 true t121 t122 t139) = some r := by rw [if_neg (show ¬ (false = true) by decide)] at H; exact H
             clear H
             have H := H1
             clear H1
             have H' := Aside0.mk H
             clear H
             have hnb123 := NB152_114.out
             have hnc123 := NB114_152.out
             have hnb124 := NB152_127.out
             have hnc124 := NB127_152.out
             have hcz125_0 : w110.cell? ⟨gb152, 0, none⟩ = some (.int .i64 0) := (blk_cell BK152.out 0).trans rfl
             have hcz125_1 : w110.cell? ⟨gb152, 1, none⟩ = some (.int .i64 0) := (blk_cell BK152.out 1).trans rfl
             have hcz125_2 : w110.cell? ⟨gb152, 2, none⟩ = some (.slice none 0 0) := (blk_cell BK152.out 2).trans rfl
             have hfz125_0 := blk_frozen BK152.out 0
             have hfz125_1 := blk_frozen BK152.out 1
             have hfz125_2 := blk_frozen BK152.out 2
             have hnb126 := NB114_127.out
             have hnc126 := NB127_114.out
             have hcz127_0 : w110.cell? ⟨gb114, 0, none⟩ = some (.int .i64 t108) := (blk_cell BK114.out 0).trans rfl
             have hcz127_1 : w110.cell? ⟨gb114, 1, none⟩ = some (.int .i64 t109) := (blk_cell BK114.out 1).trans rfl
             have hcz127_2 : w110.cell? ⟨gb114, 2, none⟩ = some (.slice Ao24 t110.length co24) := (blk_cell BK114.out 2).trans rfl
             have hfz127_0 := blk_frozen BK114.out 0
             have hfz127_1 := blk_frozen BK114.out 1
             have hfz127_2 := blk_frozen BK114.out 2
             go_wp2_with (first | ((with_reducible refine gate_callee (f := 21) rfl ?_); refine goesL_ (some 91) rfl rfl Try.func21 (by kernel_rfl) rfl #[.agg #[.int .i64 t146, .int .i64 t147, .slice Ao114 t148.length co114], .agg #[.int .i64 t108, .int .i64 t109, .slice Ao24 t110.length co24]] rfl (by (try simp only [List.map_toArray, List.map_cons, List.map_nil]); first | done | rfl | (simp only [List.length_drop, List.length_take]; rfl)) ?_; (with_reducible refine (laws_eqField.calls kj61 t146 t147 _ _ t148 t108 t109 _ _ t110 false _ ?side1 ?side2 ?side3 ?side4 A115.out).mono ?_); (case side1 => refine (Kd.R_reads' (e := 3) (base := w.heap.size) (ok := fun k_ => (((True ∧ some k_ ≠ (.slice Ao24 t110.length co24 : Value).ownBlock) ∧ some k_ ≠ (.slice Ao38 t123.length co38 : Value).ownBlock) ∧ some k_ ≠ (.slice Ao108 t143.length co108 : Value).ownBlock)) (n := t148.length) (c := co114) ?_).2.2; exact (pR ((Kd.R_mono (Kd.R_far (p := ⟨gb152, 2, none⟩) (Kd.R_far (p := ⟨gb152, 1, none⟩) (Kd.R_far (p := ⟨gb152, 0, none⟩) (Kd.R_types HO150.out BK152.out (by decide)) (fun _ hk => hk.2) (.int .i64 t146)) (fun _ hk => hk.2) (.int .i64 t147)) (fun _ hk => hk.2) (.slice Ao114 t148.length co114)) (fun _ h_ => h_.1))))); (case side2 => exact (Kd.R_reads' HO150.out).2.1); (case side3 => refine (Kd.R_reads' (e := 3) (base := w.heap.size) (ok := fun k_ => ((some k_ ≠ (.slice Ao38 t123.length co38 : Value).ownBlock ∧ some k_ ≠ (.slice Ao108 t143.length co108 : Value).ownBlock) ∧ some k_ ≠ (.slice Ao114 t148.length co114 : Value).ownBlock)) (n := t110.length) (c := co24) ?_).2.2; exact (pR ((Kd.R_mono (Kd.R_far (p := ⟨gb152, 2, none⟩) (Kd.R_far (p := ⟨gb152, 1, none⟩) (Kd.R_far (p := ⟨gb152, 0, none⟩) (Kd.R_types HO_115002.out BK152.out (by decide)) (fun _ hk => hk.2) (.int .i64 t146)) (fun _ hk => hk.2) (.int .i64 t147)) (fun _ hk => hk.2) (.slice Ao114 t148.length co114)) (fun _ h_ => h_.1))))); (case side4 => exact (Kd.R_reads' HO_115002.out).2.1); rintro e w128 ⟨rfl, hb⟩; refine ⟨_, rfl, ?_⟩; have n0_ := aK (Kd.R_below (pR ((Kd.R_mono (Kd.R_far (p := ⟨gb152, 2, none⟩) (Kd.R_far (p := ⟨gb152, 1, none⟩) (Kd.R_far (p := ⟨gb152, 0, none⟩) (Kd.R_types HO_115002.out BK152.out (by decide)) (fun _ hk => hk.2) (.int .i64 t146)) (fun _ hk => hk.2) (.int .i64 t147)) (fun _ hk => hk.2) (.slice Ao114 t148.length co114)) (fun _ h_ => h_.1)))) hb); have n1_ := aK (Kd.R_below (pR ((Kd.R_mono (Kd.R_far (p := ⟨gb152, 2, none⟩) (Kd.R_far (p := ⟨gb152, 1, none⟩) (Kd.R_far (p := ⟨gb152, 0, none⟩) (Kd.R_types HO_128002.out BK152.out (by decide)) (fun _ hk => hk.2) (.int .i64 t146)) (fun _ hk => hk.2) (.int .i64 t147)) (fun _ hk => hk.2) (.slice Ao114 t148.length co114)) (fun _ h_ => h_.1)))) hb); have n2_ := aK (Kd.R_below (pR ((Kd.R_mono (Kd.R_far (p := ⟨gb152, 2, none⟩) (Kd.R_far (p := ⟨gb152, 1, none⟩) (Kd.R_far (p := ⟨gb152, 0, none⟩) (Kd.R_types HO145.out BK152.out (by decide)) (fun _ hk => hk.2) (.int .i64 t146)) (fun _ hk => hk.2) (.int .i64 t147)) (fun _ hk => hk.2) (.slice Ao114 t148.length co114)) (fun _ h_ => h_.1)))) hb); have n3_ := aK (Kd.R_below (pR ((Kd.R_mono (Kd.R_far (p := ⟨gb152, 2, none⟩) (Kd.R_far (p := ⟨gb152, 1, none⟩) (Kd.R_far (p := ⟨gb152, 0, none⟩) (Kd.R_types HO150.out BK152.out (by decide)) (fun _ hk => hk.2) (.int .i64 t146)) (fun _ hk => hk.2) (.int .i64 t147)) (fun _ hk => hk.2) (.slice Ao114 t148.length co114)) (fun _ h_ => h_.1)))) hb); have n4_ := aK (blk_below (g := gb127) (o := .cells #[.int .i64 t121, .int .i64 t122, .slice Ao38 t123.length co38] 24 (0, 0)) (by (with_reducible repeat (first | refine blk_drewN ?_ _ | refine blk_drew ?_ | refine blk_alloc ?_ _)); refine blk_far ?_ NB127_152.out _; (with_reducible repeat (first | refine blk_drewN ?_ _ | refine blk_drew ?_ | refine blk_alloc ?_ _)); refine blk_far ?_ NB127_152.out _; (with_reducible repeat (first | refine blk_drewN ?_ _ | refine blk_drew ?_ | refine blk_alloc ?_ _)); refine blk_far ?_ NB127_152.out _; (with_reducible repeat (first | refine blk_drewN ?_ _ | refine blk_drew ?_ | refine blk_alloc ?_ _)); exact BK127.out) hb); have n5_ := aK (blk_below (g := gb152) (o := .cells #[.int .i64 t146, .int .i64 t147, .slice Ao114 t148.length co114] 24 (0, 0)) (by (with_reducible repeat (first | refine blk_drewN ?_ _ | refine blk_drew ?_ | refine blk_alloc ?_ _)); refine blk_put (cs := #[.int .i64 t146, .int .i64 t147, .slice none 0 0]) ?_ 2 _ rfl; (with_reducible repeat (first | refine blk_drewN ?_ _ | refine blk_drew ?_ | refine blk_alloc ?_ _)); refine blk_put (cs := #[.int .i64 t146, .int .i64 0, .slice none 0 0]) ?_ 1 _ rfl; (with_reducible repeat (first | refine blk_drewN ?_ _ | refine blk_drew ?_ | refine blk_alloc ?_ _)); refine blk_put (cs := #[.int .i64 0, .int .i64 0, .slice none 0 0]) ?_ 0 _ rfl; (with_reducible repeat (first | refine blk_drewN ?_ _ | refine blk_drew ?_ | refine blk_alloc ?_ _)); exact BK152.out) hb); replace HB := bS HB hb; clear HO_115002 HO_128002 HO145 HO150 BK127 BK152; have HO_115002 := n0_; have HO_128002 := n1_; have HO145 := n2_; have HO150 := n3_; have BK127 := n4_; have BK152 := n5_; clear n0_ n1_ n2_ n3_ n4_ n5_; (try clear hb); (try clear hb2); (try clear hk); (try clear hi)))
             go_meet
             case rel => exact ⟨_, (true), (by first | rfl | (simp; done) | (simp [*]; done)), H', ⟨by have := HJ12.out; have := HJ61.out; first | omega | exact Nat.le_refl _⟩, ⟨by (with_reducible repeat (first | apply Kd.R_alloc | apply Kd.R_drewN | apply Kd.R_drew)); exact Kd.R_mono HO_128002.out (fun _ hk => trivial)⟩, ⟨by (with_reducible repeat (first | refine blk_drewN ?_ _ | refine blk_drew ?_ | refine blk_alloc ?_ _)); exact BK127.out⟩, ⟨by repeat (first | (with_reducible first | exact HB.out | apply below_alloc | apply pw_below_drewN | apply below_drew1 | refine below_set ?_ GE127.out) | exact HB.out)⟩⟩
           case rest =>
            clear HC98
            try clear c1
            try clear c2
            try clear p2
            try clear c3
            try clear c4
            try clear c5
            try clear c5b0
            try clear c6
            try clear c7
            try clear c8
            try clear c9
            try clear c10
            try clear c11
            try clear c12
            try clear c21
            try clear c22
            try clear c24
            try clear c25
            try clear c28
            try clear c29
            try clear c30
            try clear c31
            try clear c34
            try clear c35
            try clear c36
            try clear c40
            try clear c41
            try clear c42
            try clear c43
            try clear c45
            try clear c46
            try clear c49
            try clear c50
            try clear c51
            try clear c53
            try clear c54
            try clear c57
            try clear c60
            try clear c67
            try clear c68
            try clear c69
            try clear c72
            try clear c72b0
            try clear c74
            try clear c75
            try clear c76
            try clear c78
            try clear c81
            try clear c82
            try clear c84
            try clear c87
            try clear c90
            try clear c90b0
            try clear c95
            try clear c95b0
            try clear c95b1
            try clear c99
            try clear c100
            try clear c105
            try clear c111
            try clear c112
            try clear c116
            try clear c117
            try clear c118
            try clear c120
            try clear c123
            try clear c124
            try clear c126
            try clear hcz101_0
            try clear hcz101_1
            try clear hcz101_2
            try clear hcz103_0
            try clear hcz103_1
            try clear hcz103_2
            try clear hcz106_0
            try clear hcz106_1
            try clear hcz106_2
            try clear hcz113_0
            try clear hcz113_1
            try clear hcz113_2
            try clear hcz119_0
            try clear hcz119_1
            try clear hcz119_2
            try clear hcz121_0
            try clear hcz121_1
            try clear hcz121_2
            try clear hcz125_0
            try clear hcz125_1
            try clear hcz125_2
            try clear hcz127_0
            try clear hcz127_1
            try clear hcz127_2
            try clear hcz15_0
            try clear hcz15_1
            try clear hcz15_2
            try clear hcz17_0
            try clear hcz17_1
            try clear hcz17_2
            try clear hcz23_0
            try clear hcz23_1
            try clear hcz23_2
            try clear hcz25_0
            try clear hcz25_1
            try clear hcz25_2
            try clear hcz30_0
            try clear hcz30_1
            try clear hcz30_2
            try clear hcz37_0
            try clear hcz37_1
            try clear hcz37_2
            try clear hcz44_0
            try clear hcz44_1
            try clear hcz44_2
            try clear hcz47_0
            try clear hcz47_1
            try clear hcz47_2
            try clear hcz52_0
            try clear hcz52_1
            try clear hcz52_2
            try clear hcz55_0
            try clear hcz55_1
            try clear hcz55_2
            try clear hcz70_0
            try clear hcz70_1
            try clear hcz70_2
            try clear hcz77_0
            try clear hcz77_1
            try clear hcz77_2
            try clear hcz79_0
            try clear hcz79_1
            try clear hcz79_2
            try clear hcz7_0
            try clear hcz7_1
            try clear hcz7_2
            try clear hcz83_0
            try clear hcz83_1
            try clear hcz83_2
            try clear hcz85_0
            try clear hcz85_1
            try clear hcz85_2
            try clear hcz91_0
            try clear hcz91_1
            try clear hcz91_2
            try clear hcz93_0
            try clear hcz93_1
            try clear hcz93_2
            try clear hfz101_0
            try clear hfz101_1
            try clear hfz101_2
            try clear hfz103_0
            try clear hfz103_1
            try clear hfz103_2
            try clear hfz106_0
            try clear hfz106_1
            try clear hfz106_2
            try clear hfz113_0
            try clear hfz113_1
            try clear hfz113_2
            try clear hfz119_0
            try clear hfz119_1
            try clear hfz119_2
            try clear hfz121_0
            try clear hfz121_1
            try clear hfz121_2
            try clear hfz125_0
            try clear hfz125_1
            try clear hfz125_2
            try clear hfz127_0
            try clear hfz127_1
            try clear hfz127_2
            try clear hfz15_0
            try clear hfz15_1
            try clear hfz15_2
            try clear hfz17_0
            try clear hfz17_1
            try clear hfz17_2
            try clear hfz23_0
            try clear hfz23_1
            try clear hfz23_2
            try clear hfz25_0
            try clear hfz25_1
            try clear hfz25_2
            try clear hfz30_0
            try clear hfz30_1
            try clear hfz30_2
            try clear hfz37_0
            try clear hfz37_1
            try clear hfz37_2
            try clear hfz44_0
            try clear hfz44_1
            try clear hfz44_2
            try clear hfz47_0
            try clear hfz47_1
            try clear hfz47_2
            try clear hfz52_0
            try clear hfz52_1
            try clear hfz52_2
            try clear hfz55_0
            try clear hfz55_1
            try clear hfz55_2
            try clear hfz70_0
            try clear hfz70_1
            try clear hfz70_2
            try clear hfz77_0
            try clear hfz77_1
            try clear hfz77_2
            try clear hfz79_0
            try clear hfz79_1
            try clear hfz79_2
            try clear hfz7_0
            try clear hfz7_1
            try clear hfz7_2
            try clear hfz83_0
            try clear hfz83_1
            try clear hfz83_2
            try clear hfz85_0
            try clear hfz85_1
            try clear hfz85_2
            try clear hfz91_0
            try clear hfz91_1
            try clear hfz91_2
            try clear hfz93_0
            try clear hfz93_1
            try clear hfz93_2
            try clear p2
            obtain ⟨kq, x97_97, rfl, HA, HJ97, HO_128002, BK127, HB⟩ := hcut
            have hl128002_97 := (Kd.R_reads' HO_128002.out).1
            rw [hl128002_97] at HO_128002
            (try simp only [hl128002_97])
            (try simp only [hl128002_97] at BK127)
            cases kq with
            | zero => exact absurd HA.out (by simp [laws_FnExactRepeatMaximum.j2])
            | succ kj97 =>
             have H := HA.out
             clear HA
             simp only [laws_FnExactRepeatMaximum.j2] at H
             by_cases c129 : x97_97 = true
             ·
              subst c129
              have H1 : (some false) = some r := by rw [if_pos rfl] at H; exact H
              clear H
              have H := H1
              clear H1
              obtain rfl := Option.some.inj H
              go_wp2
              go_ret
              exact ⟨by first | rfl | (simp [errW_none, errW_some] <;> rfl) | (simp [*, errW_none, errW_some] <;> rfl), by repeat (first | (with_reducible first | exact HB.out | apply below_alloc | apply pw_below_drewN | apply below_drew1) | exact HB.out)⟩
             ·
              replace c129 := Bool.eq_false_iff.mpr c129
              subst c129
              have H1 : ((laws_heldField.f kj97 t121 t122 t139 1).bind fun t154 => (if t154 < 0 then (some false) else (if t154 = t138 then (some true) else (some false)))) = some r := by rw [if_neg (show ¬ (false = true) by decide)] at H; exact H
              clear H
              have H := H1
              clear H1
              replace H := Option.bind_eq_some_iff.mp H
              obtain ⟨t154, A1300, H⟩ := H
              replace H : (if t154 < 0 then (some false) else (if t154 = t138 then (some true) else (some false))) = some r := H
              have A130 := Aside0.mk A1300
              clear A1300
              by_cases c131 : t154 < 0
              ·
               rw [if_pos c131] at H
               have c131b0 : decide (t154 < 0) = true := decide_eq_true c131
               clear c131
               obtain rfl := Option.some.inj H
               have hcz132_0 : wc.cell? ⟨gb127, 0, none⟩ = some (.int .i64 t121) := (blk_cell BK127.out 0).trans rfl
               have hcz132_1 : wc.cell? ⟨gb127, 1, none⟩ = some (.int .i64 t122) := (blk_cell BK127.out 1).trans rfl
               have hcz132_2 : wc.cell? ⟨gb127, 2, none⟩ = some (.slice Ao38 t139.length co38) := (blk_cell BK127.out 2).trans rfl
               have hfz132_0 := blk_frozen BK127.out 0
               have hfz132_1 := blk_frozen BK127.out 1
               have hfz132_2 := blk_frozen BK127.out 2
               go_wp2_with (first | ((with_reducible refine gate_callee (f := 25) rfl ?_); refine goesL_ (some 100) rfl rfl Try.func25 (by kernel_rfl) rfl #[.agg #[.int .i64 t121, .int .i64 t122, .slice Ao38 t139.length co38], .int .i64 1] rfl (by (try simp only [List.map_toArray, List.map_cons, List.map_nil]); first | done | rfl | (simp only [List.length_drop, List.length_take]; rfl)) ?_; (with_reducible refine (laws_heldField.calls kj97 t121 t122 _ _ t139 1 t154 _ ?side1 ?side2 A130.out).mono ?_); (case side1 => repeat (first | exact (Kd.R_reads' HO_128002.out).2.2 | (with_reducible refine Kd.C_alloc ?_ _) | (with_reducible refine Kd.C_drewN ?_ _) | (with_reducible refine Kd.C_drew ?_))); (case side2 => exact (Kd.R_reads' HO_128002.out).2.1); rintro e w133 ⟨rfl, hb⟩; refine ⟨_, rfl, ?_⟩; have n0_ := aK (Kd.R_below (pR HO_128002.out) hb); replace HB := bS HB hb; clear HO_128002; have HO_128002 := n0_; clear n0_; (try clear hb); (try clear hb2); (try clear hk); (try clear hi)))
               go_ret
               exact ⟨by first | rfl | (simp [errW_none, errW_some] <;> rfl) | (simp [*, errW_none, errW_some] <;> rfl), by repeat (first | (with_reducible first | exact HB.out | apply below_alloc | apply pw_below_drewN | apply below_drew1) | exact HB.out)⟩
              ·
               rw [if_neg c131] at H
               have c131b0 : decide (t154 < 0) = false := decide_eq_false c131
               clear c131
               by_cases c134 : t154 = t138
               ·
                rw [if_pos c134] at H
                have c134b0 : (t154 == t138) = true := beq_iff_eq.mpr c134
                have c134b1 : (t154 != t138) = false := bne_eq_false_iff_eq.mpr c134
                clear c134
                obtain rfl := Option.some.inj H
                have hcz135_0 : wc.cell? ⟨gb127, 0, none⟩ = some (.int .i64 t121) := (blk_cell BK127.out 0).trans rfl
                have hcz135_1 : wc.cell? ⟨gb127, 1, none⟩ = some (.int .i64 t122) := (blk_cell BK127.out 1).trans rfl
                have hcz135_2 : wc.cell? ⟨gb127, 2, none⟩ = some (.slice Ao38 t139.length co38) := (blk_cell BK127.out 2).trans rfl
                have hfz135_0 := blk_frozen BK127.out 0
                have hfz135_1 := blk_frozen BK127.out 1
                have hfz135_2 := blk_frozen BK127.out 2
                go_wp2_with (first | ((with_reducible refine gate_callee (f := 25) rfl ?_); refine goesL_ (some 100) rfl rfl Try.func25 (by kernel_rfl) rfl #[.agg #[.int .i64 t121, .int .i64 t122, .slice Ao38 t139.length co38], .int .i64 1] rfl (by (try simp only [List.map_toArray, List.map_cons, List.map_nil]); first | done | rfl | (simp only [List.length_drop, List.length_take]; rfl)) ?_; (with_reducible refine (laws_heldField.calls kj97 t121 t122 _ _ t139 1 t154 _ ?side1 ?side2 A130.out).mono ?_); (case side1 => repeat (first | exact (Kd.R_reads' HO_128002.out).2.2 | (with_reducible refine Kd.C_alloc ?_ _) | (with_reducible refine Kd.C_drewN ?_ _) | (with_reducible refine Kd.C_drew ?_))); (case side2 => exact (Kd.R_reads' HO_128002.out).2.1); rintro e w136 ⟨rfl, hb⟩; refine ⟨_, rfl, ?_⟩; have n0_ := aK (Kd.R_below (pR HO_128002.out) hb); replace HB := bS HB hb; clear HO_128002; have HO_128002 := n0_; clear n0_; (try clear hb); (try clear hb2); (try clear hk); (try clear hi)))
                go_ret
                exact ⟨by first | rfl | (simp [errW_none, errW_some] <;> rfl) | (simp [*, errW_none, errW_some] <;> rfl), by repeat (first | (with_reducible first | exact HB.out | apply below_alloc | apply pw_below_drewN | apply below_drew1) | exact HB.out)⟩
               ·
                rw [if_neg c134] at H
                have c134b0 : (t154 == t138) = false := beq_eq_false_iff_ne.mpr c134
                have c134b1 : (t154 != t138) = true := bne_iff_ne.mpr c134
                obtain rfl := Option.some.inj H
                have hcz137_0 : wc.cell? ⟨gb127, 0, none⟩ = some (.int .i64 t121) := (blk_cell BK127.out 0).trans rfl
                have hcz137_1 : wc.cell? ⟨gb127, 1, none⟩ = some (.int .i64 t122) := (blk_cell BK127.out 1).trans rfl
                have hcz137_2 : wc.cell? ⟨gb127, 2, none⟩ = some (.slice Ao38 t139.length co38) := (blk_cell BK127.out 2).trans rfl
                have hfz137_0 := blk_frozen BK127.out 0
                have hfz137_1 := blk_frozen BK127.out 1
                have hfz137_2 := blk_frozen BK127.out 2
                go_wp2_with (first | ((with_reducible refine gate_callee (f := 25) rfl ?_); refine goesL_ (some 100) rfl rfl Try.func25 (by kernel_rfl) rfl #[.agg #[.int .i64 t121, .int .i64 t122, .slice Ao38 t139.length co38], .int .i64 1] rfl (by (try simp only [List.map_toArray, List.map_cons, List.map_nil]); first | done | rfl | (simp only [List.length_drop, List.length_take]; rfl)) ?_; (with_reducible refine (laws_heldField.calls kj97 t121 t122 _ _ t139 1 t154 _ ?side1 ?side2 A130.out).mono ?_); (case side1 => repeat (first | exact (Kd.R_reads' HO_128002.out).2.2 | (with_reducible refine Kd.C_alloc ?_ _) | (with_reducible refine Kd.C_drewN ?_ _) | (with_reducible refine Kd.C_drew ?_))); (case side2 => exact (Kd.R_reads' HO_128002.out).2.1); rintro e w138 ⟨rfl, hb⟩; refine ⟨_, rfl, ?_⟩; have n0_ := aK (Kd.R_below (pR HO_128002.out) hb); replace HB := bS HB hb; clear HO_128002; have HO_128002 := n0_; clear n0_; (try clear hb); (try clear hb2); (try clear hk); (try clear hi)))
                go_ret
                exact ⟨by first | rfl | (simp [errW_none, errW_some] <;> rfl) | (simp [*, errW_none, errW_some] <;> rfl), by repeat (first | (with_reducible first | exact HB.out | apply below_alloc | apply pw_below_drewN | apply below_drew1) | exact HB.out)⟩
          ·
           rw [if_neg c95] at H
           have c95b0 : (t140 == t138) = false := beq_eq_false_iff_ne.mpr c95
           have c95b1 : (t140 != t138) = true := bne_iff_ne.mpr c95
           obtain rfl := Option.some.inj H
           have hcz139_0 : wc.cell? ⟨gb127, 0, none⟩ = some (.int .i64 t121) := (blk_cell BK127.out 0).trans rfl
           have hcz139_1 : wc.cell? ⟨gb127, 1, none⟩ = some (.int .i64 t122) := (blk_cell BK127.out 1).trans rfl
           have hcz139_2 : wc.cell? ⟨gb127, 2, none⟩ = some (.slice Ao38 t123.length co38) := (blk_cell BK127.out 2).trans rfl
           have hfz139_0 := blk_frozen BK127.out 0
           have hfz139_1 := blk_frozen BK127.out 1
           have hfz139_2 := blk_frozen BK127.out 2
           go_wp2_with (first | ((with_reducible refine gate_callee (f := 24) rfl ?_); refine goesL_ (some 72) rfl rfl Try.func24 (by kernel_rfl) rfl #[.agg #[.int .i64 t121, .int .i64 t122, .slice Ao38 t123.length co38], .int .i64 1] rfl (by (try simp only [List.map_toArray, List.map_cons, List.map_nil]); first | done | rfl | (simp only [List.length_drop, List.length_take]; rfl)) ?_; (with_reducible refine (laws_markField.calls kj61 t121 t122 (fun k_ => some k_ = (.slice Ao38 t123.length co38 : Value).ownBlock) (.slice Ao38 t123.length co38) t123 1 t138 t139 w _ ?side1 ?side2 A88.out).mono ?_); (case side1 => repeat (first | (with_reducible first | exact HB.out | apply below_alloc | apply pw_below_drewN | apply below_drew1 | refine below_set ?_ GE127.out) | exact HB.out)); (case side2 => exact Kd.R_tight rfl HO_128002.out); rintro e w140 ⟨rfl, hy0, hb, hkp⟩; refine ⟨_, rfl, ?_⟩; have n0_ := aK (Kd.R_mono (ok' := fun k_ => some k_ ≠ (.slice Ao38 t123.length co38 : Value).ownBlock) (Kd.R_keptB (HO_115002.out) hkp (fun k_ hk_ hs_ => (hk_) hs_)) (fun k_ hk_ => hk_.1)); have n1_ := aK (Kd.R_reok rfl hy0 (fun k_ e_ => HO_128002.out.1 k_ e_)); have n2_ := aK (blk_kept (pB BK127.out) hkp (fun hs_ => (fun e_ => (Kd.R_ne HO_128002.out BK127.out (by decide)) e_) hs_)); have n3_ := aK (hb); clear HO_115002 HO_128002 BK127 HB; have HO_115002 := n0_; have HO_128002 := n1_; have BK127 := n2_; have HB := n3_; clear n0_ n1_ n2_ n3_; (try clear hb); (try clear hkp); (try clear hy0); have hcz141_0 : w140.cell? ⟨gb127, 0, none⟩ = some (.int .i64 t121) := (blk_cell BK127.out 0).trans rfl; have hcz141_1 : w140.cell? ⟨gb127, 1, none⟩ = some (.int .i64 t122) := (blk_cell BK127.out 1).trans rfl; have hcz141_2 : w140.cell? ⟨gb127, 2, none⟩ = some (.slice Ao38 t123.length co38) := (blk_cell BK127.out 2).trans rfl; have hfz141_0 := blk_frozen BK127.out 0; have hfz141_1 := blk_frozen BK127.out 1; have hfz141_2 := blk_frozen BK127.out 2) | ((with_reducible refine gate_callee (f := 25) rfl ?_); refine goesL_ (some 75) rfl rfl Try.func25 (by kernel_rfl) rfl #[.agg #[.int .i64 t121, .int .i64 t122, .slice Ao38 t139.length co38], .int .i64 1] rfl (by (try simp only [List.map_toArray, List.map_cons, List.map_nil]); first | done | (rw [show t139.length = t123.length from (Kd.R_reads' HO_128002.out).1.symm] <;> rfl) | rfl | (simp only [List.length_drop, List.length_take]; rfl)) ?_; (with_reducible refine (laws_heldField.calls kj61 t121 t122 _ _ t139 1 t140 _ ?side1 ?side2 A89.out).mono ?_); (case side1 => repeat (first | exact (Kd.R_reads' HO_128002.out).2.2 | (with_reducible refine Kd.C_alloc ?_ _) | (with_reducible refine Kd.C_drewN ?_ _) | (with_reducible refine Kd.C_drew ?_))); (case side2 => rw [show t139.length = t123.length from (Kd.R_reads' HO_128002.out).1.symm]; exact (Kd.R_reads' HO_128002.out).2.1); rintro e w142 ⟨rfl, hb⟩; refine ⟨_, rfl, ?_⟩; have n0_ := aK (Kd.R_below (pR HO_115002.out) hb); have n1_ := aK (Kd.R_below (pR HO_128002.out) hb); replace HB := bS HB hb; clear HO_115002 HO_128002; have HO_115002 := n0_; have HO_128002 := n1_; clear n0_ n1_; (try clear hb); (try clear hb2); (try clear hk); (try clear hi)))
           go_ret
           exact ⟨by first | rfl | (simp [errW_none, errW_some] <;> rfl) | (simp [*, errW_none, errW_some] <;> rfl), by repeat (first | (with_reducible first | exact HB.out | apply below_alloc | apply pw_below_drewN | apply below_drew1) | exact HB.out)⟩
     ·
      replace c60 := Bool.eq_false_iff.mpr c60
      subst c60
      have H1 : (some false) = some r := by rw [if_neg (show ¬ (false = true) by decide)] at H; exact H
      clear H
      have H := H1
      clear H1
      obtain rfl := Option.some.inj H
      try go_wp2
      have n0_ := aK (Kd.R_drew HO_115002.out)
      have n1_ := aK (Kd.R_drew HO_121002.out)
      have n2_ := aK (Kd.R_drew HO_128002.out)
      have n3_ := aK (blk_drew BK101.out)
      have n4_ := aK (blk_drew BK114.out)
      have n5_ := aK (blk_drew BK120.out)
      have n6_ := aK (blk_drew BK127.out)
      have n7_ := aK (below_drew1 HB.out)
      clear HO_115002 HO_121002 HO_128002 BK101 BK114 BK120 BK127 HB
      have HO_115002 := n0_
      have HO_121002 := n1_
      have HO_128002 := n2_
      have BK101 := n3_
      have BK114 := n4_
      have BK120 := n5_
      have BK127 := n6_
      have HB := n7_
      clear n0_ n1_ n2_ n3_ n4_ n5_ n6_ n7_
      refine start_ (n := 5) (S := fun w' => w'.cell? ⟨gb120, 0, none⟩ = some (.int .i64 t115) ∧ w'.cell? ⟨gb120, 1, none⟩ = some (.int .i64 t116) ∧ w'.cell? ⟨gb120, 2, none⟩ = some (.slice Ao31 t117.length co31) ∧ w'.cell? ⟨gb101, 0, none⟩ = some (.int .i64 a0_0) ∧ w'.cell? ⟨gb101, 1, none⟩ = some (.int .i64 a0_1) ∧ w'.cell? ⟨gb101, 2, none⟩ = some (.slice A0_2 l0_2.length c0_2)) (ds := []) #[false, false, false, false, false] (by kernel_rfl) rfl rfl ⟨(blk_cell BK120.out 0).trans rfl, (blk_cell BK120.out 1).trans rfl, (blk_cell BK120.out 2).trans rfl, (blk_cell BK101.out 0).trans rfl, (blk_cell BK101.out 1).trans rfl, (blk_cell BK101.out 2).trans rfl⟩ (fun hHeld => ?_)
      generalize wc.drew = w143 at HO_115002 HO_121002 HO_128002 BK101 BK114 BK120 BK127 HB hHeld ⊢
      refine take_ (i := 0) (N := some 49) (v := ?_) (a' := ?_) #[true, false, false, false, false] rfl rfl (by kernel_rfl) (fun _ _ _ h => h) (Or.inl ⟨by rfl, ?_⟩) hHeld ?_ ?_
      rotate_left
      ·
       rintro w' ⟨s0, s1, s2, s3, s4, s5⟩
       go_simp
       with_reducible rfl
      rotate_left
      ·
       simp only [Act.put, List.setIfInBounds_toArray, List.set_cons_zero, List.set_cons_succ, i64_w, i32_w]
       rfl
      refine take_ (i := 1) (N := some 50) (v := ?_) (a' := ?_) #[true, true, false, false, false] rfl rfl (by kernel_rfl) (fun _ _ _ h => h) (Or.inl ⟨by rfl, ?_⟩) hHeld ?_ ?_
      rotate_left
      ·
       rintro w' ⟨s0, s1, s2, s3, s4, s5⟩
       go_simp
       with_reducible rfl
      rotate_left
      ·
       simp only [Act.put, List.setIfInBounds_toArray, List.set_cons_zero, List.set_cons_succ, i64_w, i32_w]
       rfl
      refine one_ (i := 2) (N := some 51) #[true, true, true, false, false] rfl rfl (by kernel_rfl) (by decide) (fun K hK => ?_)
      refine goes_ Try.func30 (by kernel_rfl) rfl #[.agg #[.int .i64 a0_0, .int .i64 a0_1, .slice A0_2 l0_2.length c0_2]] (by rfl) rfl rfl (by (try simp only [List.map_toArray, List.map_cons, List.map_nil]); first | done | rfl | (simp only [List.length_drop, List.length_take]; rfl)) ?_
      with_reducible refine (laws_toField.calls kj12 a0_0 a0_1 _ _ l0_2 t129 t130 t131 _ ?side1 ?side2 A58.out).mono ?_
      (case side1 => repeat (first | exact (Kd.C_below HR0_2.out HB.out) | (with_reducible refine Kd.C_alloc ?_ _) | (with_reducible refine Kd.C_drewN ?_ _) | (with_reducible refine Kd.C_drew ?_)))
      (case side2 => exact HC0_2.out)
      rintro e w144 ⟨v132, rfl, ho0, hb⟩
      refine ⟨_, rfl, ?_⟩
      have n0_ := aK (Kd.R_elder' (pR HO_115002.out) (Kd.R_base ho0) hb)
      have n1_ := aK (Kd.R_elder' (pR HO_121002.out) (Kd.R_base ho0) hb)
      have n2_ := aK (Kd.R_elder' (pR HO_128002.out) (Kd.R_base ho0) hb)
      have HO133 := aK (Kd.R_lower (Kd.R_new' (Kd.R_new' (Kd.R_new' ho0 (Kd.R_lt (pR HO_115002.out))) (Kd.R_lt (pR HO_121002.out))) (Kd.R_lt (pR HO_128002.out))) (below_size (pS HB.out)))
      replace BK101 := bB BK101 hb
      replace BK114 := bB BK114 hb
      replace BK120 := bB BK120 hb
      replace BK127 := bB BK127 hb
      replace HB := bS HB hb
      clear HO_115002 HO_121002 HO_128002
      have HO_115002 := n0_
      have HO_121002 := n1_
      have HO_128002 := n2_
      clear n0_ n1_ n2_
      (try clear hb)
      (try clear hb2)
      (try clear hk)
      (try clear hi)
      (try clear ho0)
      obtain ⟨Ao145, co145, eo145⟩ := Kd.R_slice HO133.out
      (first | subst eo145 | (injection eo145 with f1_ f2_ f3_; have f4_ := f1_.symm; have f5_ := f3_.symm; clear f1_ f2_ f3_; subst f4_; subst f5_))
      refine hK.out _ _ ⟨(blk_cell BK120.out 0).trans rfl, (blk_cell BK120.out 1).trans rfl, (blk_cell BK120.out 2).trans rfl, (blk_cell BK101.out 0).trans rfl, (blk_cell BK101.out 1).trans rfl, (blk_cell BK101.out 2).trans rfl⟩ (fun hHeld => ?_)
      clear hK K
      refine norm_ (a' := ?_) ?_ ?_
      rotate_left
      ·
       show Act.put _ (some 51) _ = _
       simp only [Act.put, List.setIfInBounds_toArray, List.set_cons_zero, List.set_cons_succ, i64_w, i32_w]
       rfl
      refine one_ (i := 3) (N := some 52) #[true, true, true, true, false] rfl rfl (by kernel_rfl) (by decide) (fun K hK => ?_)
      refine goes_ Try.func21 (by kernel_rfl) rfl #[.agg #[.int .i64 t115, .int .i64 t116, .slice Ao31 t117.length co31], .agg #[.int .i64 t129, .int .i64 t130, .slice Ao145 t131.length co145]] (by rfl) rfl rfl (by (try simp only [List.map_toArray, List.map_cons, List.map_nil]); first | done | rfl | (simp only [List.length_drop, List.length_take]; rfl)) ?_
      with_reducible refine (laws_eqField.calls kj12 t115 t116 _ _ t117 t129 t130 _ _ t131 false _ ?side1 ?side2 ?side3 ?side4 A59.out).mono ?_
      (case side1 => repeat (first | exact (Kd.R_reads' HO_121002.out).2.2 | (with_reducible refine Kd.C_alloc ?_ _) | (with_reducible refine Kd.C_drewN ?_ _) | (with_reducible refine Kd.C_drew ?_)))
      (case side2 => exact (Kd.R_reads' HO_121002.out).2.1)
      (case side3 => repeat (first | exact (Kd.R_reads' HO133.out).2.2 | (with_reducible refine Kd.C_alloc ?_ _) | (with_reducible refine Kd.C_drewN ?_ _) | (with_reducible refine Kd.C_drew ?_)))
      (case side4 => exact (Kd.R_reads' HO133.out).2.1)
      rintro e w146 ⟨rfl, hb⟩
      refine ⟨_, rfl, ?_⟩
      have n0_ := aK (Kd.R_below (pR HO_115002.out) hb)
      have n1_ := aK (Kd.R_below (pR HO_121002.out) hb)
      have n2_ := aK (Kd.R_below (pR HO_128002.out) hb)
      have n3_ := aK (Kd.R_below (pR HO133.out) hb)
      replace BK101 := bB BK101 hb
      replace BK114 := bB BK114 hb
      replace BK120 := bB BK120 hb
      replace BK127 := bB BK127 hb
      replace HB := bS HB hb
      clear HO_115002 HO_121002 HO_128002 HO133
      have HO_115002 := n0_
      have HO_121002 := n1_
      have HO_128002 := n2_
      have HO133 := n3_
      clear n0_ n1_ n2_ n3_
      (try clear hb)
      (try clear hb2)
      (try clear hk)
      (try clear hi)
      refine hK.out _ _ ⟨(blk_cell BK120.out 0).trans rfl, (blk_cell BK120.out 1).trans rfl, (blk_cell BK120.out 2).trans rfl, (blk_cell BK101.out 0).trans rfl, (blk_cell BK101.out 1).trans rfl, (blk_cell BK101.out 2).trans rfl⟩ (fun hHeld => ?_)
      clear hK K
      refine norm_ (a' := ?_) ?_ ?_
      rotate_left
      ·
       show Act.put _ (some 52) _ = _
       simp only [Act.put, List.setIfInBounds_toArray, List.set_cons_zero, List.set_cons_succ, i64_w, i32_w]
       rfl
      refine pure_ (i := 4) (N := some 53) (v := ?_) (a' := ?_) #[true, true, true, true, true] rfl rfl (by kernel_rfl) (fun _ _ _ h => h) (Or.inl ⟨by rfl, ?_⟩) ?_ ?_
      rotate_left
      ·
       intro w'
       go_simp
       with_reducible rfl
      rotate_left
      ·
       simp only [Act.put, List.setIfInBounds_toArray, List.set_cons_zero, List.set_cons_succ, i64_w, i32_w]
       rfl
      refine done_ (by kernel_rfl) ?_
      try go_wp2
      go_ret
      exact ⟨by first | rfl | (simp [errW_none, errW_some] <;> rfl) | (simp [*, errW_none, errW_some] <;> rfl), by repeat (first | (with_reducible first | exact HB.out | apply below_alloc | apply pw_below_drewN | apply below_drew1) | exact HB.out)⟩

/-- The one plain statement of FnExactRepeatMaximum. -/
def laws_FnExactRepeatMaximum.Pure : Prop := ∀ (a0_0 : Int) (a0_1 : Int) (l0_2 : List Int) (a1 : Int) (a2 : Int), (Lit.int .i64 a0_0).wf = true → (Lit.int .i64 a0_1).wf = true → (l0_2.length ≤ 9223372036854775807 ∧ ∀ z0 ∈ l0_2, (Lit.int .i64 z0).wf = true) → (Lit.int .i64 a1).wf = true → (Lit.int .i64 a2).wf = true → ∃ k, laws_FnExactRepeatMaximum.f k a0_0 a0_1 l0_2 a1 a2 = some true

end Go.Proofs.Ytmhbakmgcogmoaa.P
