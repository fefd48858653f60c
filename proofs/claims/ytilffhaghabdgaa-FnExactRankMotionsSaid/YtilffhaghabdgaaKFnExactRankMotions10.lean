/- Texts of the claim FnExactRankMotions, merged: part 10 of 11: the program's and the reference's functions as Lean functions, the walks that show it, and plain lemmas; no conditions. -/
import Derived.Test.YtilffhaghabdgaaKFnExactRankMotions3
import Derived.Test.YtilffhaghabdgaaKFnExactRankMotions6
import Derived.Test.YtilffhaghabdgaaKFnExactRankMotions8
import Derived.Test.YtilffhaghabdgaaKFnExactRankMotions9
namespace Go.Proofs.Ytilffhaghabdgaa.P
open Go.RowKit Go.Proofs.YtilffhaghabdgaaW.PrintWords Go.Proofs.YtilffhaghabdgaaW.PrintLast Go.Proofs.YtilffhaghabdgaaW.PrintMore
attribute [local go_sem] max2_int min2_int max_two min_two max_three min_three max_four min_four
set_option linter.unusedVariables false
set_option linter.unusedSimpArgs false
mutual
def laws_FnExactRankMotions.j0 : Nat → List (S37) → Bool → List (S37) → Bool → Bool → Int → Int → List Int → Int → Int → List Int → Int → Int → List Int → Int → Int → List Int → Option (Bool)
 | 0, _, _, _, _, _, _, _, _, _, _, _, _, _, _, _, _, _ => none
 | k + 1, x6, x7, x10, x11, x53, x102000, x102001, x102002, x103000, x103001, x103002, x125000, x125001, x125002, x131000, x131001, x131002 => if x53 = true then (some false) else ((laws_toField.f k x102000 x102001 x102002).bind fun bt136 => ((laws_eqField.f k x125000 x125001 x125002 bt136.1 bt136.2.1 bt136.2.2).bind fun t141 => (if t141 = true then ((laws_toField.f k x103000 x103001 x103002).bind fun bt142 => ((laws_eqField.f k x131000 x131001 x131002 bt142.1 bt142.2.1 bt142.2.2).bind fun t147 => (if t147 = true then ((laws_markField.f k x125000 x125001 x125002 1).bind fun bt148 => ((laws_markField.f k x131000 x131001 x131002 bt148.1).bind fun bt150 => (if bt150.1 < 0 then (laws_FnExactRankMotions.j1 k x6 x7 x10 true x102000 x102001 x102002 x103000 x103001 x103002) else ((laws_eqMotionS.f k x10 x6).bind fun t152 => (if t152 = true then (laws_FnExactRankMotions.j1 k x6 x7 x10 (x11 != x7) x102000 x102001 x102002 x103000 x103001 x103002) else (laws_FnExactRankMotions.j1 k x6 x7 x10 true x102000 x102001 x102002 x103000 x103001 x103002)))))) else (some false)))) else (some false))))
def laws_FnExactRankMotions.j1 : Nat → List (S37) → Bool → List (S37) → Bool → Int → Int → List Int → Int → Int → List Int → Option (Bool)
 | 0, _, _, _, _, _, _, _, _, _, _ => none
 | k + 1, x6, x7, x10, x82, x102000, x102001, x102002, x103000, x103001, x103002 => if x82 = true then (some false) else ((laws_markMotionS.f k x10 1).bind fun bt153 => ((laws_heldMotionS.f k bt153.2 1).bind fun t155 => (if t155 < 0 then (some false) else (if t155 = bt153.1 then ((laws_toField.f k x102000 x102001 x102002).bind fun bt156 => ((laws_toField.f k x103000 x103001 x103002).bind fun bt161 => ((impl_RankMotions.f k bt156.1 bt156.2.1 bt156.2.2 bt161.1 bt161.2.1 bt161.2.2).bind fun bt166 => ((laws_eqMotionS.f k bt166.1 x6).bind fun t170 => (if t170 = true then (laws_FnExactRankMotions.j2 k bt153.2 bt153.1 (bt166.2 != x7)) else (laws_FnExactRankMotions.j2 k bt153.2 bt153.1 true)))))) else (some false)))))
def laws_FnExactRankMotions.j2 : Nat → List (S37) → Int → Bool → Option (Bool)
 | 0, _, _, _ => none
 | k + 1, x10, x13, x110 => if x110 = true then (some false) else ((laws_heldMotionS.f k x10 1).bind fun t171 => (if t171 < 0 then (some false) else (if t171 = x13 then (some true) else (some false))))
end
def laws_FnExactRankMotions.f (k : Nat) (a0_0 : Int) (a0_1 : Int) (l0_2 : List Int) (a1_0 : Int) (a1_1 : Int) (l1_2 : List Int) : Option (Bool) := (laws_szField.f a0_0 a0_1 l0_2 1048576).bind fun t103 => (if t103 < 0 then (some true) else ((laws_szField.f a1_0 a1_1 l1_2 t103).bind fun t104 => (if t104 < 0 then (some true) else ((laws_toField.f k a0_0 a0_1 l0_2).bind fun bt105 => ((laws_toField.f k a1_0 a1_1 l1_2).bind fun bt110 => ((spec_RankMotions.f k bt105.1 bt105.2.1 bt105.2.2 bt110.1 bt110.2.1 bt110.2.2).bind fun bt115 => ((laws_toField.f k a0_0 a0_1 l0_2).bind fun bt119 => ((laws_toField.f k a1_0 a1_1 l1_2).bind fun bt125 => ((impl_RankMotions.f k bt119.1 bt119.2.1 bt119.2.2 bt125.1 bt125.2.1 bt125.2.2).bind fun bt131 => ((laws_eqMotionS.f k bt131.1 bt115.1).bind fun t135 => (if t135 = true then (laws_FnExactRankMotions.j0 k bt115.1 bt115.2 bt131.1 bt131.2 (bt131.2 != bt115.2) a0_0 a0_1 l0_2 a1_0 a1_1 l1_2 bt119.1 bt119.2.1 bt119.2.2 bt125.1 bt125.2.1 bt125.2.2) else (laws_FnExactRankMotions.j0 k bt115.1 bt115.2 bt131.1 bt131.2 true a0_0 a0_1 l0_2 a1_0 a1_1 l1_2 bt119.1 bt119.2.1 bt119.2.2 bt125.1 bt125.2.1 bt125.2.2))))))))))))
def laws_FnExactRankMotions.T8 : Bool × List (List Nat × List Nat) := (true, [([], []), ([0], [0]), ([], []), ([2, 1], [2]), ([1, 3, 3], [1, 3]), ([4], [4]), ([5], [5]), ([5], [5]), ([6, 4, 0, 1, 2, 3, 4, 5, 6], [6]), ([7, 8, 0, 1, 2, 3, 4, 5, 6, 7, 8], [7])])
def laws_FnExactRankMotions.B8 : List Nat := [0, 1, 0, 7, 15, 31, 63, 63, 127, 511]
theorem laws_FnExactRankMotions.tab8 : rtab .any (opsOf Try.f3 8) = laws_FnExactRankMotions.T8 := by kernel_rfl
theorem laws_FnExactRankMotions.bits8 : waitsOk laws_FnExactRankMotions.T8.2 laws_FnExactRankMotions.B8 = true := by kernel_rfl
def laws_FnExactRankMotions.T31 : Bool × List (List Nat × List Nat) := (true, [([], []), ([0], [0]), ([], []), ([2, 1], [2]), ([1, 3, 3], [1, 3]), ([4], [4]), ([5], [5]), ([5], [5]), ([6, 4, 0, 1, 2, 3, 4, 5, 6], [6]), ([7, 8, 0, 1, 2, 3, 4, 5, 6, 7, 8], [7])])
def laws_FnExactRankMotions.B31 : List Nat := [0, 1, 0, 7, 15, 31, 63, 63, 127, 511]
theorem laws_FnExactRankMotions.tab31 : rtab .any (opsOf Try.f3 31) = laws_FnExactRankMotions.T31 := by kernel_rfl
theorem laws_FnExactRankMotions.bits31 : waitsOk laws_FnExactRankMotions.T31.2 laws_FnExactRankMotions.B31 = true := by kernel_rfl
set_option maxHeartbeats 8000000 in
set_option maxRecDepth 100000 in
theorem laws_FnExactRankMotions.calls (k : Nat) (a0_0 : Int) (a0_1 : Int) (A0_2 : Option Addr) (c0_2 : Nat) (l0_2 : List Int) (a1_0 : Int) (a1_1 : Int) (A1_2 : Option Addr) (c1_2 : Nat) (l1_2 : List Int) (r : Bool) (w : World) (hr0_2 : Kd.C (Kd.int .i64) w A0_2 l0_2.length l0_2) (hc0_2 : l0_2.length ≤ c0_2) (hr1_2 : Kd.C (Kd.int .i64) w A1_2 l1_2.length l1_2) (hc1_2 : l1_2.length ≤ c1_2) (h : laws_FnExactRankMotions.f k a0_0 a0_1 l0_2 a1_0 a1_1 l1_2 = some r) :
  Calls Try.prog 3 #[.agg #[.int .i64 a0_0, .int .i64 a0_1, .slice A0_2 l0_2.length c0_2], .agg #[.int .i64 a1_0, .int .i64 a1_1, .slice A1_2 l1_2.length c1_2]] w fun e w' => e = .returned (.bool r) ∧ Below w.heap.size w w' := by
 have hu24 := Try.underlying24
 have hu29 := Try.underlying29
 have HR0_2 := Aside0.mk hr0_2
 have HC0_2 := Aside0.mk hc0_2
 clear hr0_2 hc0_2
 have HR1_2 := Aside0.mk hr1_2
 have HC1_2 := Aside0.mk hc1_2
 clear hr1_2 hc1_2
 have HB := aK (Below.refl w.heap.size w)
 have H : ((laws_szField.f a0_0 a0_1 l0_2 1048576).bind fun t103 => (if t103 < 0 then (some true) else ((laws_szField.f a1_0 a1_1 l1_2 t103).bind fun t104 => (if t104 < 0 then (some true) else ((laws_toField.f k a0_0 a0_1 l0_2).bind fun bt105 => ((laws_toField.f k a1_0 a1_1 l1_2).bind fun bt110 => ((spec_RankMotions.f k bt105.1 bt105.2.1 bt105.2.2 bt110.1 bt110.2.1 bt110.2.2).bind fun bt115 => ((laws_toField.f k a0_0 a0_1 l0_2).bind fun bt119 => ((laws_toField.f k a1_0 a1_1 l1_2).bind fun bt125 => ((impl_RankMotions.f k bt119.1 bt119.2.1 bt119.2.2 bt125.1 bt125.2.1 bt125.2.2).bind fun bt131 => ((laws_eqMotionS.f k bt131.1 bt115.1).bind fun t135 => (if t135 = true then (laws_FnExactRankMotions.j0 k bt115.1 bt115.2 bt131.1 bt131.2 (bt131.2 != bt115.2) a0_0 a0_1 l0_2 a1_0 a1_1 l1_2 bt119.1 bt119.2.1 bt119.2.2 bt125.1 bt125.2.1 bt125.2.2) else (laws_FnExactRankMotions.j0 k bt115.1 bt115.2 bt131.1 bt131.2 true a0_0 a0_1 l0_2 a1_0 a1_1 l1_2 bt119.1 bt119.2.1 bt119.2.2 bt125.1 bt125.2.1 bt125.2.2))))))))))))) = some r := h
 clear h
 replace H := Option.bind_eq_some_iff.mp H
 obtain ⟨t103, A30, H⟩ := H
 replace H : (if t103 < 0 then (some true) else ((laws_szField.f a1_0 a1_1 l1_2 t103).bind fun t104 => (if t104 < 0 then (some true) else ((laws_toField.f k a0_0 a0_1 l0_2).bind fun bt105 => ((laws_toField.f k a1_0 a1_1 l1_2).bind fun bt110 => ((spec_RankMotions.f k bt105.1 bt105.2.1 bt105.2.2 bt110.1 bt110.2.1 bt110.2.2).bind fun bt115 => ((laws_toField.f k a0_0 a0_1 l0_2).bind fun bt119 => ((laws_toField.f k a1_0 a1_1 l1_2).bind fun bt125 => ((impl_RankMotions.f k bt119.1 bt119.2.1 bt119.2.2 bt125.1 bt125.2.1 bt125.2.2).bind fun bt131 => ((laws_eqMotionS.f k bt131.1 bt115.1).bind fun t135 => (if t135 = true then (laws_FnExactRankMotions.j0 k bt115.1 bt115.2 bt131.1 bt131.2 (bt131.2 != bt115.2) a0_0 a0_1 l0_2 a1_0 a1_1 l1_2 bt119.1 bt119.2.1 bt119.2.2 bt125.1 bt125.2.1 bt125.2.2) else (laws_FnExactRankMotions.j0 k bt115.1 bt115.2 bt131.1 bt131.2 true a0_0 a0_1 l0_2 a1_0 a1_1 l1_2 bt119.1 bt119.2.1 bt119.2.2 bt125.1 bt125.2.1 bt125.2.2)))))))))))) = some r := H
 have A3 := Aside0.mk A30
 clear A30
 by_cases c4 : t103 < 0
 ·
  rw [if_pos c4] at H
  have c4b0 : decide (t103 < 0) = true := decide_eq_true c4
  clear c4
  obtain rfl := Option.some.inj H
  go_enter Try.func3, Try.ntmps3
  go_wp2_with (first | ((with_reducible refine gate_dst (N := 2) rfl ?_); refine bxe (cs := #[.int .i64 a0_0, .int .i64 a0_1, .slice A0_2 l0_2.length c0_2]) (t := 24) ?_; intro gb101 hg w5 hbox hb; have BK101 := aK (hbox); have GW101 := aK (gE hg (pS HB.out)); have GE101 := aK (gE hg (pS HB.out)); replace HB := bS HB hb; clear hb hbox hg) | ((with_reducible refine gate_dst (N := 3) rfl ?_); refine bxe (cs := #[.int .i64 a1_0, .int .i64 a1_1, .slice A1_2 l1_2.length c1_2]) (t := 24) ?_; intro gb102 hg w6 hbox hb; have BK102 := aK (hbox); have GW102 := aK (gE hg (pS HB.out)); have GE102 := aK (gE hg (pS HB.out)); have NB101_102 := aK (nL hg (pB BK101.out)); have NB102_101 := aK (nG hg (pB BK101.out)); replace BK101 := bB BK101 hb; replace HB := bS HB hb; clear hb hbox hg; have hcz7_0 : w6.cell? ⟨gb101, 0, none⟩ = some (.int .i64 a0_0) := (blk_cell BK101.out 0).trans rfl; have hcz7_1 : w6.cell? ⟨gb101, 1, none⟩ = some (.int .i64 a0_1) := (blk_cell BK101.out 1).trans rfl; have hcz7_2 : w6.cell? ⟨gb101, 2, none⟩ = some (.slice A0_2 l0_2.length c0_2) := (blk_cell BK101.out 2).trans rfl; have hfz7_0 := blk_frozen BK101.out 0; have hfz7_1 := blk_frozen BK101.out 1; have hfz7_2 := blk_frozen BK101.out 2) | ((with_reducible refine gate_callee (f := 13) rfl ?_); refine gl (some 19) Try.func13 #[.agg #[.int .i64 a0_0, .int .i64 a0_1, .slice A0_2 l0_2.length c0_2], .int .i64 1048576] ?_; (with_reducible refine (laws_szField.calls a0_0 a0_1 _ _ l0_2 1048576 t103 _ ?side1 ?side2 A3.out).mono ?_); (case side1 => exact pC (Kd.C_below HR0_2.out HB.out)); (case side2 => exact HC0_2.out); rintro e w8 ⟨rfl, hb⟩; refine ⟨_, rfl, ?_⟩; replace HB := bS HB hb; (try clear hb); (try clear hb2); (try clear hk); (try clear hi)))
  go_ret
  exact ⟨by first | rfl | (simp [errW_none, errW_some] <;> rfl) | (simp [*, errW_none, errW_some] <;> rfl), pT HB.out⟩
 rw [if_neg c4] at H
 have c4b0 : decide (t103 < 0) = false := decide_eq_false c4
 clear c4
 replace H := Option.bind_eq_some_iff.mp H
 obtain ⟨t104, A90, H⟩ := H
 replace H : (if t104 < 0 then (some true) else ((laws_toField.f k a0_0 a0_1 l0_2).bind fun bt105 => ((laws_toField.f k a1_0 a1_1 l1_2).bind fun bt110 => ((spec_RankMotions.f k bt105.1 bt105.2.1 bt105.2.2 bt110.1 bt110.2.1 bt110.2.2).bind fun bt115 => ((laws_toField.f k a0_0 a0_1 l0_2).bind fun bt119 => ((laws_toField.f k a1_0 a1_1 l1_2).bind fun bt125 => ((impl_RankMotions.f k bt119.1 bt119.2.1 bt119.2.2 bt125.1 bt125.2.1 bt125.2.2).bind fun bt131 => ((laws_eqMotionS.f k bt131.1 bt115.1).bind fun t135 => (if t135 = true then (laws_FnExactRankMotions.j0 k bt115.1 bt115.2 bt131.1 bt131.2 (bt131.2 != bt115.2) a0_0 a0_1 l0_2 a1_0 a1_1 l1_2 bt119.1 bt119.2.1 bt119.2.2 bt125.1 bt125.2.1 bt125.2.2) else (laws_FnExactRankMotions.j0 k bt115.1 bt115.2 bt131.1 bt131.2 true a0_0 a0_1 l0_2 a1_0 a1_1 l1_2 bt119.1 bt119.2.1 bt119.2.2 bt125.1 bt125.2.1 bt125.2.2)))))))))) = some r := H
 have A9 := Aside0.mk A90
 clear A90
 by_cases c10 : t104 < 0
 ·
  rw [if_pos c10] at H
  have c10b0 : decide (t104 < 0) = true := decide_eq_true c10
  clear c10
  obtain rfl := Option.some.inj H
  go_enter Try.func3, Try.ntmps3
  go_wp2_with (first | ((with_reducible refine gate_dst (N := 2) rfl ?_); refine bxe (cs := #[.int .i64 a0_0, .int .i64 a0_1, .slice A0_2 l0_2.length c0_2]) (t := 24) ?_; intro gb101 hg w11 hbox hb; have BK101 := aK (hbox); have GW101 := aK (gE hg (pS HB.out)); have GE101 := aK (gE hg (pS HB.out)); replace HB := bS HB hb; clear hb hbox hg) | ((with_reducible refine gate_dst (N := 3) rfl ?_); refine bxe (cs := #[.int .i64 a1_0, .int .i64 a1_1, .slice A1_2 l1_2.length c1_2]) (t := 24) ?_; intro gb102 hg w12 hbox hb; have BK102 := aK (hbox); have GW102 := aK (gE hg (pS HB.out)); have GE102 := aK (gE hg (pS HB.out)); have NB101_102 := aK (nL hg (pB BK101.out)); have NB102_101 := aK (nG hg (pB BK101.out)); replace BK101 := bB BK101 hb; replace HB := bS HB hb; clear hb hbox hg; have hnb13 := NB101_102.out; have hnc13 := NB102_101.out; have hcz14_0 : w12.cell? ⟨gb101, 0, none⟩ = some (.int .i64 a0_0) := (blk_cell BK101.out 0).trans rfl; have hcz14_1 : w12.cell? ⟨gb101, 1, none⟩ = some (.int .i64 a0_1) := (blk_cell BK101.out 1).trans rfl; have hcz14_2 : w12.cell? ⟨gb101, 2, none⟩ = some (.slice A0_2 l0_2.length c0_2) := (blk_cell BK101.out 2).trans rfl; have hfz14_0 := blk_frozen BK101.out 0; have hfz14_1 := blk_frozen BK101.out 1; have hfz14_2 := blk_frozen BK101.out 2) | ((with_reducible refine gate_callee (f := 13) rfl ?_); refine gl (some 19) Try.func13 #[.agg #[.int .i64 a0_0, .int .i64 a0_1, .slice A0_2 l0_2.length c0_2], .int .i64 1048576] ?_; (with_reducible refine (laws_szField.calls a0_0 a0_1 _ _ l0_2 1048576 t103 _ ?side1 ?side2 A3.out).mono ?_); (case side1 => exact pC (Kd.C_below HR0_2.out HB.out)); (case side2 => exact HC0_2.out); rintro e w15 ⟨rfl, hb⟩; refine ⟨_, rfl, ?_⟩; replace BK102 := bB BK102 hb; replace HB := bS HB hb; (try clear hb); (try clear hb2); (try clear hk); (try clear hi); have hcz16_0 : w15.cell? ⟨gb102, 0, none⟩ = some (.int .i64 a1_0) := (blk_cell BK102.out 0).trans rfl; have hcz16_1 : w15.cell? ⟨gb102, 1, none⟩ = some (.int .i64 a1_1) := (blk_cell BK102.out 1).trans rfl; have hcz16_2 : w15.cell? ⟨gb102, 2, none⟩ = some (.slice A1_2 l1_2.length c1_2) := (blk_cell BK102.out 2).trans rfl; have hfz16_0 := blk_frozen BK102.out 0; have hfz16_1 := blk_frozen BK102.out 1; have hfz16_2 := blk_frozen BK102.out 2) | ((with_reducible refine gate_callee (f := 13) rfl ?_); refine gl (some 24) Try.func13 #[.agg #[.int .i64 a1_0, .int .i64 a1_1, .slice A1_2 l1_2.length c1_2], .int .i64 t103] ?_; (with_reducible refine (laws_szField.calls a1_0 a1_1 _ _ l1_2 t103 t104 _ ?side1 ?side2 A9.out).mono ?_); (case side1 => exact pC (Kd.C_below HR1_2.out HB.out)); (case side2 => exact HC1_2.out); rintro e w17 ⟨rfl, hb⟩; refine ⟨_, rfl, ?_⟩; replace HB := bS HB hb; (try clear hb); (try clear hb2); (try clear hk); (try clear hi)))
  go_ret
  exact ⟨by first | rfl | (simp [errW_none, errW_some] <;> rfl) | (simp [*, errW_none, errW_some] <;> rfl), pT HB.out⟩
 rw [if_neg c10] at H
 have c10b0 : decide (t104 < 0) = false := decide_eq_false c10
 clear c10
 replace H := Option.bind_eq_some_iff.mp H
 obtain ⟨⟨t105, t106, t107⟩, A180, H⟩ := H
 replace H : ((laws_toField.f k a1_0 a1_1 l1_2).bind fun bt110 => ((spec_RankMotions.f k t105 t106 t107 bt110.1 bt110.2.1 bt110.2.2).bind fun bt115 => ((laws_toField.f k a0_0 a0_1 l0_2).bind fun bt119 => ((laws_toField.f k a1_0 a1_1 l1_2).bind fun bt125 => ((impl_RankMotions.f k bt119.1 bt119.2.1 bt119.2.2 bt125.1 bt125.2.1 bt125.2.2).bind fun bt131 => ((laws_eqMotionS.f k bt131.1 bt115.1).bind fun t135 => (if t135 = true then (laws_FnExactRankMotions.j0 k bt115.1 bt115.2 bt131.1 bt131.2 (bt131.2 != bt115.2) a0_0 a0_1 l0_2 a1_0 a1_1 l1_2 bt119.1 bt119.2.1 bt119.2.2 bt125.1 bt125.2.1 bt125.2.2) else (laws_FnExactRankMotions.j0 k bt115.1 bt115.2 bt131.1 bt131.2 true a0_0 a0_1 l0_2 a1_0 a1_1 l1_2 bt119.1 bt119.2.1 bt119.2.2 bt125.1 bt125.2.1 bt125.2.2)))))))) = some r := H
 have A18 := Aside0.mk A180
 clear A180
 replace H := Option.bind_eq_some_iff.mp H
 obtain ⟨⟨t110, t111, t112⟩, A190, H⟩ := H
 replace H : ((spec_RankMotions.f k t105 t106 t107 t110 t111 t112).bind fun bt115 => ((laws_toField.f k a0_0 a0_1 l0_2).bind fun bt119 => ((laws_toField.f k a1_0 a1_1 l1_2).bind fun bt125 => ((impl_RankMotions.f k bt119.1 bt119.2.1 bt119.2.2 bt125.1 bt125.2.1 bt125.2.2).bind fun bt131 => ((laws_eqMotionS.f k bt131.1 bt115.1).bind fun t135 => (if t135 = true then (laws_FnExactRankMotions.j0 k bt115.1 bt115.2 bt131.1 bt131.2 (bt131.2 != bt115.2) a0_0 a0_1 l0_2 a1_0 a1_1 l1_2 bt119.1 bt119.2.1 bt119.2.2 bt125.1 bt125.2.1 bt125.2.2) else (laws_FnExactRankMotions.j0 k bt115.1 bt115.2 bt131.1 bt131.2 true a0_0 a0_1 l0_2 a1_0 a1_1 l1_2 bt119.1 bt119.2.1 bt119.2.2 bt125.1 bt125.2.1 bt125.2.2))))))) = some r := H
 have A19 := Aside0.mk A190
 clear A190
 replace H := Option.bind_eq_some_iff.mp H
 obtain ⟨⟨t115, t118⟩, A200, H⟩ := H
 replace H : ((laws_toField.f k a0_0 a0_1 l0_2).bind fun bt119 => ((laws_toField.f k a1_0 a1_1 l1_2).bind fun bt125 => ((impl_RankMotions.f k bt119.1 bt119.2.1 bt119.2.2 bt125.1 bt125.2.1 bt125.2.2).bind fun bt131 => ((laws_eqMotionS.f k bt131.1 t115).bind fun t135 => (if t135 = true then (laws_FnExactRankMotions.j0 k t115 t118 bt131.1 bt131.2 (bt131.2 != t118) a0_0 a0_1 l0_2 a1_0 a1_1 l1_2 bt119.1 bt119.2.1 bt119.2.2 bt125.1 bt125.2.1 bt125.2.2) else (laws_FnExactRankMotions.j0 k t115 t118 bt131.1 bt131.2 true a0_0 a0_1 l0_2 a1_0 a1_1 l1_2 bt119.1 bt119.2.1 bt119.2.2 bt125.1 bt125.2.1 bt125.2.2)))))) = some r := H
 have A20 := Aside0.mk A200
 clear A200
 replace H := Option.bind_eq_some_iff.mp H
 obtain ⟨⟨t119, t120, t121⟩, A210, H⟩ := H
 replace H : ((laws_toField.f k a1_0 a1_1 l1_2).bind fun bt125 => ((impl_RankMotions.f k t119 t120 t121 bt125.1 bt125.2.1 bt125.2.2).bind fun bt131 => ((laws_eqMotionS.f k bt131.1 t115).bind fun t135 => (if t135 = true then (laws_FnExactRankMotions.j0 k t115 t118 bt131.1 bt131.2 (bt131.2 != t118) a0_0 a0_1 l0_2 a1_0 a1_1 l1_2 t119 t120 t121 bt125.1 bt125.2.1 bt125.2.2) else (laws_FnExactRankMotions.j0 k t115 t118 bt131.1 bt131.2 true a0_0 a0_1 l0_2 a1_0 a1_1 l1_2 t119 t120 t121 bt125.1 bt125.2.1 bt125.2.2))))) = some r := H
 have A21 := Aside0.mk A210
 clear A210
 replace H := Option.bind_eq_some_iff.mp H
 obtain ⟨⟨t125, t126, t127⟩, A220, H⟩ := H
 replace H : ((impl_RankMotions.f k t119 t120 t121 t125 t126 t127).bind fun bt131 => ((laws_eqMotionS.f k bt131.1 t115).bind fun t135 => (if t135 = true then (laws_FnExactRankMotions.j0 k t115 t118 bt131.1 bt131.2 (bt131.2 != t118) a0_0 a0_1 l0_2 a1_0 a1_1 l1_2 t119 t120 t121 t125 t126 t127) else (laws_FnExactRankMotions.j0 k t115 t118 bt131.1 bt131.2 true a0_0 a0_1 l0_2 a1_0 a1_1 l1_2 t119 t120 t121 t125 t126 t127)))) = some r := H
 have A22 := Aside0.mk A220
 clear A220
 replace H := Option.bind_eq_some_iff.mp H
 obtain ⟨⟨t131, t134⟩, A230, H⟩ := H
 replace H : ((laws_eqMotionS.f k t131 t115).bind fun t135 => (if t135 = true then (laws_FnExactRankMotions.j0 k t115 t118 t131 t134 (t134 != t118) a0_0 a0_1 l0_2 a1_0 a1_1 l1_2 t119 t120 t121 t125 t126 t127) else (laws_FnExactRankMotions.j0 k t115 t118 t131 t134 true a0_0 a0_1 l0_2 a1_0 a1_1 l1_2 t119 t120 t121 t125 t126 t127))) = some r := H
 have A23 := Aside0.mk A230
 clear A230
 have HC24 := Aside0.mk H
 clear H
 go_enter Try.func3, Try.ntmps3
 try go_wp2_with (first | ((with_reducible refine gate_dst (N := 2) rfl ?_); refine bxe (cs := #[.int .i64 a0_0, .int .i64 a0_1, .slice A0_2 l0_2.length c0_2]) (t := 24) ?_; intro gb101 hg w25 hbox hb; have BK101 := aK (hbox); have GW101 := aK (gE hg (pS HB.out)); have GE101 := aK (gE hg (pS HB.out)); replace HB := bS HB hb; clear hb hbox hg) | ((with_reducible refine gate_dst (N := 3) rfl ?_); refine bxe (cs := #[.int .i64 a1_0, .int .i64 a1_1, .slice A1_2 l1_2.length c1_2]) (t := 24) ?_; intro gb102 hg w26 hbox hb; have BK102 := aK (hbox); have GW102 := aK (gE hg (pS HB.out)); have GE102 := aK (gE hg (pS HB.out)); have NB101_102 := aK (nL hg (pB BK101.out)); have NB102_101 := aK (nG hg (pB BK101.out)); replace BK101 := bB BK101 hb; replace HB := bS HB hb; clear hb hbox hg; have hnb27 := NB101_102.out; have hnc27 := NB102_101.out; have hcz28_0 : w26.cell? ⟨gb101, 0, none⟩ = some (.int .i64 a0_0) := (blk_cell BK101.out 0).trans rfl; have hcz28_1 : w26.cell? ⟨gb101, 1, none⟩ = some (.int .i64 a0_1) := (blk_cell BK101.out 1).trans rfl; have hcz28_2 : w26.cell? ⟨gb101, 2, none⟩ = some (.slice A0_2 l0_2.length c0_2) := (blk_cell BK101.out 2).trans rfl; have hfz28_0 := blk_frozen BK101.out 0; have hfz28_1 := blk_frozen BK101.out 1; have hfz28_2 := blk_frozen BK101.out 2) | ((with_reducible refine gate_callee (f := 13) rfl ?_); refine gl (some 19) Try.func13 #[.agg #[.int .i64 a0_0, .int .i64 a0_1, .slice A0_2 l0_2.length c0_2], .int .i64 1048576] ?_; (with_reducible refine (laws_szField.calls a0_0 a0_1 _ _ l0_2 1048576 t103 _ ?side1 ?side2 A3.out).mono ?_); (case side1 => exact pC (Kd.C_below HR0_2.out HB.out)); (case side2 => exact HC0_2.out); rintro e w29 ⟨rfl, hb⟩; refine ⟨_, rfl, ?_⟩; replace BK101 := bB BK101 hb; replace BK102 := bB BK102 hb; replace HB := bS HB hb; (try clear hb); (try clear hb2); (try clear hk); (try clear hi); have hcz30_0 : w29.cell? ⟨gb102, 0, none⟩ = some (.int .i64 a1_0) := (blk_cell BK102.out 0).trans rfl; have hcz30_1 : w29.cell? ⟨gb102, 1, none⟩ = some (.int .i64 a1_1) := (blk_cell BK102.out 1).trans rfl; have hcz30_2 : w29.cell? ⟨gb102, 2, none⟩ = some (.slice A1_2 l1_2.length c1_2) := (blk_cell BK102.out 2).trans rfl; have hfz30_0 := blk_frozen BK102.out 0; have hfz30_1 := blk_frozen BK102.out 1; have hfz30_2 := blk_frozen BK102.out 2) | ((with_reducible refine gate_callee (f := 13) rfl ?_); refine gl (some 24) Try.func13 #[.agg #[.int .i64 a1_0, .int .i64 a1_1, .slice A1_2 l1_2.length c1_2], .int .i64 t103] ?_; (with_reducible refine (laws_szField.calls a1_0 a1_1 _ _ l1_2 t103 t104 _ ?side1 ?side2 A9.out).mono ?_); (case side1 => exact pC (Kd.C_below HR1_2.out HB.out)); (case side2 => exact HC1_2.out); rintro e w31 ⟨rfl, hb⟩; refine ⟨_, rfl, ?_⟩; replace BK101 := bB BK101 hb; replace BK102 := bB BK102 hb; replace HB := bS HB hb; (try clear hb); (try clear hb2); (try clear hk); (try clear hi)))
 have n0_ := aK (blk_drew BK101.out)
 have n1_ := aK (blk_drew BK102.out)
 have n2_ := aK (below_drew1 HB.out)
 clear BK101 BK102 HB
 have BK101 := n0_
 have BK102 := n1_
 have HB := n2_
 clear n0_ n1_ n2_
 refine start_ (n := 10) (S := fun w' => w'.cell? ⟨gb101, 0, none⟩ = some (.int .i64 a0_0) ∧ w'.cell? ⟨gb101, 1, none⟩ = some (.int .i64 a0_1) ∧ w'.cell? ⟨gb101, 2, none⟩ = some (.slice A0_2 l0_2.length c0_2) ∧ w'.cell? ⟨gb102, 0, none⟩ = some (.int .i64 a1_0) ∧ w'.cell? ⟨gb102, 1, none⟩ = some (.int .i64 a1_1) ∧ w'.cell? ⟨gb102, 2, none⟩ = some (.slice A1_2 l1_2.length c1_2)) (ds := []) #[false, false, false, false, false, false, false, false, false, false] (by kernel_rfl) rfl rfl ⟨(blk_cell BK101.out 0).trans rfl, (blk_cell BK101.out 1).trans rfl, (blk_cell BK101.out 2).trans rfl, (blk_cell BK102.out 0).trans rfl, (blk_cell BK102.out 1).trans rfl, (blk_cell BK102.out 2).trans rfl⟩ (fun hHeld => ?_); refine with_tabW laws_FnExactRankMotions.tab8 laws_FnExactRankMotions.bits8 (fun HT_ HW_ => ?_)
 generalize w31.drew = w32 at BK101 BK102 HB hHeld ⊢
 refine take_ (i := 0) (N := some 28) (v := ?_) (a' := ?_) #[true, false, false, false, false, false, false, false, false, false] rfl rfl (take_ofW HT_.out HW_.out (by kernel_rfl)) (fun _ _ _ h => h) (Or.inl ⟨by rfl, ?_⟩) hHeld ?_ ?_
 rotate_left
 ·
  rintro w' ⟨s0, s1, s2, s3, s4, s5⟩
  go_simp
  with_reducible rfl
 rotate_left
 ·
  simp only [sP]
  rfl
 refine take_ (i := 2) (N := some 30) (v := ?_) (a' := ?_) #[true, false, true, false, false, false, false, false, false, false] rfl rfl (take_ofW HT_.out HW_.out (by kernel_rfl)) (fun _ _ _ h => h) (Or.inl ⟨by rfl, ?_⟩) hHeld ?_ ?_
 rotate_left
 ·
  rintro w' ⟨s0, s1, s2, s3, s4, s5⟩
  go_simp
  with_reducible rfl
 rotate_left
 ·
  simp only [sP]
  rfl
 refine one_ (i := 1) (N := some 29) #[true, true, true, false, false, false, false, false, false, false] rfl rfl (one_of HT_.out (by kernel_rfl)) (by decide) (fun K hK => ?_)
 refine goes_ Try.func15 (by kernel_rfl) rfl #[.agg #[.int .i64 a0_0, .int .i64 a0_1, .slice A0_2 l0_2.length c0_2]] (by rfl) rfl rfl (by (try simp only [List.map_toArray, List.map_cons, List.map_nil]); first | done | rfl | (simp only [List.length_drop, List.length_take]; rfl)) ?_
 with_reducible refine (laws_toField.calls k a0_0 a0_1 _ _ l0_2 t105 t106 t107 _ ?side1 ?side2 A18.out).mono ?_
 (case side1 => exact pC (Kd.C_below HR0_2.out HB.out))
 (case side2 => exact HC0_2.out)
 rintro e w33 ⟨v108, rfl, ho0, hb⟩
 refine ⟨_, rfl, ?_⟩
 have HO109 := aK (Kd.R_lower ho0 (below_size (pS HB.out)))
 replace BK101 := bB BK101 hb
 replace BK102 := bB BK102 hb
 replace HB := bS HB hb
 (try clear hb)
 (try clear hb2)
 (try clear hk)
 (try clear hi)
 (try clear ho0)
 refine hK.out _ _ ⟨(blk_cell BK101.out 0).trans rfl, (blk_cell BK101.out 1).trans rfl, (blk_cell BK101.out 2).trans rfl, (blk_cell BK102.out 0).trans rfl, (blk_cell BK102.out 1).trans rfl, (blk_cell BK102.out 2).trans rfl⟩ (fun hHeld => ?_)
 clear hK K
 refine norm_ (a' := ?_) ?_ ?_
 rotate_left
 ·
  show Act.put _ (some 29) _ = _
  simp only [sP]
  rfl
 refine one_ (i := 3) (N := some 31) #[true, true, true, true, false, false, false, false, false, false] rfl rfl (one_of HT_.out (by kernel_rfl)) (by decide) (fun K hK => ?_)
 refine goes_ Try.func15 (by kernel_rfl) rfl #[.agg #[.int .i64 a1_0, .int .i64 a1_1, .slice A1_2 l1_2.length c1_2]] (by rfl) rfl rfl (by (try simp only [List.map_toArray, List.map_cons, List.map_nil]); first | done | rfl | (simp only [List.length_drop, List.length_take]; rfl)) ?_
 with_reducible refine (laws_toField.calls k a1_0 a1_1 _ _ l1_2 t110 t111 t112 _ ?side1 ?side2 A19.out).mono ?_
 (case side1 => exact pC (Kd.C_below HR1_2.out HB.out))
 (case side2 => exact HC1_2.out)
 rintro e w34 ⟨v113, rfl, ho0, hb⟩
 refine ⟨_, rfl, ?_⟩
 have n0_ := aK (Kd.R_elder' (pR HO109.out) (Kd.R_base ho0) hb)
 have HO114 := aK (Kd.R_lower (Kd.R_new' ho0 (Kd.R_lt (pR HO109.out))) (below_size (pS HB.out)))
 replace BK101 := bB BK101 hb
 replace BK102 := bB BK102 hb
 replace HB := bS HB hb
 clear HO109
 have HO109 := n0_
 clear n0_
 (try clear hb)
 (try clear hb2)
 (try clear hk)
 (try clear hi)
 (try clear ho0)
 obtain ⟨Ao35, co35, eo35⟩ := Kd.R_slice HO109.out
 (first | subst eo35 | (injection eo35 with f1_ f2_ f3_; have f4_ := f1_.symm; have f5_ := f3_.symm; clear f1_ f2_ f3_; subst f4_; subst f5_))
 obtain ⟨Ao36, co36, eo36⟩ := Kd.R_slice HO114.out
 (first | subst eo36 | (injection eo36 with f1_ f2_ f3_; have f4_ := f1_.symm; have f5_ := f3_.symm; clear f1_ f2_ f3_; subst f4_; subst f5_))
 refine hK.out _ _ ⟨(blk_cell BK101.out 0).trans rfl, (blk_cell BK101.out 1).trans rfl, (blk_cell BK101.out 2).trans rfl, (blk_cell BK102.out 0).trans rfl, (blk_cell BK102.out 1).trans rfl, (blk_cell BK102.out 2).trans rfl⟩ (fun hHeld => ?_)
 clear hK K
 refine norm_ (a' := ?_) ?_ ?_
 rotate_left
 ·
  show Act.put _ (some 31) _ = _
  simp only [sP]
  rfl
 refine one_ (i := 4) (N := some 32) #[true, true, true, true, true, false, false, false, false, false] rfl rfl (one_of HT_.out (by kernel_rfl)) (by decide) (fun K hK => ?_)
 refine goes_ Try.func14 (by kernel_rfl) rfl #[.agg #[.int .i64 t105, .int .i64 t106, .slice Ao35 t107.length co35], .agg #[.int .i64 t110, .int .i64 t111, .slice Ao36 t112.length co36]] (by rfl) rfl rfl (by (try simp only [List.map_toArray, List.map_cons, List.map_nil]); first | done | rfl | (simp only [List.length_drop, List.length_take]; rfl)) ?_
 with_reducible refine (spec_RankMotions.calls k t105 t106 _ _ t107 t110 t111 _ _ t112 t115 t118 _ ?side1 ?side2 ?side3 ?side4 A20.out).mono ?_
 (case side1 => repeat (first | exact (Kd.R_reads' HO109.out).2.2 | (with_reducible refine Kd.C_alloc ?_ _) | (with_reducible refine Kd.C_drewN ?_ _) | (with_reducible refine Kd.C_drew ?_)))
 (case side2 => exact (Kd.R_reads' HO109.out).2.1)
 (case side3 => repeat (first | exact (Kd.R_reads' HO114.out).2.2 | (with_reducible refine Kd.C_alloc ?_ _) | (with_reducible refine Kd.C_drewN ?_ _) | (with_reducible refine Kd.C_drew ?_)))
 (case side4 => exact (Kd.R_reads' HO114.out).2.1)
 rintro e w37 ⟨v116, rfl, ho0, hb⟩
 refine ⟨_, rfl, ?_⟩
 have n0_ := aK (Kd.R_below (pR HO109.out) hb)
 have n1_ := aK (Kd.R_below (pR HO114.out) hb)
 have HO117 := aK (Kd.R_lower ho0 (below_size (pS HB.out)))
 replace BK101 := bB BK101 hb
 replace BK102 := bB BK102 hb
 replace HB := bS HB hb
 clear HO109 HO114
 have HO109 := n0_
 have HO114 := n1_
 clear n0_ n1_
 (try clear hb)
 (try clear hb2)
 (try clear hk)
 (try clear hi)
 (try clear ho0)
 refine hK.out _ _ ⟨(blk_cell BK101.out 0).trans rfl, (blk_cell BK101.out 1).trans rfl, (blk_cell BK101.out 2).trans rfl, (blk_cell BK102.out 0).trans rfl, (blk_cell BK102.out 1).trans rfl, (blk_cell BK102.out 2).trans rfl⟩ (fun hHeld => ?_)
 clear hK K
 refine norm_ (a' := ?_) ?_ ?_
 rotate_left
 ·
  show Act.put _ (some 32) _ = _
  simp only [sP]
  rfl
 refine pure_ (i := 5) (N := some 27) (v := ?_) (a' := ?_) #[true, true, true, true, true, true, false, false, false, false] rfl rfl (any_of HT_.out (by kernel_rfl)) (fun _ _ _ h => h) (Or.inl ⟨by rfl, ?_⟩) ?_ ?_
 rotate_left
 ·
  intro w'
  go_simp
  with_reducible rfl
 rotate_left
 ·
  simp only [sP]
  rfl
 refine pure_ (i := 6) (N := some 33) (v := ?_) (a' := ?_) #[true, true, true, true, true, true, true, false, false, false] rfl rfl (any_of HT_.out (by kernel_rfl)) (fun _ _ _ h => h) (Or.inl ⟨by rfl, ?_⟩) ?_ ?_
 rotate_left
 ·
  intro w'
  go_simp
  with_reducible rfl
 rotate_left
 ·
  simp only [sP]
  rfl
 refine pure_ (i := 7) (N := some 34) (v := ?_) (a' := ?_) #[true, true, true, true, true, true, true, true, false, false] rfl rfl (any_of HT_.out (by kernel_rfl)) (fun _ _ _ h => h) (Or.inl ⟨by rfl, ?_⟩) ?_ ?_
 rotate_left
 ·
  intro w'
  go_simp
  with_reducible rfl
 rotate_left
 ·
  simp only [sP]
  rfl
 refine pure_ (i := 8) (N := some 6) (v := ?_) (a' := ?_) #[true, true, true, true, true, true, true, true, true, false] rfl rfl (any_of HT_.out (by kernel_rfl)) (fun _ _ _ h => h) (Or.inl ⟨by rfl, ?_⟩) ?_ ?_
 rotate_left
 ·
  intro w'
  go_simp
  with_reducible rfl
 rotate_left
 ·
  simp only [sP]
  rfl
 refine pure_ (i := 9) (N := some 7) (v := ?_) (a' := ?_) #[true, true, true, true, true, true, true, true, true, true] rfl rfl (any_of HT_.out (by kernel_rfl)) (fun _ _ _ h => h) (Or.inl ⟨by rfl, ?_⟩) ?_ ?_
 rotate_left
 ·
  intro w'
  go_simp
  with_reducible rfl
 rotate_left
 ·
  simp only [sP]
  rfl
 refine done_ (done_of HT_.out (by kernel_rfl)) ?_
 have hcz38_0 : w37.cell? ⟨gb101, 0, none⟩ = some (.int .i64 a0_0) := (blk_cell BK101.out 0).trans rfl
 have hcz38_1 : w37.cell? ⟨gb101, 1, none⟩ = some (.int .i64 a0_1) := (blk_cell BK101.out 1).trans rfl
 have hcz38_2 : w37.cell? ⟨gb101, 2, none⟩ = some (.slice A0_2 l0_2.length c0_2) := (blk_cell BK101.out 2).trans rfl
 have hfz38_0 := blk_frozen BK101.out 0
 have hfz38_1 := blk_frozen BK101.out 1
 have hfz38_2 := blk_frozen BK101.out 2
 go_upto_region 12 with (first | ((with_reducible refine gate_callee (f := 15) rfl ?_); refine gl (some 36) Try.func15 #[.agg #[.int .i64 a0_0, .int .i64 a0_1, .slice A0_2 l0_2.length c0_2]] ?_; (with_reducible refine (laws_toField.calls k a0_0 a0_1 _ _ l0_2 t119 t120 t121 _ ?side1 ?side2 A21.out).mono ?_); (case side1 => exact pC (Kd.C_below HR0_2.out HB.out)); (case side2 => exact HC0_2.out); rintro e w39 ⟨v122, rfl, ho0, hb⟩; refine ⟨_, rfl, ?_⟩; have n0_ := aK (Kd.R_elder' (pR HO109.out) (Kd.R_base ho0) hb); have n1_ := aK (Kd.R_elder' (pR HO114.out) (Kd.R_base ho0) hb); have n2_ := aK (Kd.R_below (pR HO117.out) hb); have HO123 := aK (Kd.R_lower (Kd.R_new' (Kd.R_new' ho0 (Kd.R_lt (pR HO109.out))) (Kd.R_lt (pR HO114.out))) (below_size (pS HB.out))); replace BK101 := bB BK101 hb; replace BK102 := bB BK102 hb; replace HB := bS HB hb; clear HO109 HO114 HO117; have HO109 := n0_; have HO114 := n1_; have HO117 := n2_; clear n0_ n1_ n2_; (try clear hb); (try clear hb2); (try clear hk); (try clear hi); (try clear ho0)) | ((with_reducible refine gate_dst (N := 8) rfl ?_); refine bxe (cs := #[.int .i64 0, .int .i64 0, .slice none 0 0]) (t := 29) ?_; intro gb124 hg w40 hbox hb; have n0_ := aK (Kd.R_below (pR HO109.out) hb); have n1_ := aK (Kd.R_below (pR HO114.out) hb); have n2_ := aK (Kd.R_below (pR HO117.out) hb); have n3_ := aK (Kd.R_below (pR HO123.out) hb); have BK124 := aK (hbox); have GW124 := aK (gE hg (pS HB.out)); have GE124 := aK (gE hg (pS HB.out)); have NB101_124 := aK (nL hg (pB BK101.out)); have NB124_101 := aK (nG hg (pB BK101.out)); have NB102_124 := aK (nL hg (pB BK102.out)); have NB124_102 := aK (nG hg (pB BK102.out)); replace BK101 := bB BK101 hb; replace BK102 := bB BK102 hb; replace HB := bS HB hb; clear HO109 HO114 HO117 HO123; have HO109 := n0_; have HO114 := n1_; have HO117 := n2_; have HO123 := n3_; clear n0_ n1_ n2_ n3_ hb hbox hg; have hnb41 := NB124_101.out; have hnc41 := NB101_124.out; have hnb42 := NB124_102.out; have hnc42 := NB102_124.out; have hcz43_0 : w40.cell? ⟨gb124, 0, none⟩ = some (.int .i64 0) := (blk_cell BK124.out 0).trans rfl; have hcz43_1 : w40.cell? ⟨gb124, 1, none⟩ = some (.int .i64 0) := (blk_cell BK124.out 1).trans rfl; have hcz43_2 : w40.cell? ⟨gb124, 2, none⟩ = some (.slice none 0 0) := (blk_cell BK124.out 2).trans rfl; have hfz43_0 := blk_frozen BK124.out 0; have hfz43_1 := blk_frozen BK124.out 1; have hfz43_2 := blk_frozen BK124.out 2; obtain ⟨Ao44, co44, eo44⟩ := Kd.R_slice HO123.out; subst eo44; have hcz45_0 : w40.cell? ⟨gb102, 0, none⟩ = some (.int .i64 a1_0) := (blk_cell BK102.out 0).trans rfl; have hcz45_1 : w40.cell? ⟨gb102, 1, none⟩ = some (.int .i64 a1_1) := (blk_cell BK102.out 1).trans rfl; have hcz45_2 : w40.cell? ⟨gb102, 2, none⟩ = some (.slice A1_2 l1_2.length c1_2) := (blk_cell BK102.out 2).trans rfl; have hfz45_0 := blk_frozen BK102.out 0; have hfz45_1 := blk_frozen BK102.out 1; have hfz45_2 := blk_frozen BK102.out 2) | ((with_reducible refine gate_callee (f := 15) rfl ?_); refine gl (some 38) Try.func15 #[.agg #[.int .i64 a1_0, .int .i64 a1_1, .slice A1_2 l1_2.length c1_2]] ?_; (with_reducible refine (laws_toField.calls k a1_0 a1_1 _ _ l1_2 t125 t126 t127 _ ?side1 ?side2 A22.out).mono ?_); (case side1 => exact Kd.C_below HR1_2.out (pS HB.out)); (case side2 => exact HC1_2.out); rintro e w46 ⟨v128, rfl, ho0, hb⟩; refine ⟨_, rfl, ?_⟩; have e3_ := aR hb (pR ((Kd.R_mono (Kd.R_far (p := ⟨gb124, 2, none⟩) (Kd.R_far (p := ⟨gb124, 1, none⟩) (Kd.R_far (p := ⟨gb124, 0, none⟩) (Kd.R_types HO109.out BK124.out (by decide)) (fun _ hk => hk.2) (.int .i64 t119)) (fun _ hk => hk.2) (.int .i64 t120)) (fun _ hk => hk.2) (.slice Ao44 t121.length co44)) (fun _ h_ => h_.1)))); have n0_ := aK (Kd.R_elder' e3_.out (Kd.R_base ho0) hb); have e2_ := aR hb (pR ((Kd.R_mono (Kd.R_far (p := ⟨gb124, 2, none⟩) (Kd.R_far (p := ⟨gb124, 1, none⟩) (Kd.R_far (p := ⟨gb124, 0, none⟩) (Kd.R_types HO114.out BK124.out (by decide)) (fun _ hk => hk.2) (.int .i64 t119)) (fun _ hk => hk.2) (.int .i64 t120)) (fun _ hk => hk.2) (.slice Ao44 t121.length co44)) (fun _ h_ => h_.1)))); have n1_ := aK (Kd.R_elder' e2_.out (Kd.R_base ho0) hb); have n2_ := aK (Kd.R_below (pR ((Kd.R_mono (Kd.R_far (p := ⟨gb124, 2, none⟩) (Kd.R_far (p := ⟨gb124, 1, none⟩) (Kd.R_far (p := ⟨gb124, 0, none⟩) (Kd.R_types HO117.out BK124.out (by decide)) (fun _ hk => hk.2) (.int .i64 t119)) (fun _ hk => hk.2) (.int .i64 t120)) (fun _ hk => hk.2) (.slice Ao44 t121.length co44)) (fun _ h_ => h_.1)))) hb); have e1_ := aR hb (pR ((Kd.R_mono (Kd.R_far (p := ⟨gb124, 2, none⟩) (Kd.R_far (p := ⟨gb124, 1, none⟩) (Kd.R_far (p := ⟨gb124, 0, none⟩) (Kd.R_types HO123.out BK124.out (by decide)) (fun _ hk => hk.2) (.int .i64 t119)) (fun _ hk => hk.2) (.int .i64 t120)) (fun _ hk => hk.2) (.slice Ao44 t121.length co44)) (fun _ h_ => h_.1)))); have n3_ := aK (Kd.R_elder' e1_.out (Kd.R_base ho0) hb); have HO129 := aK (Kd.R_lower (Kd.R_new' (Kd.R_new' (Kd.R_new' ho0 (Kd.R_lt e3_.out)) (Kd.R_lt e2_.out)) (Kd.R_lt e1_.out)) (below_size (pS HB.out))); clear e3_; clear e2_; clear e1_; have n5_ := aK (blk_below (g := gb101) (o := .cells #[.int .i64 a0_0, .int .i64 a0_1, .slice A0_2 l0_2.length c0_2] 24 (0, 0)) (by refine bk ?_; refine blk_far ?_ NB101_124.out _; refine bk ?_; refine blk_far ?_ NB101_124.out _; refine bk ?_; refine blk_far ?_ NB101_124.out _; refine bk ?_; exact BK101.out) hb); have n6_ := aK (blk_below (g := gb102) (o := .cells #[.int .i64 a1_0, .int .i64 a1_1, .slice A1_2 l1_2.length c1_2] 24 (0, 0)) (by refine bk ?_; refine blk_far ?_ NB102_124.out _; refine bk ?_; refine blk_far ?_ NB102_124.out _; refine bk ?_; refine blk_far ?_ NB102_124.out _; refine bk ?_; exact BK102.out) hb); have n7_ := aK (blk_below (g := gb124) (o := .cells #[.int .i64 t119, .int .i64 t120, .slice Ao44 t121.length co44] 29 (0, 0)) (by refine bk ?_; refine blk_put (cs := #[.int .i64 t119, .int .i64 t120, .slice none 0 0]) ?_ 2 _ rfl; refine bk ?_; refine blk_put (cs := #[.int .i64 t119, .int .i64 0, .slice none 0 0]) ?_ 1 _ rfl; refine bk ?_; refine blk_put (cs := #[.int .i64 0, .int .i64 0, .slice none 0 0]) ?_ 0 _ rfl; refine bk ?_; exact BK124.out) hb); replace HB := bS HB hb; clear HO109 HO114 HO117 HO123 BK101 BK102 BK124; have HO109 := n0_; have HO114 := n1_; have HO117 := n2_; have HO123 := n3_; have BK101 := n5_; have BK102 := n6_; have BK124 := n7_; clear n0_ n1_ n2_ n3_ n5_ n6_ n7_; (try clear hb); (try clear hb2); (try clear hk); (try clear hi); (try clear ho0)) | ((with_reducible refine gate_dst (N := 9) rfl ?_); refine bxe (cs := #[.int .i64 0, .int .i64 0, .slice none 0 0]) (t := 29) ?_; intro gb130 hg w47 hbox hb; have n0_ := aK (Kd.R_below (pR HO109.out) hb); have n1_ := aK (Kd.R_below (pR HO114.out) hb); have n2_ := aK (Kd.R_below (pR HO117.out) hb); have n3_ := aK (Kd.R_below (pR HO123.out) hb); have n4_ := aK (Kd.R_below (pR HO129.out) hb); have BK130 := aK (hbox); have GW130 := aK (gE hg (pS HB.out)); have GE130 := aK (gE hg (pS HB.out)); have NB101_130 := aK (nL hg (pB BK101.out)); have NB130_101 := aK (nG hg (pB BK101.out)); have NB102_130 := aK (nL hg (pB BK102.out)); have NB130_102 := aK (nG hg (pB BK102.out)); have NB124_130 := aK (nL hg (pB BK124.out)); have NB130_124 := aK (nG hg (pB BK124.out)); replace BK101 := bB BK101 hb; replace BK102 := bB BK102 hb; replace BK124 := bB BK124 hb; replace HB := bS HB hb; clear HO109 HO114 HO117 HO123 HO129; have HO109 := n0_; have HO114 := n1_; have HO117 := n2_; have HO123 := n3_; have HO129 := n4_; clear n0_ n1_ n2_ n3_ n4_ hb hbox hg; have hnb48 := NB130_101.out; have hnc48 := NB101_130.out; have hnb49 := NB130_102.out; have hnc49 := NB102_130.out; have hnb50 := NB130_124.out; have hnc50 := NB124_130.out; have hcz51_0 : w47.cell? ⟨gb130, 0, none⟩ = some (.int .i64 0) := (blk_cell BK130.out 0).trans rfl; have hcz51_1 : w47.cell? ⟨gb130, 1, none⟩ = some (.int .i64 0) := (blk_cell BK130.out 1).trans rfl; have hcz51_2 : w47.cell? ⟨gb130, 2, none⟩ = some (.slice none 0 0) := (blk_cell BK130.out 2).trans rfl; have hfz51_0 := blk_frozen BK130.out 0; have hfz51_1 := blk_frozen BK130.out 1; have hfz51_2 := blk_frozen BK130.out 2; obtain ⟨Ao52, co52, eo52⟩ := Kd.R_slice HO129.out; subst eo52) | ((with_reducible refine gate_store (t := 29) (p := 9) rfl ?_); refine store_event (t := 29) (p := 9) (v := ?vo_w53) (w1 := (((w47.setCell ⟨gb130, 0, none⟩ (.int .i64 t125)).setCell ⟨gb130, 1, none⟩ (.int .i64 t126)).setCell ⟨gb130, 2, none⟩ (.slice Ao52 t127.length co52))) ?hg ?ho ?hn ?hr ?_; (case ho => rfl); (case hg => rfl); (case hn => rfl); (case hr => first | (go_simp; done) | (go_simp; rfl)); intro w53 hw; have n0_ : Aside0 (Kd.R (Kd.int .i64) 3 w53 w.heap.size (fun k_ => some k_ ≠ (.slice Ao36 t112.length co36 : Value).ownBlock ∧ some k_ ≠ (.slice Ao44 t121.length co44 : Value).ownBlock ∧ some k_ ≠ (.slice Ao52 t127.length co52 : Value).ownBlock) (.slice Ao35 t107.length co35) t107) := ⟨(by rw [hw]; exact (pR (Kd.R_mono (Kd.R_far (p := ⟨gb130, 2, none⟩) (Kd.R_far (p := ⟨gb130, 1, none⟩) (Kd.R_far (p := ⟨gb130, 0, none⟩) (Kd.R_types HO109.out BK130.out (by decide)) (fun _ hk => hk.2) (.int .i64 t125)) (fun _ hk => hk.2) (.int .i64 t126)) (fun _ hk => hk.2) (.slice Ao52 t127.length co52)) (fun _ hk => ⟨hk.1.1.1.2, ⟨hk.1.1.2, hk.1.2⟩⟩))))⟩; have n1_ : Aside0 (Kd.R (Kd.int .i64) 3 w53 w.heap.size (fun k_ => some k_ ≠ (.slice Ao35 t107.length co35 : Value).ownBlock ∧ some k_ ≠ (.slice Ao44 t121.length co44 : Value).ownBlock ∧ some k_ ≠ (.slice Ao52 t127.length co52 : Value).ownBlock) (.slice Ao36 t112.length co36) t112) := ⟨(by rw [hw]; exact (pR (Kd.R_mono (Kd.R_far (p := ⟨gb130, 2, none⟩) (Kd.R_far (p := ⟨gb130, 1, none⟩) (Kd.R_far (p := ⟨gb130, 0, none⟩) (Kd.R_types HO114.out BK130.out (by decide)) (fun _ hk => hk.2) (.int .i64 t125)) (fun _ hk => hk.2) (.int .i64 t126)) (fun _ hk => hk.2) (.slice Ao52 t127.length co52)) (fun _ hk => ⟨hk.1.1.1.2, ⟨hk.1.1.2, hk.1.2⟩⟩))))⟩; have n2_ : Aside0 (Kd.R k37 37 w53 w.heap.size (fun _ => True) v116 t115) := ⟨(by rw [hw]; exact (pR (Kd.R_mono (Kd.R_far (p := ⟨gb130, 2, none⟩) (Kd.R_far (p := ⟨gb130, 1, none⟩) (Kd.R_far (p := ⟨gb130, 0, none⟩) (Kd.R_types HO117.out BK130.out (by decide)) (fun _ hk => hk.2) (.int .i64 t125)) (fun _ hk => hk.2) (.int .i64 t126)) (fun _ hk => hk.2) (.slice Ao52 t127.length co52)) (fun _ hk => trivial))))⟩; have n3_ : Aside0 (Kd.R (Kd.int .i64) 3 w53 w.heap.size (fun k_ => some k_ ≠ (.slice Ao35 t107.length co35 : Value).ownBlock ∧ some k_ ≠ (.slice Ao36 t112.length co36 : Value).ownBlock ∧ some k_ ≠ (.slice Ao52 t127.length co52 : Value).ownBlock) (.slice Ao44 t121.length co44) t121) := ⟨(by rw [hw]; exact (pR (Kd.R_mono (Kd.R_far (p := ⟨gb130, 2, none⟩) (Kd.R_far (p := ⟨gb130, 1, none⟩) (Kd.R_far (p := ⟨gb130, 0, none⟩) (Kd.R_types HO123.out BK130.out (by decide)) (fun _ hk => hk.2) (.int .i64 t125)) (fun _ hk => hk.2) (.int .i64 t126)) (fun _ hk => hk.2) (.slice Ao52 t127.length co52)) (fun _ hk => ⟨hk.1.1.1.2, ⟨hk.1.1.2, hk.1.2⟩⟩))))⟩; have n4_ : Aside0 (Kd.R (Kd.int .i64) 3 w53 w.heap.size (fun k_ => some k_ ≠ (.slice Ao35 t107.length co35 : Value).ownBlock ∧ some k_ ≠ (.slice Ao36 t112.length co36 : Value).ownBlock ∧ some k_ ≠ (.slice Ao44 t121.length co44 : Value).ownBlock) (.slice Ao52 t127.length co52) t127) := ⟨(by rw [hw]; exact (pR (Kd.R_mono (Kd.R_far (p := ⟨gb130, 2, none⟩) (Kd.R_far (p := ⟨gb130, 1, none⟩) (Kd.R_far (p := ⟨gb130, 0, none⟩) (Kd.R_types HO129.out BK130.out (by decide)) (fun _ hk => hk.2) (.int .i64 t125)) (fun _ hk => hk.2) (.int .i64 t126)) (fun _ hk => hk.2) (.slice Ao52 t127.length co52)) (fun _ hk => ⟨hk.1.1.1.2, ⟨hk.1.1.2, hk.1.2⟩⟩))))⟩; have n5_ : Aside0 (w53.heap[gb101]? = some (.cells #[.int .i64 a0_0, .int .i64 a0_1, .slice A0_2 l0_2.length c0_2] 24 (0, 0))) := ⟨(by rw [hw]; exact (by refine bk ?_; refine blk_far ?_ NB101_130.out _; refine bk ?_; refine blk_far ?_ NB101_130.out _; refine bk ?_; refine blk_far ?_ NB101_130.out _; refine bk ?_; exact BK101.out))⟩; have n6_ : Aside0 (w53.heap[gb102]? = some (.cells #[.int .i64 a1_0, .int .i64 a1_1, .slice A1_2 l1_2.length c1_2] 24 (0, 0))) := ⟨(by rw [hw]; exact (by refine bk ?_; refine blk_far ?_ NB102_130.out _; refine bk ?_; refine blk_far ?_ NB102_130.out _; refine bk ?_; refine blk_far ?_ NB102_130.out _; refine bk ?_; exact BK102.out))⟩; have n7_ : Aside0 (w53.heap[gb124]? = some (.cells #[.int .i64 t119, .int .i64 t120, .slice Ao44 t121.length co44] 29 (0, 0))) := ⟨(by rw [hw]; exact (by refine bk ?_; refine blk_far ?_ NB124_130.out _; refine bk ?_; refine blk_far ?_ NB124_130.out _; refine bk ?_; refine blk_far ?_ NB124_130.out _; refine bk ?_; exact BK124.out))⟩; have n8_ : Aside0 (w53.heap[gb130]? = some (.cells #[.int .i64 t125, .int .i64 t126, .slice Ao52 t127.length co52] 29 (0, 0))) := ⟨(by rw [hw]; exact (by refine bk ?_; refine blk_put (cs := #[.int .i64 t125, .int .i64 t126, .slice none 0 0]) ?_ 2 _ rfl; refine bk ?_; refine blk_put (cs := #[.int .i64 t125, .int .i64 0, .slice none 0 0]) ?_ 1 _ rfl; refine bk ?_; refine blk_put (cs := #[.int .i64 0, .int .i64 0, .slice none 0 0]) ?_ 0 _ rfl; refine bk ?_; exact BK130.out))⟩; have n9_ : Aside0 (Below w.heap.size w w53) := ⟨(by rw [hw]; exact (pS HB.out))⟩; clear hw HO109 HO114 HO117 HO123 HO129 BK101 BK102 BK124 BK130 HB; have HO109 := n0_; have HO114 := n1_; have HO117 := n2_; have HO123 := n3_; have HO129 := n4_; have BK101 := n5_; have BK102 := n6_; have BK124 := n7_; have BK130 := n8_; have HB := n9_; clear n0_ n1_ n2_ n3_ n4_ n5_ n6_ n7_ n8_ n9_; have hcz54_0 : w53.cell? ⟨gb124, 0, none⟩ = some (.int .i64 t119) := (blk_cell BK124.out 0).trans rfl; have hcz54_1 : w53.cell? ⟨gb124, 1, none⟩ = some (.int .i64 t120) := (blk_cell BK124.out 1).trans rfl; have hcz54_2 : w53.cell? ⟨gb124, 2, none⟩ = some (.slice Ao44 t121.length co44) := (blk_cell BK124.out 2).trans rfl; have hfz54_0 := blk_frozen BK124.out 0; have hfz54_1 := blk_frozen BK124.out 1; have hfz54_2 := blk_frozen BK124.out 2; have hcz55_0 : w53.cell? ⟨gb130, 0, none⟩ = some (.int .i64 t125) := (blk_cell BK130.out 0).trans rfl; have hcz55_1 : w53.cell? ⟨gb130, 1, none⟩ = some (.int .i64 t126) := (blk_cell BK130.out 1).trans rfl; have hcz55_2 : w53.cell? ⟨gb130, 2, none⟩ = some (.slice Ao52 t127.length co52) := (blk_cell BK130.out 2).trans rfl; have hfz55_0 := blk_frozen BK130.out 0; have hfz55_1 := blk_frozen BK130.out 1; have hfz55_2 := blk_frozen BK130.out 2) | ((with_reducible refine gate_callee (f := 16) rfl ?_); refine gl (some 42) Try.func16 #[.agg #[.int .i64 t119, .int .i64 t120, .slice Ao44 t121.length co44], .agg #[.int .i64 t125, .int .i64 t126, .slice Ao52 t127.length co52]] ?_; (with_reducible refine (impl_RankMotions.calls k t119 t120 (fun k_ => some k_ = (.slice Ao44 t121.length co44 : Value).ownBlock) _ _ t121 t125 t126 (fun k_ => some k_ = (.slice Ao52 t127.length co52 : Value).ownBlock) _ _ t127 t131 t134 _ ?side1 ?side2 A23.out).mono ?_); (case side1 => exact Kd.R_V (Kd.R_tight rfl (Kd.R_types (Kd.R_types (Kd.R_types (Kd.R_types (Kd.R_apart' (HO123.out) (Kd.R_typed HO117.out) (by decide)) BK101.out (by decide)) BK102.out (by decide)) BK124.out (by decide)) BK130.out (by decide)))); (case side2 => exact Kd.R_V (Kd.R_tight rfl (Kd.R_types (Kd.R_types (Kd.R_types (Kd.R_types (Kd.R_apart' (HO129.out) (Kd.R_typed HO117.out) (by decide)) BK101.out (by decide)) BK102.out (by decide)) BK124.out (by decide)) BK130.out (by decide)))); rintro e w56 ⟨v132, rfl, ho0, hb⟩; refine ⟨_, rfl, ?_⟩; have n0_ := aK (Kd.R_below (pR HO109.out) hb); have n1_ := aK (Kd.R_below (pR HO114.out) hb); have n2_ := aK (Kd.R_elder' (pR HO117.out) (Kd.R_base ho0) hb); have n3_ := aK (Kd.R_below (pR HO123.out) hb); have n4_ := aK (Kd.R_below (pR HO129.out) hb); have HO133 := aK (Kd.R_lower (Kd.R_new' (Kd.R_mono (ok' := fun k_ => True) ho0 (fun _ hk_ => trivial)) (Kd.R_lt (pR HO117.out))) (below_size (pS HB.out))); replace BK101 := bB BK101 hb; replace BK102 := bB BK102 hb; replace BK124 := bB BK124 hb; replace BK130 := bB BK130 hb; replace HB := bS HB hb; clear HO109 HO114 HO117 HO123 HO129; have HO109 := n0_; have HO114 := n1_; have HO117 := n2_; have HO123 := n3_; have HO129 := n4_; clear n0_ n1_ n2_ n3_ n4_; (try clear hb); (try clear hb2); (try clear hk); (try clear hi); (try clear ho0)))
 (try simp only [Act.put, List.setIfInBounds_toArray, List.set_cons_zero, List.set_cons_succ])
 go_cut [53] (fun v53 wc => ∃ (kq : Nat) (x53_23 : Bool), v53 = .bool x53_23 ∧ Aside0 (laws_FnExactRankMotions.j0 kq t115 t118 t131 t134 x53_23 a0_0 a0_1 l0_2 a1_0 a1_1 l1_2 t119 t120 t121 t125 t126 t127 = some r) ∧ Aside0 (kq ≤ k) ∧ Aside0 (Kd.R k37 37 wc w.heap.size (fun k_ => some k_ ≠ (v132 : Value).ownBlock) v116 t115) ∧ Aside0 (Kd.R k37 37 wc w.heap.size (fun k_ => some k_ ≠ (v116 : Value).ownBlock) v132 t131) ∧ Aside0 (Kd.R (Kd.int .i64) 3 wc w.heap.size (fun k_ => some k_ ≠ ((.slice Ao52 t127.length co52) : Value).ownBlock) (.slice Ao44 t121.length co44) t121) ∧ Aside0 (Kd.R (Kd.int .i64) 3 wc w.heap.size (fun k_ => some k_ ≠ ((.slice Ao44 t121.length co44) : Value).ownBlock) (.slice Ao52 t127.length co52) t127) ∧ Aside0 (wc.heap[gb101]? = some (.cells #[.int .i64 a0_0, .int .i64 a0_1, (.slice A0_2 l0_2.length c0_2)] 24 (0, 0))) ∧ Aside0 (wc.heap[gb102]? = some (.cells #[.int .i64 a1_0, .int .i64 a1_1, (.slice A1_2 l1_2.length c1_2)] 24 (0, 0))) ∧ Aside0 (wc.heap[gb124]? = some (.cells #[.int .i64 t119, .int .i64 t120, (.slice Ao44 t121.length co44)] 29 (0, 0))) ∧ Aside0 (wc.heap[gb130]? = some (.cells #[.int .i64 t125, .int .i64 t126, (.slice Ao52 t127.length co52)] 29 (0, 0))) ∧ Aside0 (Below w.heap.size w wc))
 case first =>
  have H := HC24.out
  clear HC24
  replace H := Option.bind_eq_some_iff.mp H
  obtain ⟨t135, A570, H⟩ := H
  replace H : (if t135 = true then (laws_FnExactRankMotions.j0 k t115 t118 t131 t134 (t134 != t118) a0_0 a0_1 l0_2 a1_0 a1_1 l1_2 t119 t120 t121 t125 t126 t127) else (laws_FnExactRankMotions.j0 k t115 t118 t131 t134 true a0_0 a0_1 l0_2 a1_0 a1_1 l1_2 t119 t120 t121 t125 t126 t127)) = some r := H
  have A57 := Aside0.mk A570
  clear A570
  by_cases c58 : t135 = true
  ·
   subst c58
   have H1 : (laws_FnExactRankMotions.j0 k t115 t118 t131 t134 (t134 != t118) a0_0 a0_1 l0_2 a1_0 a1_1 l1_2 t119 t120 t121 t125 t126 t127) = some r := by rw [if_pos rfl] at H; exact H
   clear H
   have H := H1
   clear H1
   have H' := Aside0.mk H
   clear H
   obtain ⟨Ao59, co59, eo59⟩ := Kd.R_slice HO133.out
   subst eo59
   obtain ⟨Ao60, co60, eo60⟩ := Kd.R_slice HO117.out
   subst eo60
   go_wp2_with (first | ((with_reducible refine gate_callee (f := 17) rfl ?_); refine gl (some 47) Try.func17 #[.slice Ao59 t131.length co59, .slice Ao60 t115.length co60] ?_; (with_reducible refine (laws_eqMotionS.calls k _ _ t131 _ _ t115 true _ ?side1 ?side2 ?side3 ?side4 A57.out).mono ?_); (case side1 => repeat (first | exact (Kd.R_reads' HO133.out).2.2 | (with_reducible refine Kd.C_alloc ?_ _) | (with_reducible refine Kd.C_drewN ?_ _) | (with_reducible refine Kd.C_drew ?_))); (case side2 => exact (Kd.R_reads' HO133.out).2.1); (case side3 => repeat (first | exact (Kd.R_reads' HO117.out).2.2 | (with_reducible refine Kd.C_alloc ?_ _) | (with_reducible refine Kd.C_drewN ?_ _) | (with_reducible refine Kd.C_drew ?_))); (case side4 => exact (Kd.R_reads' HO117.out).2.1); rintro e w61 ⟨rfl, hb⟩; refine ⟨_, rfl, ?_⟩; have n0_ := aK (Kd.R_below (pR HO109.out) hb); have n1_ := aK (Kd.R_below (pR HO114.out) hb); have n2_ := aK (Kd.R_below (pR HO117.out) hb); have n3_ := aK (Kd.R_below (pR HO123.out) hb); have n4_ := aK (Kd.R_below (pR HO129.out) hb); have n5_ := aK (Kd.R_below (pR HO133.out) hb); replace BK101 := bB BK101 hb; replace BK102 := bB BK102 hb; replace BK124 := bB BK124 hb; replace BK130 := bB BK130 hb; replace HB := bS HB hb; clear HO109 HO114 HO117 HO123 HO129 HO133; have HO109 := n0_; have HO114 := n1_; have HO117 := n2_; have HO123 := n3_; have HO129 := n4_; have HO133 := n5_; clear n0_ n1_ n2_ n3_ n4_ n5_; (try clear hb); (try clear hb2); (try clear hk); (try clear hi)))
   go_meet
   case rel => exact ⟨_, ((t134 != t118)), (by first | rfl | (simp; done) | (simp [*]; done)), H', ⟨by first | omega | exact Nat.le_refl _⟩, ⟨by (with_reducible repeat (first | apply Kd.R_alloc | apply Kd.R_drewN | apply Kd.R_drew)); exact Kd.R_mono HO117.out (fun _ hk => hk.2)⟩, ⟨by (with_reducible repeat (first | apply Kd.R_alloc | apply Kd.R_drewN | apply Kd.R_drew)); exact Kd.R_mono HO133.out (fun _ hk => hk.2)⟩, ⟨by (with_reducible repeat (first | apply Kd.R_alloc | apply Kd.R_drewN | apply Kd.R_drew)); exact Kd.R_mono HO123.out (fun _ hk => hk.2.2)⟩, ⟨by (with_reducible repeat (first | apply Kd.R_alloc | apply Kd.R_drewN | apply Kd.R_drew)); exact Kd.R_mono HO129.out (fun _ hk => hk.2.2)⟩, ⟨by refine bk ?_; exact BK101.out⟩, ⟨by refine bk ?_; exact BK102.out⟩, ⟨by refine bk ?_; exact BK124.out⟩, ⟨by refine bk ?_; exact BK130.out⟩, ⟨pT HB.out⟩⟩
  replace c58 := Bool.eq_false_iff.mpr c58
  subst c58
  have H1 : (laws_FnExactRankMotions.j0 k t115 t118 t131 t134 true a0_0 a0_1 l0_2 a1_0 a1_1 l1_2 t119 t120 t121 t125 t126 t127) = some r := by rw [if_neg (show ¬ (false = true) by decide)] at H; exact H
  clear H
  have H := H1
  clear H1
  have H' := Aside0.mk H
  clear H
  obtain ⟨Ao62, co62, eo62⟩ := Kd.R_slice HO133.out
  subst eo62
  obtain ⟨Ao63, co63, eo63⟩ := Kd.R_slice HO117.out
  subst eo63
  go_wp2_with (first | ((with_reducible refine gate_callee (f := 17) rfl ?_); refine gl (some 47) Try.func17 #[.slice Ao62 t131.length co62, .slice Ao63 t115.length co63] ?_; (with_reducible refine (laws_eqMotionS.calls k _ _ t131 _ _ t115 false _ ?side1 ?side2 ?side3 ?side4 A57.out).mono ?_); (case side1 => repeat (first | exact (Kd.R_reads' HO133.out).2.2 | (with_reducible refine Kd.C_alloc ?_ _) | (with_reducible refine Kd.C_drewN ?_ _) | (with_reducible refine Kd.C_drew ?_))); (case side2 => exact (Kd.R_reads' HO133.out).2.1); (case side3 => repeat (first | exact (Kd.R_reads' HO117.out).2.2 | (with_reducible refine Kd.C_alloc ?_ _) | (with_reducible refine Kd.C_drewN ?_ _) | (with_reducible refine Kd.C_drew ?_))); (case side4 => exact (Kd.R_reads' HO117.out).2.1); rintro e w64 ⟨rfl, hb⟩; refine ⟨_, rfl, ?_⟩; have n0_ := aK (Kd.R_below (pR HO109.out) hb); have n1_ := aK (Kd.R_below (pR HO114.out) hb); have n2_ := aK (Kd.R_below (pR HO117.out) hb); have n3_ := aK (Kd.R_below (pR HO123.out) hb); have n4_ := aK (Kd.R_below (pR HO129.out) hb); have n5_ := aK (Kd.R_below (pR HO133.out) hb); replace BK101 := bB BK101 hb; replace BK102 := bB BK102 hb; replace BK124 := bB BK124 hb; replace BK130 := bB BK130 hb; replace HB := bS HB hb; clear HO109 HO114 HO117 HO123 HO129 HO133; have HO109 := n0_; have HO114 := n1_; have HO117 := n2_; have HO123 := n3_; have HO129 := n4_; have HO133 := n5_; clear n0_ n1_ n2_ n3_ n4_ n5_; (try clear hb); (try clear hb2); (try clear hk); (try clear hi)))
  go_meet
  case rel => exact ⟨_, (true), (by first | rfl | (simp; done) | (simp [*]; done)), H', ⟨by first | omega | exact Nat.le_refl _⟩, ⟨by (with_reducible repeat (first | apply Kd.R_alloc | apply Kd.R_drewN | apply Kd.R_drew)); exact Kd.R_mono HO117.out (fun _ hk => hk.2)⟩, ⟨by (with_reducible repeat (first | apply Kd.R_alloc | apply Kd.R_drewN | apply Kd.R_drew)); exact Kd.R_mono HO133.out (fun _ hk => hk.2)⟩, ⟨by (with_reducible repeat (first | apply Kd.R_alloc | apply Kd.R_drewN | apply Kd.R_drew)); exact Kd.R_mono HO123.out (fun _ hk => hk.2.2)⟩, ⟨by (with_reducible repeat (first | apply Kd.R_alloc | apply Kd.R_drewN | apply Kd.R_drew)); exact Kd.R_mono HO129.out (fun _ hk => hk.2.2)⟩, ⟨by refine bk ?_; exact BK101.out⟩, ⟨by refine bk ?_; exact BK102.out⟩, ⟨by refine bk ?_; exact BK124.out⟩, ⟨by refine bk ?_; exact BK130.out⟩, ⟨pT HB.out⟩⟩
 case rest =>
  clear HC24
  try clear c1
  try clear c2
  try clear p2
  try clear c3
  try clear c4
  try clear c4b0
  try clear c5
  try clear c10
  try clear c10b0
  try clear c13
  try clear c14
  try clear c15
  try clear c16
  try clear c17
  try clear c27
  try clear c41
  try clear c42
  try clear c48
  try clear c49
  try clear c50
  try clear c58
  try clear hcz14_0
  try clear hcz14_1
  try clear hcz14_2
  try clear hcz16_0
  try clear hcz16_1
  try clear hcz16_2
  try clear hcz28_0
  try clear hcz28_1
  try clear hcz28_2
  try clear hcz30_0
  try clear hcz30_1
  try clear hcz30_2
  try clear hcz38_0
  try clear hcz38_1
  try clear hcz38_2
  try clear hcz43_0
  try clear hcz43_1
  try clear hcz43_2
  try clear hcz45_0
  try clear hcz45_1
  try clear hcz45_2
  try clear hcz51_0
  try clear hcz51_1
  try clear hcz51_2
  try clear hcz54_0
  try clear hcz54_1
  try clear hcz54_2
  try clear hcz55_0
  try clear hcz55_1
  try clear hcz55_2
  try clear hcz7_0
  try clear hcz7_1
  try clear hcz7_2
  try clear hfz14_0
  try clear hfz14_1
  try clear hfz14_2
  try clear hfz16_0
  try clear hfz16_1
  try clear hfz16_2
  try clear hfz28_0
  try clear hfz28_1
  try clear hfz28_2
  try clear hfz30_0
  try clear hfz30_1
  try clear hfz30_2
  try clear hfz38_0
  try clear hfz38_1
  try clear hfz38_2
  try clear hfz43_0
  try clear hfz43_1
  try clear hfz43_2
  try clear hfz45_0
  try clear hfz45_1
  try clear hfz45_2
  try clear hfz51_0
  try clear hfz51_1
  try clear hfz51_2
  try clear hfz54_0
  try clear hfz54_1
  try clear hfz54_2
  try clear hfz55_0
  try clear hfz55_1
  try clear hfz55_2
  try clear hfz7_0
  try clear hfz7_1
  try clear hfz7_2
  obtain ⟨kq, x53_23, rfl, HA, HJ23, HO_6, HO_10, HO_125002, HO_131002, BK101, BK102, BK124, BK130, HB⟩ := hcut
  cases kq with
  | zero => exact absurd HA.out (by simp [laws_FnExactRankMotions.j0])
  | succ kj23 =>
   have H := HA.out
   clear HA
   simp only [laws_FnExactRankMotions.j0] at H
   by_cases c65 : x53_23 = true
   ·
    subst c65
    have H1 : (some false) = some r := by rw [if_pos rfl] at H; exact H
    clear H
    have H := H1
    clear H1
    obtain rfl := Option.some.inj H
    go_wp2
    go_ret
    exact ⟨by first | rfl | (simp [errW_none, errW_some] <;> rfl) | (simp [*, errW_none, errW_some] <;> rfl), pT HB.out⟩
   replace c65 := Bool.eq_false_iff.mpr c65
   subst c65
   have H1 : ((laws_toField.f kj23 a0_0 a0_1 l0_2).bind fun bt136 => ((laws_eqField.f kj23 t119 t120 t121 bt136.1 bt136.2.1 bt136.2.2).bind fun t141 => (if t141 = true then ((laws_toField.f kj23 a1_0 a1_1 l1_2).bind fun bt142 => ((laws_eqField.f kj23 t125 t126 t127 bt142.1 bt142.2.1 bt142.2.2).bind fun t147 => (if t147 = true then ((laws_markField.f kj23 t119 t120 t121 1).bind fun bt148 => ((laws_markField.f kj23 t125 t126 t127 bt148.1).bind fun bt150 => (if bt150.1 < 0 then (laws_FnExactRankMotions.j1 kj23 t115 t118 t131 true a0_0 a0_1 l0_2 a1_0 a1_1 l1_2) else ((laws_eqMotionS.f kj23 t131 t115).bind fun t152 => (if t152 = true then (laws_FnExactRankMotions.j1 kj23 t115 t118 t131 (t134 != t118) a0_0 a0_1 l0_2 a1_0 a1_1 l1_2) else (laws_FnExactRankMotions.j1 kj23 t115 t118 t131 true a0_0 a0_1 l0_2 a1_0 a1_1 l1_2)))))) else (some false)))) else (some false)))) = some r := by rw [if_neg (show ¬ (false = true) by decide)] at H; exact H
   clear H
   have H := H1
   clear H1
   replace H := Option.bind_eq_some_iff.mp H
   obtain ⟨⟨t136, t137, t138⟩, A660, H⟩ := H
   replace H : ((laws_eqField.f kj23 t119 t120 t121 t136 t137 t138).bind fun t141 => (if t141 = true then ((laws_toField.f kj23 a1_0 a1_1 l1_2).bind fun bt142 => ((laws_eqField.f kj23 t125 t126 t127 bt142.1 bt142.2.1 bt142.2.2).bind fun t147 => (if t147 = true then ((laws_markField.f kj23 t119 t120 t121 1).bind fun bt148 => ((laws_markField.f kj23 t125 t126 t127 bt148.1).bind fun bt150 => (if bt150.1 < 0 then (laws_FnExactRankMotions.j1 kj23 t115 t118 t131 true a0_0 a0_1 l0_2 a1_0 a1_1 l1_2) else ((laws_eqMotionS.f kj23 t131 t115).bind fun t152 => (if t152 = true then (laws_FnExactRankMotions.j1 kj23 t115 t118 t131 (t134 != t118) a0_0 a0_1 l0_2 a1_0 a1_1 l1_2) else (laws_FnExactRankMotions.j1 kj23 t115 t118 t131 true a0_0 a0_1 l0_2 a1_0 a1_1 l1_2)))))) else (some false)))) else (some false))) = some r := H
   have A66 := Aside0.mk A660
   clear A660
   replace H := Option.bind_eq_some_iff.mp H
   obtain ⟨t141, A670, H⟩ := H
   replace H : (if t141 = true then ((laws_toField.f kj23 a1_0 a1_1 l1_2).bind fun bt142 => ((laws_eqField.f kj23 t125 t126 t127 bt142.1 bt142.2.1 bt142.2.2).bind fun t147 => (if t147 = true then ((laws_markField.f kj23 t119 t120 t121 1).bind fun bt148 => ((laws_markField.f kj23 t125 t126 t127 bt148.1).bind fun bt150 => (if bt150.1 < 0 then (laws_FnExactRankMotions.j1 kj23 t115 t118 t131 true a0_0 a0_1 l0_2 a1_0 a1_1 l1_2) else ((laws_eqMotionS.f kj23 t131 t115).bind fun t152 => (if t152 = true then (laws_FnExactRankMotions.j1 kj23 t115 t118 t131 (t134 != t118) a0_0 a0_1 l0_2 a1_0 a1_1 l1_2) else (laws_FnExactRankMotions.j1 kj23 t115 t118 t131 true a0_0 a0_1 l0_2 a1_0 a1_1 l1_2)))))) else (some false)))) else (some false)) = some r := H
   have A67 := Aside0.mk A670
   clear A670
   by_cases c68 : t141 = true
   ·
    subst c68
    have H1 : ((laws_toField.f kj23 a1_0 a1_1 l1_2).bind fun bt142 => ((laws_eqField.f kj23 t125 t126 t127 bt142.1 bt142.2.1 bt142.2.2).bind fun t147 => (if t147 = true then ((laws_markField.f kj23 t119 t120 t121 1).bind fun bt148 => ((laws_markField.f kj23 t125 t126 t127 bt148.1).bind fun bt150 => (if bt150.1 < 0 then (laws_FnExactRankMotions.j1 kj23 t115 t118 t131 true a0_0 a0_1 l0_2 a1_0 a1_1 l1_2) else ((laws_eqMotionS.f kj23 t131 t115).bind fun t152 => (if t152 = true then (laws_FnExactRankMotions.j1 kj23 t115 t118 t131 (t134 != t118) a0_0 a0_1 l0_2 a1_0 a1_1 l1_2) else (laws_FnExactRankMotions.j1 kj23 t115 t118 t131 true a0_0 a0_1 l0_2 a1_0 a1_1 l1_2)))))) else (some false)))) = some r := by rw [if_pos rfl] at H; exact H
    clear H
    have H := H1
    clear H1
    replace H := Option.bind_eq_some_iff.mp H
    obtain ⟨⟨t142, t143, t144⟩, A690, H⟩ := H
    replace H : ((laws_eqField.f kj23 t125 t126 t127 t142 t143 t144).bind fun t147 => (if t147 = true then ((laws_markField.f kj23 t119 t120 t121 1).bind fun bt148 => ((laws_markField.f kj23 t125 t126 t127 bt148.1).bind fun bt150 => (if bt150.1 < 0 then (laws_FnExactRankMotions.j1 kj23 t115 t118 t131 true a0_0 a0_1 l0_2 a1_0 a1_1 l1_2) else ((laws_eqMotionS.f kj23 t131 t115).bind fun t152 => (if t152 = true then (laws_FnExactRankMotions.j1 kj23 t115 t118 t131 (t134 != t118) a0_0 a0_1 l0_2 a1_0 a1_1 l1_2) else (laws_FnExactRankMotions.j1 kj23 t115 t118 t131 true a0_0 a0_1 l0_2 a1_0 a1_1 l1_2)))))) else (some false))) = some r := H
    have A69 := Aside0.mk A690
    clear A690
    replace H := Option.bind_eq_some_iff.mp H
    obtain ⟨t147, A700, H⟩ := H
    replace H : (if t147 = true then ((laws_markField.f kj23 t119 t120 t121 1).bind fun bt148 => ((laws_markField.f kj23 t125 t126 t127 bt148.1).bind fun bt150 => (if bt150.1 < 0 then (laws_FnExactRankMotions.j1 kj23 t115 t118 t131 true a0_0 a0_1 l0_2 a1_0 a1_1 l1_2) else ((laws_eqMotionS.f kj23 t131 t115).bind fun t152 => (if t152 = true then (laws_FnExactRankMotions.j1 kj23 t115 t118 t131 (t134 != t118) a0_0 a0_1 l0_2 a1_0 a1_1 l1_2) else (laws_FnExactRankMotions.j1 kj23 t115 t118 t131 true a0_0 a0_1 l0_2 a1_0 a1_1 l1_2)))))) else (some false)) = some r := H
    have A70 := Aside0.mk A700
    clear A700
    by_cases c71 : t147 = true
    ·
     subst c71
     have H1 : ((laws_markField.f kj23 t119 t120 t121 1).bind fun bt148 => ((laws_markField.f kj23 t125 t126 t127 bt148.1).bind fun bt150 => (if bt150.1 < 0 then (laws_FnExactRankMotions.j1 kj23 t115 t118 t131 true a0_0 a0_1 l0_2 a1_0 a1_1 l1_2) else ((laws_eqMotionS.f kj23 t131 t115).bind fun t152 => (if t152 = true then (laws_FnExactRankMotions.j1 kj23 t115 t118 t131 (t134 != t118) a0_0 a0_1 l0_2 a1_0 a1_1 l1_2) else (laws_FnExactRankMotions.j1 kj23 t115 t118 t131 true a0_0 a0_1 l0_2 a1_0 a1_1 l1_2)))))) = some r := by rw [if_pos rfl] at H; exact H
     clear H
     have H := H1
     clear H1
     replace H := Option.bind_eq_some_iff.mp H
     obtain ⟨⟨t148, t149⟩, A720, H⟩ := H
     replace H : ((laws_markField.f kj23 t125 t126 t127 t148).bind fun bt150 => (if bt150.1 < 0 then (laws_FnExactRankMotions.j1 kj23 t115 t118 t131 true a0_0 a0_1 l0_2 a1_0 a1_1 l1_2) else ((laws_eqMotionS.f kj23 t131 t115).bind fun t152 => (if t152 = true then (laws_FnExactRankMotions.j1 kj23 t115 t118 t131 (t134 != t118) a0_0 a0_1 l0_2 a1_0 a1_1 l1_2) else (laws_FnExactRankMotions.j1 kj23 t115 t118 t131 true a0_0 a0_1 l0_2 a1_0 a1_1 l1_2))))) = some r := H
     have A72 := Aside0.mk A720
     clear A720
     replace H := Option.bind_eq_some_iff.mp H
     obtain ⟨⟨t150, t151⟩, A730, H⟩ := H
     replace H : (if t150 < 0 then (laws_FnExactRankMotions.j1 kj23 t115 t118 t131 true a0_0 a0_1 l0_2 a1_0 a1_1 l1_2) else ((laws_eqMotionS.f kj23 t131 t115).bind fun t152 => (if t152 = true then (laws_FnExactRankMotions.j1 kj23 t115 t118 t131 (t134 != t118) a0_0 a0_1 l0_2 a1_0 a1_1 l1_2) else (laws_FnExactRankMotions.j1 kj23 t115 t118 t131 true a0_0 a0_1 l0_2 a1_0 a1_1 l1_2)))) = some r := H
     have A73 := Aside0.mk A730
     clear A730
     have HC74 := Aside0.mk H
     clear H
     try go_wp2
     have n0_ := aK (Kd.R_drew HO_6.out)
     have n1_ := aK (Kd.R_drew HO_10.out)
     have n2_ := aK (Kd.R_drew HO_125002.out)
     have n3_ := aK (Kd.R_drew HO_131002.out)
     have n4_ := aK (blk_drew BK101.out)
     have n5_ := aK (blk_drew BK102.out)
     have n6_ := aK (blk_drew BK124.out)
     have n7_ := aK (blk_drew BK130.out)
     have n8_ := aK (below_drew1 HB.out)
     clear HO_6 HO_10 HO_125002 HO_131002 BK101 BK102 BK124 BK130 HB
     have HO_6 := n0_
     have HO_10 := n1_
     have HO_125002 := n2_
     have HO_131002 := n3_
     have BK101 := n4_
     have BK102 := n5_
     have BK124 := n6_
     have BK130 := n7_
     have HB := n8_
     clear n0_ n1_ n2_ n3_ n4_ n5_ n6_ n7_ n8_
     refine start_ (n := 5) (S := fun w' => w'.cell? ⟨gb124, 0, none⟩ = some (.int .i64 t119) ∧ w'.cell? ⟨gb124, 1, none⟩ = some (.int .i64 t120) ∧ w'.cell? ⟨gb124, 2, none⟩ = some (.slice Ao44 t121.length co44) ∧ w'.cell? ⟨gb101, 0, none⟩ = some (.int .i64 a0_0) ∧ w'.cell? ⟨gb101, 1, none⟩ = some (.int .i64 a0_1) ∧ w'.cell? ⟨gb101, 2, none⟩ = some (.slice A0_2 l0_2.length c0_2)) (ds := []) #[false, false, false, false, false] (by kernel_rfl) rfl rfl ⟨(blk_cell BK124.out 0).trans rfl, (blk_cell BK124.out 1).trans rfl, (blk_cell BK124.out 2).trans rfl, (blk_cell BK101.out 0).trans rfl, (blk_cell BK101.out 1).trans rfl, (blk_cell BK101.out 2).trans rfl⟩ (fun hHeld => ?_)
     generalize wc.drew = w75 at HO_6 HO_10 HO_125002 HO_131002 BK101 BK102 BK124 BK130 HB hHeld ⊢
     refine take_ (i := 0) (N := some 54) (v := ?_) (a' := ?_) #[true, false, false, false, false] rfl rfl (by kernel_rfl) (fun _ _ _ h => h) (Or.inl ⟨by rfl, ?_⟩) hHeld ?_ ?_
     rotate_left
     ·
      rintro w' ⟨s0, s1, s2, s3, s4, s5⟩
      go_simp
      with_reducible rfl
     rotate_left
     ·
      simp only [sP]
      rfl
     refine take_ (i := 1) (N := some 55) (v := ?_) (a' := ?_) #[true, true, false, false, false] rfl rfl (by kernel_rfl) (fun _ _ _ h => h) (Or.inl ⟨by rfl, ?_⟩) hHeld ?_ ?_
     rotate_left
     ·
      rintro w' ⟨s0, s1, s2, s3, s4, s5⟩
      go_simp
      with_reducible rfl
     rotate_left
     ·
      simp only [sP]
      rfl
     refine one_ (i := 2) (N := some 56) #[true, true, true, false, false] rfl rfl (by kernel_rfl) (by decide) (fun K hK => ?_)
     refine goes_ Try.func15 (by kernel_rfl) rfl #[.agg #[.int .i64 a0_0, .int .i64 a0_1, .slice A0_2 l0_2.length c0_2]] (by rfl) rfl rfl (by (try simp only [List.map_toArray, List.map_cons, List.map_nil]); first | done | rfl | (simp only [List.length_drop, List.length_take]; rfl)) ?_
     with_reducible refine (laws_toField.calls kj23 a0_0 a0_1 _ _ l0_2 t136 t137 t138 _ ?side1 ?side2 A66.out).mono ?_
     (case side1 => exact pC (Kd.C_below HR0_2.out HB.out))
     (case side2 => exact HC0_2.out)
     rintro e w76 ⟨v139, rfl, ho0, hb⟩
     refine ⟨_, rfl, ?_⟩
     have n0_ := aK (Kd.R_below (pR HO_6.out) hb)
     have n1_ := aK (Kd.R_below (pR HO_10.out) hb)
     have n2_ := aK (Kd.R_elder' (pR HO_125002.out) (Kd.R_base ho0) hb)
     have n3_ := aK (Kd.R_elder' (pR HO_131002.out) (Kd.R_base ho0) hb)
     have HO140 := aK (Kd.R_lower (Kd.R_new' (Kd.R_new' ho0 (Kd.R_lt (pR HO_125002.out))) (Kd.R_lt (pR HO_131002.out))) (below_size (pS HB.out)))
     replace BK101 := bB BK101 hb
     replace BK102 := bB BK102 hb
     replace BK124 := bB BK124 hb
     replace BK130 := bB BK130 hb
     replace HB := bS HB hb
     clear HO_6 HO_10 HO_125002 HO_131002
     have HO_6 := n0_
     have HO_10 := n1_
     have HO_125002 := n2_
     have HO_131002 := n3_
     clear n0_ n1_ n2_ n3_
     (try clear hb)
     (try clear hb2)
     (try clear hk)
     (try clear hi)
     (try clear ho0)
     obtain ⟨Ao77, co77, eo77⟩ := Kd.R_slice HO140.out
     (first | subst eo77 | (injection eo77 with f1_ f2_ f3_; have f4_ := f1_.symm; have f5_ := f3_.symm; clear f1_ f2_ f3_; subst f4_; subst f5_))
     refine hK.out _ _ ⟨(blk_cell BK124.out 0).trans rfl, (blk_cell BK124.out 1).trans rfl, (blk_cell BK124.out 2).trans rfl, (blk_cell BK101.out 0).trans rfl, (blk_cell BK101.out 1).trans rfl, (blk_cell BK101.out 2).trans rfl⟩ (fun hHeld => ?_)
     clear hK K
     refine norm_ (a' := ?_) ?_ ?_
     rotate_left
     ·
      show Act.put _ (some 56) _ = _
      simp only [sP]
      rfl
     refine one_ (i := 3) (N := some 57) #[true, true, true, true, false] rfl rfl (by kernel_rfl) (by decide) (fun K hK => ?_)
     refine goes_ Try.func18 (by kernel_rfl) rfl #[.agg #[.int .i64 t119, .int .i64 t120, .slice Ao44 t121.length co44], .agg #[.int .i64 t136, .int .i64 t137, .slice Ao77 t138.length co77]] (by rfl) rfl rfl (by (try simp only [List.map_toArray, List.map_cons, List.map_nil]); first | done | rfl | (simp only [List.length_drop, List.length_take]; rfl)) ?_
     with_reducible refine (laws_eqField.calls kj23 t119 t120 _ _ t121 t136 t137 _ _ t138 true _ ?side1 ?side2 ?side3 ?side4 A67.out).mono ?_
     (case side1 => repeat (first | exact (Kd.R_reads' HO_125002.out).2.2 | (with_reducible refine Kd.C_alloc ?_ _) | (with_reducible refine Kd.C_drewN ?_ _) | (with_reducible refine Kd.C_drew ?_)))
     (case side2 => exact (Kd.R_reads' HO_125002.out).2.1)
     (case side3 => repeat (first | exact (Kd.R_reads' HO140.out).2.2 | (with_reducible refine Kd.C_alloc ?_ _) | (with_reducible refine Kd.C_drewN ?_ _) | (with_reducible refine Kd.C_drew ?_)))
     (case side4 => exact (Kd.R_reads' HO140.out).2.1)
     rintro e w78 ⟨rfl, hb⟩
     refine ⟨_, rfl, ?_⟩
     have n0_ := aK (Kd.R_below (pR HO_6.out) hb)
     have n1_ := aK (Kd.R_below (pR HO_10.out) hb)
     have n2_ := aK (Kd.R_below (pR HO_125002.out) hb)
     have n3_ := aK (Kd.R_below (pR HO_131002.out) hb)
     have n4_ := aK (Kd.R_below (pR HO140.out) hb)
     replace BK101 := bB BK101 hb
     replace BK102 := bB BK102 hb
     replace BK124 := bB BK124 hb
     replace BK130 := bB BK130 hb
     replace HB := bS HB hb
     clear HO_6 HO_10 HO_125002 HO_131002 HO140
     have HO_6 := n0_
     have HO_10 := n1_
     have HO_125002 := n2_
     have HO_131002 := n3_
     have HO140 := n4_
     clear n0_ n1_ n2_ n3_ n4_
     (try clear hb)
     (try clear hb2)
     (try clear hk)
     (try clear hi)
     refine hK.out _ _ ⟨(blk_cell BK124.out 0).trans rfl, (blk_cell BK124.out 1).trans rfl, (blk_cell BK124.out 2).trans rfl, (blk_cell BK101.out 0).trans rfl, (blk_cell BK101.out 1).trans rfl, (blk_cell BK101.out 2).trans rfl⟩ (fun hHeld => ?_)
     clear hK K
     refine norm_ (a' := ?_) ?_ ?_
     rotate_left
     ·
      show Act.put _ (some 57) _ = _
      simp only [sP]
      rfl
     refine pure_ (i := 4) (N := some 58) (v := ?_) (a' := ?_) #[true, true, true, true, true] rfl rfl (by kernel_rfl) (fun _ _ _ h => h) (Or.inl ⟨by rfl, ?_⟩) ?_ ?_
     rotate_left
     ·
      intro w'
      go_simp
      with_reducible rfl
     rotate_left
     ·
      simp only [sP]
      rfl
     refine done_ (by kernel_rfl) ?_
     try go_wp2
     have n0_ := aK (Kd.R_drew HO_6.out)
     have n1_ := aK (Kd.R_drew HO_10.out)
     have n2_ := aK (Kd.R_drew HO_125002.out)
     have n3_ := aK (Kd.R_drew HO_131002.out)
     have n4_ := aK (Kd.R_drew HO140.out)
     have n5_ := aK (blk_drew BK101.out)
     have n6_ := aK (blk_drew BK102.out)
     have n7_ := aK (blk_drew BK124.out)
     have n8_ := aK (blk_drew BK130.out)
     have n9_ := aK (below_drew1 HB.out)
     clear HO_6 HO_10 HO_125002 HO_131002 HO140 BK101 BK102 BK124 BK130 HB
     have HO_6 := n0_
     have HO_10 := n1_
     have HO_125002 := n2_
     have HO_131002 := n3_
     have HO140 := n4_
     have BK101 := n5_
     have BK102 := n6_
     have BK124 := n7_
     have BK130 := n8_
     have HB := n9_
     clear n0_ n1_ n2_ n3_ n4_ n5_ n6_ n7_ n8_ n9_
     refine start_ (n := 5) (S := fun w' => w'.cell? ⟨gb130, 0, none⟩ = some (.int .i64 t125) ∧ w'.cell? ⟨gb130, 1, none⟩ = some (.int .i64 t126) ∧ w'.cell? ⟨gb130, 2, none⟩ = some (.slice Ao52 t127.length co52) ∧ w'.cell? ⟨gb102, 0, none⟩ = some (.int .i64 a1_0) ∧ w'.cell? ⟨gb102, 1, none⟩ = some (.int .i64 a1_1) ∧ w'.cell? ⟨gb102, 2, none⟩ = some (.slice A1_2 l1_2.length c1_2)) (ds := []) #[false, false, false, false, false] (by kernel_rfl) rfl rfl ⟨(blk_cell BK130.out 0).trans rfl, (blk_cell BK130.out 1).trans rfl, (blk_cell BK130.out 2).trans rfl, (blk_cell BK102.out 0).trans rfl, (blk_cell BK102.out 1).trans rfl, (blk_cell BK102.out 2).trans rfl⟩ (fun hHeld => ?_)
     generalize w78.drew = w79 at HO_6 HO_10 HO_125002 HO_131002 HO140 BK101 BK102 BK124 BK130 HB hHeld ⊢
     refine take_ (i := 0) (N := some 59) (v := ?_) (a' := ?_) #[true, false, false, false, false] rfl rfl (by kernel_rfl) (fun _ _ _ h => h) (Or.inl ⟨by rfl, ?_⟩) hHeld ?_ ?_
     rotate_left
     ·
      rintro w' ⟨s0, s1, s2, s3, s4, s5⟩
      go_simp
      with_reducible rfl
     rotate_left
     ·
      simp only [sP]
      rfl
     refine take_ (i := 1) (N := some 60) (v := ?_) (a' := ?_) #[true, true, false, false, false] rfl rfl (by kernel_rfl) (fun _ _ _ h => h) (Or.inl ⟨by rfl, ?_⟩) hHeld ?_ ?_
     rotate_left
     ·
      rintro w' ⟨s0, s1, s2, s3, s4, s5⟩
      go_simp
      with_reducible rfl
     rotate_left
     ·
      simp only [sP]
      rfl
     refine one_ (i := 2) (N := some 61) #[true, true, true, false, false] rfl rfl (by kernel_rfl) (by decide) (fun K hK => ?_)
     refine goes_ Try.func15 (by kernel_rfl) rfl #[.agg #[.int .i64 a1_0, .int .i64 a1_1, .slice A1_2 l1_2.length c1_2]] (by rfl) rfl rfl (by (try simp only [List.map_toArray, List.map_cons, List.map_nil]); first | done | rfl | (simp only [List.length_drop, List.length_take]; rfl)) ?_
     with_reducible refine (laws_toField.calls kj23 a1_0 a1_1 _ _ l1_2 t142 t143 t144 _ ?side1 ?side2 A69.out).mono ?_
     (case side1 => exact pC (Kd.C_below HR1_2.out HB.out))
     (case side2 => exact HC1_2.out)
     rintro e w80 ⟨v145, rfl, ho0, hb⟩
     refine ⟨_, rfl, ?_⟩
     have n0_ := aK (Kd.R_below (pR HO_6.out) hb)
     have n1_ := aK (Kd.R_below (pR HO_10.out) hb)
     have n2_ := aK (Kd.R_elder' (pR HO_125002.out) (Kd.R_base ho0) hb)
     have n3_ := aK (Kd.R_elder' (pR HO_131002.out) (Kd.R_base ho0) hb)
     have n4_ := aK (Kd.R_elder' (pR HO140.out) (Kd.R_base ho0) hb)
     have HO146 := aK (Kd.R_lower (Kd.R_new' (Kd.R_new' (Kd.R_new' ho0 (Kd.R_lt (pR HO_125002.out))) (Kd.R_lt (pR HO_131002.out))) (Kd.R_lt (pR HO140.out))) (below_size (pS HB.out)))
     replace BK101 := bB BK101 hb
     replace BK102 := bB BK102 hb
     replace BK124 := bB BK124 hb
     replace BK130 := bB BK130 hb
     replace HB := bS HB hb
     clear HO_6 HO_10 HO_125002 HO_131002 HO140
     have HO_6 := n0_
     have HO_10 := n1_
     have HO_125002 := n2_
     have HO_131002 := n3_
     have HO140 := n4_
     clear n0_ n1_ n2_ n3_ n4_
     (try clear hb)
     (try clear hb2)
     (try clear hk)
     (try clear hi)
     (try clear ho0)
     obtain ⟨Ao81, co81, eo81⟩ := Kd.R_slice HO146.out
     (first | subst eo81 | (injection eo81 with f1_ f2_ f3_; have f4_ := f1_.symm; have f5_ := f3_.symm; clear f1_ f2_ f3_; subst f4_; subst f5_))
     refine hK.out _ _ ⟨(blk_cell BK130.out 0).trans rfl, (blk_cell BK130.out 1).trans rfl, (blk_cell BK130.out 2).trans rfl, (blk_cell BK102.out 0).trans rfl, (blk_cell BK102.out 1).trans rfl, (blk_cell BK102.out 2).trans rfl⟩ (fun hHeld => ?_)
     clear hK K
     refine norm_ (a' := ?_) ?_ ?_
     rotate_left
     ·
      show Act.put _ (some 61) _ = _
      simp only [sP]
      rfl
     refine one_ (i := 3) (N := some 62) #[true, true, true, true, false] rfl rfl (by kernel_rfl) (by decide) (fun K hK => ?_)
     refine goes_ Try.func18 (by kernel_rfl) rfl #[.agg #[.int .i64 t125, .int .i64 t126, .slice Ao52 t127.length co52], .agg #[.int .i64 t142, .int .i64 t143, .slice Ao81 t144.length co81]] (by rfl) rfl rfl (by (try simp only [List.map_toArray, List.map_cons, List.map_nil]); first | done | rfl | (simp only [List.length_drop, List.length_take]; rfl)) ?_
     with_reducible refine (laws_eqField.calls kj23 t125 t126 _ _ t127 t142 t143 _ _ t144 true _ ?side1 ?side2 ?side3 ?side4 A70.out).mono ?_
     (case side1 => repeat (first | exact (Kd.R_reads' HO_131002.out).2.2 | (with_reducible refine Kd.C_alloc ?_ _) | (with_reducible refine Kd.C_drewN ?_ _) | (with_reducible refine Kd.C_drew ?_)))
     (case side2 => exact (Kd.R_reads' HO_131002.out).2.1)
     (case side3 => repeat (first | exact (Kd.R_reads' HO146.out).2.2 | (with_reducible refine Kd.C_alloc ?_ _) | (with_reducible refine Kd.C_drewN ?_ _) | (with_reducible refine Kd.C_drew ?_)))
     (case side4 => exact (Kd.R_reads' HO146.out).2.1)
     rintro e w82 ⟨rfl, hb⟩
     refine ⟨_, rfl, ?_⟩
     have n0_ := aK (Kd.R_below (pR HO_6.out) hb)
     have n1_ := aK (Kd.R_below (pR HO_10.out) hb)
     have n2_ := aK (Kd.R_below (pR HO_125002.out) hb)
     have n3_ := aK (Kd.R_below (pR HO_131002.out) hb)
     have n4_ := aK (Kd.R_below (pR HO140.out) hb)
     have n5_ := aK (Kd.R_below (pR HO146.out) hb)
     replace BK101 := bB BK101 hb
     replace BK102 := bB BK102 hb
     replace BK124 := bB BK124 hb
     replace BK130 := bB BK130 hb
     replace HB := bS HB hb
     clear HO_6 HO_10 HO_125002 HO_131002 HO140 HO146
     have HO_6 := n0_
     have HO_10 := n1_
     have HO_125002 := n2_
     have HO_131002 := n3_
     have HO140 := n4_
     have HO146 := n5_
     clear n0_ n1_ n2_ n3_ n4_ n5_
     (try clear hb)
     (try clear hb2)
     (try clear hk)
     (try clear hi)
     refine hK.out _ _ ⟨(blk_cell BK130.out 0).trans rfl, (blk_cell BK130.out 1).trans rfl, (blk_cell BK130.out 2).trans rfl, (blk_cell BK102.out 0).trans rfl, (blk_cell BK102.out 1).trans rfl, (blk_cell BK102.out 2).trans rfl⟩ (fun hHeld => ?_)
     clear hK K
     refine norm_ (a' := ?_) ?_ ?_
     rotate_left
     ·
      show Act.put _ (some 62) _ = _
      simp only [sP]
      rfl
     refine pure_ (i := 4) (N := some 63) (v := ?_) (a' := ?_) #[true, true, true, true, true] rfl rfl (by kernel_rfl) (fun _ _ _ h => h) (Or.inl ⟨by rfl, ?_⟩) ?_ ?_
     rotate_left
     ·
      intro w'
      go_simp
      with_reducible rfl
     rotate_left
     ·
      simp only [sP]
      rfl
     refine done_ (by kernel_rfl) ?_
     have hnb83 := NB124_101.out
     have hnc83 := NB101_124.out
     have hnb84 := NB124_102.out
     have hnc84 := NB102_124.out
     have hnb85 := NB124_130.out
     have hnc85 := NB130_124.out
     have hcz86_0 : w82.cell? ⟨gb124, 0, none⟩ = some (.int .i64 t119) := (blk_cell BK124.out 0).trans rfl
     have hcz86_1 : w82.cell? ⟨gb124, 1, none⟩ = some (.int .i64 t120) := (blk_cell BK124.out 1).trans rfl
     have hcz86_2 : w82.cell? ⟨gb124, 2, none⟩ = some (.slice Ao44 t121.length co44) := (blk_cell BK124.out 2).trans rfl
     have hfz86_0 := blk_frozen BK124.out 0
     have hfz86_1 := blk_frozen BK124.out 1
     have hfz86_2 := blk_frozen BK124.out 2
     go_upto_region 21 with (first | ((with_reducible refine gate_callee (f := 19) rfl ?_); refine gl (some 66) Try.func19 #[.agg #[.int .i64 t119, .int .i64 t120, .slice Ao44 t121.length co44], .int .i64 1] ?_; (with_reducible refine (laws_markField.calls kj23 t119 t120 (fun k_ => some k_ = (.slice Ao44 t121.length co44 : Value).ownBlock) (.slice Ao44 t121.length co44) t121 1 t148 t149 w _ ?side1 ?side2 A72.out).mono ?_); (case side1 => exact pT HB.out); (case side2 => exact Kd.R_tight rfl HO_125002.out); rintro e w87 ⟨rfl, hy0, hb, hkp⟩; refine ⟨_, rfl, ?_⟩; have n0_ := aK (Kd.R_mono (ok' := fun k_ => some k_ ≠ (v132 : Value).ownBlock) (Kd.R_keptB ((Kd.R_apart' HO_6.out (Kd.R_typed HO_125002.out) (by decide))) hkp (fun k_ hk_ hs_ => (hk_.2) hs_)) (fun k_ hk_ => hk_.1.1)); have n1_ := aK (Kd.R_mono (ok' := fun k_ => some k_ ≠ (v116 : Value).ownBlock) (Kd.R_keptB ((Kd.R_apart' HO_10.out (Kd.R_typed HO_125002.out) (by decide))) hkp (fun k_ hk_ hs_ => (hk_.2) hs_)) (fun k_ hk_ => hk_.1.1)); have n2_ := aK (Kd.R_reok rfl hy0 (fun k_ e_ => HO_125002.out.1 k_ e_)); have n3_ := aK (Kd.R_mono (ok' := fun k_ => some k_ ≠ (.slice Ao44 t121.length co44 : Value).ownBlock ∧ some k_ ≠ (.slice Ao77 t138.length co77 : Value).ownBlock ∧ some k_ ≠ (.slice Ao81 t144.length co81 : Value).ownBlock) (Kd.R_keptB (HO_131002.out) hkp (fun k_ hk_ hs_ => (hk_.1.1) hs_)) (fun k_ hk_ => ⟨hk_.1.1.1, hk_.1.1.2, hk_.1.2⟩)); have n4_ := aK (blk_kept (pB BK101.out) hkp (fun hs_ => (fun e_ => (Kd.R_ne HO_125002.out BK101.out (by decide)) e_) hs_)); have n5_ := aK (blk_kept (pB BK102.out) hkp (fun hs_ => (fun e_ => (Kd.R_ne HO_125002.out BK102.out (by decide)) e_) hs_)); have n6_ := aK (blk_kept (pB BK124.out) hkp (fun hs_ => (fun e_ => (Kd.R_ne HO_125002.out BK124.out (by decide)) e_) hs_)); have n7_ := aK (blk_kept (pB BK130.out) hkp (fun hs_ => (fun e_ => (Kd.R_ne HO_125002.out BK130.out (by decide)) e_) hs_)); have n8_ := aK (Kd.R_mono (ok' := fun k_ => some k_ ≠ (.slice Ao44 t121.length co44 : Value).ownBlock ∧ some k_ ≠ (.slice Ao52 t127.length co52 : Value).ownBlock ∧ some k_ ≠ (.slice Ao81 t144.length co81 : Value).ownBlock) (Kd.R_keptB (HO140.out) hkp (fun k_ hk_ hs_ => (hk_.1.1.2) hs_)) (fun k_ hk_ => ⟨hk_.1.1.1.2, hk_.1.1.2, hk_.1.2⟩)); have n9_ := aK (Kd.R_mono (ok' := fun k_ => some k_ ≠ (.slice Ao44 t121.length co44 : Value).ownBlock ∧ some k_ ≠ (.slice Ao52 t127.length co52 : Value).ownBlock ∧ some k_ ≠ (.slice Ao77 t138.length co77 : Value).ownBlock) (Kd.R_keptB (HO146.out) hkp (fun k_ hk_ hs_ => (hk_.1.1.2) hs_)) (fun k_ hk_ => ⟨hk_.1.1.1.2, hk_.1.1.2, hk_.1.2⟩)); have n10_ := aK (hb); clear HO_6 HO_10 HO_125002 HO_131002 BK101 BK102 BK124 BK130 HO140 HO146 HB; have HO_6 := n0_; have HO_10 := n1_; have HO_125002 := n2_; have HO_131002 := n3_; have BK101 := n4_; have BK102 := n5_; have BK124 := n6_; have BK130 := n7_; have HO140 := n8_; have HO146 := n9_; have HB := n10_; clear n0_ n1_ n2_ n3_ n4_ n5_ n6_ n7_ n8_ n9_ n10_; (try clear hb); (try clear hkp); (try clear hy0); have hnb88 := NB130_101.out; have hnc88 := NB101_130.out; have hnb89 := NB130_102.out; have hnc89 := NB102_130.out; have hcz90_0 : w87.cell? ⟨gb130, 0, none⟩ = some (.int .i64 t125) := (blk_cell BK130.out 0).trans rfl; have hcz90_1 : w87.cell? ⟨gb130, 1, none⟩ = some (.int .i64 t126) := (blk_cell BK130.out 1).trans rfl; have hcz90_2 : w87.cell? ⟨gb130, 2, none⟩ = some (.slice Ao52 t127.length co52) := (blk_cell BK130.out 2).trans rfl; have hfz90_0 := blk_frozen BK130.out 0; have hfz90_1 := blk_frozen BK130.out 1; have hfz90_2 := blk_frozen BK130.out 2) | ((with_reducible refine gate_callee (f := 19) rfl ?_); refine gl (some 69) Try.func19 #[.agg #[.int .i64 t125, .int .i64 t126, .slice Ao52 t127.length co52], .int .i64 t148] ?_; (with_reducible refine (laws_markField.calls kj23 t125 t126 (fun k_ => some k_ = (.slice Ao52 t127.length co52 : Value).ownBlock) (.slice Ao52 t127.length co52) t127 t148 t150 t151 w _ ?side1 ?side2 A73.out).mono ?_); (case side1 => exact pT HB.out); (case side2 => exact Kd.R_tight rfl HO_131002.out); rintro e w91 ⟨rfl, hy0, hb, hkp⟩; refine ⟨_, rfl, ?_⟩; have n0_ := aK (Kd.R_mono (ok' := fun k_ => some k_ ≠ (v132 : Value).ownBlock) (Kd.R_keptB ((Kd.R_apart' HO_6.out (Kd.R_typed HO_131002.out) (by decide))) hkp (fun k_ hk_ hs_ => (hk_.2) hs_)) (fun k_ hk_ => hk_.1.1)); have n1_ := aK (Kd.R_mono (ok' := fun k_ => some k_ ≠ (v116 : Value).ownBlock) (Kd.R_keptB ((Kd.R_apart' HO_10.out (Kd.R_typed HO_131002.out) (by decide))) hkp (fun k_ hk_ hs_ => (hk_.2) hs_)) (fun k_ hk_ => hk_.1.1)); have n2_ := aK (Kd.R_mono (ok' := fun k_ => some k_ ≠ (.slice Ao52 t127.length co52 : Value).ownBlock ∧ some k_ ≠ (.slice Ao77 t138.length co77 : Value).ownBlock ∧ some k_ ≠ (.slice Ao81 t144.length co81 : Value).ownBlock) (Kd.R_keptB (HO_125002.out) hkp (fun k_ hk_ hs_ => (hk_.1.1) hs_)) (fun k_ hk_ => ⟨hk_.1.1.1, hk_.1.1.2, hk_.1.2⟩)); have n3_ := aK (Kd.R_reok rfl hy0 (fun k_ e_ => HO_131002.out.1 k_ e_)); have n4_ := aK (blk_kept (pB BK101.out) hkp (fun hs_ => (fun e_ => (Kd.R_ne HO_131002.out BK101.out (by decide)) e_) hs_)); have n5_ := aK (blk_kept (pB BK102.out) hkp (fun hs_ => (fun e_ => (Kd.R_ne HO_131002.out BK102.out (by decide)) e_) hs_)); have n6_ := aK (blk_kept (pB BK124.out) hkp (fun hs_ => (fun e_ => (Kd.R_ne HO_131002.out BK124.out (by decide)) e_) hs_)); have n7_ := aK (blk_kept (pB BK130.out) hkp (fun hs_ => (fun e_ => (Kd.R_ne HO_131002.out BK130.out (by decide)) e_) hs_)); have n8_ := aK (Kd.R_mono (ok' := fun k_ => some k_ ≠ (.slice Ao44 t121.length co44 : Value).ownBlock ∧ some k_ ≠ (.slice Ao52 t127.length co52 : Value).ownBlock ∧ some k_ ≠ (.slice Ao81 t144.length co81 : Value).ownBlock) (Kd.R_keptB (HO140.out) hkp (fun k_ hk_ hs_ => (hk_.2.1) hs_)) (fun k_ hk_ => ⟨hk_.1.1, hk_.1.2.1, hk_.1.2.2⟩)); have n9_ := aK (Kd.R_mono (ok' := fun k_ => some k_ ≠ (.slice Ao44 t121.length co44 : Value).ownBlock ∧ some k_ ≠ (.slice Ao52 t127.length co52 : Value).ownBlock ∧ some k_ ≠ (.slice Ao77 t138.length co77 : Value).ownBlock) (Kd.R_keptB (HO146.out) hkp (fun k_ hk_ hs_ => (hk_.2.1) hs_)) (fun k_ hk_ => ⟨hk_.1.1, hk_.1.2.1, hk_.1.2.2⟩)); have n10_ := aK (hb); clear HO_6 HO_10 HO_125002 HO_131002 BK101 BK102 BK124 BK130 HO140 HO146 HB; have HO_6 := n0_; have HO_10 := n1_; have HO_125002 := n2_; have HO_131002 := n3_; have BK101 := n4_; have BK102 := n5_; have BK124 := n6_; have BK130 := n7_; have HO140 := n8_; have HO146 := n9_; have HB := n10_; clear n0_ n1_ n2_ n3_ n4_ n5_ n6_ n7_ n8_ n9_ n10_; (try clear hb); (try clear hkp); (try clear hy0)))
     (try simp only [Act.put, List.setIfInBounds_toArray, List.set_cons_zero, List.set_cons_succ])
     go_cut [82] (fun v82 wc => ∃ (kq : Nat) (x82_73 : Bool), v82 = .bool x82_73 ∧ Aside0 (laws_FnExactRankMotions.j1 kq t115 t118 t131 x82_73 a0_0 a0_1 l0_2 a1_0 a1_1 l1_2 = some r) ∧ Aside0 (kq ≤ kj23) ∧ Aside0 (Kd.R k37 37 wc w.heap.size (fun k_ => some k_ ≠ (v132 : Value).ownBlock) v116 t115) ∧ Aside0 (Kd.R k37 37 wc w.heap.size (fun k_ => some k_ ≠ (v116 : Value).ownBlock) v132 t131) ∧ Aside0 (Kd.R (Kd.int .i64) 3 wc w.heap.size (fun k_ => some k_ ≠ ((.slice Ao52 t127.length co52) : Value).ownBlock) (.slice Ao44 t121.length co44) t149) ∧ Aside0 (Kd.R (Kd.int .i64) 3 wc w.heap.size (fun k_ => some k_ ≠ ((.slice Ao44 t121.length co44) : Value).ownBlock) (.slice Ao52 t127.length co52) t151) ∧ Aside0 (wc.heap[gb101]? = some (.cells #[.int .i64 a0_0, .int .i64 a0_1, (.slice A0_2 l0_2.length c0_2)] 24 (0, 0))) ∧ Aside0 (wc.heap[gb102]? = some (.cells #[.int .i64 a1_0, .int .i64 a1_1, (.slice A1_2 l1_2.length c1_2)] 24 (0, 0))) ∧ Aside0 (wc.heap[gb124]? = some (.cells #[.int .i64 t119, .int .i64 t120, (.slice Ao44 t121.length co44)] 29 (0, 0))) ∧ Aside0 (wc.heap[gb130]? = some (.cells #[.int .i64 t125, .int .i64 t126, (.slice Ao52 t127.length co52)] 29 (0, 0))) ∧ Aside0 (Below w.heap.size w wc))
     case first =>
      have H := HC74.out
      clear HC74
      by_cases c92 : t150 < 0
      ·
       rw [if_pos c92] at H
       have c92b0 : decide (t150 < 0) = true := decide_eq_true c92
       clear c92
       (first | rw [c92b0] | (simp only [i64_w, i32_w]; rw [c92b0]) | skip)
       have H' := Aside0.mk H
       clear H
       go_wp2
       go_meet
       case rel => exact ⟨_, (true), (by first | rfl | (simp; done) | (simp [*]; done)), H', ⟨by have := HJ23.out; first | omega | exact Nat.le_refl _⟩, ⟨by (with_reducible repeat (first | apply Kd.R_alloc | apply Kd.R_drewN | apply Kd.R_drew)); exact HO_6.out⟩, ⟨by (with_reducible repeat (first | apply Kd.R_alloc | apply Kd.R_drewN | apply Kd.R_drew)); exact HO_10.out⟩, ⟨by (with_reducible repeat (first | apply Kd.R_alloc | apply Kd.R_drewN | apply Kd.R_drew)); exact Kd.R_mono HO_125002.out (fun _ hk => hk.1)⟩, ⟨by (with_reducible repeat (first | apply Kd.R_alloc | apply Kd.R_drewN | apply Kd.R_drew)); exact Kd.R_mono HO_131002.out (fun _ hk => hk.1)⟩, ⟨by refine bk ?_; exact BK101.out⟩, ⟨by refine bk ?_; exact BK102.out⟩, ⟨by refine bk ?_; exact BK124.out⟩, ⟨by refine bk ?_; exact BK130.out⟩, ⟨pT HB.out⟩⟩
      rw [if_neg c92] at H
      have c92b0 : decide (t150 < 0) = false := decide_eq_false c92
      clear c92
      (first | rw [c92b0] | (simp only [i64_w, i32_w]; rw [c92b0]) | skip)
      replace H := Option.bind_eq_some_iff.mp H
      obtain ⟨t152, A930, H⟩ := H
      replace H : (if t152 = true then (laws_FnExactRankMotions.j1 kj23 t115 t118 t131 (t134 != t118) a0_0 a0_1 l0_2 a1_0 a1_1 l1_2) else (laws_FnExactRankMotions.j1 kj23 t115 t118 t131 true a0_0 a0_1 l0_2 a1_0 a1_1 l1_2)) = some r := H
      have A93 := Aside0.mk A930
      clear A930
      by_cases c94 : t152 = true
      ·
       subst c94
       have H1 : (laws_FnExactRankMotions.j1 kj23 t115 t118 t131 (t134 != t118) a0_0 a0_1 l0_2 a1_0 a1_1 l1_2) = some r := by rw [if_pos rfl] at H; exact H
       clear H
       have H := H1
       clear H1
       have H' := Aside0.mk H
       clear H
       obtain ⟨Ao95, co95, eo95⟩ := Kd.R_slice HO_10.out
       subst eo95
       obtain ⟨Ao96, co96, eo96⟩ := Kd.R_slice HO_6.out
       subst eo96
       go_wp2_with (first | (go_at_call 17; (with_reducible refine (laws_eqMotionS.calls kj23 _ _ t131 _ _ t115 true _ ?side1 ?side2 ?side3 ?side4 A93.out).mono ?_); (case side1 => repeat (first | exact (Kd.R_reads' HO_10.out).2.2 | (with_reducible refine Kd.C_alloc ?_ _) | (with_reducible refine Kd.C_drewN ?_ _) | (with_reducible refine Kd.C_drew ?_))); (case side2 => exact (Kd.R_reads' HO_10.out).2.1); (case side3 => repeat (first | exact (Kd.R_reads' HO_6.out).2.2 | (with_reducible refine Kd.C_alloc ?_ _) | (with_reducible refine Kd.C_drewN ?_ _) | (with_reducible refine Kd.C_drew ?_))); (case side4 => exact (Kd.R_reads' HO_6.out).2.1); rintro e w97 ⟨rfl, hb⟩; have n0_ := aK (Kd.R_below (pR HO_6.out) hb); have n1_ := aK (Kd.R_below (pR HO_10.out) hb); have n2_ := aK (Kd.R_below (pR HO_125002.out) hb); have n3_ := aK (Kd.R_below (pR HO_131002.out) hb); have n4_ := aK (Kd.R_below (pR HO140.out) hb); have n5_ := aK (Kd.R_below (pR HO146.out) hb); replace BK101 := bB BK101 hb; replace BK102 := bB BK102 hb; replace BK124 := bB BK124 hb; replace BK130 := bB BK130 hb; replace HB := bS HB hb; clear HO_6 HO_10 HO_125002 HO_131002 HO140 HO146; have HO_6 := n0_; have HO_10 := n1_; have HO_125002 := n2_; have HO_131002 := n3_; have HO140 := n4_; have HO146 := n5_; clear n0_ n1_ n2_ n3_ n4_ n5_; (try clear hb); (try clear hb2); (try clear hk); (try clear hi)))
       go_meet
       case rel => exact ⟨_, ((t134 != t118)), (by first | rfl | (simp; done) | (simp [*]; done)), H', ⟨by have := HJ23.out; first | omega | exact Nat.le_refl _⟩, ⟨by (with_reducible repeat (first | apply Kd.R_alloc | apply Kd.R_drewN | apply Kd.R_drew)); exact HO_6.out⟩, ⟨by (with_reducible repeat (first | apply Kd.R_alloc | apply Kd.R_drewN | apply Kd.R_drew)); exact HO_10.out⟩, ⟨by (with_reducible repeat (first | apply Kd.R_alloc | apply Kd.R_drewN | apply Kd.R_drew)); exact Kd.R_mono HO_125002.out (fun _ hk => hk.1)⟩, ⟨by (with_reducible repeat (first | apply Kd.R_alloc | apply Kd.R_drewN | apply Kd.R_drew)); exact Kd.R_mono HO_131002.out (fun _ hk => hk.1)⟩, ⟨by refine bk ?_; exact BK101.out⟩, ⟨by refine bk ?_; exact BK102.out⟩, ⟨by refine bk ?_; exact BK124.out⟩, ⟨by refine bk ?_; exact BK130.out⟩, ⟨pT HB.out⟩⟩
      replace c94 := Bool.eq_false_iff.mpr c94
      subst c94
      have H1 : (laws_FnExactRankMotions.j1 kj23 t115 t118 t131 true a0_0 a0_1 l0_2 a1_0 a1_1 l1_2) = some r := by rw [if_neg (show ¬ (false = true) by decide)] at H; exact H
      clear H
      have H := H1
      clear H1
      have H' := Aside0.mk H
      clear H
      obtain ⟨Ao98, co98, eo98⟩ := Kd.R_slice HO_10.out
      subst eo98
      obtain ⟨Ao99, co99, eo99⟩ := Kd.R_slice HO_6.out
      subst eo99
      go_wp2_with (first | (go_at_call 17; (with_reducible refine (laws_eqMotionS.calls kj23 _ _ t131 _ _ t115 false _ ?side1 ?side2 ?side3 ?side4 A93.out).mono ?_); (case side1 => repeat (first | exact (Kd.R_reads' HO_10.out).2.2 | (with_reducible refine Kd.C_alloc ?_ _) | (with_reducible refine Kd.C_drewN ?_ _) | (with_reducible refine Kd.C_drew ?_))); (case side2 => exact (Kd.R_reads' HO_10.out).2.1); (case side3 => repeat (first | exact (Kd.R_reads' HO_6.out).2.2 | (with_reducible refine Kd.C_alloc ?_ _) | (with_reducible refine Kd.C_drewN ?_ _) | (with_reducible refine Kd.C_drew ?_))); (case side4 => exact (Kd.R_reads' HO_6.out).2.1); rintro e w100 ⟨rfl, hb⟩; have n0_ := aK (Kd.R_below (pR HO_6.out) hb); have n1_ := aK (Kd.R_below (pR HO_10.out) hb); have n2_ := aK (Kd.R_below (pR HO_125002.out) hb); have n3_ := aK (Kd.R_below (pR HO_131002.out) hb); have n4_ := aK (Kd.R_below (pR HO140.out) hb); have n5_ := aK (Kd.R_below (pR HO146.out) hb); replace BK101 := bB BK101 hb; replace BK102 := bB BK102 hb; replace BK124 := bB BK124 hb; replace BK130 := bB BK130 hb; replace HB := bS HB hb; clear HO_6 HO_10 HO_125002 HO_131002 HO140 HO146; have HO_6 := n0_; have HO_10 := n1_; have HO_125002 := n2_; have HO_131002 := n3_; have HO140 := n4_; have HO146 := n5_; clear n0_ n1_ n2_ n3_ n4_ n5_; (try clear hb); (try clear hb2); (try clear hk); (try clear hi)))
      go_meet
      case rel => exact ⟨_, (true), (by first | rfl | (simp; done) | (simp [*]; done)), H', ⟨by have := HJ23.out; first | omega | exact Nat.le_refl _⟩, ⟨by (with_reducible repeat (first | apply Kd.R_alloc | apply Kd.R_drewN | apply Kd.R_drew)); exact HO_6.out⟩, ⟨by (with_reducible repeat (first | apply Kd.R_alloc | apply Kd.R_drewN | apply Kd.R_drew)); exact HO_10.out⟩, ⟨by (with_reducible repeat (first | apply Kd.R_alloc | apply Kd.R_drewN | apply Kd.R_drew)); exact Kd.R_mono HO_125002.out (fun _ hk => hk.1)⟩, ⟨by (with_reducible repeat (first | apply Kd.R_alloc | apply Kd.R_drewN | apply Kd.R_drew)); exact Kd.R_mono HO_131002.out (fun _ hk => hk.1)⟩, ⟨by refine bk ?_; exact BK101.out⟩, ⟨by refine bk ?_; exact BK102.out⟩, ⟨by refine bk ?_; exact BK124.out⟩, ⟨by refine bk ?_; exact BK130.out⟩, ⟨pT HB.out⟩⟩
     case rest =>
      clear HC74
      try clear c1
      try clear c2
      try clear p2
      try clear c3
      try clear c4
      try clear c4b0
      try clear c5
      try clear c6
      try clear c7
      try clear c8
      try clear c9
      try clear c10
      try clear c10b0
      try clear c13
      try clear c14
      try clear c15
      try clear c16
      try clear c17
      try clear c18
      try clear c19
      try clear c27
      try clear c41
      try clear c42
      try clear c48
      try clear c49
      try clear c50
      try clear c58
      try clear c65
      try clear c68
      try clear c71
      try clear c83
      try clear c84
      try clear c85
      try clear c88
      try clear c89
      try clear c92
      try clear c92b0
      try clear c94
      try clear hcz14_0
      try clear hcz14_1
      try clear hcz14_2
      try clear hcz16_0
      try clear hcz16_1
      try clear hcz16_2
      try clear hcz28_0
      try clear hcz28_1
      try clear hcz28_2
      try clear hcz30_0
      try clear hcz30_1
      try clear hcz30_2
      try clear hcz38_0
      try clear hcz38_1
      try clear hcz38_2
      try clear hcz43_0
      try clear hcz43_1
      try clear hcz43_2
      try clear hcz45_0
      try clear hcz45_1
      try clear hcz45_2
      try clear hcz51_0
      try clear hcz51_1
      try clear hcz51_2
      try clear hcz54_0
      try clear hcz54_1
      try clear hcz54_2
      try clear hcz55_0
      try clear hcz55_1
      try clear hcz55_2
      try clear hcz7_0
      try clear hcz7_1
      try clear hcz7_2
      try clear hcz86_0
      try clear hcz86_1
      try clear hcz86_2
      try clear hcz90_0
      try clear hcz90_1
      try clear hcz90_2
      try clear hfz14_0
      try clear hfz14_1
      try clear hfz14_2
      try clear hfz16_0
      try clear hfz16_1
      try clear hfz16_2
      try clear hfz28_0
      try clear hfz28_1
      try clear hfz28_2
      try clear hfz30_0
      try clear hfz30_1
      try clear hfz30_2
      try clear hfz38_0
      try clear hfz38_1
      try clear hfz38_2
      try clear hfz43_0
      try clear hfz43_1
      try clear hfz43_2
      try clear hfz45_0
      try clear hfz45_1
      try clear hfz45_2
      try clear hfz51_0
      try clear hfz51_1
      try clear hfz51_2
      try clear hfz54_0
      try clear hfz54_1
      try clear hfz54_2
      try clear hfz55_0
      try clear hfz55_1
      try clear hfz55_2
      try clear hfz7_0
      try clear hfz7_1
      try clear hfz7_2
      try clear hfz86_0
      try clear hfz86_1
      try clear hfz86_2
      try clear hfz90_0
      try clear hfz90_1
      try clear hfz90_2
      try clear p2
      obtain ⟨kq, x82_73, rfl, HA, HJ73, HO_6, HO_10, HO_125002, HO_131002, BK101, BK102, BK124, BK130, HB⟩ := hcut
      have hl125002_73 := (Kd.R_reads' HO_125002.out).1
      rw [hl125002_73] at HO_125002
      (try simp only [hl125002_73])
      (try simp only [hl125002_73] at BK101)
      (try simp only [hl125002_73] at BK102)
      (try simp only [hl125002_73] at BK124)
      (try simp only [hl125002_73] at BK130)
      (try simp only [hl125002_73] at HO_6)
      (try simp only [hl125002_73] at HO_10)
      (try simp only [hl125002_73] at HO_131002)
      have hl131002_73 := (Kd.R_reads' HO_131002.out).1
      rw [hl131002_73] at HO_131002
      (try simp only [hl131002_73])
      (try simp only [hl131002_73] at BK101)
      (try simp only [hl131002_73] at BK102)
      (try simp only [hl131002_73] at BK124)
      (try simp only [hl131002_73] at BK130)
      (try simp only [hl131002_73] at HO_6)
      (try simp only [hl131002_73] at HO_10)
      (try simp only [hl131002_73] at HO_125002)
      cases kq with
      | zero => exact absurd HA.out (by simp [laws_FnExactRankMotions.j1])
      | succ kj73 =>
       have H := HA.out
       clear HA
       simp only [laws_FnExactRankMotions.j1] at H
       by_cases c101 : x82_73 = true
       ·
        subst c101
        have H1 : (some false) = some r := by rw [if_pos rfl] at H; exact H
        clear H
        have H := H1
        clear H1
        obtain rfl := Option.some.inj H
        go_wp2
        go_ret
        exact ⟨by first | rfl | (simp [errW_none, errW_some] <;> rfl) | (simp [*, errW_none, errW_some] <;> rfl), pT HB.out⟩
       replace c101 := Bool.eq_false_iff.mpr c101
       subst c101
       have H1 : ((laws_markMotionS.f kj73 t131 1).bind fun bt153 => ((laws_heldMotionS.f kj73 bt153.2 1).bind fun t155 => (if t155 < 0 then (some false) else (if t155 = bt153.1 then ((laws_toField.f kj73 a0_0 a0_1 l0_2).bind fun bt156 => ((laws_toField.f kj73 a1_0 a1_1 l1_2).bind fun bt161 => ((impl_RankMotions.f kj73 bt156.1 bt156.2.1 bt156.2.2 bt161.1 bt161.2.1 bt161.2.2).bind fun bt166 => ((laws_eqMotionS.f kj73 bt166.1 t115).bind fun t170 => (if t170 = true then (laws_FnExactRankMotions.j2 kj73 bt153.2 bt153.1 (bt166.2 != t118)) else (laws_FnExactRankMotions.j2 kj73 bt153.2 bt153.1 true)))))) else (some false))))) = some r := by rw [if_neg (show ¬ (false = true) by decide)] at H; exact H
       clear H
       have H := H1
       clear H1
       replace H := Option.bind_eq_some_iff.mp H
       obtain ⟨⟨t153, t154⟩, A1020, H⟩ := H
       replace H : ((laws_heldMotionS.f kj73 t154 1).bind fun t155 => (if t155 < 0 then (some false) else (if t155 = t153 then ((laws_toField.f kj73 a0_0 a0_1 l0_2).bind fun bt156 => ((laws_toField.f kj73 a1_0 a1_1 l1_2).bind fun bt161 => ((impl_RankMotions.f kj73 bt156.1 bt156.2.1 bt156.2.2 bt161.1 bt161.2.1 bt161.2.2).bind fun bt166 => ((laws_eqMotionS.f kj73 bt166.1 t115).bind fun t170 => (if t170 = true then (laws_FnExactRankMotions.j2 kj73 t154 t153 (bt166.2 != t118)) else (laws_FnExactRankMotions.j2 kj73 t154 t153 true)))))) else (some false)))) = some r := H
       have A102 := Aside0.mk A1020
       clear A1020
       replace H := Option.bind_eq_some_iff.mp H
       obtain ⟨t155, A1030, H⟩ := H
       replace H : (if t155 < 0 then (some false) else (if t155 = t153 then ((laws_toField.f kj73 a0_0 a0_1 l0_2).bind fun bt156 => ((laws_toField.f kj73 a1_0 a1_1 l1_2).bind fun bt161 => ((impl_RankMotions.f kj73 bt156.1 bt156.2.1 bt156.2.2 bt161.1 bt161.2.1 bt161.2.2).bind fun bt166 => ((laws_eqMotionS.f kj73 bt166.1 t115).bind fun t170 => (if t170 = true then (laws_FnExactRankMotions.j2 kj73 t154 t153 (bt166.2 != t118)) else (laws_FnExactRankMotions.j2 kj73 t154 t153 true)))))) else (some false))) = some r := H
       have A103 := Aside0.mk A1030
       clear A1030
       by_cases c104 : t155 < 0
       ·
        rw [if_pos c104] at H
        have c104b0 : decide (t155 < 0) = true := decide_eq_true c104
        clear c104
        obtain rfl := Option.some.inj H
        obtain ⟨Ao105, co105, eo105⟩ := Kd.R_slice HO_10.out
        subst eo105
        go_wp2_with (first | ((with_reducible refine gate_callee (f := 20) rfl ?_); refine gl (some 85) Try.func20 #[.slice Ao105 t131.length co105, .int .i64 1] ?_; (with_reducible refine (laws_markMotionS.calls kj73 (fun k_ => some k_ = (.slice Ao105 t131.length co105 : Value).ownBlock) (.slice Ao105 t131.length co105) t131 1 t153 t154 w _ ?side1 ?side2 A102.out).mono ?_); (case side1 => exact pT HB.out); (case side2 => exact Kd.R_tight rfl HO_10.out); rintro e w106 ⟨rfl, hy0, hb, hkp⟩; refine ⟨_, rfl, ?_⟩; have n0_ := aK (Kd.R_mono (ok' := fun k_ => some k_ ≠ (.slice Ao105 t131.length co105 : Value).ownBlock) (Kd.R_keptB (HO_6.out) hkp (fun k_ hk_ hs_ => (hk_) hs_)) (fun k_ hk_ => hk_.1)); have n1_ := aK (Kd.R_reok rfl hy0 (fun k_ e_ => HO_10.out.1 k_ e_)); have n2_ := aK (Kd.R_mono (ok' := fun k_ => some k_ ≠ (.slice Ao52 t151.length co52 : Value).ownBlock) (Kd.R_keptB ((Kd.R_apart' HO_125002.out (Kd.R_typed HO_10.out) (by decide))) hkp (fun k_ hk_ hs_ => (hk_.2) hs_)) (fun k_ hk_ => hk_.1.1)); have n3_ := aK (Kd.R_mono (ok' := fun k_ => some k_ ≠ (.slice Ao44 t149.length co44 : Value).ownBlock) (Kd.R_keptB ((Kd.R_apart' HO_131002.out (Kd.R_typed HO_10.out) (by decide))) hkp (fun k_ hk_ hs_ => (hk_.2) hs_)) (fun k_ hk_ => hk_.1.1)); have n4_ := aK (hb); clear HO_6 HO_10 HO_125002 HO_131002 HB; have HO_6 := n0_; have HO_10 := n1_; have HO_125002 := n2_; have HO_131002 := n3_; have HB := n4_; clear n0_ n1_ n2_ n3_ n4_; (try clear hb); (try clear hkp); (try clear hy0)) | ((with_reducible refine gate_callee (f := 21) rfl ?_); refine goesL_ (some 88) rfl rfl Try.func21 (by kernel_rfl) rfl #[.slice Ao105 t154.length co105, .int .i64 1] rfl (by (try simp only [List.map_toArray, List.map_cons, List.map_nil]); first | done | (rw [show t154.length = t131.length from (Kd.R_reads' HO_10.out).1.symm] <;> rfl) | rfl | (simp only [List.length_drop, List.length_take]; rfl)) ?_; (with_reducible refine (laws_heldMotionS.calls kj73 _ _ t154 1 t155 _ ?side1 ?side2 A103.out).mono ?_); (case side1 => repeat (first | exact (Kd.R_reads' HO_10.out).2.2 | (with_reducible refine Kd.C_alloc ?_ _) | (with_reducible refine Kd.C_drewN ?_ _) | (with_reducible refine Kd.C_drew ?_))); (case side2 => rw [show t154.length = t131.length from (Kd.R_reads' HO_10.out).1.symm]; exact (Kd.R_reads' HO_10.out).2.1); rintro e w' ⟨rfl, ⟨nd, rfl⟩⟩; refine ⟨_, rfl, ?_⟩))
        go_ret
        exact ⟨by first | rfl | (simp [errW_none, errW_some] <;> rfl) | (simp [*, errW_none, errW_some] <;> rfl), pT HB.out⟩
       rw [if_neg c104] at H
       have c104b0 : decide (t155 < 0) = false := decide_eq_false c104
       clear c104
       by_cases c107 : t155 = t153
       ·
        rw [if_pos c107] at H
        have c107b0 : (t155 == t153) = true := beq_iff_eq.mpr c107
        have c107b1 : (t155 != t153) = false := bne_eq_false_iff_eq.mpr c107
        clear c107
        replace H := Option.bind_eq_some_iff.mp H
        obtain ⟨⟨t156, t157, t158⟩, A1080, H⟩ := H
        replace H : ((laws_toField.f kj73 a1_0 a1_1 l1_2).bind fun bt161 => ((impl_RankMotions.f kj73 t156 t157 t158 bt161.1 bt161.2.1 bt161.2.2).bind fun bt166 => ((laws_eqMotionS.f kj73 bt166.1 t115).bind fun t170 => (if t170 = true then (laws_FnExactRankMotions.j2 kj73 t154 t153 (bt166.2 != t118)) else (laws_FnExactRankMotions.j2 kj73 t154 t153 true))))) = some r := H
        have A108 := Aside0.mk A1080
        clear A1080
        replace H := Option.bind_eq_some_iff.mp H
        obtain ⟨⟨t161, t162, t163⟩, A1090, H⟩ := H
        replace H : ((impl_RankMotions.f kj73 t156 t157 t158 t161 t162 t163).bind fun bt166 => ((laws_eqMotionS.f kj73 bt166.1 t115).bind fun t170 => (if t170 = true then (laws_FnExactRankMotions.j2 kj73 t154 t153 (bt166.2 != t118)) else (laws_FnExactRankMotions.j2 kj73 t154 t153 true)))) = some r := H
        have A109 := Aside0.mk A1090
        clear A1090
        replace H := Option.bind_eq_some_iff.mp H
        obtain ⟨⟨t166, t169⟩, A1100, H⟩ := H
        replace H : ((laws_eqMotionS.f kj73 t166 t115).bind fun t170 => (if t170 = true then (laws_FnExactRankMotions.j2 kj73 t154 t153 (t169 != t118)) else (laws_FnExactRankMotions.j2 kj73 t154 t153 true))) = some r := H
        have A110 := Aside0.mk A1100
        clear A1100
        have HC111 := Aside0.mk H
        clear H
        obtain ⟨Ao112, co112, eo112⟩ := Kd.R_slice HO_10.out
        subst eo112
        try go_wp2_with (first | ((with_reducible refine gate_callee (f := 20) rfl ?_); refine gl (some 85) Try.func20 #[.slice Ao112 t131.length co112, .int .i64 1] ?_; (with_reducible refine (laws_markMotionS.calls kj73 (fun k_ => some k_ = (.slice Ao112 t131.length co112 : Value).ownBlock) (.slice Ao112 t131.length co112) t131 1 t153 t154 w _ ?side1 ?side2 A102.out).mono ?_); (case side1 => exact pT HB.out); (case side2 => exact Kd.R_tight rfl HO_10.out); rintro e w113 ⟨rfl, hy0, hb, hkp⟩; refine ⟨_, rfl, ?_⟩; have n0_ := aK (Kd.R_mono (ok' := fun k_ => some k_ ≠ (.slice Ao112 t131.length co112 : Value).ownBlock) (Kd.R_keptB (HO_6.out) hkp (fun k_ hk_ hs_ => (hk_) hs_)) (fun k_ hk_ => hk_.1)); have n1_ := aK (Kd.R_reok rfl hy0 (fun k_ e_ => HO_10.out.1 k_ e_)); have n2_ := aK (Kd.R_mono (ok' := fun k_ => some k_ ≠ (.slice Ao52 t151.length co52 : Value).ownBlock) (Kd.R_keptB ((Kd.R_apart' HO_125002.out (Kd.R_typed HO_10.out) (by decide))) hkp (fun k_ hk_ hs_ => (hk_.2) hs_)) (fun k_ hk_ => hk_.1.1)); have n3_ := aK (Kd.R_mono (ok' := fun k_ => some k_ ≠ (.slice Ao44 t149.length co44 : Value).ownBlock) (Kd.R_keptB ((Kd.R_apart' HO_131002.out (Kd.R_typed HO_10.out) (by decide))) hkp (fun k_ hk_ hs_ => (hk_.2) hs_)) (fun k_ hk_ => hk_.1.1)); have n4_ := aK (blk_kept (pB BK101.out) hkp (fun hs_ => (fun e_ => (Kd.R_ne HO_10.out BK101.out (by decide)) e_) hs_)); have n5_ := aK (blk_kept (pB BK102.out) hkp (fun hs_ => (fun e_ => (Kd.R_ne HO_10.out BK102.out (by decide)) e_) hs_)); have n6_ := aK (blk_kept (pB BK124.out) hkp (fun hs_ => (fun e_ => (Kd.R_ne HO_10.out BK124.out (by decide)) e_) hs_)); have n7_ := aK (blk_kept (pB BK130.out) hkp (fun hs_ => (fun e_ => (Kd.R_ne HO_10.out BK130.out (by decide)) e_) hs_)); have n8_ := aK (hb); clear HO_6 HO_10 HO_125002 HO_131002 BK101 BK102 BK124 BK130 HB; have HO_6 := n0_; have HO_10 := n1_; have HO_125002 := n2_; have HO_131002 := n3_; have BK101 := n4_; have BK102 := n5_; have BK124 := n6_; have BK130 := n7_; have HB := n8_; clear n0_ n1_ n2_ n3_ n4_ n5_ n6_ n7_ n8_; (try clear hb); (try clear hkp); (try clear hy0)) | ((with_reducible refine gate_callee (f := 21) rfl ?_); refine goesL_ (some 88) rfl rfl Try.func21 (by kernel_rfl) rfl #[.slice Ao112 t154.length co112, .int .i64 1] rfl (by (try simp only [List.map_toArray, List.map_cons, List.map_nil]); first | done | (rw [show t154.length = t131.length from (Kd.R_reads' HO_10.out).1.symm] <;> rfl) | rfl | (simp only [List.length_drop, List.length_take]; rfl)) ?_; (with_reducible refine (laws_heldMotionS.calls kj73 _ _ t154 1 t155 _ ?side1 ?side2 A103.out).mono ?_); (case side1 => repeat (first | exact (Kd.R_reads' HO_10.out).2.2 | (with_reducible refine Kd.C_alloc ?_ _) | (with_reducible refine Kd.C_drewN ?_ _) | (with_reducible refine Kd.C_drew ?_))); (case side2 => rw [show t154.length = t131.length from (Kd.R_reads' HO_10.out).1.symm]; exact (Kd.R_reads' HO_10.out).2.1); rintro e w' ⟨rfl, ⟨nd, rfl⟩⟩; refine ⟨_, rfl, ?_⟩))
        (try (rw [drewN_self w113]; generalize hq_ : World.drewN w113 _ = w113; have n0_ : Aside0 (Kd.R k37 37 w113 w.heap.size (fun k_ => some k_ ≠ (v116 : Value).ownBlock) (.slice Ao112 t131.length co112) t154) := ⟨by rw [← hq_]; exact (pR HO_10.out)⟩; have n1_ : Aside0 (Kd.R (Kd.int .i64) 3 w113 w.heap.size (fun k_ => some k_ ≠ (.slice Ao52 t151.length co52 : Value).ownBlock) (.slice Ao44 t149.length co44) t149) := ⟨by rw [← hq_]; exact (pR HO_125002.out)⟩; have n2_ : Aside0 (Kd.R (Kd.int .i64) 3 w113 w.heap.size (fun k_ => some k_ ≠ (.slice Ao44 t149.length co44 : Value).ownBlock) (.slice Ao52 t151.length co52) t151) := ⟨by rw [← hq_]; exact (pR HO_131002.out)⟩; have n3_ : Aside0 (Kd.R k37 37 w113 w.heap.size (fun k_ => some k_ ≠ (.slice Ao112 t131.length co112 : Value).ownBlock) v116 t115) := ⟨by rw [← hq_]; exact (pR HO_6.out)⟩; have n4_ : Aside0 (w113.heap[gb101]? = some (.cells #[.int .i64 a0_0, .int .i64 a0_1, .slice A0_2 l0_2.length c0_2] 24 (0, 0))) := ⟨by rw [← hq_]; exact (pB BK101.out)⟩; have n5_ : Aside0 (w113.heap[gb102]? = some (.cells #[.int .i64 a1_0, .int .i64 a1_1, .slice A1_2 l1_2.length c1_2] 24 (0, 0))) := ⟨by rw [← hq_]; exact (pB BK102.out)⟩; have n6_ : Aside0 (w113.heap[gb124]? = some (.cells #[.int .i64 t119, .int .i64 t120, .slice Ao44 t149.length co44] 29 (0, 0))) := ⟨by rw [← hq_]; exact (pB BK124.out)⟩; have n7_ : Aside0 (w113.heap[gb130]? = some (.cells #[.int .i64 t125, .int .i64 t126, .slice Ao52 t151.length co52] 29 (0, 0))) := ⟨by rw [← hq_]; exact (pB BK130.out)⟩; have n8_ : Aside0 (Below w.heap.size w w113) := ⟨by rw [← hq_]; exact (pS HB.out)⟩; clear HO_10 HO_125002 HO_131002 HO_6 BK101 BK102 BK124 BK130 HB hq_; have HO_10 := n0_; have HO_125002 := n1_; have HO_131002 := n2_; have HO_6 := n3_; have BK101 := n4_; have BK102 := n5_; have BK124 := n6_; have BK130 := n7_; have HB := n8_; clear n0_ n1_ n2_ n3_ n4_ n5_ n6_ n7_ n8_))
        have n0_ := aK (Kd.R_drew HO_6.out)
        have n1_ := aK (Kd.R_drew HO_10.out)
        have n2_ := aK (Kd.R_drew HO_125002.out)
        have n3_ := aK (Kd.R_drew HO_131002.out)
        have n4_ := aK (blk_drew BK101.out)
        have n5_ := aK (blk_drew BK102.out)
        have n6_ := aK (blk_drew BK124.out)
        have n7_ := aK (blk_drew BK130.out)
        have n8_ := aK (below_drew1 HB.out)
        clear HO_6 HO_10 HO_125002 HO_131002 BK101 BK102 BK124 BK130 HB
        have HO_6 := n0_
        have HO_10 := n1_
        have HO_125002 := n2_
        have HO_131002 := n3_
        have BK101 := n4_
        have BK102 := n5_
        have BK124 := n6_
        have BK130 := n7_
        have HB := n8_
        clear n0_ n1_ n2_ n3_ n4_ n5_ n6_ n7_ n8_
        refine start_ (n := 10) (S := fun w' => w'.cell? ⟨gb101, 0, none⟩ = some (.int .i64 a0_0) ∧ w'.cell? ⟨gb101, 1, none⟩ = some (.int .i64 a0_1) ∧ w'.cell? ⟨gb101, 2, none⟩ = some (.slice A0_2 l0_2.length c0_2) ∧ w'.cell? ⟨gb102, 0, none⟩ = some (.int .i64 a1_0) ∧ w'.cell? ⟨gb102, 1, none⟩ = some (.int .i64 a1_1) ∧ w'.cell? ⟨gb102, 2, none⟩ = some (.slice A1_2 l1_2.length c1_2)) (ds := []) #[false, false, false, false, false, false, false, false, false, false] (by kernel_rfl) rfl rfl ⟨(blk_cell BK101.out 0).trans rfl, (blk_cell BK101.out 1).trans rfl, (blk_cell BK101.out 2).trans rfl, (blk_cell BK102.out 0).trans rfl, (blk_cell BK102.out 1).trans rfl, (blk_cell BK102.out 2).trans rfl⟩ (fun hHeld => ?_); refine with_tabW laws_FnExactRankMotions.tab31 laws_FnExactRankMotions.bits31 (fun HT_ HW_ => ?_)
        generalize w113.drew = w114 at HO_6 HO_10 HO_125002 HO_131002 BK101 BK102 BK124 BK130 HB hHeld ⊢
        refine take_ (i := 0) (N := some 95) (v := ?_) (a' := ?_) #[true, false, false, false, false, false, false, false, false, false] rfl rfl (take_ofW HT_.out HW_.out (by kernel_rfl)) (fun _ _ _ h => h) (Or.inl ⟨by rfl, ?_⟩) hHeld ?_ ?_
        rotate_left
        ·
         rintro w' ⟨s0, s1, s2, s3, s4, s5⟩
         go_simp
         with_reducible rfl
        rotate_left
        ·
         simp only [sP]
         rfl
        refine take_ (i := 2) (N := some 97) (v := ?_) (a' := ?_) #[true, false, true, false, false, false, false, false, false, false] rfl rfl (take_ofW HT_.out HW_.out (by kernel_rfl)) (fun _ _ _ h => h) (Or.inl ⟨by rfl, ?_⟩) hHeld ?_ ?_
        rotate_left
        ·
         rintro w' ⟨s0, s1, s2, s3, s4, s5⟩
         go_simp
         with_reducible rfl
        rotate_left
        ·
         simp only [sP]
         rfl
        refine one_ (i := 1) (N := some 96) #[true, true, true, false, false, false, false, false, false, false] rfl rfl (one_of HT_.out (by kernel_rfl)) (by decide) (fun K hK => ?_)
        refine goes_ Try.func15 (by kernel_rfl) rfl #[.agg #[.int .i64 a0_0, .int .i64 a0_1, .slice A0_2 l0_2.length c0_2]] (by rfl) rfl rfl (by (try simp only [List.map_toArray, List.map_cons, List.map_nil]); first | done | rfl | (simp only [List.length_drop, List.length_take]; rfl)) ?_
        with_reducible refine (laws_toField.calls kj73 a0_0 a0_1 _ _ l0_2 t156 t157 t158 _ ?side1 ?side2 A108.out).mono ?_
        (case side1 => exact pC (Kd.C_below HR0_2.out HB.out))
        (case side2 => exact HC0_2.out)
        rintro e w115 ⟨v159, rfl, ho0, hb⟩
        refine ⟨_, rfl, ?_⟩
        have n0_ := aK (Kd.R_below (pR HO_6.out) hb)
        have n1_ := aK (Kd.R_below (pR HO_10.out) hb)
        have n2_ := aK (Kd.R_elder' (pR HO_125002.out) (Kd.R_base ho0) hb)
        have n3_ := aK (Kd.R_elder' (pR HO_131002.out) (Kd.R_base ho0) hb)
        have HO160 := aK (Kd.R_lower (Kd.R_new' (Kd.R_new' ho0 (Kd.R_lt (pR HO_125002.out))) (Kd.R_lt (pR HO_131002.out))) (below_size (pS HB.out)))
        replace BK101 := bB BK101 hb
        replace BK102 := bB BK102 hb
        replace BK124 := bB BK124 hb
        replace BK130 := bB BK130 hb
        replace HB := bS HB hb
        clear HO_6 HO_10 HO_125002 HO_131002
        have HO_6 := n0_
        have HO_10 := n1_
        have HO_125002 := n2_
        have HO_131002 := n3_
        clear n0_ n1_ n2_ n3_
        (try clear hb)
        (try clear hb2)
        (try clear hk)
        (try clear hi)
        (try clear ho0)
        refine hK.out _ _ ⟨(blk_cell BK101.out 0).trans rfl, (blk_cell BK101.out 1).trans rfl, (blk_cell BK101.out 2).trans rfl, (blk_cell BK102.out 0).trans rfl, (blk_cell BK102.out 1).trans rfl, (blk_cell BK102.out 2).trans rfl⟩ (fun hHeld => ?_)
        clear hK K
        refine norm_ (a' := ?_) ?_ ?_
        rotate_left
        ·
         show Act.put _ (some 96) _ = _
         simp only [sP]
         rfl
        refine one_ (i := 3) (N := some 98) #[true, true, true, true, false, false, false, false, false, false] rfl rfl (one_of HT_.out (by kernel_rfl)) (by decide) (fun K hK => ?_)
        refine goes_ Try.func15 (by kernel_rfl) rfl #[.agg #[.int .i64 a1_0, .int .i64 a1_1, .slice A1_2 l1_2.length c1_2]] (by rfl) rfl rfl (by (try simp only [List.map_toArray, List.map_cons, List.map_nil]); first | done | rfl | (simp only [List.length_drop, List.length_take]; rfl)) ?_
        with_reducible refine (laws_toField.calls kj73 a1_0 a1_1 _ _ l1_2 t161 t162 t163 _ ?side1 ?side2 A109.out).mono ?_
        (case side1 => exact pC (Kd.C_below HR1_2.out HB.out))
        (case side2 => exact HC1_2.out)
        rintro e w116 ⟨v164, rfl, ho0, hb⟩
        refine ⟨_, rfl, ?_⟩
        have n0_ := aK (Kd.R_below (pR HO_6.out) hb)
        have n1_ := aK (Kd.R_below (pR HO_10.out) hb)
        have n2_ := aK (Kd.R_elder' (pR HO_125002.out) (Kd.R_base ho0) hb)
        have n3_ := aK (Kd.R_elder' (pR HO_131002.out) (Kd.R_base ho0) hb)
        have n4_ := aK (Kd.R_elder' (pR HO160.out) (Kd.R_base ho0) hb)
        have HO165 := aK (Kd.R_lower (Kd.R_new' (Kd.R_new' (Kd.R_new' ho0 (Kd.R_lt (pR HO_125002.out))) (Kd.R_lt (pR HO_131002.out))) (Kd.R_lt (pR HO160.out))) (below_size (pS HB.out)))
        replace BK101 := bB BK101 hb
        replace BK102 := bB BK102 hb
        replace BK124 := bB BK124 hb
        replace BK130 := bB BK130 hb
        replace HB := bS HB hb
        clear HO_6 HO_10 HO_125002 HO_131002 HO160
        have HO_6 := n0_
        have HO_10 := n1_
        have HO_125002 := n2_
        have HO_131002 := n3_
        have HO160 := n4_
        clear n0_ n1_ n2_ n3_ n4_
        (try clear hb)
        (try clear hb2)
        (try clear hk)
        (try clear hi)
        (try clear ho0)
        obtain ⟨Ao117, co117, eo117⟩ := Kd.R_slice HO160.out
        (first | subst eo117 | (injection eo117 with f1_ f2_ f3_; have f4_ := f1_.symm; have f5_ := f3_.symm; clear f1_ f2_ f3_; subst f4_; subst f5_))
        obtain ⟨Ao118, co118, eo118⟩ := Kd.R_slice HO165.out
        (first | subst eo118 | (injection eo118 with f1_ f2_ f3_; have f4_ := f1_.symm; have f5_ := f3_.symm; clear f1_ f2_ f3_; subst f4_; subst f5_))
        refine hK.out _ _ ⟨(blk_cell BK101.out 0).trans rfl, (blk_cell BK101.out 1).trans rfl, (blk_cell BK101.out 2).trans rfl, (blk_cell BK102.out 0).trans rfl, (blk_cell BK102.out 1).trans rfl, (blk_cell BK102.out 2).trans rfl⟩ (fun hHeld => ?_)
        clear hK K
        refine norm_ (a' := ?_) ?_ ?_
        rotate_left
        ·
         show Act.put _ (some 98) _ = _
         simp only [sP]
         rfl
        refine one_ (i := 4) (N := some 99) #[true, true, true, true, true, false, false, false, false, false] rfl rfl (one_of HT_.out (by kernel_rfl)) (by decide) (fun K hK => ?_)
        refine goes_ Try.func16 (by kernel_rfl) rfl #[.agg #[.int .i64 t156, .int .i64 t157, .slice Ao117 t158.length co117], .agg #[.int .i64 t161, .int .i64 t162, .slice Ao118 t163.length co118]] (by rfl) rfl rfl (by (try simp only [List.map_toArray, List.map_cons, List.map_nil]); first | done | rfl | (simp only [List.length_drop, List.length_take]; rfl)) ?_
        with_reducible refine (impl_RankMotions.calls kj73 t156 t157 (fun k_ => some k_ = (.slice Ao117 t158.length co117 : Value).ownBlock) _ _ t158 t161 t162 (fun k_ => some k_ = (.slice Ao118 t163.length co118 : Value).ownBlock) _ _ t163 t166 t169 _ ?side1 ?side2 A110.out).mono ?_
        (case side1 => exact Kd.R_V (Kd.R_tight rfl (Kd.R_types (Kd.R_types (Kd.R_types (Kd.R_types (Kd.R_apart' (Kd.R_apart' (HO160.out) (Kd.R_typed HO_6.out) (by decide)) (Kd.R_typed HO_10.out) (by decide)) BK101.out (by decide)) BK102.out (by decide)) BK124.out (by decide)) BK130.out (by decide))))
        (case side2 => exact Kd.R_V (Kd.R_tight rfl (Kd.R_types (Kd.R_types (Kd.R_types (Kd.R_types (Kd.R_apart' (Kd.R_apart' (HO165.out) (Kd.R_typed HO_6.out) (by decide)) (Kd.R_typed HO_10.out) (by decide)) BK101.out (by decide)) BK102.out (by decide)) BK124.out (by decide)) BK130.out (by decide))))
        rintro e w119 ⟨v167, rfl, ho0, hb⟩
        refine ⟨_, rfl, ?_⟩
        have n0_ := aK (Kd.R_elder' (pR HO_6.out) (Kd.R_base ho0) hb)
        have n1_ := aK (Kd.R_elder' (pR HO_10.out) (Kd.R_base ho0) hb)
        have n2_ := aK (Kd.R_below (pR HO_125002.out) hb)
        have n3_ := aK (Kd.R_below (pR HO_131002.out) hb)
        have n4_ := aK (Kd.R_below (pR HO160.out) hb)
        have n5_ := aK (Kd.R_below (pR HO165.out) hb)
        have HO168 := aK (Kd.R_lower (Kd.R_new' (Kd.R_new' (Kd.R_mono (ok' := fun k_ => True) ho0 (fun _ hk_ => trivial)) (Kd.R_lt (pR HO_6.out))) (Kd.R_lt (pR HO_10.out))) (below_size (pS HB.out)))
        replace BK101 := bB BK101 hb
        replace BK102 := bB BK102 hb
        replace BK124 := bB BK124 hb
        replace BK130 := bB BK130 hb
        replace HB := bS HB hb
        clear HO_6 HO_10 HO_125002 HO_131002 HO160 HO165
        have HO_6 := n0_
        have HO_10 := n1_
        have HO_125002 := n2_
        have HO_131002 := n3_
        have HO160 := n4_
        have HO165 := n5_
        clear n0_ n1_ n2_ n3_ n4_ n5_
        (try clear hb)
        (try clear hb2)
        (try clear hk)
        (try clear hi)
        (try clear ho0)
        refine hK.out _ _ ⟨(blk_cell BK101.out 0).trans rfl, (blk_cell BK101.out 1).trans rfl, (blk_cell BK101.out 2).trans rfl, (blk_cell BK102.out 0).trans rfl, (blk_cell BK102.out 1).trans rfl, (blk_cell BK102.out 2).trans rfl⟩ (fun hHeld => ?_)
        clear hK K
        refine norm_ (a' := ?_) ?_ ?_
        rotate_left
        ·
         show Act.put _ (some 99) _ = _
         simp only [sP]
         rfl
        refine pure_ (i := 5) (N := some 94) (v := ?_) (a' := ?_) #[true, true, true, true, true, true, false, false, false, false] rfl rfl (any_of HT_.out (by kernel_rfl)) (fun _ _ _ h => h) (Or.inl ⟨by rfl, ?_⟩) ?_ ?_
        rotate_left
        ·
         intro w'
         go_simp
         with_reducible rfl
        rotate_left
        ·
         simp only [sP]
         rfl
        refine pure_ (i := 6) (N := some 100) (v := ?_) (a' := ?_) #[true, true, true, true, true, true, true, false, false, false] rfl rfl (any_of HT_.out (by kernel_rfl)) (fun _ _ _ h => h) (Or.inl ⟨by rfl, ?_⟩) ?_ ?_
        rotate_left
        ·
         intro w'
         go_simp
         with_reducible rfl
        rotate_left
        ·
         simp only [sP]
         rfl
        refine pure_ (i := 7) (N := some 101) (v := ?_) (a' := ?_) #[true, true, true, true, true, true, true, true, false, false] rfl rfl (any_of HT_.out (by kernel_rfl)) (fun _ _ _ h => h) (Or.inl ⟨by rfl, ?_⟩) ?_ ?_
        rotate_left
        ·
         intro w'
         go_simp
         with_reducible rfl
        rotate_left
        ·
         simp only [sP]
         rfl
        refine pure_ (i := 8) (N := some 15) (v := ?_) (a' := ?_) #[true, true, true, true, true, true, true, true, true, false] rfl rfl (any_of HT_.out (by kernel_rfl)) (fun _ _ _ h => h) (Or.inl ⟨by rfl, ?_⟩) ?_ ?_
        rotate_left
        ·
         intro w'
         go_simp
         with_reducible rfl
        rotate_left
        ·
         simp only [sP]
         rfl
        refine pure_ (i := 9) (N := some 16) (v := ?_) (a' := ?_) #[true, true, true, true, true, true, true, true, true, true] rfl rfl (any_of HT_.out (by kernel_rfl)) (fun _ _ _ h => h) (Or.inl ⟨by rfl, ?_⟩) ?_ ?_
        rotate_left
        ·
         intro w'
         go_simp
         with_reducible rfl
        rotate_left
        ·
         simp only [sP]
         rfl
        refine done_ (done_of HT_.out (by kernel_rfl)) ?_
        go_upto_region 32 with (fail)
        go_cut [110] (fun v110 wc => ∃ (kq : Nat) (x110_110 : Bool), v110 = .bool x110_110 ∧ Aside0 (laws_FnExactRankMotions.j2 kq t154 t153 x110_110 = some r) ∧ Aside0 (kq ≤ kj73) ∧ Aside0 (Kd.R k37 37 wc w.heap.size (fun _ => True) (.slice Ao112 t131.length co112) t154) ∧ Aside0 (Below w.heap.size w wc))
        case first =>
         have H := HC111.out
         clear HC111
         replace H := Option.bind_eq_some_iff.mp H
         obtain ⟨t170, A1200, H⟩ := H
         replace H : (if t170 = true then (laws_FnExactRankMotions.j2 kj73 t154 t153 (t169 != t118)) else (laws_FnExactRankMotions.j2 kj73 t154 t153 true)) = some r := H
         have A120 := Aside0.mk A1200
         clear A1200
         by_cases c121 : t170 = true
         ·
          subst c121
          have H1 : (laws_FnExactRankMotions.j2 kj73 t154 t153 (t169 != t118)) = some r := by rw [if_pos rfl] at H; exact H
          clear H
          have H := H1
          clear H1
          have H' := Aside0.mk H
          clear H
          obtain ⟨Ao122, co122, eo122⟩ := Kd.R_slice HO168.out
          subst eo122
          obtain ⟨Ao123, co123, eo123⟩ := Kd.R_slice HO_6.out
          subst eo123
          go_wp2_with (first | ((with_reducible refine gate_callee (f := 17) rfl ?_); refine gl (some 104) Try.func17 #[.slice Ao122 t166.length co122, .slice Ao123 t115.length co123] ?_; (with_reducible refine (laws_eqMotionS.calls kj73 _ _ t166 _ _ t115 true _ ?side1 ?side2 ?side3 ?side4 A120.out).mono ?_); (case side1 => repeat (first | exact (Kd.R_reads' HO168.out).2.2 | (with_reducible refine Kd.C_alloc ?_ _) | (with_reducible refine Kd.C_drewN ?_ _) | (with_reducible refine Kd.C_drew ?_))); (case side2 => exact (Kd.R_reads' HO168.out).2.1); (case side3 => repeat (first | exact (Kd.R_reads' HO_6.out).2.2 | (with_reducible refine Kd.C_alloc ?_ _) | (with_reducible refine Kd.C_drewN ?_ _) | (with_reducible refine Kd.C_drew ?_))); (case side4 => exact (Kd.R_reads' HO_6.out).2.1); rintro e w124 ⟨rfl, hb⟩; refine ⟨_, rfl, ?_⟩; have n0_ := aK (Kd.R_below (pR HO_6.out) hb); have n1_ := aK (Kd.R_below (pR HO_10.out) hb); have n2_ := aK (Kd.R_below (pR HO_125002.out) hb); have n3_ := aK (Kd.R_below (pR HO_131002.out) hb); have n4_ := aK (Kd.R_below (pR HO160.out) hb); have n5_ := aK (Kd.R_below (pR HO165.out) hb); have n6_ := aK (Kd.R_below (pR HO168.out) hb); replace HB := bS HB hb; clear HO_6 HO_10 HO_125002 HO_131002 HO160 HO165 HO168; have HO_6 := n0_; have HO_10 := n1_; have HO_125002 := n2_; have HO_131002 := n3_; have HO160 := n4_; have HO165 := n5_; have HO168 := n6_; clear n0_ n1_ n2_ n3_ n4_ n5_ n6_; (try clear hb); (try clear hb2); (try clear hk); (try clear hi)))
          go_meet
          case rel => exact ⟨_, ((t169 != t118)), (by first | rfl | (simp; done) | (simp [*]; done)), H', ⟨by have := HJ23.out; have := HJ73.out; first | omega | exact Nat.le_refl _⟩, ⟨by (try simp only [hl125002_73]); (try simp only [hl131002_73]); (with_reducible repeat (first | apply Kd.R_alloc | apply Kd.R_drewN | apply Kd.R_drew)); exact Kd.R_mono HO_10.out (fun _ hk => trivial)⟩, ⟨pT HB.out⟩⟩
         replace c121 := Bool.eq_false_iff.mpr c121
         subst c121
         have H1 : (laws_FnExactRankMotions.j2 kj73 t154 t153 true) = some r := by rw [if_neg (show ¬ (false = true) by decide)] at H; exact H
         clear H
         have H := H1
         clear H1
         have H' := Aside0.mk H
         clear H
         obtain ⟨Ao125, co125, eo125⟩ := Kd.R_slice HO168.out
         subst eo125
         obtain ⟨Ao126, co126, eo126⟩ := Kd.R_slice HO_6.out
         subst eo126
         go_wp2_with (first | ((with_reducible refine gate_callee (f := 17) rfl ?_); refine gl (some 104) Try.func17 #[.slice Ao125 t166.length co125, .slice Ao126 t115.length co126] ?_; (with_reducible refine (laws_eqMotionS.calls kj73 _ _ t166 _ _ t115 false _ ?side1 ?side2 ?side3 ?side4 A120.out).mono ?_); (case side1 => repeat (first | exact (Kd.R_reads' HO168.out).2.2 | (with_reducible refine Kd.C_alloc ?_ _) | (with_reducible refine Kd.C_drewN ?_ _) | (with_reducible refine Kd.C_drew ?_))); (case side2 => exact (Kd.R_reads' HO168.out).2.1); (case side3 => repeat (first | exact (Kd.R_reads' HO_6.out).2.2 | (with_reducible refine Kd.C_alloc ?_ _) | (with_reducible refine Kd.C_drewN ?_ _) | (with_reducible refine Kd.C_drew ?_))); (case side4 => exact (Kd.R_reads' HO_6.out).2.1); rintro e w127 ⟨rfl, hb⟩; refine ⟨_, rfl, ?_⟩; have n0_ := aK (Kd.R_below (pR HO_6.out) hb); have n1_ := aK (Kd.R_below (pR HO_10.out) hb); have n2_ := aK (Kd.R_below (pR HO_125002.out) hb); have n3_ := aK (Kd.R_below (pR HO_131002.out) hb); have n4_ := aK (Kd.R_below (pR HO160.out) hb); have n5_ := aK (Kd.R_below (pR HO165.out) hb); have n6_ := aK (Kd.R_below (pR HO168.out) hb); replace HB := bS HB hb; clear HO_6 HO_10 HO_125002 HO_131002 HO160 HO165 HO168; have HO_6 := n0_; have HO_10 := n1_; have HO_125002 := n2_; have HO_131002 := n3_; have HO160 := n4_; have HO165 := n5_; have HO168 := n6_; clear n0_ n1_ n2_ n3_ n4_ n5_ n6_; (try clear hb); (try clear hb2); (try clear hk); (try clear hi)))
         go_meet
         case rel => exact ⟨_, (true), (by first | rfl | (simp; done) | (simp [*]; done)), H', ⟨by have := HJ23.out; have := HJ73.out; first | omega | exact Nat.le_refl _⟩, ⟨by (try simp only [hl125002_73]); (try simp only [hl131002_73]); (with_reducible repeat (first | apply Kd.R_alloc | apply Kd.R_drewN | apply Kd.R_drew)); exact Kd.R_mono HO_10.out (fun _ hk => trivial)⟩, ⟨pT HB.out⟩⟩
        case rest =>
         clear HC111
         try clear c1
         try clear c2
         try clear p2
         try clear c3
         try clear c4
         try clear c4b0
         try clear c5
         try clear c6
         try clear c7
         try clear c8
         try clear c9
         try clear c10
         try clear c10b0
         try clear c12
         try clear c13
         try clear c14
         try clear c15
         try clear c16
         try clear c17
         try clear c18
         try clear c19
         try clear c20
         try clear c21
         try clear c27
         try clear c41
         try clear c42
         try clear c48
         try clear c49
         try clear c50
         try clear c58
         try clear c65
         try clear c68
         try clear c71
         try clear c83
         try clear c84
         try clear c85
         try clear c88
         try clear c89
         try clear c92
         try clear c92b0
         try clear c94
         try clear c101
         try clear c104
         try clear c104b0
         try clear c107
         try clear c107b0
         try clear c107b1
         try clear c121
         try clear hcz14_0
         try clear hcz14_1
         try clear hcz14_2
         try clear hcz16_0
         try clear hcz16_1
         try clear hcz16_2
         try clear hcz28_0
         try clear hcz28_1
         try clear hcz28_2
         try clear hcz30_0
         try clear hcz30_1
         try clear hcz30_2
         try clear hcz38_0
         try clear hcz38_1
         try clear hcz38_2
         try clear hcz43_0
         try clear hcz43_1
         try clear hcz43_2
         try clear hcz45_0
         try clear hcz45_1
         try clear hcz45_2
         try clear hcz51_0
         try clear hcz51_1
         try clear hcz51_2
         try clear hcz54_0
         try clear hcz54_1
         try clear hcz54_2
         try clear hcz55_0
         try clear hcz55_1
         try clear hcz55_2
         try clear hcz7_0
         try clear hcz7_1
         try clear hcz7_2
         try clear hcz86_0
         try clear hcz86_1
         try clear hcz86_2
         try clear hcz90_0
         try clear hcz90_1
         try clear hcz90_2
         try clear hfz14_0
         try clear hfz14_1
         try clear hfz14_2
         try clear hfz16_0
         try clear hfz16_1
         try clear hfz16_2
         try clear hfz28_0
         try clear hfz28_1
         try clear hfz28_2
         try clear hfz30_0
         try clear hfz30_1
         try clear hfz30_2
         try clear hfz38_0
         try clear hfz38_1
         try clear hfz38_2
         try clear hfz43_0
         try clear hfz43_1
         try clear hfz43_2
         try clear hfz45_0
         try clear hfz45_1
         try clear hfz45_2
         try clear hfz51_0
         try clear hfz51_1
         try clear hfz51_2
         try clear hfz54_0
         try clear hfz54_1
         try clear hfz54_2
         try clear hfz55_0
         try clear hfz55_1
         try clear hfz55_2
         try clear hfz7_0
         try clear hfz7_1
         try clear hfz7_2
         try clear hfz86_0
         try clear hfz86_1
         try clear hfz86_2
         try clear hfz90_0
         try clear hfz90_1
         try clear hfz90_2
         try clear p2
         obtain ⟨kq, x110_110, rfl, HA, HJ110, HO_10, HB⟩ := hcut
         have hl10_110 := (Kd.R_reads' HO_10.out).1
         rw [hl10_110] at HO_10
         (try simp only [hl10_110])
         cases kq with
         | zero => exact absurd HA.out (by simp [laws_FnExactRankMotions.j2])
         | succ kj110 =>
          have H := HA.out
          clear HA
          simp only [laws_FnExactRankMotions.j2] at H
          by_cases c128 : x110_110 = true
          ·
           subst c128
           have H1 : (some false) = some r := by rw [if_pos rfl] at H; exact H
           clear H
           have H := H1
           clear H1
           obtain rfl := Option.some.inj H
           go_wp2
           go_ret
           exact ⟨by first | rfl | (simp [errW_none, errW_some] <;> rfl) | (simp [*, errW_none, errW_some] <;> rfl), pT HB.out⟩
          replace c128 := Bool.eq_false_iff.mpr c128
          subst c128
          have H1 : ((laws_heldMotionS.f kj110 t154 1).bind fun t171 => (if t171 < 0 then (some false) else (if t171 = t153 then (some true) else (some false)))) = some r := by rw [if_neg (show ¬ (false = true) by decide)] at H; exact H
          clear H
          have H := H1
          clear H1
          replace H := Option.bind_eq_some_iff.mp H
          obtain ⟨t171, A1290, H⟩ := H
          replace H : (if t171 < 0 then (some false) else (if t171 = t153 then (some true) else (some false))) = some r := H
          have A129 := Aside0.mk A1290
          clear A1290
          by_cases c130 : t171 < 0
          ·
           rw [if_pos c130] at H
           have c130b0 : decide (t171 < 0) = true := decide_eq_true c130
           clear c130
           obtain rfl := Option.some.inj H
           go_wp2_with (first | ((with_reducible refine gate_callee (f := 21) rfl ?_); refine gl (some 113) Try.func21 #[.slice Ao112 t154.length co112, .int .i64 1] ?_; (with_reducible refine (laws_heldMotionS.calls kj110 _ _ t154 1 t171 _ ?side1 ?side2 A129.out).mono ?_); (case side1 => repeat (first | exact (Kd.R_reads' HO_10.out).2.2 | (with_reducible refine Kd.C_alloc ?_ _) | (with_reducible refine Kd.C_drewN ?_ _) | (with_reducible refine Kd.C_drew ?_))); (case side2 => exact (Kd.R_reads' HO_10.out).2.1); rintro e w' ⟨rfl, ⟨nd, rfl⟩⟩; refine ⟨_, rfl, ?_⟩))
           go_ret
           exact ⟨by first | rfl | (simp [errW_none, errW_some] <;> rfl) | (simp [*, errW_none, errW_some] <;> rfl), pT HB.out⟩
          rw [if_neg c130] at H
          have c130b0 : decide (t171 < 0) = false := decide_eq_false c130
          clear c130
          by_cases c131 : t171 = t153
          ·
           rw [if_pos c131] at H
           have c131b0 : (t171 == t153) = true := beq_iff_eq.mpr c131
           have c131b1 : (t171 != t153) = false := bne_eq_false_iff_eq.mpr c131
           clear c131
           obtain rfl := Option.some.inj H
           go_wp2_with (first | ((with_reducible refine gate_callee (f := 21) rfl ?_); refine gl (some 113) Try.func21 #[.slice Ao112 t154.length co112, .int .i64 1] ?_; (with_reducible refine (laws_heldMotionS.calls kj110 _ _ t154 1 t171 _ ?side1 ?side2 A129.out).mono ?_); (case side1 => repeat (first | exact (Kd.R_reads' HO_10.out).2.2 | (with_reducible refine Kd.C_alloc ?_ _) | (with_reducible refine Kd.C_drewN ?_ _) | (with_reducible refine Kd.C_drew ?_))); (case side2 => exact (Kd.R_reads' HO_10.out).2.1); rintro e w' ⟨rfl, ⟨nd, rfl⟩⟩; refine ⟨_, rfl, ?_⟩))
           go_ret
           exact ⟨by first | rfl | (simp [errW_none, errW_some] <;> rfl) | (simp [*, errW_none, errW_some] <;> rfl), pT HB.out⟩
          rw [if_neg c131] at H
          have c131b0 : (t171 == t153) = false := beq_eq_false_iff_ne.mpr c131
          have c131b1 : (t171 != t153) = true := bne_iff_ne.mpr c131
          obtain rfl := Option.some.inj H
          go_wp2_with (first | ((with_reducible refine gate_callee (f := 21) rfl ?_); refine gl (some 113) Try.func21 #[.slice Ao112 t154.length co112, .int .i64 1] ?_; (with_reducible refine (laws_heldMotionS.calls kj110 _ _ t154 1 t171 _ ?side1 ?side2 A129.out).mono ?_); (case side1 => repeat (first | exact (Kd.R_reads' HO_10.out).2.2 | (with_reducible refine Kd.C_alloc ?_ _) | (with_reducible refine Kd.C_drewN ?_ _) | (with_reducible refine Kd.C_drew ?_))); (case side2 => exact (Kd.R_reads' HO_10.out).2.1); rintro e w' ⟨rfl, ⟨nd, rfl⟩⟩; refine ⟨_, rfl, ?_⟩))
          go_ret
          exact ⟨by first | rfl | (simp [errW_none, errW_some] <;> rfl) | (simp [*, errW_none, errW_some] <;> rfl), pT HB.out⟩
       rw [if_neg c107] at H
       have c107b0 : (t155 == t153) = false := beq_eq_false_iff_ne.mpr c107
       have c107b1 : (t155 != t153) = true := bne_iff_ne.mpr c107
       obtain rfl := Option.some.inj H
       obtain ⟨Ao132, co132, eo132⟩ := Kd.R_slice HO_10.out
       subst eo132
       go_wp2_with (first | ((with_reducible refine gate_callee (f := 20) rfl ?_); refine gl (some 85) Try.func20 #[.slice Ao132 t131.length co132, .int .i64 1] ?_; (with_reducible refine (laws_markMotionS.calls kj73 (fun k_ => some k_ = (.slice Ao132 t131.length co132 : Value).ownBlock) (.slice Ao132 t131.length co132) t131 1 t153 t154 w _ ?side1 ?side2 A102.out).mono ?_); (case side1 => exact pT HB.out); (case side2 => exact Kd.R_tight rfl HO_10.out); rintro e w133 ⟨rfl, hy0, hb, hkp⟩; refine ⟨_, rfl, ?_⟩; have n0_ := aK (Kd.R_mono (ok' := fun k_ => some k_ ≠ (.slice Ao132 t131.length co132 : Value).ownBlock) (Kd.R_keptB (HO_6.out) hkp (fun k_ hk_ hs_ => (hk_) hs_)) (fun k_ hk_ => hk_.1)); have n1_ := aK (Kd.R_reok rfl hy0 (fun k_ e_ => HO_10.out.1 k_ e_)); have n2_ := aK (Kd.R_mono (ok' := fun k_ => some k_ ≠ (.slice Ao52 t151.length co52 : Value).ownBlock) (Kd.R_keptB ((Kd.R_apart' HO_125002.out (Kd.R_typed HO_10.out) (by decide))) hkp (fun k_ hk_ hs_ => (hk_.2) hs_)) (fun k_ hk_ => hk_.1.1)); have n3_ := aK (Kd.R_mono (ok' := fun k_ => some k_ ≠ (.slice Ao44 t149.length co44 : Value).ownBlock) (Kd.R_keptB ((Kd.R_apart' HO_131002.out (Kd.R_typed HO_10.out) (by decide))) hkp (fun k_ hk_ hs_ => (hk_.2) hs_)) (fun k_ hk_ => hk_.1.1)); have n4_ := aK (hb); clear HO_6 HO_10 HO_125002 HO_131002 HB; have HO_6 := n0_; have HO_10 := n1_; have HO_125002 := n2_; have HO_131002 := n3_; have HB := n4_; clear n0_ n1_ n2_ n3_ n4_; (try clear hb); (try clear hkp); (try clear hy0)) | ((with_reducible refine gate_callee (f := 21) rfl ?_); refine goesL_ (some 88) rfl rfl Try.func21 (by kernel_rfl) rfl #[.slice Ao132 t154.length co132, .int .i64 1] rfl (by (try simp only [List.map_toArray, List.map_cons, List.map_nil]); first | done | (rw [show t154.length = t131.length from (Kd.R_reads' HO_10.out).1.symm] <;> rfl) | rfl | (simp only [List.length_drop, List.length_take]; rfl)) ?_; (with_reducible refine (laws_heldMotionS.calls kj73 _ _ t154 1 t155 _ ?side1 ?side2 A103.out).mono ?_); (case side1 => repeat (first | exact (Kd.R_reads' HO_10.out).2.2 | (with_reducible refine Kd.C_alloc ?_ _) | (with_reducible refine Kd.C_drewN ?_ _) | (with_reducible refine Kd.C_drew ?_))); (case side2 => rw [show t154.length = t131.length from (Kd.R_reads' HO_10.out).1.symm]; exact (Kd.R_reads' HO_10.out).2.1); rintro e w' ⟨rfl, ⟨nd, rfl⟩⟩; refine ⟨_, rfl, ?_⟩))
       go_ret
       exact ⟨by first | rfl | (simp [errW_none, errW_some] <;> rfl) | (simp [*, errW_none, errW_some] <;> rfl), pT HB.out⟩
    replace c71 := Bool.eq_false_iff.mpr c71
    subst c71
    have H1 : (some false) = some r := by rw [if_neg (show ¬ (false = true) by decide)] at H; exact H
    clear H
    have H := H1
    clear H1
    obtain rfl := Option.some.inj H
    try go_wp2
    have n0_ := aK (Kd.R_drew HO_6.out)
    have n1_ := aK (Kd.R_drew HO_10.out)
    have n2_ := aK (Kd.R_drew HO_125002.out)
    have n3_ := aK (Kd.R_drew HO_131002.out)
    have n4_ := aK (blk_drew BK101.out)
    have n5_ := aK (blk_drew BK102.out)
    have n6_ := aK (blk_drew BK124.out)
    have n7_ := aK (blk_drew BK130.out)
    have n8_ := aK (below_drew1 HB.out)
    clear HO_6 HO_10 HO_125002 HO_131002 BK101 BK102 BK124 BK130 HB
    have HO_6 := n0_
    have HO_10 := n1_
    have HO_125002 := n2_
    have HO_131002 := n3_
    have BK101 := n4_
    have BK102 := n5_
    have BK124 := n6_
    have BK130 := n7_
    have HB := n8_
    clear n0_ n1_ n2_ n3_ n4_ n5_ n6_ n7_ n8_
    refine start_ (n := 5) (S := fun w' => w'.cell? ⟨gb124, 0, none⟩ = some (.int .i64 t119) ∧ w'.cell? ⟨gb124, 1, none⟩ = some (.int .i64 t120) ∧ w'.cell? ⟨gb124, 2, none⟩ = some (.slice Ao44 t121.length co44) ∧ w'.cell? ⟨gb101, 0, none⟩ = some (.int .i64 a0_0) ∧ w'.cell? ⟨gb101, 1, none⟩ = some (.int .i64 a0_1) ∧ w'.cell? ⟨gb101, 2, none⟩ = some (.slice A0_2 l0_2.length c0_2)) (ds := []) #[false, false, false, false, false] (by kernel_rfl) rfl rfl ⟨(blk_cell BK124.out 0).trans rfl, (blk_cell BK124.out 1).trans rfl, (blk_cell BK124.out 2).trans rfl, (blk_cell BK101.out 0).trans rfl, (blk_cell BK101.out 1).trans rfl, (blk_cell BK101.out 2).trans rfl⟩ (fun hHeld => ?_)
    generalize wc.drew = w134 at HO_6 HO_10 HO_125002 HO_131002 BK101 BK102 BK124 BK130 HB hHeld ⊢
    refine take_ (i := 0) (N := some 54) (v := ?_) (a' := ?_) #[true, false, false, false, false] rfl rfl (by kernel_rfl) (fun _ _ _ h => h) (Or.inl ⟨by rfl, ?_⟩) hHeld ?_ ?_
    rotate_left
    ·
     rintro w' ⟨s0, s1, s2, s3, s4, s5⟩
     go_simp
     with_reducible rfl
    rotate_left
    ·
     simp only [sP]
     rfl
    refine take_ (i := 1) (N := some 55) (v := ?_) (a' := ?_) #[true, true, false, false, false] rfl rfl (by kernel_rfl) (fun _ _ _ h => h) (Or.inl ⟨by rfl, ?_⟩) hHeld ?_ ?_
    rotate_left
    ·
     rintro w' ⟨s0, s1, s2, s3, s4, s5⟩
     go_simp
     with_reducible rfl
    rotate_left
    ·
     simp only [sP]
     rfl
    refine one_ (i := 2) (N := some 56) #[true, true, true, false, false] rfl rfl (by kernel_rfl) (by decide) (fun K hK => ?_)
    refine goes_ Try.func15 (by kernel_rfl) rfl #[.agg #[.int .i64 a0_0, .int .i64 a0_1, .slice A0_2 l0_2.length c0_2]] (by rfl) rfl rfl (by (try simp only [List.map_toArray, List.map_cons, List.map_nil]); first | done | rfl | (simp only [List.length_drop, List.length_take]; rfl)) ?_
    with_reducible refine (laws_toField.calls kj23 a0_0 a0_1 _ _ l0_2 t136 t137 t138 _ ?side1 ?side2 A66.out).mono ?_
    (case side1 => exact pC (Kd.C_below HR0_2.out HB.out))
    (case side2 => exact HC0_2.out)
    rintro e w135 ⟨v139, rfl, ho0, hb⟩
    refine ⟨_, rfl, ?_⟩
    have n0_ := aK (Kd.R_below (pR HO_6.out) hb)
    have n1_ := aK (Kd.R_below (pR HO_10.out) hb)
    have n2_ := aK (Kd.R_elder' (pR HO_125002.out) (Kd.R_base ho0) hb)
    have n3_ := aK (Kd.R_elder' (pR HO_131002.out) (Kd.R_base ho0) hb)
    have HO140 := aK (Kd.R_lower (Kd.R_new' (Kd.R_new' ho0 (Kd.R_lt (pR HO_125002.out))) (Kd.R_lt (pR HO_131002.out))) (below_size (pS HB.out)))
    replace BK101 := bB BK101 hb
    replace BK102 := bB BK102 hb
    replace BK124 := bB BK124 hb
    replace BK130 := bB BK130 hb
    replace HB := bS HB hb
    clear HO_6 HO_10 HO_125002 HO_131002
    have HO_6 := n0_
    have HO_10 := n1_
    have HO_125002 := n2_
    have HO_131002 := n3_
    clear n0_ n1_ n2_ n3_
    (try clear hb)
    (try clear hb2)
    (try clear hk)
    (try clear hi)
    (try clear ho0)
    obtain ⟨Ao136, co136, eo136⟩ := Kd.R_slice HO140.out
    (first | subst eo136 | (injection eo136 with f1_ f2_ f3_; have f4_ := f1_.symm; have f5_ := f3_.symm; clear f1_ f2_ f3_; subst f4_; subst f5_))
    refine hK.out _ _ ⟨(blk_cell BK124.out 0).trans rfl, (blk_cell BK124.out 1).trans rfl, (blk_cell BK124.out 2).trans rfl, (blk_cell BK101.out 0).trans rfl, (blk_cell BK101.out 1).trans rfl, (blk_cell BK101.out 2).trans rfl⟩ (fun hHeld => ?_)
    clear hK K
    refine norm_ (a' := ?_) ?_ ?_
    rotate_left
    ·
     show Act.put _ (some 56) _ = _
     simp only [sP]
     rfl
    refine one_ (i := 3) (N := some 57) #[true, true, true, true, false] rfl rfl (by kernel_rfl) (by decide) (fun K hK => ?_)
    refine goes_ Try.func18 (by kernel_rfl) rfl #[.agg #[.int .i64 t119, .int .i64 t120, .slice Ao44 t121.length co44], .agg #[.int .i64 t136, .int .i64 t137, .slice Ao136 t138.length co136]] (by rfl) rfl rfl (by (try simp only [List.map_toArray, List.map_cons, List.map_nil]); first | done | rfl | (simp only [List.length_drop, List.length_take]; rfl)) ?_
    with_reducible refine (laws_eqField.calls kj23 t119 t120 _ _ t121 t136 t137 _ _ t138 true _ ?side1 ?side2 ?side3 ?side4 A67.out).mono ?_
    (case side1 => repeat (first | exact (Kd.R_reads' HO_125002.out).2.2 | (with_reducible refine Kd.C_alloc ?_ _) | (with_reducible refine Kd.C_drewN ?_ _) | (with_reducible refine Kd.C_drew ?_)))
    (case side2 => exact (Kd.R_reads' HO_125002.out).2.1)
    (case side3 => repeat (first | exact (Kd.R_reads' HO140.out).2.2 | (with_reducible refine Kd.C_alloc ?_ _) | (with_reducible refine Kd.C_drewN ?_ _) | (with_reducible refine Kd.C_drew ?_)))
    (case side4 => exact (Kd.R_reads' HO140.out).2.1)
    rintro e w137 ⟨rfl, hb⟩
    refine ⟨_, rfl, ?_⟩
    have n0_ := aK (Kd.R_below (pR HO_6.out) hb)
    have n1_ := aK (Kd.R_below (pR HO_10.out) hb)
    have n2_ := aK (Kd.R_below (pR HO_125002.out) hb)
    have n3_ := aK (Kd.R_below (pR HO_131002.out) hb)
    have n4_ := aK (Kd.R_below (pR HO140.out) hb)
    replace BK101 := bB BK101 hb
    replace BK102 := bB BK102 hb
    replace BK124 := bB BK124 hb
    replace BK130 := bB BK130 hb
    replace HB := bS HB hb
    clear HO_6 HO_10 HO_125002 HO_131002 HO140
    have HO_6 := n0_
    have HO_10 := n1_
    have HO_125002 := n2_
    have HO_131002 := n3_
    have HO140 := n4_
    clear n0_ n1_ n2_ n3_ n4_
    (try clear hb)
    (try clear hb2)
    (try clear hk)
    (try clear hi)
    refine hK.out _ _ ⟨(blk_cell BK124.out 0).trans rfl, (blk_cell BK124.out 1).trans rfl, (blk_cell BK124.out 2).trans rfl, (blk_cell BK101.out 0).trans rfl, (blk_cell BK101.out 1).trans rfl, (blk_cell BK101.out 2).trans rfl⟩ (fun hHeld => ?_)
    clear hK K
    refine norm_ (a' := ?_) ?_ ?_
    rotate_left
    ·
     show Act.put _ (some 57) _ = _
     simp only [sP]
     rfl
    refine pure_ (i := 4) (N := some 58) (v := ?_) (a' := ?_) #[true, true, true, true, true] rfl rfl (by kernel_rfl) (fun _ _ _ h => h) (Or.inl ⟨by rfl, ?_⟩) ?_ ?_
    rotate_left
    ·
     intro w'
     go_simp
     with_reducible rfl
    rotate_left
    ·
     simp only [sP]
     rfl
    refine done_ (by kernel_rfl) ?_
    try go_wp2
    have n0_ := aK (Kd.R_drew HO_6.out)
    have n1_ := aK (Kd.R_drew HO_10.out)
    have n2_ := aK (Kd.R_drew HO_125002.out)
    have n3_ := aK (Kd.R_drew HO_131002.out)
    have n4_ := aK (Kd.R_drew HO140.out)
    have n5_ := aK (blk_drew BK101.out)
    have n6_ := aK (blk_drew BK102.out)
    have n7_ := aK (blk_drew BK124.out)
    have n8_ := aK (blk_drew BK130.out)
    have n9_ := aK (below_drew1 HB.out)
    clear HO_6 HO_10 HO_125002 HO_131002 HO140 BK101 BK102 BK124 BK130 HB
    have HO_6 := n0_
    have HO_10 := n1_
    have HO_125002 := n2_
    have HO_131002 := n3_
    have HO140 := n4_
    have BK101 := n5_
    have BK102 := n6_
    have BK124 := n7_
    have BK130 := n8_
    have HB := n9_
    clear n0_ n1_ n2_ n3_ n4_ n5_ n6_ n7_ n8_ n9_
    refine start_ (n := 5) (S := fun w' => w'.cell? ⟨gb130, 0, none⟩ = some (.int .i64 t125) ∧ w'.cell? ⟨gb130, 1, none⟩ = some (.int .i64 t126) ∧ w'.cell? ⟨gb130, 2, none⟩ = some (.slice Ao52 t127.length co52) ∧ w'.cell? ⟨gb102, 0, none⟩ = some (.int .i64 a1_0) ∧ w'.cell? ⟨gb102, 1, none⟩ = some (.int .i64 a1_1) ∧ w'.cell? ⟨gb102, 2, none⟩ = some (.slice A1_2 l1_2.length c1_2)) (ds := []) #[false, false, false, false, false] (by kernel_rfl) rfl rfl ⟨(blk_cell BK130.out 0).trans rfl, (blk_cell BK130.out 1).trans rfl, (blk_cell BK130.out 2).trans rfl, (blk_cell BK102.out 0).trans rfl, (blk_cell BK102.out 1).trans rfl, (blk_cell BK102.out 2).trans rfl⟩ (fun hHeld => ?_)
    generalize w137.drew = w138 at HO_6 HO_10 HO_125002 HO_131002 HO140 BK101 BK102 BK124 BK130 HB hHeld ⊢
    refine take_ (i := 0) (N := some 59) (v := ?_) (a' := ?_) #[true, false, false, false, false] rfl rfl (by kernel_rfl) (fun _ _ _ h => h) (Or.inl ⟨by rfl, ?_⟩) hHeld ?_ ?_
    rotate_left
    ·
     rintro w' ⟨s0, s1, s2, s3, s4, s5⟩
     go_simp
     with_reducible rfl
    rotate_left
    ·
     simp only [sP]
     rfl
    refine take_ (i := 1) (N := some 60) (v := ?_) (a' := ?_) #[true, true, false, false, false] rfl rfl (by kernel_rfl) (fun _ _ _ h => h) (Or.inl ⟨by rfl, ?_⟩) hHeld ?_ ?_
    rotate_left
    ·
     rintro w' ⟨s0, s1, s2, s3, s4, s5⟩
     go_simp
     with_reducible rfl
    rotate_left
    ·
     simp only [sP]
     rfl
    refine one_ (i := 2) (N := some 61) #[true, true, true, false, false] rfl rfl (by kernel_rfl) (by decide) (fun K hK => ?_)
    refine goes_ Try.func15 (by kernel_rfl) rfl #[.agg #[.int .i64 a1_0, .int .i64 a1_1, .slice A1_2 l1_2.length c1_2]] (by rfl) rfl rfl (by (try simp only [List.map_toArray, List.map_cons, List.map_nil]); first | done | rfl | (simp only [List.length_drop, List.length_take]; rfl)) ?_
    with_reducible refine (laws_toField.calls kj23 a1_0 a1_1 _ _ l1_2 t142 t143 t144 _ ?side1 ?side2 A69.out).mono ?_
    (case side1 => exact pC (Kd.C_below HR1_2.out HB.out))
    (case side2 => exact HC1_2.out)
    rintro e w139 ⟨v145, rfl, ho0, hb⟩
    refine ⟨_, rfl, ?_⟩
    have n0_ := aK (Kd.R_below (pR HO_6.out) hb)
    have n1_ := aK (Kd.R_below (pR HO_10.out) hb)
    have n2_ := aK (Kd.R_elder' (pR HO_125002.out) (Kd.R_base ho0) hb)
    have n3_ := aK (Kd.R_elder' (pR HO_131002.out) (Kd.R_base ho0) hb)
    have n4_ := aK (Kd.R_elder' (pR HO140.out) (Kd.R_base ho0) hb)
    have HO146 := aK (Kd.R_lower (Kd.R_new' (Kd.R_new' (Kd.R_new' ho0 (Kd.R_lt (pR HO_125002.out))) (Kd.R_lt (pR HO_131002.out))) (Kd.R_lt (pR HO140.out))) (below_size (pS HB.out)))
    replace BK101 := bB BK101 hb
    replace BK102 := bB BK102 hb
    replace BK124 := bB BK124 hb
    replace BK130 := bB BK130 hb
    replace HB := bS HB hb
    clear HO_6 HO_10 HO_125002 HO_131002 HO140
    have HO_6 := n0_
    have HO_10 := n1_
    have HO_125002 := n2_
    have HO_131002 := n3_
    have HO140 := n4_
    clear n0_ n1_ n2_ n3_ n4_
    (try clear hb)
    (try clear hb2)
    (try clear hk)
    (try clear hi)
    (try clear ho0)
    obtain ⟨Ao140, co140, eo140⟩ := Kd.R_slice HO146.out
    (first | subst eo140 | (injection eo140 with f1_ f2_ f3_; have f4_ := f1_.symm; have f5_ := f3_.symm; clear f1_ f2_ f3_; subst f4_; subst f5_))
    refine hK.out _ _ ⟨(blk_cell BK130.out 0).trans rfl, (blk_cell BK130.out 1).trans rfl, (blk_cell BK130.out 2).trans rfl, (blk_cell BK102.out 0).trans rfl, (blk_cell BK102.out 1).trans rfl, (blk_cell BK102.out 2).trans rfl⟩ (fun hHeld => ?_)
    clear hK K
    refine norm_ (a' := ?_) ?_ ?_
    rotate_left
    ·
     show Act.put _ (some 61) _ = _
     simp only [sP]
     rfl
    refine one_ (i := 3) (N := some 62) #[true, true, true, true, false] rfl rfl (by kernel_rfl) (by decide) (fun K hK => ?_)
    refine goes_ Try.func18 (by kernel_rfl) rfl #[.agg #[.int .i64 t125, .int .i64 t126, .slice Ao52 t127.length co52], .agg #[.int .i64 t142, .int .i64 t143, .slice Ao140 t144.length co140]] (by rfl) rfl rfl (by (try simp only [List.map_toArray, List.map_cons, List.map_nil]); first | done | rfl | (simp only [List.length_drop, List.length_take]; rfl)) ?_
    with_reducible refine (laws_eqField.calls kj23 t125 t126 _ _ t127 t142 t143 _ _ t144 false _ ?side1 ?side2 ?side3 ?side4 A70.out).mono ?_
    (case side1 => repeat (first | exact (Kd.R_reads' HO_131002.out).2.2 | (with_reducible refine Kd.C_alloc ?_ _) | (with_reducible refine Kd.C_drewN ?_ _) | (with_reducible refine Kd.C_drew ?_)))
    (case side2 => exact (Kd.R_reads' HO_131002.out).2.1)
    (case side3 => repeat (first | exact (Kd.R_reads' HO146.out).2.2 | (with_reducible refine Kd.C_alloc ?_ _) | (with_reducible refine Kd.C_drewN ?_ _) | (with_reducible refine Kd.C_drew ?_)))
    (case side4 => exact (Kd.R_reads' HO146.out).2.1)
    rintro e w141 ⟨rfl, hb⟩
    refine ⟨_, rfl, ?_⟩
    have n0_ := aK (Kd.R_below (pR HO_6.out) hb)
    have n1_ := aK (Kd.R_below (pR HO_10.out) hb)
    have n2_ := aK (Kd.R_below (pR HO_125002.out) hb)
    have n3_ := aK (Kd.R_below (pR HO_131002.out) hb)
    have n4_ := aK (Kd.R_below (pR HO140.out) hb)
    have n5_ := aK (Kd.R_below (pR HO146.out) hb)
    replace BK101 := bB BK101 hb
    replace BK102 := bB BK102 hb
    replace BK124 := bB BK124 hb
    replace BK130 := bB BK130 hb
    replace HB := bS HB hb
    clear HO_6 HO_10 HO_125002 HO_131002 HO140 HO146
    have HO_6 := n0_
    have HO_10 := n1_
    have HO_125002 := n2_
    have HO_131002 := n3_
    have HO140 := n4_
    have HO146 := n5_
    clear n0_ n1_ n2_ n3_ n4_ n5_
    (try clear hb)
    (try clear hb2)
    (try clear hk)
    (try clear hi)
    refine hK.out _ _ ⟨(blk_cell BK130.out 0).trans rfl, (blk_cell BK130.out 1).trans rfl, (blk_cell BK130.out 2).trans rfl, (blk_cell BK102.out 0).trans rfl, (blk_cell BK102.out 1).trans rfl, (blk_cell BK102.out 2).trans rfl⟩ (fun hHeld => ?_)
    clear hK K
    refine norm_ (a' := ?_) ?_ ?_
    rotate_left
    ·
     show Act.put _ (some 62) _ = _
     simp only [sP]
     rfl
    refine pure_ (i := 4) (N := some 63) (v := ?_) (a' := ?_) #[true, true, true, true, true] rfl rfl (by kernel_rfl) (fun _ _ _ h => h) (Or.inl ⟨by rfl, ?_⟩) ?_ ?_
    rotate_left
    ·
     intro w'
     go_simp
     with_reducible rfl
    rotate_left
    ·
     simp only [sP]
     rfl
    refine done_ (by kernel_rfl) ?_
    try go_wp2
    go_ret
    exact ⟨by first | rfl | (simp [errW_none, errW_some] <;> rfl) | (simp [*, errW_none, errW_some] <;> rfl), pT HB.out⟩
   replace c68 := Bool.eq_false_iff.mpr c68
   subst c68
   have H1 : (some false) = some r := by rw [if_neg (show ¬ (false = true) by decide)] at H; exact H
   clear H
   have H := H1
   clear H1
   obtain rfl := Option.some.inj H
   try go_wp2
   have n0_ := aK (Kd.R_drew HO_6.out)
   have n1_ := aK (Kd.R_drew HO_10.out)
   have n2_ := aK (Kd.R_drew HO_125002.out)
   have n3_ := aK (Kd.R_drew HO_131002.out)
   have n4_ := aK (blk_drew BK101.out)
   have n5_ := aK (blk_drew BK102.out)
   have n6_ := aK (blk_drew BK124.out)
   have n7_ := aK (blk_drew BK130.out)
   have n8_ := aK (below_drew1 HB.out)
   clear HO_6 HO_10 HO_125002 HO_131002 BK101 BK102 BK124 BK130 HB
   have HO_6 := n0_
   have HO_10 := n1_
   have HO_125002 := n2_
   have HO_131002 := n3_
   have BK101 := n4_
   have BK102 := n5_
   have BK124 := n6_
   have BK130 := n7_
   have HB := n8_
   clear n0_ n1_ n2_ n3_ n4_ n5_ n6_ n7_ n8_
   refine start_ (n := 5) (S := fun w' => w'.cell? ⟨gb124, 0, none⟩ = some (.int .i64 t119) ∧ w'.cell? ⟨gb124, 1, none⟩ = some (.int .i64 t120) ∧ w'.cell? ⟨gb124, 2, none⟩ = some (.slice Ao44 t121.length co44) ∧ w'.cell? ⟨gb101, 0, none⟩ = some (.int .i64 a0_0) ∧ w'.cell? ⟨gb101, 1, none⟩ = some (.int .i64 a0_1) ∧ w'.cell? ⟨gb101, 2, none⟩ = some (.slice A0_2 l0_2.length c0_2)) (ds := []) #[false, false, false, false, false] (by kernel_rfl) rfl rfl ⟨(blk_cell BK124.out 0).trans rfl, (blk_cell BK124.out 1).trans rfl, (blk_cell BK124.out 2).trans rfl, (blk_cell BK101.out 0).trans rfl, (blk_cell BK101.out 1).trans rfl, (blk_cell BK101.out 2).trans rfl⟩ (fun hHeld => ?_)
   generalize wc.drew = w142 at HO_6 HO_10 HO_125002 HO_131002 BK101 BK102 BK124 BK130 HB hHeld ⊢
   refine take_ (i := 0) (N := some 54) (v := ?_) (a' := ?_) #[true, false, false, false, false] rfl rfl (by kernel_rfl) (fun _ _ _ h => h) (Or.inl ⟨by rfl, ?_⟩) hHeld ?_ ?_
   rotate_left
   ·
    rintro w' ⟨s0, s1, s2, s3, s4, s5⟩
    go_simp
    with_reducible rfl
   rotate_left
   ·
    simp only [sP]
    rfl
   refine take_ (i := 1) (N := some 55) (v := ?_) (a' := ?_) #[true, true, false, false, false] rfl rfl (by kernel_rfl) (fun _ _ _ h => h) (Or.inl ⟨by rfl, ?_⟩) hHeld ?_ ?_
   rotate_left
   ·
    rintro w' ⟨s0, s1, s2, s3, s4, s5⟩
    go_simp
    with_reducible rfl
   rotate_left
   ·
    simp only [sP]
    rfl
   refine one_ (i := 2) (N := some 56) #[true, true, true, false, false] rfl rfl (by kernel_rfl) (by decide) (fun K hK => ?_)
   refine goes_ Try.func15 (by kernel_rfl) rfl #[.agg #[.int .i64 a0_0, .int .i64 a0_1, .slice A0_2 l0_2.length c0_2]] (by rfl) rfl rfl (by (try simp only [List.map_toArray, List.map_cons, List.map_nil]); first | done | rfl | (simp only [List.length_drop, List.length_take]; rfl)) ?_
   with_reducible refine (laws_toField.calls kj23 a0_0 a0_1 _ _ l0_2 t136 t137 t138 _ ?side1 ?side2 A66.out).mono ?_
   (case side1 => exact pC (Kd.C_below HR0_2.out HB.out))
   (case side2 => exact HC0_2.out)
   rintro e w143 ⟨v139, rfl, ho0, hb⟩
   refine ⟨_, rfl, ?_⟩
   have n0_ := aK (Kd.R_below (pR HO_6.out) hb)
   have n1_ := aK (Kd.R_below (pR HO_10.out) hb)
   have n2_ := aK (Kd.R_elder' (pR HO_125002.out) (Kd.R_base ho0) hb)
   have n3_ := aK (Kd.R_elder' (pR HO_131002.out) (Kd.R_base ho0) hb)
   have HO140 := aK (Kd.R_lower (Kd.R_new' (Kd.R_new' ho0 (Kd.R_lt (pR HO_125002.out))) (Kd.R_lt (pR HO_131002.out))) (below_size (pS HB.out)))
   replace BK101 := bB BK101 hb
   replace BK102 := bB BK102 hb
   replace BK124 := bB BK124 hb
   replace BK130 := bB BK130 hb
   replace HB := bS HB hb
   clear HO_6 HO_10 HO_125002 HO_131002
   have HO_6 := n0_
   have HO_10 := n1_
   have HO_125002 := n2_
   have HO_131002 := n3_
   clear n0_ n1_ n2_ n3_
   (try clear hb)
   (try clear hb2)
   (try clear hk)
   (try clear hi)
   (try clear ho0)
   obtain ⟨Ao144, co144, eo144⟩ := Kd.R_slice HO140.out
   (first | subst eo144 | (injection eo144 with f1_ f2_ f3_; have f4_ := f1_.symm; have f5_ := f3_.symm; clear f1_ f2_ f3_; subst f4_; subst f5_))
   refine hK.out _ _ ⟨(blk_cell BK124.out 0).trans rfl, (blk_cell BK124.out 1).trans rfl, (blk_cell BK124.out 2).trans rfl, (blk_cell BK101.out 0).trans rfl, (blk_cell BK101.out 1).trans rfl, (blk_cell BK101.out 2).trans rfl⟩ (fun hHeld => ?_)
   clear hK K
   refine norm_ (a' := ?_) ?_ ?_
   rotate_left
   ·
    show Act.put _ (some 56) _ = _
    simp only [sP]
    rfl
   refine one_ (i := 3) (N := some 57) #[true, true, true, true, false] rfl rfl (by kernel_rfl) (by decide) (fun K hK => ?_)
   refine goes_ Try.func18 (by kernel_rfl) rfl #[.agg #[.int .i64 t119, .int .i64 t120, .slice Ao44 t121.length co44], .agg #[.int .i64 t136, .int .i64 t137, .slice Ao144 t138.length co144]] (by rfl) rfl rfl (by (try simp only [List.map_toArray, List.map_cons, List.map_nil]); first | done | rfl | (simp only [List.length_drop, List.length_take]; rfl)) ?_
   with_reducible refine (laws_eqField.calls kj23 t119 t120 _ _ t121 t136 t137 _ _ t138 false _ ?side1 ?side2 ?side3 ?side4 A67.out).mono ?_
   (case side1 => repeat (first | exact (Kd.R_reads' HO_125002.out).2.2 | (with_reducible refine Kd.C_alloc ?_ _) | (with_reducible refine Kd.C_drewN ?_ _) | (with_reducible refine Kd.C_drew ?_)))
   (case side2 => exact (Kd.R_reads' HO_125002.out).2.1)
   (case side3 => repeat (first | exact (Kd.R_reads' HO140.out).2.2 | (with_reducible refine Kd.C_alloc ?_ _) | (with_reducible refine Kd.C_drewN ?_ _) | (with_reducible refine Kd.C_drew ?_)))
   (case side4 => exact (Kd.R_reads' HO140.out).2.1)
   rintro e w145 ⟨rfl, hb⟩
   refine ⟨_, rfl, ?_⟩
   have n0_ := aK (Kd.R_below (pR HO_6.out) hb)
   have n1_ := aK (Kd.R_below (pR HO_10.out) hb)
   have n2_ := aK (Kd.R_below (pR HO_125002.out) hb)
   have n3_ := aK (Kd.R_below (pR HO_131002.out) hb)
   have n4_ := aK (Kd.R_below (pR HO140.out) hb)
   replace BK101 := bB BK101 hb
   replace BK102 := bB BK102 hb
   replace BK124 := bB BK124 hb
   replace BK130 := bB BK130 hb
   replace HB := bS HB hb
   clear HO_6 HO_10 HO_125002 HO_131002 HO140
   have HO_6 := n0_
   have HO_10 := n1_
   have HO_125002 := n2_
   have HO_131002 := n3_
   have HO140 := n4_
   clear n0_ n1_ n2_ n3_ n4_
   (try clear hb)
   (try clear hb2)
   (try clear hk)
   (try clear hi)
   refine hK.out _ _ ⟨(blk_cell BK124.out 0).trans rfl, (blk_cell BK124.out 1).trans rfl, (blk_cell BK124.out 2).trans rfl, (blk_cell BK101.out 0).trans rfl, (blk_cell BK101.out 1).trans rfl, (blk_cell BK101.out 2).trans rfl⟩ (fun hHeld => ?_)
   clear hK K
   refine norm_ (a' := ?_) ?_ ?_
   rotate_left
   ·
    show Act.put _ (some 57) _ = _
    simp only [sP]
    rfl
   refine pure_ (i := 4) (N := some 58) (v := ?_) (a' := ?_) #[true, true, true, true, true] rfl rfl (by kernel_rfl) (fun _ _ _ h => h) (Or.inl ⟨by rfl, ?_⟩) ?_ ?_
   rotate_left
   ·
    intro w'
    go_simp
    with_reducible rfl
   rotate_left
   ·
    simp only [sP]
    rfl
   refine done_ (by kernel_rfl) ?_
   try go_wp2
   go_ret
   exact ⟨by first | rfl | (simp [errW_none, errW_some] <;> rfl) | (simp [*, errW_none, errW_some] <;> rfl), pT HB.out⟩
def laws_FnExactRankMotions.Pure : Prop := ∀ (a0_0 : Int) (a0_1 : Int) (l0_2 : List Int) (a1_0 : Int) (a1_1 : Int) (l1_2 : List Int), (Lit.int .i64 a0_0).wf = true → (Lit.int .i64 a0_1).wf = true → (l0_2.length ≤ 9223372036854775807 ∧ ∀ z0 ∈ l0_2, (Lit.int .i64 z0).wf = true) → (Lit.int .i64 a1_0).wf = true → (Lit.int .i64 a1_1).wf = true → (l1_2.length ≤ 9223372036854775807 ∧ ∀ z0 ∈ l1_2, (Lit.int .i64 z0).wf = true) → ∃ k, laws_FnExactRankMotions.f k a0_0 a0_1 l0_2 a1_0 a1_1 l1_2 = some true
end Go.Proofs.Ytilffhaghabdgaa.P
