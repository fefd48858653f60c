/- Texts of the claim FnMembers, merged: part 4 of 13: the program's and the reference's functions as Lean functions, the walks that show it, and plain lemmas; no conditions. -/
import Derived.Test.YtilffhaghabdgaaKFnMembers3
namespace Go.Proofs.Ytilffhaghabdgaa.P
open Go.RowKit Go.Proofs.YtilffhaghabdgaaW.PrintWords Go.Proofs.YtilffhaghabdgaaW.PrintLast Go.Proofs.YtilffhaghabdgaaW.PrintMore
attribute [local go_sem] max2_int min2_int max_two min_two max_three min_three max_four min_four
set_option linter.unusedVariables false
set_option linter.unusedSimpArgs false
set_option maxHeartbeats 8000000
set_option maxRecDepth 100000
def spec_l1Cur_anyField.f (k : Nat) (s0_0 : List Int) (s0_1 : Int) (s0_2 : Int) : Option (Int × Int × List Int × Int × Int) := (spec_l1Cur_field.f k s0_0 s0_1 s0_2).bind fun bt102 => ((spec_l1Cur_pick.f s0_0 bt102.2.2.2.1 bt102.2.2.2.2 24).bind fun bt110 => (if bt110.1 = 0 then ((spec_l1Cur_among.f s0_0 bt110.2.1 bt110.2.2 (([0, 9, 8, bt102.2.1] : List Int))).bind fun bt116 => (some (bt116.1, bt102.2.1, bt102.2.2.1, bt116.2.1, bt116.2.2))) else (if bt110.1 = 1 then ((spec_l1Cur_pick.f s0_0 bt110.2.1 bt110.2.2 (bt102.2.2.1.length : Int)).bind fun bt119 => ((spec_l1Cur_among.f s0_0 bt119.2.1 bt119.2.2 (([9001, (-9001), (-9998), (-9999)] : List Int))).bind fun bt125 => (if 0 ≤ bt119.1 then (if bt119.1 < (bt102.2.2.1.length : Int) then (some (bt102.1, bt102.2.1, (bt102.2.2.1.set (bt119.1 : Int).toNat bt125.1), bt125.2.1, bt125.2.2)) else (none)) else (none)))) else (if bt110.1 = 2 then (if 1 ≤ (bt102.2.2.1.length : Int) then (some (bt102.1, bt102.2.1, (bt102.2.2.1.drop (1 : Int).toNat), bt110.2.1, bt110.2.2)) else (none)) else (some (bt102.1, bt102.2.1, bt102.2.2.1, bt110.2.1, bt110.2.2))))))
def spec_l1Cur_anyField.T6 : Bool × List (List Nat × List Nat) := (true, [([], []), ([0], [0]), ([], []), ([], []), ([3], [3]), ([4], [4]), ([2, 5], [2, 5]), ([], []), ([], []), ([7, 8, 6], [7, 8]), ([1, 6, 0, 1, 2, 3, 4, 5, 6, 7, 8, 9], [1, 6]), ([10, 9, 9, 0, 1, 2, 3, 4, 5, 6, 7, 8, 9], [9, 10])])
def spec_l1Cur_anyField.B6 : List Nat := [0, 1, 0, 0, 8, 24, 60, 0, 0, 508, 1023, 2047]
theorem spec_l1Cur_anyField.tab6 : rtab .any (opsOf Try.f108 6) = spec_l1Cur_anyField.T6 := by kernel_rfl
theorem spec_l1Cur_anyField.bits6 : waitsOk spec_l1Cur_anyField.T6.2 spec_l1Cur_anyField.B6 = true := by kernel_rfl
theorem spec_l1Cur_anyField.calls (k : Nat) (g : Nat) (s0_0 : List Int) (s0_1 : Int) (s0_2 : Int) (r1 : Int) (r2 : Int) (r3 : List Int) (r4 : Int) (r5 : Int) (w0 w : World) (hI : IsS115 w0 w g s0_0 s0_1 s0_2) (hB : Below w0.heap.size w0 w) (h : spec_l1Cur_anyField.f k s0_0 s0_1 s0_2 = some (r1, r2, r3, r4, r5)) :
  Calls Try.prog 108 #[.pointer (some ⟨g, 0, none⟩)] w fun e w' => ∃ v2_ : Value, e = .returned (.agg #[.int .i64 r1, .int .i64 r2, v2_]) ∧ Kd.Q (Kd.int .i64) 3 w' w.heap.size (fun _ => True) v2_ r3 ∧ IsS115 w0 w' g s0_0 r4 r5 ∧ Below w0.heap.size w0 w' ∧ KeepBut w w' g none := by
 have hu29 := Try.underlying29
 have HI0 := Aside0.mk hI
 have HK := aK (KeepBut.refl w g none)
 have HL := Aside0.mk hB.size
 clear hI
 have HW0 := Aside0.mk hB.size
 have HB := Aside0.mk hB
 clear hB
 have H : ((spec_l1Cur_field.f k s0_0 s0_1 s0_2).bind fun bt102 => ((spec_l1Cur_pick.f s0_0 bt102.2.2.2.1 bt102.2.2.2.2 24).bind fun bt110 => (if bt110.1 = 0 then ((spec_l1Cur_among.f s0_0 bt110.2.1 bt110.2.2 (([0, 9, 8, bt102.2.1] : List Int))).bind fun bt116 => (some (bt116.1, bt102.2.1, bt102.2.2.1, bt116.2.1, bt116.2.2))) else (if bt110.1 = 1 then ((spec_l1Cur_pick.f s0_0 bt110.2.1 bt110.2.2 (bt102.2.2.1.length : Int)).bind fun bt119 => ((spec_l1Cur_among.f s0_0 bt119.2.1 bt119.2.2 (([9001, (-9001), (-9998), (-9999)] : List Int))).bind fun bt125 => (if 0 ≤ bt119.1 then (if bt119.1 < (bt102.2.2.1.length : Int) then (some (bt102.1, bt102.2.1, (bt102.2.2.1.set (bt119.1 : Int).toNat bt125.1), bt125.2.1, bt125.2.2)) else (none)) else (none)))) else (if bt110.1 = 2 then (if 1 ≤ (bt102.2.2.1.length : Int) then (some (bt102.1, bt102.2.1, (bt102.2.2.1.drop (1 : Int).toNat), bt110.2.1, bt110.2.2)) else (none)) else (some (bt102.1, bt102.2.1, bt102.2.2.1, bt110.2.1, bt110.2.2))))))) = some (r1, r2, r3, r4, r5) := h
 clear h
 replace H := Option.bind_eq_some_iff.mp H
 obtain ⟨⟨t102, t103, t104, t107, t108⟩, A20, H⟩ := H
 replace H : ((spec_l1Cur_pick.f s0_0 t107 t108 24).bind fun bt110 => (if bt110.1 = 0 then ((spec_l1Cur_among.f s0_0 bt110.2.1 bt110.2.2 (([0, 9, 8, t103] : List Int))).bind fun bt116 => (some (bt116.1, t103, t104, bt116.2.1, bt116.2.2))) else (if bt110.1 = 1 then ((spec_l1Cur_pick.f s0_0 bt110.2.1 bt110.2.2 (t104.length : Int)).bind fun bt119 => ((spec_l1Cur_among.f s0_0 bt119.2.1 bt119.2.2 (([9001, (-9001), (-9998), (-9999)] : List Int))).bind fun bt125 => (if 0 ≤ bt119.1 then (if bt119.1 < (t104.length : Int) then (some (t102, t103, (t104.set (bt119.1 : Int).toNat bt125.1), bt125.2.1, bt125.2.2)) else (none)) else (none)))) else (if bt110.1 = 2 then (if 1 ≤ (t104.length : Int) then (some (t102, t103, (t104.drop (1 : Int).toNat), bt110.2.1, bt110.2.2)) else (none)) else (some (t102, t103, t104, bt110.2.1, bt110.2.2)))))) = some (r1, r2, r3, r4, r5) := H
 have A2 := Aside0.mk A20
 clear A20
 replace H := Option.bind_eq_some_iff.mp H
 obtain ⟨⟨t110, t111, t112⟩, A30, H⟩ := H
 replace H : (if t110 = 0 then ((spec_l1Cur_among.f s0_0 t111 t112 (([0, 9, 8, t103] : List Int))).bind fun bt116 => (some (bt116.1, t103, t104, bt116.2.1, bt116.2.2))) else (if t110 = 1 then ((spec_l1Cur_pick.f s0_0 t111 t112 (t104.length : Int)).bind fun bt119 => ((spec_l1Cur_among.f s0_0 bt119.2.1 bt119.2.2 (([9001, (-9001), (-9998), (-9999)] : List Int))).bind fun bt125 => (if 0 ≤ bt119.1 then (if bt119.1 < (t104.length : Int) then (some (t102, t103, (t104.set (bt119.1 : Int).toNat bt125.1), bt125.2.1, bt125.2.2)) else (none)) else (none)))) else (if t110 = 2 then (if 1 ≤ (t104.length : Int) then (some (t102, t103, (t104.drop (1 : Int).toNat), t111, t112)) else (none)) else (some (t102, t103, t104, t111, t112))))) = some (r1, r2, r3, r4, r5) := H
 have A3 := Aside0.mk A30
 clear A30
 by_cases c4 : t110 = 0
 ·
  rw [if_pos c4] at H
  have c4b0 : (t110 == 0) = true := beq_iff_eq.mpr c4
  have c4b1 : (t110 != 0) = false := bne_eq_false_iff_eq.mpr c4
  clear c4
  obtain ⟨y113, hy113⟩ : ∃ y_ : List Int, y_ = (([0, 9, 8, t103] : List Int)) := ⟨_, rfl⟩
  replace H : ((spec_l1Cur_among.f s0_0 t111 t112 y113).bind fun bt116 => (some (bt116.1, t103, t104, bt116.2.1, bt116.2.2))) = some (r1, r2, r3, r4, r5) := by first | (rw [hy113]; with_reducible exact H) | (have H2_ := (Option.bind_some _ _).symm.trans H; rw [hy113]; with_reducible exact H2_) | (have H2_ := (Option.bind_some _ _).symm.trans H; with_reducible exact H2_) | with_reducible exact H | (rw [hy113]; exact H) | exact H
  have Ny113 := Aside0.mk hy113
  clear hy113
  replace H := Option.bind_eq_some_iff.mp H
  obtain ⟨⟨t116, t117, t118⟩, A50, H⟩ := H
  replace H : (some (t116, t103, t104, t117, t118)) = some (r1, r2, r3, r4, r5) := H
  have A5 := Aside0.mk A50
  clear A50
  simp only [Option.some.injEq, Prod.mk.injEq] at H
  obtain ⟨rfl, rfl, rfl, rfl, rfl⟩ := H
  go_enter Try.func108, Try.ntmps108
  go_wp2_with (first | ((with_reducible refine gate_dst (N := 2) rfl ?_); refine bxe (cs := #[.int .i64 0, .int .i64 0, .slice none 0 0]) (t := 29) ?_; intro gb101 hg w6 hbox hb; have n0_ := aK (IsS115.below (pI115 HI0.out) hb); have n1_ := aK (KeepBut.trans (pK HK.out) (KeepBut.of_below hb g none) (.inl rfl)); have n2_ := aK (below_step ((pV HB.out (IsS115.ge HI0.out))) hb); have BK101 := aK (hbox); have GW101 := aK ((by rw [hg]; exact (keep_size (w := w) (g := g) (row := none) (pK HK.out)) : w.heap.size ≤ gb101)); have GE101 := aK ((Nat.le_trans HW0.out (by rw [hg]; exact (keep_size (w := w) (g := g) (row := none) (pK HK.out)) : w.heap.size ≤ gb101) : w0.heap.size ≤ gb101)); have NB0_101 := aK ((by rw [hg]; exact Nat.ne_of_lt (IsS115.lt (show IsS115 w0 _ g s0_0 s0_1 s0_2 from pI115 HI0.out)) : g ≠ gb101)); have NB101_0 := aK ((by rw [hg]; exact Nat.ne_of_gt (IsS115.lt (show IsS115 w0 _ g s0_0 s0_1 s0_2 from pI115 HI0.out)) : gb101 ≠ g)); clear HI0 HK HB; have HI0 := n0_; have HK := n1_; have HB := n2_; clear n0_ n1_ n2_; clear hb hbox hg) | ((with_reducible refine gate_callee (f := 163) rfl ?_); refine gl (some 5) Try.func163 #[.pointer (some ⟨g, 0, none⟩)] ?_; (with_reducible refine (spec_l1Cur_field.calls k g s0_0 s0_1 s0_2 t102 t103 t104 t107 t108 w0 _ ?side1 ?side2 A2.out).mono ?_); (case side1 => exact pI115 HI0.out); (case side2 => exact pV HB.out (IsS115.ge HI0.out)); rintro e w7 ⟨v105, rfl, ho0, hi, hb, hk⟩; refine ⟨_, rfl, ?_⟩; have n0_ := aK (KeepBut.blk hk (pB BK101.out) NB101_0.out (by simp)); have HO106 := aK (Kd.R_lower ho0 (keep_size (w := w) (g := g) (row := none) (pK HK.out))); have n2_ := aK (KeepBut.trans (pK HK.out) hk (.inl rfl)); have n3_ := aK (hb); have n4_ := aK (hi); clear BK101 HK HB HI0; have BK101 := n0_; have HK := n2_; have HB := n3_; have HI0 := n4_; clear n0_ n2_ n3_ n4_; (try clear hb); (try clear hb2); (try clear hk); (try clear hi); (try clear ho0)) | ((with_reducible refine gate_dst (N := 3) rfl ?_); refine bxe (cs := #[.int .i64 0, .int .i64 0, .slice none 0 0]) (t := 29) ?_; intro gb109 hg w8 hbox hb; have n0_ := aK (Kd.R_below (pR HO106.out) hb); have n1_ := aK (IsS115.below (pI115 HI0.out) hb); have n3_ := aK (KeepBut.trans (pK HK.out) (KeepBut.of_below hb g none) (.inl rfl)); have n4_ := aK (below_step ((pV HB.out (IsS115.ge HI0.out))) hb); have BK109 := aK (hbox); have GW109 := aK ((by rw [hg]; exact (keep_size (w := w) (g := g) (row := none) (pK HK.out)) : w.heap.size ≤ gb109)); have GE109 := aK ((Nat.le_trans HW0.out (by rw [hg]; exact (keep_size (w := w) (g := g) (row := none) (pK HK.out)) : w.heap.size ≤ gb109) : w0.heap.size ≤ gb109)); obtain ⟨NB101_109, NB109_101⟩ := nb hg (pB BK101.out); have NB0_109 := aK ((by rw [hg]; exact Nat.ne_of_lt (IsS115.lt (show IsS115 w0 _ g s0_0 t107 t108 from pI115 HI0.out)) : g ≠ gb109)); have NB109_0 := aK ((by rw [hg]; exact Nat.ne_of_gt (IsS115.lt (show IsS115 w0 _ g s0_0 t107 t108 from pI115 HI0.out)) : gb109 ≠ g)); replace BK101 := bB BK101 hb; clear HO106 HI0 HK HB; have HO106 := n0_; have HI0 := n1_; have HK := n3_; have HB := n4_; clear n0_ n1_ n3_ n4_ hb hbox hg; have hnb9 := NB109_101.out; have hnc9 := NB101_109.out; have hnb10 := NB109_0.out; have hnc10 := NB0_109.out; obtain ⟨hcz11_0, hcz11_1, hcz11_2, hfz11_0, hfz11_1, hfz11_2⟩ := bc3 BK109.out; obtain ⟨Ao12, co12, eo12⟩ := Kd.R_slice HO106.out; subst eo12) | ((with_reducible refine gate_callee (f := 117) rfl ?_); refine gl (some 7) Try.func117 #[.pointer (some ⟨g, 0, none⟩), .int .i64 24] ?_; (with_reducible refine (spec_l1Cur_pick.calls g s0_0 t107 t108 24 t110 t111 t112 w0 _ ?side1 ?side2 A3.out).mono ?_); (case side1 => exact pI115 HI0.out); (case side2 => exact pV HB.out (IsS115.ge HI0.out)); rintro e w13 ⟨rfl, hi, hb, hk⟩; refine ⟨_, rfl, ?_⟩; have n0_ := aK (KeepBut.blk hk (g' := gb101) (o := .cells #[.int .i64 0, .int .i64 0, .slice none 0 0] 29 (0, 0)) (by refine bk ?_; refine blk_far ?_ NB101_109.out _; refine bk ?_; refine blk_far ?_ NB101_109.out _; refine bk ?_; refine blk_far ?_ NB101_109.out _; refine bk ?_; exact BK101.out) NB101_0.out (by simp)); have n1_ := aK (Kd.R_mono (Kd.R_keep (IsS115.apart (show IsS115 w0 _ g s0_0 t107 t108 from pI115 HI0.out) (pR (rF3 HO106.out BK109.out (.int .i64 t102) (.int .i64 t103) (.slice Ao12 t104.length co12))) (by decide)) hk (fun _ h => h.2)) (fun _ h => h.1)); have n2_ := aK (KeepBut.blk hk (g' := gb109) (o := .cells #[.int .i64 t102, .int .i64 t103, .slice Ao12 t104.length co12] 29 (0, 0)) (by refine bk ?_; refine blk_put (cs := #[.int .i64 t102, .int .i64 t103, .slice none 0 0]) ?_ 2 _ rfl; refine bk ?_; refine blk_put (cs := #[.int .i64 t102, .int .i64 0, .slice none 0 0]) ?_ 1 _ rfl; refine bk ?_; refine blk_put (cs := #[.int .i64 0, .int .i64 0, .slice none 0 0]) ?_ 0 _ rfl; refine bk ?_; exact BK109.out) NB109_0.out (by simp)); have n3_ := aK (KeepBut.trans (pK HK.out) hk (.inl rfl)); have n4_ := aK (hb); have n5_ := aK (hi); clear BK101 HO106 BK109 HK HB HI0; have BK101 := n0_; have HO106 := n1_; have BK109 := n2_; have HK := n3_; have HB := n4_; have HI0 := n5_; clear n0_ n1_ n2_ n3_ n4_ n5_; (try clear hb); (try clear hb2); (try clear hk); (try clear hi); obtain ⟨hcz14_0, hcz14_1, hcz14_2, hfz14_0, hfz14_1, hfz14_2⟩ := bc3 BK109.out) | ((with_reducible refine gate_dst (N := 13) rfl ?_); refine Kd.R_lit (Kd.int .i64) _ 3 ?hg (N := 13) ?hd (xs := ([0, 9, 8, t103] : List Int)) (inner := [.int .i64 0, .int .i64 9, .int .i64 8, .int .i64 t103]) (ok := fun _ => True) (okp := fun _ => True) ?hr ?hp (fun _ hk => hk) trivial (Below.refl _ _) (Nat.le_refl _) (by simp) ?_; (case hd => rfl); (case hg => rfl); (case hr => first | (go_simp; done) | (go_simp; rfl)); (case hp => exact (Reps.one (show Kd.M (Kd.int .i64) _ _ _ 0 [.int .i64 0] from rfl) (Reps.one (show Kd.M (Kd.int .i64) _ _ _ 9 [.int .i64 9] from rfl) (Reps.one (show Kd.M (Kd.int .i64) _ _ _ 8 [.int .i64 8] from rfl) (Reps.one (show Kd.M (Kd.int .i64) _ _ _ t103 [.int .i64 t103] from rfl) (Reps.none _ _)))))); intro v114 w15 ho16 hb hg_ hnew_; clear hg_ hnew_; (first | rw [← Ny113.out] at ho16 | (simp only [Int.reduceToNat] at ho16; rw [← Ny113.out] at ho16)); have n0_ := aK (Kd.R_elder' (pR HO106.out) (Kd.R_base ho16) hb); have HO115 := aK (Kd.R_lower (nw1 ho16 (pR HO106.out)) (keep_size (w := w) (g := g) (row := none) (pK HK.out))); have n2_ := aK (IsS115.below (pI115 HI0.out) hb); have n5_ := aK (KeepBut.trans (pK HK.out) (KeepBut.of_below hb g none) (.inl rfl)); have n6_ := aK (below_step ((pV HB.out (IsS115.ge HI0.out))) hb); replace BK101 := bB BK101 hb; replace BK109 := bB BK109 hb; clear HO106 HI0 HK HB; have HO106 := n0_; have HI0 := n2_; have HK := n5_; have HB := n6_; clear n0_ n2_ n5_ n6_ hb ho16; obtain ⟨Ao17, co17, eo17⟩ := Kd.R_slice HO115.out; subst eo17) | ((with_reducible refine gate_callee (f := 112) rfl ?_); refine gl (some 14) Try.func112 #[.pointer (some ⟨g, 0, none⟩), .slice Ao17 y113.length co17] ?_; (with_reducible refine (spec_l1Cur_among.calls g s0_0 t111 t112 _ _ y113 t116 t117 t118 w0 _ ?side1 ?side2 ?side3 ?side4 ?side5 A5.out).mono ?_); (case side1 => exact pI115 HI0.out); (case side2 => exact pV HB.out (IsS115.ge HI0.out)); (case side3 => exact pC (Kd.R_reads' HO115.out).2.2); (case side4 => exact (Kd.R_reads' HO115.out).2.1); (case side5 => exact far_slice (IsS115.own_ne HI0.out HO115.out (by decide))); rintro e w18 ⟨rfl, hi, hb, hk⟩; refine ⟨_, rfl, ?_⟩; have n0_ := aK (KeepBut.blk hk (pB BK101.out) NB101_0.out (by simp)); have n1_ := aK (Kd.R_mono (Kd.R_keep (IsS115.apart (show IsS115 w0 _ g s0_0 t111 t112 from pI115 HI0.out) (pR HO106.out) (by decide)) hk (fun _ h => h.2)) (fun _ h => h.1)); have n2_ := aK (KeepBut.blk hk (pB BK109.out) NB109_0.out (by simp)); have n3_ := aK (Kd.R_mono (Kd.R_keep (IsS115.apart (show IsS115 w0 _ g s0_0 t111 t112 from pI115 HI0.out) (pR HO115.out) (by decide)) hk (fun _ h => h.2)) (fun _ h => h.1)); have n4_ := aK (KeepBut.trans (pK HK.out) hk (.inl rfl)); have n5_ := aK (hb); have n6_ := aK (hi); clear BK101 HO106 BK109 HO115 HK HB HI0; have BK101 := n0_; have HO106 := n1_; have BK109 := n2_; have HO115 := n3_; have HK := n4_; have HB := n5_; have HI0 := n6_; clear n0_ n1_ n2_ n3_ n4_ n5_ n6_; (try clear hb); (try clear hb2); (try clear hk); (try clear hi); obtain ⟨hcz19_0, hcz19_1, hcz19_2, hfz19_0, hfz19_1, hfz19_2⟩ := bc3 BK109.out; have hnb20 := NB101_0.out; have hnc20 := NB0_101.out; obtain ⟨hcz21_0, hcz21_1, hcz21_2, hfz21_0, hfz21_1, hfz21_2⟩ := bc3 BK101.out))
  refine bodyPost_ret (results_cell_row rfl _ _ gb101 29 #[.int .i64 t116, .int .i64 t103, .slice Ao12 t104.length co12] (0, 0) _ rfl (by refine bk ?_; refine blk_put (cs := #[.int .i64 t116, .int .i64 t103, .slice none 0 0]) ?_ 2 _ rfl; refine bk ?_; refine blk_put (cs := #[.int .i64 t116, .int .i64 0, .slice none 0 0]) ?_ 1 _ rfl; refine bk ?_; refine blk_put (cs := #[.int .i64 0, .int .i64 0, .slice none 0 0]) ?_ 0 _ rfl; refine bk ?_; refine blk_far ?_ NB101_109.out _; refine bk ?_; exact BK101.out) Try.underlying29 rfl (by kernel_rfl)) rfl ?_
  exact ⟨_, er, Kd.Q_of_R (pR (Kd.R_mono (Kd.R_far (p := ⟨gb101, 2, none⟩) (Kd.R_far (p := ⟨gb101, 1, none⟩) (Kd.R_far (p := ⟨gb101, 0, none⟩) (Kd.R_far (p := ⟨gb109, 0, none⟩) (Kd.R_types (Kd.R_types HO106.out BK109.out (by decide)) BK101.out (by decide)) (fun _ hk => hk.1.2) (.int .i64 t116)) (fun _ hk => hk.2) (.int .i64 t116)) (fun _ hk => hk.2) (.int .i64 t103)) (fun _ hk => hk.2) (.slice Ao12 t104.length co12)) (fun _ hk => trivial))), pI115 HI0.out, (pV HB.out (IsS115.ge HI0.out)), pK HK.out⟩
 rw [if_neg c4] at H
 have c4b0 : (t110 == 0) = false := beq_eq_false_iff_ne.mpr c4
 have c4b1 : (t110 != 0) = true := bne_iff_ne.mpr c4
 by_cases c22 : t110 = 1
 ·
  rw [if_pos c22] at H
  have c22b0 : (t110 == 1) = true := beq_iff_eq.mpr c22
  have c22b1 : (t110 != 1) = false := bne_eq_false_iff_eq.mpr c22
  clear c22
  replace H := Option.bind_eq_some_iff.mp H
  obtain ⟨⟨t119, t120, t121⟩, A230, H⟩ := H
  replace H : ((spec_l1Cur_among.f s0_0 t120 t121 (([9001, (-9001), (-9998), (-9999)] : List Int))).bind fun bt125 => (if 0 ≤ t119 then (if t119 < (t104.length : Int) then (some (t102, t103, (t104.set (t119 : Int).toNat bt125.1), bt125.2.1, bt125.2.2)) else (none)) else (none))) = some (r1, r2, r3, r4, r5) := H
  have A23 := Aside0.mk A230
  clear A230
  obtain ⟨y122, hy122⟩ : ∃ y_ : List Int, y_ = (([9001, (-9001), (-9998), (-9999)] : List Int)) := ⟨_, rfl⟩
  replace H : ((spec_l1Cur_among.f s0_0 t120 t121 y122).bind fun bt125 => (if 0 ≤ t119 then (if t119 < (t104.length : Int) then (some (t102, t103, (t104.set (t119 : Int).toNat bt125.1), bt125.2.1, bt125.2.2)) else (none)) else (none))) = some (r1, r2, r3, r4, r5) := by first | (rw [hy122]; with_reducible exact H) | (have H2_ := (Option.bind_some _ _).symm.trans H; rw [hy122]; with_reducible exact H2_) | (have H2_ := (Option.bind_some _ _).symm.trans H; with_reducible exact H2_) | with_reducible exact H | (rw [hy122]; exact H) | exact H
  have Ny122 := Aside0.mk hy122
  clear hy122
  replace H := Option.bind_eq_some_iff.mp H
  obtain ⟨⟨t125, t126, t127⟩, A240, H⟩ := H
  replace H : (if 0 ≤ t119 then (if t119 < (t104.length : Int) then (some (t102, t103, (t104.set (t119 : Int).toNat t125), t126, t127)) else (none)) else (none)) = some (r1, r2, r3, r4, r5) := H
  have A24 := Aside0.mk A240
  clear A240
  by_cases c25 : 0 ≤ t119
  ·
   rw [if_pos c25] at H
   have c25b0 : decide (0 ≤ t119) = true := decide_eq_true c25
   clear c25
   by_cases c26 : t119 < (t104.length : Int)
   ·
    rw [if_pos c26] at H
    have c26b0 : decide (t119 < (t104.length : Int)) = true := decide_eq_true c26
    clear c26
    obtain ⟨y128, hy128⟩ : ∃ y_ : List Int, y_ = (t104.set (t119 : Int).toNat t125) := ⟨_, rfl⟩
    replace H : (some (t102, t103, y128, t126, t127)) = some (r1, r2, r3, r4, r5) := by first | (rw [hy128]; with_reducible exact H) | (have H2_ := (Option.bind_some _ _).symm.trans H; rw [hy128]; with_reducible exact H2_) | (have H2_ := (Option.bind_some _ _).symm.trans H; with_reducible exact H2_) | with_reducible exact H | (rw [hy128]; exact H) | exact H
    have Ny128 := Aside0.mk hy128
    clear hy128
    simp only [Option.some.injEq, Prod.mk.injEq] at H
    obtain ⟨rfl, rfl, rfl, rfl, rfl⟩ := H
    go_enter Try.func108, Try.ntmps108
    try go_wp2_with (first | ((with_reducible refine gate_dst (N := 2) rfl ?_); refine bxe (cs := #[.int .i64 0, .int .i64 0, .slice none 0 0]) (t := 29) ?_; intro gb101 hg w28 hbox hb; have n0_ := aK (IsS115.below (pI115 HI0.out) hb); have n1_ := aK (KeepBut.trans (pK HK.out) (KeepBut.of_below hb g none) (.inl rfl)); have n2_ := aK (below_step ((pV HB.out (IsS115.ge HI0.out))) hb); have BK101 := aK (hbox); have GW101 := aK ((by rw [hg]; exact (keep_size (w := w) (g := g) (row := none) (pK HK.out)) : w.heap.size ≤ gb101)); have GE101 := aK ((Nat.le_trans HW0.out (by rw [hg]; exact (keep_size (w := w) (g := g) (row := none) (pK HK.out)) : w.heap.size ≤ gb101) : w0.heap.size ≤ gb101)); have NB0_101 := aK ((by rw [hg]; exact Nat.ne_of_lt (IsS115.lt (show IsS115 w0 _ g s0_0 s0_1 s0_2 from pI115 HI0.out)) : g ≠ gb101)); have NB101_0 := aK ((by rw [hg]; exact Nat.ne_of_gt (IsS115.lt (show IsS115 w0 _ g s0_0 s0_1 s0_2 from pI115 HI0.out)) : gb101 ≠ g)); clear HI0 HK HB; have HI0 := n0_; have HK := n1_; have HB := n2_; clear n0_ n1_ n2_; clear hb hbox hg) | ((with_reducible refine gate_callee (f := 163) rfl ?_); refine gl (some 5) Try.func163 #[.pointer (some ⟨g, 0, none⟩)] ?_; (with_reducible refine (spec_l1Cur_field.calls k g s0_0 s0_1 s0_2 t102 t103 t104 t107 t108 w0 _ ?side1 ?side2 A2.out).mono ?_); (case side1 => exact pI115 HI0.out); (case side2 => exact pV HB.out (IsS115.ge HI0.out)); rintro e w29 ⟨v105, rfl, ho0, hi, hb, hk⟩; refine ⟨_, rfl, ?_⟩; have n0_ := aK (KeepBut.blk hk (pB BK101.out) NB101_0.out (by simp)); have HO106 := aK (Kd.R_lower ho0 (keep_size (w := w) (g := g) (row := none) (pK HK.out))); have n2_ := aK (KeepBut.trans (pK HK.out) hk (.inl rfl)); have n3_ := aK (hb); have n4_ := aK (hi); clear BK101 HK HB HI0; have BK101 := n0_; have HK := n2_; have HB := n3_; have HI0 := n4_; clear n0_ n2_ n3_ n4_; (try clear hb); (try clear hb2); (try clear hk); (try clear hi); (try clear ho0)) | ((with_reducible refine gate_dst (N := 3) rfl ?_); refine bxe (cs := #[.int .i64 0, .int .i64 0, .slice none 0 0]) (t := 29) ?_; intro gb109 hg w30 hbox hb; have n0_ := aK (Kd.R_below (pR HO106.out) hb); have n1_ := aK (IsS115.below (pI115 HI0.out) hb); have n3_ := aK (KeepBut.trans (pK HK.out) (KeepBut.of_below hb g none) (.inl rfl)); have n4_ := aK (below_step ((pV HB.out (IsS115.ge HI0.out))) hb); have BK109 := aK (hbox); have GW109 := aK ((by rw [hg]; exact (keep_size (w := w) (g := g) (row := none) (pK HK.out)) : w.heap.size ≤ gb109)); have GE109 := aK ((Nat.le_trans HW0.out (by rw [hg]; exact (keep_size (w := w) (g := g) (row := none) (pK HK.out)) : w.heap.size ≤ gb109) : w0.heap.size ≤ gb109)); obtain ⟨NB101_109, NB109_101⟩ := nb hg (pB BK101.out); have NB0_109 := aK ((by rw [hg]; exact Nat.ne_of_lt (IsS115.lt (show IsS115 w0 _ g s0_0 t107 t108 from pI115 HI0.out)) : g ≠ gb109)); have NB109_0 := aK ((by rw [hg]; exact Nat.ne_of_gt (IsS115.lt (show IsS115 w0 _ g s0_0 t107 t108 from pI115 HI0.out)) : gb109 ≠ g)); replace BK101 := bB BK101 hb; clear HO106 HI0 HK HB; have HO106 := n0_; have HI0 := n1_; have HK := n3_; have HB := n4_; clear n0_ n1_ n3_ n4_ hb hbox hg; have hnb31 := NB109_101.out; have hnc31 := NB101_109.out; have hnb32 := NB109_0.out; have hnc32 := NB0_109.out; obtain ⟨hcz33_0, hcz33_1, hcz33_2, hfz33_0, hfz33_1, hfz33_2⟩ := bc3 BK109.out; obtain ⟨Ao34, co34, eo34⟩ := Kd.R_slice HO106.out; subst eo34) | ((with_reducible refine gate_callee (f := 117) rfl ?_); refine gl (some 7) Try.func117 #[.pointer (some ⟨g, 0, none⟩), .int .i64 24] ?_; (with_reducible refine (spec_l1Cur_pick.calls g s0_0 t107 t108 24 t110 t111 t112 w0 _ ?side1 ?side2 A3.out).mono ?_); (case side1 => exact pI115 HI0.out); (case side2 => exact pV HB.out (IsS115.ge HI0.out)); rintro e w35 ⟨rfl, hi, hb, hk⟩; refine ⟨_, rfl, ?_⟩; have n0_ := aK (KeepBut.blk hk (g' := gb101) (o := .cells #[.int .i64 0, .int .i64 0, .slice none 0 0] 29 (0, 0)) (by refine bk ?_; refine blk_far ?_ NB101_109.out _; refine bk ?_; refine blk_far ?_ NB101_109.out _; refine bk ?_; refine blk_far ?_ NB101_109.out _; refine bk ?_; exact BK101.out) NB101_0.out (by simp)); have n1_ := aK (Kd.R_mono (Kd.R_keep (IsS115.apart (show IsS115 w0 _ g s0_0 t107 t108 from pI115 HI0.out) (pR (rF3 HO106.out BK109.out (.int .i64 t102) (.int .i64 t103) (.slice Ao34 t104.length co34))) (by decide)) hk (fun _ h => h.2)) (fun _ h => h.1)); have n2_ := aK (KeepBut.blk hk (g' := gb109) (o := .cells #[.int .i64 t102, .int .i64 t103, .slice Ao34 t104.length co34] 29 (0, 0)) (by refine bk ?_; refine blk_put (cs := #[.int .i64 t102, .int .i64 t103, .slice none 0 0]) ?_ 2 _ rfl; refine bk ?_; refine blk_put (cs := #[.int .i64 t102, .int .i64 0, .slice none 0 0]) ?_ 1 _ rfl; refine bk ?_; refine blk_put (cs := #[.int .i64 0, .int .i64 0, .slice none 0 0]) ?_ 0 _ rfl; refine bk ?_; exact BK109.out) NB109_0.out (by simp)); have n3_ := aK (KeepBut.trans (pK HK.out) hk (.inl rfl)); have n4_ := aK (hb); have n5_ := aK (hi); clear BK101 HO106 BK109 HK HB HI0; have BK101 := n0_; have HO106 := n1_; have BK109 := n2_; have HK := n3_; have HB := n4_; have HI0 := n5_; clear n0_ n1_ n2_ n3_ n4_ n5_; (try clear hb); (try clear hb2); (try clear hk); (try clear hi)))
    have n0_ := aK (Kd.R_drew HO106.out)
    have n1_ := aK (blk_drew BK101.out)
    have n2_ := aK (blk_drew BK109.out)
    have n3_ := aK (IsS115.drew HI0.out)
    have n4_ := aK (keep_drew HK.out)
    have n5_ := aK (below_drew1 HB.out)
    clear HO106 BK101 BK109 HI0 HK HB
    have HO106 := n0_
    have BK101 := n1_
    have BK109 := n2_
    have HI0 := n3_
    have HK := n4_
    have HB := n5_
    clear n0_ n1_ n2_ n3_ n4_ n5_
    refine start_ (n := 12) (S := fun w' => w'.cell? ⟨gb109, 0, none⟩ = some (.int .i64 t102) ∧ w'.cell? ⟨gb109, 1, none⟩ = some (.int .i64 t103) ∧ w'.cell? ⟨gb109, 2, none⟩ = some (.slice Ao34 t104.length co34)) (ds := [11]) #[false, false, false, false, false, false, false, false, false, false, false, false] (by kernel_rfl) rfl rfl (cz3 BK109.out) (fun hHeld => ?_); refine with_tabW spec_l1Cur_anyField.tab6 spec_l1Cur_anyField.bits6 (fun HT_ HW_ => ?_)
    generalize w35.drew = w36 at HO106 BK101 BK109 HI0 HK HB hHeld ⊢
    refine pu (i := 0) (N := some 18) #[true, false, false, false, false, false, false, false, false, false, false, false] rfl rfl HT_.out ?_
    refine pu (i := 2) (N := some 20) #[true, false, true, false, false, false, false, false, false, false, false, false] rfl rfl HT_.out ?_
    refine pu (i := 3) (N := some 21) #[true, false, true, true, false, false, false, false, false, false, false, false] rfl rfl HT_.out ?_
    refine pu (i := 7) (N := some 25) #[true, false, true, true, false, false, false, true, false, false, false, false] rfl rfl HT_.out ?_
    refine tk (i := 1) (N := some 19) #[true, true, true, true, false, false, false, true, false, false, false, false] rfl rfl HT_.out HW_.out (Or.inl ⟨by rfl, by rintro w' ⟨s0, s1, s2⟩; go_simp; with_reducible rfl⟩) hHeld ?_
    refine tk (i := 4) (N := some 22) #[true, true, true, true, true, false, false, true, false, false, false, false] rfl rfl HT_.out HW_.out (Or.inl ⟨by rfl, by rintro w' ⟨s0, s1, s2⟩; go_simp; with_reducible rfl⟩) hHeld ?_
    refine pu (i := 5) (N := some 23) #[true, true, true, true, true, true, false, true, false, false, false, false] rfl rfl HT_.out ?_
    refine join_ (σ := Value) 3 #[true, true, true, true, true, true, true, true, true, false, false, false] (fun s_ => [(24, .int .i64 t119), (26, s_)]) (fun s_ w' => (w'.cell? ⟨gb109, 0, none⟩ = some (.int .i64 t102) ∧ w'.cell? ⟨gb109, 1, none⟩ = some (.int .i64 t103) ∧ w'.cell? ⟨gb109, 2, none⟩ = some (.slice Ao34 t104.length co34)) ∧ (Kd.R (Kd.int .i64) 3 w' w.heap.size (fun k_ => some k_ ≠ (s_ : Value).ownBlock) (.slice Ao34 t104.length co34) t104) ∧ (Kd.R (Kd.int .i64) 3 w' w.heap.size (fun k_ => some k_ ≠ (.slice Ao34 t104.length co34 : Value).ownBlock) s_ y122) ∧ (w'.heap[gb101]? = some (.cells #[.int .i64 0, .int .i64 0, .slice none 0 0] 29 (0, 0))) ∧ (w'.heap[gb109]? = some (.cells #[.int .i64 t102, .int .i64 t103, .slice Ao34 t104.length co34] 29 (0, 0))) ∧ (IsS115 w0 w' g s0_0 t120 t121) ∧ (KeepBut w w' g none) ∧ (Below w0.heap.size w0 w')) ?_ ?_
    rotate_left
    ·
     intro hCont
     refine two_ (i := 6) (j := 8) (Ni := some 24) (Nj := some 26) #[true, true, true, true, true, true, true, true, false, false, false, false] #[true, true, true, true, true, true, false, true, true, false, false, false] rfl rfl rfl rfl (two_of HT_.out (by kernel_rfl)) (by decide) (by decide) (fun K hK => ?_) (fun K hK => ?_)
     ·
      skip
      refine goes_ Try.func117 (by kernel_rfl) rfl #[.pointer (some ⟨g, 0, none⟩), .int .i64 (t104.length : Int)] (by rfl) rfl rfl (by (try simp only [List.map_toArray, List.map_cons, List.map_nil]); first | done | rfl | (simp only [List.length_drop, List.length_take]; rfl)) ?_
      with_reducible refine (spec_l1Cur_pick.calls g s0_0 t111 t112 (t104.length : Int) t119 t120 t121 w0 _ ?side1 ?side2 A23.out).mono ?_
      (case side1 => exact pI115 HI0.out)
      (case side2 => exact pV HB.out (IsS115.ge HI0.out))
      rintro e w37 ⟨rfl, hi, hb, hk⟩
      refine ⟨_, rfl, ?_⟩
      have n0_ := aK (KeepBut.blk hk (pB BK101.out) NB101_0.out (by simp))
      have n1_ := aK (Kd.R_mono (Kd.R_keep (IsS115.apart (show IsS115 w0 _ g s0_0 t111 t112 from pI115 HI0.out) (pR HO106.out) (by decide)) hk (fun _ h => h.2)) (fun _ h => h.1))
      have n2_ := aK (KeepBut.blk hk (pB BK109.out) NB109_0.out (by simp))
      have n3_ := aK (KeepBut.trans (pK HK.out) hk (.inl rfl))
      have n4_ := aK (hb)
      have n5_ := aK (hi)
      clear BK101 HO106 BK109 HK HB HI0
      have BK101 := n0_
      have HO106 := n1_
      have BK109 := n2_
      have HK := n3_
      have HB := n4_
      have HI0 := n5_
      clear n0_ n1_ n2_ n3_ n4_ n5_
      (try clear hb)
      (try clear hb2)
      (try clear hk)
      (try clear hi)
      refine hK.out _ _ (cz3 BK109.out) (fun hHeld => ?_)
      clear hK K
      refine norm_ (a' := ?_) ?_ ?_
      rotate_left
      ·
       show Act.put _ (some 24) _ = _
       simp only [sP]
       rfl
      refine one_ (i := 8) (N := some 26) #[true, true, true, true, true, true, true, true, true, false, false, false] rfl rfl (one_of HT_.out (by kernel_rfl)) (by decide) (fun K hK => ?_)
      refine Kd.R_lit_step (Kd.int .i64) _ 3 ?hg (N := 26) ?hd (xs := ([9001, (-9001), (-9998), (-9999)] : List Int)) (inner := [.int .i64 9001, .int .i64 (-9001), .int .i64 (-9998), .int .i64 (-9999)]) (ok := fun _ => True) (okp := fun _ => True) ?hr ?hp (fun _ hk => hk) trivial (Below.refl _ _) (Nat.le_refl _) (by simp) ?_; (case hd => rfl); (case hg => rfl); (case hr => first | (go_simp; done) | (go_simp; rfl)); (case hp => exact (Reps.one (show Kd.M (Kd.int .i64) _ _ _ 9001 [.int .i64 9001] from rfl) (Reps.one (show Kd.M (Kd.int .i64) _ _ _ (-9001) [.int .i64 (-9001)] from rfl) (Reps.one (show Kd.M (Kd.int .i64) _ _ _ (-9998) [.int .i64 (-9998)] from rfl) (Reps.one (show Kd.M (Kd.int .i64) _ _ _ (-9999) [.int .i64 (-9999)] from rfl) (Reps.none _ _))))))
      intro v123 w38 ho39 hb hg_ hnew_
      clear hg_ hnew_
      (first | rw [← Ny122.out] at ho39 | (simp only [Int.reduceToNat] at ho39; rw [← Ny122.out] at ho39))
      have n0_ := aK (Kd.R_elder' (pR HO106.out) (Kd.R_base ho39) hb)
      have HO124 := aK (Kd.R_lower (nw1 ho39 (pR HO106.out)) (keep_size (w := w) (g := g) (row := none) (pK HK.out)))
      have n2_ := aK (IsS115.below (pI115 HI0.out) hb)
      have n5_ := aK (KeepBut.trans (pK HK.out) (KeepBut.of_below hb g none) (.inl rfl))
      have n6_ := aK (below_step ((pV HB.out (IsS115.ge HI0.out))) hb)
      replace BK101 := bB BK101 hb
      replace BK109 := bB BK109 hb
      clear HO106 HI0 HK HB
      have HO106 := n0_
      have HI0 := n2_
      have HK := n5_
      have HB := n6_
      clear n0_ n2_ n5_ n6_ hb ho39
      refine hK.out _ _ (cz3 BK109.out) (fun hHeld => ?_)
      clear hK K
      refine norm_ (a' := ?_) ?_ ?_
      rotate_left
      ·
       show Act.put _ (some 26) _ = _
       simp only [sP]
       rfl
      exact norm_ (by simp only [putAll, Act.put, List.setIfInBounds_toArray, List.set_cons_zero, List.set_cons_succ]) (hCont (v123) _ ⟨hHeld, (pR (Kd.R_mono HO106.out (fun _ hk => hk.2))), (pR (Kd.R_mono HO124.out (fun _ hk => hk.2))), (pB BK101.out), (pB BK109.out), (pI115 HI0.out), (pK HK.out), ((pV HB.out (IsS115.ge HI0.out)))⟩)
     skip
     refine Kd.R_lit_step (Kd.int .i64) _ 3 ?hg (N := 26) ?hd (xs := ([9001, (-9001), (-9998), (-9999)] : List Int)) (inner := [.int .i64 9001, .int .i64 (-9001), .int .i64 (-9998), .int .i64 (-9999)]) (ok := fun _ => True) (okp := fun _ => True) ?hr ?hp (fun _ hk => hk) trivial (Below.refl _ _) (Nat.le_refl _) (by simp) ?_; (case hd => rfl); (case hg => rfl); (case hr => first | (go_simp; done) | (go_simp; rfl)); (case hp => exact (Reps.one (show Kd.M (Kd.int .i64) _ _ _ 9001 [.int .i64 9001] from rfl) (Reps.one (show Kd.M (Kd.int .i64) _ _ _ (-9001) [.int .i64 (-9001)] from rfl) (Reps.one (show Kd.M (Kd.int .i64) _ _ _ (-9998) [.int .i64 (-9998)] from rfl) (Reps.one (show Kd.M (Kd.int .i64) _ _ _ (-9999) [.int .i64 (-9999)] from rfl) (Reps.none _ _))))))
     intro v123 w37 ho38 hb hg_ hnew_
     clear hg_ hnew_
     (first | rw [← Ny122.out] at ho38 | (simp only [Int.reduceToNat] at ho38; rw [← Ny122.out] at ho38))
     have n0_ := aK (Kd.R_elder' (pR HO106.out) (Kd.R_base ho38) hb)
     have HO124 := aK (Kd.R_lower (nw1 ho38 (pR HO106.out)) (keep_size (w := w) (g := g) (row := none) (pK HK.out)))
     have n2_ := aK (IsS115.below (pI115 HI0.out) hb)
     have n5_ := aK (KeepBut.trans (pK HK.out) (KeepBut.of_below hb g none) (.inl rfl))
     have n6_ := aK (below_step ((pV HB.out (IsS115.ge HI0.out))) hb)
     replace BK101 := bB BK101 hb
     replace BK109 := bB BK109 hb
     clear HO106 HI0 HK HB
     have HO106 := n0_
     have HI0 := n2_
     have HK := n5_
     have HB := n6_
     clear n0_ n2_ n5_ n6_ hb ho38
     refine hK.out _ _ (cz3 BK109.out) (fun hHeld => ?_)
     clear hK K
     refine norm_ (a' := ?_) ?_ ?_
     rotate_left
     ·
      show Act.put _ (some 26) _ = _
      simp only [sP]
      rfl
     refine one_ (i := 6) (N := some 24) #[true, true, true, true, true, true, true, true, true, false, false, false] rfl rfl (one_of HT_.out (by kernel_rfl)) (by decide) (fun K hK => ?_)
     refine goes_ Try.func117 (by kernel_rfl) rfl #[.pointer (some ⟨g, 0, none⟩), .int .i64 (t104.length : Int)] (by rfl) rfl rfl (by (try simp only [List.map_toArray, List.map_cons, List.map_nil]); first | done | rfl | (simp only [List.length_drop, List.length_take]; rfl)) ?_
     with_reducible refine (spec_l1Cur_pick.calls g s0_0 t111 t112 (t104.length : Int) t119 t120 t121 w0 _ ?side1 ?side2 A23.out).mono ?_
     (case side1 => exact pI115 HI0.out)
     (case side2 => exact pV HB.out (IsS115.ge HI0.out))
     rintro e w39 ⟨rfl, hi, hb, hk⟩
     refine ⟨_, rfl, ?_⟩
     have n0_ := aK (KeepBut.blk hk (pB BK101.out) NB101_0.out (by simp))
     have n1_ := aK (Kd.R_mono (Kd.R_keep (IsS115.apart (show IsS115 w0 _ g s0_0 t111 t112 from pI115 HI0.out) (pR HO106.out) (by decide)) hk (fun _ h => h.2)) (fun _ h => h.1))
     have n2_ := aK (KeepBut.blk hk (pB BK109.out) NB109_0.out (by simp))
     have n3_ := aK (Kd.R_mono (Kd.R_keep (IsS115.apart (show IsS115 w0 _ g s0_0 t111 t112 from pI115 HI0.out) (pR HO124.out) (by decide)) hk (fun _ h => h.2)) (fun _ h => h.1))
     have n4_ := aK (KeepBut.trans (pK HK.out) hk (.inl rfl))
     have n5_ := aK (hb)
     have n6_ := aK (hi)
     clear BK101 HO106 BK109 HO124 HK HB HI0
     have BK101 := n0_
     have HO106 := n1_
     have BK109 := n2_
     have HO124 := n3_
     have HK := n4_
     have HB := n5_
     have HI0 := n6_
     clear n0_ n1_ n2_ n3_ n4_ n5_ n6_
     (try clear hb)
     (try clear hb2)
     (try clear hk)
     (try clear hi)
     refine hK.out _ _ (cz3 BK109.out) (fun hHeld => ?_)
     clear hK K
     refine norm_ (a' := ?_) ?_ ?_
     rotate_left
     ·
      show Act.put _ (some 24) _ = _
      simp only [sP]
      rfl
     exact norm_ (by simp only [putAll, Act.put, List.setIfInBounds_toArray, List.set_cons_zero, List.set_cons_succ]) (hCont (v123) _ ⟨hHeld, (pR (Kd.R_mono HO106.out (fun _ hk => hk.2))), (pR (Kd.R_mono HO124.out (fun _ hk => hk.2))), (pB BK101.out), (pB BK109.out), (pI115 HI0.out), (pK HK.out), ((pV HB.out (IsS115.ge HI0.out)))⟩)
    rintro v123 w40 ⟨hS_, h0_, h1_, h2_, h3_, h4_, h5_, h6_⟩
    have n0_ : Aside0 (Kd.R (Kd.int .i64) 3 w40 w.heap.size (fun k_ => some k_ ≠ (v123 : Value).ownBlock) (.slice Ao34 t104.length co34) t104) := ⟨h0_⟩
    have n1_ : Aside0 (Kd.R (Kd.int .i64) 3 w40 w.heap.size (fun k_ => some k_ ≠ (.slice Ao34 t104.length co34 : Value).ownBlock) v123 y122) := ⟨h1_⟩
    have n2_ : Aside0 (w40.heap[gb101]? = some (.cells #[.int .i64 0, .int .i64 0, .slice none 0 0] 29 (0, 0))) := ⟨h2_⟩
    have n3_ : Aside0 (w40.heap[gb109]? = some (.cells #[.int .i64 t102, .int .i64 t103, .slice Ao34 t104.length co34] 29 (0, 0))) := ⟨h3_⟩
    have n4_ : Aside0 (IsS115 w0 w40 g s0_0 t120 t121) := ⟨h4_⟩
    have n5_ : Aside0 (KeepBut w w40 g none) := ⟨h5_⟩
    have n6_ : Aside0 (Below w0.heap.size w0 w40) := ⟨h6_⟩
    clear HO106 BK101 BK109 HI0 HK HB h0_ h1_ h2_ h3_ h4_ h5_ h6_
    have HO106 := n0_
    have HO124 := n1_
    have BK101 := n2_
    have BK109 := n3_
    have HI0 := n4_
    have HK := n5_
    have HB := n6_
    clear n0_ n1_ n2_ n3_ n4_ n5_ n6_
    have hHeld : w40.cell? ⟨gb109, 0, none⟩ = some (.int .i64 t102) ∧ w40.cell? ⟨gb109, 1, none⟩ = some (.int .i64 t103) ∧ w40.cell? ⟨gb109, 2, none⟩ = some (.slice Ao34 t104.length co34) := hS_
    obtain ⟨Ao41, co41, eo41⟩ := Kd.R_slice HO124.out
    (first | subst eo41 | (obtain ⟨f4_, f5_⟩ := sI eo41; subst f4_; subst f5_))
    refine norm_ (a' := ?_) ?_ ?_
    rotate_left
    ·
     simp only [putAll, Act.put, List.setIfInBounds_toArray, List.set_cons_zero, List.set_cons_succ]
     rfl
    refine one_ (i := 9) (N := some 27) #[true, true, true, true, true, true, true, true, true, true, false, false] rfl rfl (one_of HT_.out (by kernel_rfl)) (by decide) (fun K hK => ?_)
    refine goes_ Try.func112 (by kernel_rfl) rfl #[.pointer (some ⟨g, 0, none⟩), .slice Ao41 y122.length co41] (by rfl) rfl rfl (by (try simp only [List.map_toArray, List.map_cons, List.map_nil]); first | done | rfl | (simp only [List.length_drop, List.length_take]; rfl)) ?_
    with_reducible refine (spec_l1Cur_among.calls g s0_0 t120 t121 _ _ y122 t125 t126 t127 w0 _ ?side1 ?side2 ?side3 ?side4 ?side5 A24.out).mono ?_
    (case side1 => exact pI115 HI0.out)
    (case side2 => exact pV HB.out (IsS115.ge HI0.out))
    (case side3 => exact pC (Kd.R_reads' HO124.out).2.2)
    (case side4 => exact (Kd.R_reads' HO124.out).2.1)
    (case side5 => exact far_slice (IsS115.own_ne HI0.out HO124.out (by decide)))
    rintro e w42 ⟨rfl, hi, hb, hk⟩
    refine ⟨_, rfl, ?_⟩
    have n0_ := aK (KeepBut.blk hk (pB BK101.out) NB101_0.out (by simp))
    have n1_ := aK (Kd.R_mono (Kd.R_keep (IsS115.apart (show IsS115 w0 _ g s0_0 t120 t121 from pI115 HI0.out) (pR HO106.out) (by decide)) hk (fun _ h => h.2)) (fun _ h => h.1))
    have n2_ := aK (KeepBut.blk hk (pB BK109.out) NB109_0.out (by simp))
    have n3_ := aK (Kd.R_mono (Kd.R_keep (IsS115.apart (show IsS115 w0 _ g s0_0 t120 t121 from pI115 HI0.out) (pR HO124.out) (by decide)) hk (fun _ h => h.2)) (fun _ h => h.1))
    have n4_ := aK (KeepBut.trans (pK HK.out) hk (.inl rfl))
    have n5_ := aK (hb)
    have n6_ := aK (hi)
    clear BK101 HO106 BK109 HO124 HK HB HI0
    have BK101 := n0_
    have HO106 := n1_
    have BK109 := n2_
    have HO124 := n3_
    have HK := n4_
    have HB := n5_
    have HI0 := n6_
    clear n0_ n1_ n2_ n3_ n4_ n5_ n6_
    (try clear hb)
    (try clear hb2)
    (try clear hk)
    (try clear hi)
    have p27 : 0 ≤ (t119 : Int) := of_decide_eq_true (by first | (with_reducible assumption) | assumption)
    have q27 : (t119 : Int) < ((t104.length : Int) : Int) := of_decide_eq_true (by first | (with_reducible assumption) | assumption)
    obtain ⟨go27, co27, eo27, gb27, gl27, cl27, HG27⟩ := Kd.R_form HO106.out (by omega)
    (first | cases eo27 | (injection eo27 with ea_ en_ ec_; (first | subst ea_ | (injection ea_ with ea_; subst ea_)); subst ec_; clear en_))
    have GB27 := Aside0.mk gb27
    have GG27 := Aside0.mk HG27
    clear gb27 gl27 HG27
    obtain ⟨hx27_0, hf27_0⟩ := Kd.R_celln 0 HO106.out (t119 : Int) p27 q27
    replace p27 := eq_true p27
    replace q27 := eq_true q27
    have HN0_go27 := aK (show g ≠ go27 from by have h_ := IsS115.own_ne HI0.out HO106.out (by decide); intro e_; exact h_ (by rw [e_]; rfl))
    have HP43 := Kd.R_putn HO106.out (t119 : Int) t125
    rw [← Ny128.out] at HP43
    have HQ43 := Aside0.mk HP43
    clear HP43
    refine hK.out _ _ (cz3 BK109.out) (fun hHeld => ?_)
    clear hK K
    refine norm_ (a' := ?_) ?_ ?_
    rotate_left
    ·
     show Act.put _ (some 27) _ = _
     simp only [sP]
     rfl
    refine pu (i := 10) (N := some 28) #[true, true, true, true, true, true, true, true, true, true, true, false] rfl rfl HT_.out ?_
    refine last_ (i := 11) (N := none) #[true, true, true, true, true, true, true, true, true, true, true, true] rfl rfl (one_of HT_.out (by kernel_rfl)) (by decide) (fun K hK => ?_)
    refine skip_ (w1 := ?_) (by rfl) rfl ?_ ?_
    rotate_left
    ·
     go_simp
     rfl
    refine hK.out _ _ ?_
    clear hK K
    refine done_ (done_of HT_.out (by kernel_rfl)) ?_
    have n0_ : Aside0 (Kd.R (Kd.int .i64) 3 (w42.setCell ⟨go27, (t119 : Int).toNat, none⟩ (.int .i64 t125)) w.heap.size (fun k_ => some k_ ≠ (.slice Ao41 y122.length co41 : Value).ownBlock) (.slice (some ⟨go27, 0, none⟩) t104.length co34) y128) := ⟨pR HQ43.out⟩
    have n1_ : Aside0 (Kd.R (Kd.int .i64) 3 (w42.setCell ⟨go27, (t119 : Int).toNat, none⟩ (.int .i64 t125)) w.heap.size (fun k_ => some k_ ≠ (.slice (some ⟨go27, 0, none⟩) t104.length co34 : Value).ownBlock) (.slice Ao41 y122.length co41) y122) := ⟨by (with_reducible repeat (first | apply Kd.R_alloc | apply Kd.R_drewN | apply Kd.R_drew)); exact Kd.R_mono (Kd.R_far (p := ⟨go27, (t119 : Int).toNat, none⟩) (Kd.R_mono HO124.out (fun k_ hk => (⟨hk, fun e_ => hk (by rw [e_]; rfl)⟩ : _ ∧ k_ ≠ go27))) (fun _ hk => hk.2) (.int .i64 t125)) (fun _ hk => hk.1)⟩
    have n2_ : Aside0 ((w42.setCell ⟨go27, (t119 : Int).toNat, none⟩ (.int .i64 t125)).heap[gb101]? = some (.cells #[.int .i64 0, .int .i64 0, .slice none 0 0] 29 (0, 0))) := ⟨by refine bk ?_; refine blk_far ?_ (by have h_ := Kd.R_ne HO106.out BK101.out (by decide); intro e_; exact h_ (by rw [e_]; rfl)) _; refine bk ?_; exact BK101.out⟩
    have n3_ : Aside0 ((w42.setCell ⟨go27, (t119 : Int).toNat, none⟩ (.int .i64 t125)).heap[gb109]? = some (.cells #[.int .i64 t102, .int .i64 t103, .slice (some ⟨go27, 0, none⟩) t104.length co34] 29 (0, 0))) := ⟨by refine bk ?_; refine blk_far ?_ (by have h_ := Kd.R_ne HO106.out BK109.out (by decide); intro e_; exact h_ (by rw [e_]; rfl)) _; refine bk ?_; exact BK109.out⟩
    have n4_ : Aside0 (IsS115 w0 (w42.setCell ⟨go27, (t119 : Int).toNat, none⟩ (.int .i64 t125)) g s0_0 t126 t127) := ⟨by repeat (first | (with_reducible first | exact HI0.out | apply IsS115.alloc | apply IsS115.drewN | apply IsS115.drew | apply IsS115.set_1 | apply IsS115.set_2 | refine IsS115.far ?_ HN0_go27.out _ | refine IsS115.far ?_ NB0_101.out _ | refine IsS115.far ?_ NB0_109.out _) | exact HI0.out)⟩
    have n5_ : Aside0 (KeepBut w (w42.setCell ⟨go27, (t119 : Int).toNat, none⟩ (.int .i64 t125)) g none) := ⟨by repeat (first | (with_reducible first | exact HK.out | apply KeepBut.set_ | apply keep_drewN | apply keep_drew | apply keep_alloc | refine keep_far ?_ GB27.out _ | refine keep_far ?_ GW101.out _ | refine keep_far ?_ GW109.out _) | exact HK.out)⟩
    have n6_ : Aside0 (Below w0.heap.size w0 (w42.setCell ⟨go27, (t119 : Int).toNat, none⟩ (.int .i64 t125))) := ⟨by repeat (first | (with_reducible first | exact HB.out | apply below_alloc | apply pw_below_drewN | apply below_drew1 | refine below_set ?_ (Nat.le_trans HL.out GB27.out) | refine below_set ?_ (IsS115.ge HI0.out) | refine below_set ?_ GE101.out | refine below_set ?_ GE109.out) | exact HB.out)⟩
    (try clear HO106)
    (try clear HO124)
    (try clear BK101)
    (try clear BK109)
    (try clear HI0)
    (try clear HK)
    (try clear HB)
    generalize (w42.setCell ⟨go27, (t119 : Int).toNat, none⟩ (.int .i64 t125)) = w44 at n0_ n1_ n2_ n3_ n4_ n5_ n6_ ⊢
    have HO106 := n0_
    have HO124 := n1_
    have BK101 := n2_
    have BK109 := n3_
    have HI0 := n4_
    have HK := n5_
    have HB := n6_
    clear n0_ n1_ n2_ n3_ n4_ n5_ n6_
    obtain ⟨hcz45_0, hcz45_1, hcz45_2, hfz45_0, hfz45_1, hfz45_2⟩ := bc3 BK109.out
    have hnb46 := NB101_0.out
    have hnc46 := NB0_101.out
    obtain ⟨hcz47_0, hcz47_1, hcz47_2, hfz47_0, hfz47_1, hfz47_2⟩ := bc3 BK101.out
    try go_wp2
    refine bodyPost_ret (results_cell_row rfl _ _ gb101 29 #[.int .i64 t102, .int .i64 t103, .slice (some ⟨go27, 0, none⟩) t104.length co34] (0, 0) _ rfl (by refine bk ?_; refine blk_put (cs := #[.int .i64 t102, .int .i64 t103, .slice none 0 0]) ?_ 2 _ rfl; refine bk ?_; refine blk_put (cs := #[.int .i64 t102, .int .i64 0, .slice none 0 0]) ?_ 1 _ rfl; refine bk ?_; refine blk_put (cs := #[.int .i64 0, .int .i64 0, .slice none 0 0]) ?_ 0 _ rfl; refine bk ?_; exact BK101.out) Try.underlying29 rfl (by kernel_rfl)) rfl ?_
    exact ⟨_, er, Kd.Q_of_R (pR (Kd.R_mono (rF3 HO106.out BK101.out (.int .i64 t102) (.int .i64 t103) (.slice (some ⟨go27, 0, none⟩) t104.length co34)) (fun _ h => trivial))), pI115 HI0.out, (pV HB.out (IsS115.ge HI0.out)), pK HK.out⟩
   rw [if_neg c26] at H
   exact absurd H (by simp)
  rw [if_neg c25] at H
  exact absurd H (by simp)
 rw [if_neg c22] at H
 have c22b0 : (t110 == 1) = false := beq_eq_false_iff_ne.mpr c22
 have c22b1 : (t110 != 1) = true := bne_iff_ne.mpr c22
 by_cases c48 : t110 = 2
 ·
  rw [if_pos c48] at H
  have c48b0 : (t110 == 2) = true := beq_iff_eq.mpr c48
  have c48b1 : (t110 != 2) = false := bne_eq_false_iff_eq.mpr c48
  clear c48
  by_cases c49 : 1 ≤ (t104.length : Int)
  ·
   rw [if_pos c49] at H
   have c49b0 := eq_true c49
   have c49b1 : decide (1 ≤ (t104.length : Int)) = true := decide_eq_true c49
   clear c49
   obtain ⟨y129, hy129⟩ : ∃ y_ : List Int, y_ = (t104.drop (1 : Int).toNat) := ⟨_, rfl⟩
   replace H : (some (t102, t103, y129, t111, t112)) = some (r1, r2, r3, r4, r5) := by first | (rw [hy129]; with_reducible exact H) | (have H2_ := (Option.bind_some _ _).symm.trans H; rw [hy129]; with_reducible exact H2_) | (have H2_ := (Option.bind_some _ _).symm.trans H; with_reducible exact H2_) | with_reducible exact H | (rw [hy129]; exact H) | exact H
   have Ny129 := Aside0.mk hy129
   clear hy129
   simp only [Option.some.injEq, Prod.mk.injEq] at H
   obtain ⟨rfl, rfl, rfl, rfl, rfl⟩ := H
   go_enter Try.func108, Try.ntmps108
   go_wp2_with (first | ((with_reducible refine gate_dst (N := 2) rfl ?_); refine bxe (cs := #[.int .i64 0, .int .i64 0, .slice none 0 0]) (t := 29) ?_; intro gb101 hg w50 hbox hb; have n0_ := aK (IsS115.below (pI115 HI0.out) hb); have n1_ := aK (KeepBut.trans (pK HK.out) (KeepBut.of_below hb g none) (.inl rfl)); have n2_ := aK (below_step ((pV HB.out (IsS115.ge HI0.out))) hb); have BK101 := aK (hbox); have GW101 := aK ((by rw [hg]; exact (keep_size (w := w) (g := g) (row := none) (pK HK.out)) : w.heap.size ≤ gb101)); have GE101 := aK ((Nat.le_trans HW0.out (by rw [hg]; exact (keep_size (w := w) (g := g) (row := none) (pK HK.out)) : w.heap.size ≤ gb101) : w0.heap.size ≤ gb101)); have NB0_101 := aK ((by rw [hg]; exact Nat.ne_of_lt (IsS115.lt (show IsS115 w0 _ g s0_0 s0_1 s0_2 from pI115 HI0.out)) : g ≠ gb101)); have NB101_0 := aK ((by rw [hg]; exact Nat.ne_of_gt (IsS115.lt (show IsS115 w0 _ g s0_0 s0_1 s0_2 from pI115 HI0.out)) : gb101 ≠ g)); clear HI0 HK HB; have HI0 := n0_; have HK := n1_; have HB := n2_; clear n0_ n1_ n2_; clear hb hbox hg) | ((with_reducible refine gate_callee (f := 163) rfl ?_); refine gl (some 5) Try.func163 #[.pointer (some ⟨g, 0, none⟩)] ?_; (with_reducible refine (spec_l1Cur_field.calls k g s0_0 s0_1 s0_2 t102 t103 t104 t107 t108 w0 _ ?side1 ?side2 A2.out).mono ?_); (case side1 => exact pI115 HI0.out); (case side2 => exact pV HB.out (IsS115.ge HI0.out)); rintro e w51 ⟨v105, rfl, ho0, hi, hb, hk⟩; refine ⟨_, rfl, ?_⟩; have n0_ := aK (KeepBut.blk hk (pB BK101.out) NB101_0.out (by simp)); have HO106 := aK (Kd.R_lower ho0 (keep_size (w := w) (g := g) (row := none) (pK HK.out))); have n2_ := aK (KeepBut.trans (pK HK.out) hk (.inl rfl)); have n3_ := aK (hb); have n4_ := aK (hi); clear BK101 HK HB HI0; have BK101 := n0_; have HK := n2_; have HB := n3_; have HI0 := n4_; clear n0_ n2_ n3_ n4_; (try clear hb); (try clear hb2); (try clear hk); (try clear hi); (try clear ho0)) | ((with_reducible refine gate_dst (N := 3) rfl ?_); refine bxe (cs := #[.int .i64 0, .int .i64 0, .slice none 0 0]) (t := 29) ?_; intro gb109 hg w52 hbox hb; have n0_ := aK (Kd.R_below (pR HO106.out) hb); have n1_ := aK (IsS115.below (pI115 HI0.out) hb); have n3_ := aK (KeepBut.trans (pK HK.out) (KeepBut.of_below hb g none) (.inl rfl)); have n4_ := aK (below_step ((pV HB.out (IsS115.ge HI0.out))) hb); have BK109 := aK (hbox); have GW109 := aK ((by rw [hg]; exact (keep_size (w := w) (g := g) (row := none) (pK HK.out)) : w.heap.size ≤ gb109)); have GE109 := aK ((Nat.le_trans HW0.out (by rw [hg]; exact (keep_size (w := w) (g := g) (row := none) (pK HK.out)) : w.heap.size ≤ gb109) : w0.heap.size ≤ gb109)); obtain ⟨NB101_109, NB109_101⟩ := nb hg (pB BK101.out); have NB0_109 := aK ((by rw [hg]; exact Nat.ne_of_lt (IsS115.lt (show IsS115 w0 _ g s0_0 t107 t108 from pI115 HI0.out)) : g ≠ gb109)); have NB109_0 := aK ((by rw [hg]; exact Nat.ne_of_gt (IsS115.lt (show IsS115 w0 _ g s0_0 t107 t108 from pI115 HI0.out)) : gb109 ≠ g)); replace BK101 := bB BK101 hb; clear HO106 HI0 HK HB; have HO106 := n0_; have HI0 := n1_; have HK := n3_; have HB := n4_; clear n0_ n1_ n3_ n4_ hb hbox hg; have hnb53 := NB109_101.out; have hnc53 := NB101_109.out; have hnb54 := NB109_0.out; have hnc54 := NB0_109.out; obtain ⟨hcz55_0, hcz55_1, hcz55_2, hfz55_0, hfz55_1, hfz55_2⟩ := bc3 BK109.out; obtain ⟨Ao56, co56, eo56⟩ := Kd.R_slice HO106.out; subst eo56) | ((with_reducible refine gate_callee (f := 117) rfl ?_); refine gl (some 7) Try.func117 #[.pointer (some ⟨g, 0, none⟩), .int .i64 24] ?_; (with_reducible refine (spec_l1Cur_pick.calls g s0_0 t107 t108 24 t110 t111 t112 w0 _ ?side1 ?side2 A3.out).mono ?_); (case side1 => exact pI115 HI0.out); (case side2 => exact pV HB.out (IsS115.ge HI0.out)); rintro e w57 ⟨rfl, hi, hb, hk⟩; refine ⟨_, rfl, ?_⟩; have n0_ := aK (KeepBut.blk hk (g' := gb101) (o := .cells #[.int .i64 0, .int .i64 0, .slice none 0 0] 29 (0, 0)) (by refine bk ?_; refine blk_far ?_ NB101_109.out _; refine bk ?_; refine blk_far ?_ NB101_109.out _; refine bk ?_; refine blk_far ?_ NB101_109.out _; refine bk ?_; exact BK101.out) NB101_0.out (by simp)); have n1_ := aK (Kd.R_mono (Kd.R_keep (IsS115.apart (show IsS115 w0 _ g s0_0 t107 t108 from pI115 HI0.out) (pR (rF3 HO106.out BK109.out (.int .i64 t102) (.int .i64 t103) (.slice Ao56 t104.length co56))) (by decide)) hk (fun _ h => h.2)) (fun _ h => h.1)); have n2_ := aK (KeepBut.blk hk (g' := gb109) (o := .cells #[.int .i64 t102, .int .i64 t103, .slice Ao56 t104.length co56] 29 (0, 0)) (by refine bk ?_; refine blk_put (cs := #[.int .i64 t102, .int .i64 t103, .slice none 0 0]) ?_ 2 _ rfl; refine bk ?_; refine blk_put (cs := #[.int .i64 t102, .int .i64 0, .slice none 0 0]) ?_ 1 _ rfl; refine bk ?_; refine blk_put (cs := #[.int .i64 0, .int .i64 0, .slice none 0 0]) ?_ 0 _ rfl; refine bk ?_; exact BK109.out) NB109_0.out (by simp)); have n3_ := aK (KeepBut.trans (pK HK.out) hk (.inl rfl)); have n4_ := aK (hb); have n5_ := aK (hi); clear BK101 HO106 BK109 HK HB HI0; have BK101 := n0_; have HO106 := n1_; have BK109 := n2_; have HK := n3_; have HB := n4_; have HI0 := n5_; clear n0_ n1_ n2_ n3_ n4_ n5_; (try clear hb); (try clear hb2); (try clear hk); (try clear hi); obtain ⟨hcz58_0, hcz58_1, hcz58_2, hfz58_0, hfz58_1, hfz58_2⟩ := bc3 BK109.out; have q59 : (1 : Int) ≤ ((t104.length : Int) : Int) := of_decide_eq_true (by first | (with_reducible assumption) | assumption); obtain ⟨i059, hi059, _, hsz59, _⟩ := info_parts info3; have hcut59 := cut_from (P := Try.prog) 22 3 .i64 Try.underlying22 hi059 1 hsz59 Ao56 t104.length co56 1 (by omega) q59; have hr59 := Kd.Q_drop (k := (1 : Int).toNat) (Kd.Q_of_R HO106.out) (by omega); obtain ⟨A59, hA59⟩ : ∃ A1, A1 = (if co56 = (1 : Int).toNat then Ao56 else (Ao56 : Option Addr).map (·.add ((1 : Int).toNat * 1))) := ⟨_, rfl⟩; obtain ⟨c59, hc59⟩ : ∃ c1, c1 = co56 - (1 : Int).toNat := ⟨_, rfl⟩; have hy59 : y129.length = t104.length - (1 : Int).toNat := (by rw [Ny129.out, List.length_drop]); rw [← Ny129.out] at hr59; rw [← hy59, ← hA59, ← hc59] at hcut59; replace hr59 : Kd.Q (Kd.int .i64) 3 w57 w.heap.size (fun _ => True) (.slice A59 y129.length c59) y129 := (by rw [hA59, hc59, hy59]; exact hr59); have HE59 : Aside0 ((Value.slice A59 y129.length c59).ownBlock = (.slice Ao56 t104.length co56 : Value).ownBlock) := ⟨by rw [hA59]; split <;> (cases (Ao56 : Option Addr) <;> rfl)⟩; clear hy59 hi059 hsz59 HO106 hA59 hc59; have HO131 := Aside0.mk hr59; clear hr59; replace q59 := eq_true q59; have hnb60 := NB101_0.out; have hnc60 := NB0_101.out; obtain ⟨hcz61_0, hcz61_1, hcz61_2, hfz61_0, hfz61_1, hfz61_2⟩ := bc3 BK101.out))
   refine bodyPost_ret (results_cell_row rfl _ _ gb101 29 #[.int .i64 t102, .int .i64 t103, .slice A59 y129.length c59] (0, 0) _ rfl (by refine bk ?_; refine blk_put (cs := #[.int .i64 t102, .int .i64 t103, .slice none 0 0]) ?_ 2 _ rfl; refine bk ?_; refine blk_put (cs := #[.int .i64 t102, .int .i64 0, .slice none 0 0]) ?_ 1 _ rfl; refine bk ?_; refine blk_put (cs := #[.int .i64 0, .int .i64 0, .slice none 0 0]) ?_ 0 _ rfl; refine bk ?_; refine blk_far ?_ NB101_109.out _; refine bk ?_; exact BK101.out) Try.underlying29 rfl (by kernel_rfl)) rfl ?_
   exact ⟨_, er, by (with_reducible repeat (first | apply Kd.Q_alloc | apply Kd.Q_drewN | apply Kd.Q_drew)); exact Kd.Q_mono (Kd.Q_far (p := ⟨gb101, 2, none⟩) (Kd.Q_far (p := ⟨gb101, 1, none⟩) (Kd.Q_far (p := ⟨gb101, 0, none⟩) (Kd.Q_far (p := ⟨gb109, 2, none⟩) (Kd.Q_types (Kd.Q_types HO131.out BK109.out (by decide)) BK101.out (by decide)) (fun _ hk => hk.1.2) (.slice A59 y129.length c59)) (fun _ hk => hk.2) (.int .i64 t102)) (fun _ hk => hk.2) (.int .i64 t103)) (fun _ hk => hk.2) (.slice A59 y129.length c59)) (fun _ hk => trivial), pI115 HI0.out, (pV HB.out (IsS115.ge HI0.out)), pK HK.out⟩
  rw [if_neg c49] at H
  exact absurd H (by simp)
 rw [if_neg c48] at H
 have c48b0 : (t110 == 2) = false := beq_eq_false_iff_ne.mpr c48
 have c48b1 : (t110 != 2) = true := bne_iff_ne.mpr c48
 simp only [Option.some.injEq, Prod.mk.injEq] at H
 obtain ⟨rfl, rfl, rfl, rfl, rfl⟩ := H
 go_enter Try.func108, Try.ntmps108
 go_wp2_with (first | ((with_reducible refine gate_dst (N := 2) rfl ?_); refine bxe (cs := #[.int .i64 0, .int .i64 0, .slice none 0 0]) (t := 29) ?_; intro gb101 hg w62 hbox hb; have n0_ := aK (IsS115.below (pI115 HI0.out) hb); have n1_ := aK (KeepBut.trans (pK HK.out) (KeepBut.of_below hb g none) (.inl rfl)); have n2_ := aK (below_step ((pV HB.out (IsS115.ge HI0.out))) hb); have BK101 := aK (hbox); have GW101 := aK ((by rw [hg]; exact (keep_size (w := w) (g := g) (row := none) (pK HK.out)) : w.heap.size ≤ gb101)); have GE101 := aK ((Nat.le_trans HW0.out (by rw [hg]; exact (keep_size (w := w) (g := g) (row := none) (pK HK.out)) : w.heap.size ≤ gb101) : w0.heap.size ≤ gb101)); have NB0_101 := aK ((by rw [hg]; exact Nat.ne_of_lt (IsS115.lt (show IsS115 w0 _ g s0_0 s0_1 s0_2 from pI115 HI0.out)) : g ≠ gb101)); have NB101_0 := aK ((by rw [hg]; exact Nat.ne_of_gt (IsS115.lt (show IsS115 w0 _ g s0_0 s0_1 s0_2 from pI115 HI0.out)) : gb101 ≠ g)); clear HI0 HK HB; have HI0 := n0_; have HK := n1_; have HB := n2_; clear n0_ n1_ n2_; clear hb hbox hg) | ((with_reducible refine gate_callee (f := 163) rfl ?_); refine gl (some 5) Try.func163 #[.pointer (some ⟨g, 0, none⟩)] ?_; (with_reducible refine (spec_l1Cur_field.calls k g s0_0 s0_1 s0_2 t102 t103 t104 t107 t108 w0 _ ?side1 ?side2 A2.out).mono ?_); (case side1 => exact pI115 HI0.out); (case side2 => exact pV HB.out (IsS115.ge HI0.out)); rintro e w63 ⟨v105, rfl, ho0, hi, hb, hk⟩; refine ⟨_, rfl, ?_⟩; have n0_ := aK (KeepBut.blk hk (pB BK101.out) NB101_0.out (by simp)); have HO106 := aK (Kd.R_lower ho0 (keep_size (w := w) (g := g) (row := none) (pK HK.out))); have n2_ := aK (KeepBut.trans (pK HK.out) hk (.inl rfl)); have n3_ := aK (hb); have n4_ := aK (hi); clear BK101 HK HB HI0; have BK101 := n0_; have HK := n2_; have HB := n3_; have HI0 := n4_; clear n0_ n2_ n3_ n4_; (try clear hb); (try clear hb2); (try clear hk); (try clear hi); (try clear ho0)) | ((with_reducible refine gate_dst (N := 3) rfl ?_); refine bxe (cs := #[.int .i64 0, .int .i64 0, .slice none 0 0]) (t := 29) ?_; intro gb109 hg w64 hbox hb; have n0_ := aK (Kd.R_below (pR HO106.out) hb); have n1_ := aK (IsS115.below (pI115 HI0.out) hb); have n3_ := aK (KeepBut.trans (pK HK.out) (KeepBut.of_below hb g none) (.inl rfl)); have n4_ := aK (below_step ((pV HB.out (IsS115.ge HI0.out))) hb); have BK109 := aK (hbox); have GW109 := aK ((by rw [hg]; exact (keep_size (w := w) (g := g) (row := none) (pK HK.out)) : w.heap.size ≤ gb109)); have GE109 := aK ((Nat.le_trans HW0.out (by rw [hg]; exact (keep_size (w := w) (g := g) (row := none) (pK HK.out)) : w.heap.size ≤ gb109) : w0.heap.size ≤ gb109)); obtain ⟨NB101_109, NB109_101⟩ := nb hg (pB BK101.out); have NB0_109 := aK ((by rw [hg]; exact Nat.ne_of_lt (IsS115.lt (show IsS115 w0 _ g s0_0 t107 t108 from pI115 HI0.out)) : g ≠ gb109)); have NB109_0 := aK ((by rw [hg]; exact Nat.ne_of_gt (IsS115.lt (show IsS115 w0 _ g s0_0 t107 t108 from pI115 HI0.out)) : gb109 ≠ g)); replace BK101 := bB BK101 hb; clear HO106 HI0 HK HB; have HO106 := n0_; have HI0 := n1_; have HK := n3_; have HB := n4_; clear n0_ n1_ n3_ n4_ hb hbox hg; have hnb65 := NB109_101.out; have hnc65 := NB101_109.out; have hnb66 := NB109_0.out; have hnc66 := NB0_109.out; obtain ⟨hcz67_0, hcz67_1, hcz67_2, hfz67_0, hfz67_1, hfz67_2⟩ := bc3 BK109.out; obtain ⟨Ao68, co68, eo68⟩ := Kd.R_slice HO106.out; subst eo68) | ((with_reducible refine gate_callee (f := 117) rfl ?_); refine gl (some 7) Try.func117 #[.pointer (some ⟨g, 0, none⟩), .int .i64 24] ?_; (with_reducible refine (spec_l1Cur_pick.calls g s0_0 t107 t108 24 t110 t111 t112 w0 _ ?side1 ?side2 A3.out).mono ?_); (case side1 => exact pI115 HI0.out); (case side2 => exact pV HB.out (IsS115.ge HI0.out)); rintro e w69 ⟨rfl, hi, hb, hk⟩; refine ⟨_, rfl, ?_⟩; have n0_ := aK (KeepBut.blk hk (g' := gb101) (o := .cells #[.int .i64 0, .int .i64 0, .slice none 0 0] 29 (0, 0)) (by refine bk ?_; refine blk_far ?_ NB101_109.out _; refine bk ?_; refine blk_far ?_ NB101_109.out _; refine bk ?_; refine blk_far ?_ NB101_109.out _; refine bk ?_; exact BK101.out) NB101_0.out (by simp)); have n1_ := aK (Kd.R_mono (Kd.R_keep (IsS115.apart (show IsS115 w0 _ g s0_0 t107 t108 from pI115 HI0.out) (pR (rF3 HO106.out BK109.out (.int .i64 t102) (.int .i64 t103) (.slice Ao68 t104.length co68))) (by decide)) hk (fun _ h => h.2)) (fun _ h => h.1)); have n2_ := aK (KeepBut.blk hk (g' := gb109) (o := .cells #[.int .i64 t102, .int .i64 t103, .slice Ao68 t104.length co68] 29 (0, 0)) (by refine bk ?_; refine blk_put (cs := #[.int .i64 t102, .int .i64 t103, .slice none 0 0]) ?_ 2 _ rfl; refine bk ?_; refine blk_put (cs := #[.int .i64 t102, .int .i64 0, .slice none 0 0]) ?_ 1 _ rfl; refine bk ?_; refine blk_put (cs := #[.int .i64 0, .int .i64 0, .slice none 0 0]) ?_ 0 _ rfl; refine bk ?_; exact BK109.out) NB109_0.out (by simp)); have n3_ := aK (KeepBut.trans (pK HK.out) hk (.inl rfl)); have n4_ := aK (hb); have n5_ := aK (hi); clear BK101 HO106 BK109 HK HB HI0; have BK101 := n0_; have HO106 := n1_; have BK109 := n2_; have HK := n3_; have HB := n4_; have HI0 := n5_; clear n0_ n1_ n2_ n3_ n4_ n5_; (try clear hb); (try clear hb2); (try clear hk); (try clear hi); obtain ⟨hcz70_0, hcz70_1, hcz70_2, hfz70_0, hfz70_1, hfz70_2⟩ := bc3 BK109.out; have hnb71 := NB101_0.out; have hnc71 := NB0_101.out; obtain ⟨hcz72_0, hcz72_1, hcz72_2, hfz72_0, hfz72_1, hfz72_2⟩ := bc3 BK101.out))
 refine bodyPost_ret (results_cell_row rfl _ _ gb101 29 #[.int .i64 t102, .int .i64 t103, .slice Ao68 t104.length co68] (0, 0) _ rfl (by refine bk ?_; refine blk_put (cs := #[.int .i64 t102, .int .i64 t103, .slice none 0 0]) ?_ 2 _ rfl; refine bk ?_; refine blk_put (cs := #[.int .i64 t102, .int .i64 0, .slice none 0 0]) ?_ 1 _ rfl; refine bk ?_; refine blk_put (cs := #[.int .i64 0, .int .i64 0, .slice none 0 0]) ?_ 0 _ rfl; refine bk ?_; exact BK101.out) Try.underlying29 rfl (by kernel_rfl)) rfl ?_
 exact ⟨_, er, Kd.Q_of_R (pR (Kd.R_mono (rF3 HO106.out BK101.out (.int .i64 t102) (.int .i64 t103) (.slice Ao68 t104.length co68)) (fun _ h => trivial))), pI115 HI0.out, (pV HB.out (IsS115.ge HI0.out)), pK HK.out⟩
def spec_l1Own.f (l0 : List Int) : Option (List Int) := (some (([] : List Int) : List Int)).bind fun y101 => (if y101.length + l0.length < 17592186044416 then (some (y101 ++ l0)) else (none))
theorem spec_l1Own.calls (A0 : Option Addr) (c0 : Nat) (l0 : List Int) (r : List Int) (w : World) (hr0 : Kd.C (Kd.int .i64) w A0 l0.length l0) (hc0 : l0.length ≤ c0) (h : spec_l1Own.f l0 = some r) :
  Calls Try.prog 177 #[.slice A0 l0.length c0] w fun e w' => ∃ v0_ : Value, e = .returned (v0_) ∧ Kd.R (Kd.int .i64) 3 w' w.heap.size (fun _ => True) v0_ r ∧ Below w.heap.size w w' := by
 have HR0 := Aside0.mk hr0
 have HC0 := Aside0.mk hc0
 clear hr0 hc0
 have HB := aK (Below.refl w.heap.size w)
 have H : ((some (([] : List Int) : List Int)).bind fun y101 => (if y101.length + l0.length < 17592186044416 then (some (y101 ++ l0)) else (none))) = some r := h
 clear h
 obtain ⟨y101, hy101⟩ : ∃ y_ : List Int, y_ = (([] : List Int)) := ⟨_, rfl⟩
 replace H : (if y101.length + l0.length < 17592186044416 then (some (y101 ++ l0)) else (none)) = some r := by first | (rw [hy101]; with_reducible exact H) | (have H2_ := (Option.bind_some _ _).symm.trans H; rw [hy101]; with_reducible exact H2_) | (have H2_ := (Option.bind_some _ _).symm.trans H; with_reducible exact H2_) | with_reducible exact H | (rw [hy101]; exact H) | exact H
 have Ny101 := Aside0.mk hy101
 clear hy101
 by_cases c2 : y101.length + l0.length < 17592186044416
 ·
  rw [if_pos c2] at H
  have LMc2 := Aside0.mk c2
  clear c2
  obtain ⟨y104, hy104⟩ : ∃ y_ : List Int, y_ = (y101 ++ l0) := ⟨_, rfl⟩
  replace H : (some y104) = some r := by first | (rw [hy104]; with_reducible exact H) | (have H2_ := (Option.bind_some _ _).symm.trans H; rw [hy104]; with_reducible exact H2_) | (have H2_ := (Option.bind_some _ _).symm.trans H; with_reducible exact H2_) | with_reducible exact H | (rw [hy104]; exact H) | exact H
  have Ny104 := Aside0.mk hy104
  clear hy104
  obtain rfl := Option.some.inj H
  go_enter Try.func177, Try.ntmps177
  go_wp2_with (first | ((with_reducible refine gate_dst (N := 3) rfl ?_); refine Kd.R_lit (Kd.int .i64) _ 3 ?hg (N := 3) ?hd (xs := ([] : List Int)) (inner := []) (ok := fun _ => True) (okp := fun _ => True) ?hr ?hp (fun _ hk => hk) trivial (Below.refl _ _) (Nat.le_refl _) (by simp) ?_; (case hd => rfl); (case hg => rfl); (case hr => first | (go_simp; done) | (go_simp; rfl)); (case hp => exact (Reps.none _ _)); intro v102 w3 ho4 hb hg_ hnew_; clear hg_ hnew_; (first | rw [← Ny101.out] at ho4 | (simp only [Int.reduceToNat] at ho4; rw [← Ny101.out] at ho4)); have HO103 := aK (Kd.R_lower ho4 (below_size (pS HB.out))); replace HB := bS HB hb; clear hb ho4) | ((with_reducible refine gate_builtin (b := .append) (xs := #[.tmp 3, .tmp 4]) rfl ?_); at_builtin; refine Kd.R_append_rows (Kd.int .i64) (w0 := w) w.heap.size rfl (.tmp 3) (.tmp 4) 22 3 (.int .i64 0) 8 rfl Try.underlying22 info3 rfl (by decide) (by omega) v102 y101 l0 _ _ _ (fun _ => True) (fun _ => False) rfl rfl ?aO ?aR (fun _ _ h => h) (fun _ h => h.elim) ?aF ?aB ?aS ?aL ?_; (case aR => exact pC (Kd.C_below HR0.out HB.out)); (case aB => exact (pS HB.out)); (case aF => exact (fun _ _ => trivial)); (case aO => exact (pR HO103.out)); (case aS => exact (below_size (pS HB.out))); (case aL => have := LMc2.out; omega); intro v105 w5 ho hb hg hat; rw [← Ny104.out] at ho; have n0_ := aK (hb); have HO106 := aK (ho); clear HB HO103; have HB := n0_; clear n0_; clear ho hb hg hat))
  go_ret
  exact ⟨_, er, by (with_reducible repeat (first | apply Kd.R_alloc | apply Kd.R_drewN | apply Kd.R_drew)); exact HO106.out, pT HB.out⟩
 rw [if_neg c2] at H
 exact absurd H (by simp)
def spec_l2Own.f (a0_0 : Int) (a0_1 : Int) (l0_2 : List Int) : Option (Int × Int × List Int) := (spec_l1Own.f l0_2).bind fun t103 => (some (a0_0, a0_1, t103))
def spec_l2Own.T1 : Bool × List (List Nat × List Nat) := (true, [([], []), ([0], [0]), ([], []), ([2], [2]), ([], []), ([4], [4]), ([5], [5]), ([1, 3, 6], [1, 3, 6]), ([7, 6, 0, 1, 2, 3, 4, 5, 6, 7], [7])])
def spec_l2Own.B1 : List Nat := [0, 1, 0, 4, 0, 16, 48, 127, 255]
theorem spec_l2Own.tab1 : rtab .any (opsOf Try.f116 1) = spec_l2Own.T1 := by kernel_rfl
theorem spec_l2Own.bits1 : waitsOk spec_l2Own.T1.2 spec_l2Own.B1 = true := by kernel_rfl
theorem spec_l2Own.calls (a0_0 : Int) (a0_1 : Int) (A0_2 : Option Addr) (c0_2 : Nat) (l0_2 : List Int) (r1 : Int) (r2 : Int) (r3 : List Int) (w : World) (hr0_2 : Kd.C (Kd.int .i64) w A0_2 l0_2.length l0_2) (hc0_2 : l0_2.length ≤ c0_2) (h : spec_l2Own.f a0_0 a0_1 l0_2 = some (r1, r2, r3)) :
  Calls Try.prog 116 #[.agg #[.int .i64 a0_0, .int .i64 a0_1, .slice A0_2 l0_2.length c0_2]] w fun e w' => ∃ v2_ : Value, e = .returned (.agg #[.int .i64 r1, .int .i64 r2, v2_]) ∧ Kd.R (Kd.int .i64) 3 w' w.heap.size (fun _ => True) v2_ r3 ∧ Below w.heap.size w w' := by
 have hu29 := Try.underlying29
 have HR0_2 := Aside0.mk hr0_2
 have HC0_2 := Aside0.mk hc0_2
 clear hr0_2 hc0_2
 have HB := aK (Below.refl w.heap.size w)
 have H : ((spec_l1Own.f l0_2).bind fun t103 => (some (a0_0, a0_1, t103))) = some (r1, r2, r3) := h
 clear h
 replace H := Option.bind_eq_some_iff.mp H
 obtain ⟨t103, A20, H⟩ := H
 replace H : (some (a0_0, a0_1, t103)) = some (r1, r2, r3) := H
 have A2 := Aside0.mk A20
 clear A20
 simp only [Option.some.injEq, Prod.mk.injEq] at H
 obtain ⟨rfl, rfl, rfl⟩ := H
 go_enter Try.func116, Try.ntmps116
 try go_wp2_with (first | ((with_reducible refine gate_dst (N := 1) rfl ?_); refine bxe (cs := #[.int .i64 a0_0, .int .i64 a0_1, .slice A0_2 l0_2.length c0_2]) (t := 29) ?_; intro gb101 hg w3 hbox hb; have BK101 := aK (hbox); have GW101 := aK (gE hg (pS HB.out)); have GE101 := GW101; replace HB := bS HB hb; clear hb hbox hg) | ((with_reducible refine gate_dst (N := 2) rfl ?_); refine bxe (cs := #[.int .i64 0, .int .i64 0, .slice none 0 0]) (t := 29) ?_; intro gb102 hg w4 hbox hb; have BK102 := aK (hbox); have GW102 := aK (gE hg (pS HB.out)); have GE102 := GW102; obtain ⟨NB101_102, NB102_101⟩ := nb hg (pB BK101.out); replace BK101 := bB BK101 hb; replace HB := bS HB hb; clear hb hbox hg))
 have n0_ := aK (blk_drew BK101.out)
 have n1_ := aK (blk_drew BK102.out)
 have n2_ := aK (below_drew1 HB.out)
 clear BK101 BK102 HB
 have BK101 := n0_
 have BK102 := n1_
 have HB := n2_
 clear n0_ n1_ n2_
 refine start_ (n := 9) (S := fun w' => w'.cell? ⟨gb101, 0, none⟩ = some (.int .i64 a0_0) ∧ w'.cell? ⟨gb101, 1, none⟩ = some (.int .i64 a0_1) ∧ w'.cell? ⟨gb101, 2, none⟩ = some (.slice A0_2 l0_2.length c0_2)) (ds := []) #[false, false, false, false, false, false, false, false, false] (by kernel_rfl) rfl rfl (cz3 BK101.out) (fun hHeld => ?_); refine with_tabW spec_l2Own.tab1 spec_l2Own.bits1 (fun HT_ HW_ => ?_)
 generalize w4.drew = w5 at BK101 BK102 HB hHeld ⊢
 refine pu (i := 0) (N := some 3) #[true, false, false, false, false, false, false, false, false] rfl rfl HT_.out ?_
 refine pu (i := 2) (N := some 5) #[true, false, true, false, false, false, false, false, false] rfl rfl HT_.out ?_
 refine pu (i := 4) (N := some 7) #[true, false, true, false, true, false, false, false, false] rfl rfl HT_.out ?_
 refine tk (i := 1) (N := some 4) #[true, true, true, false, true, false, false, false, false] rfl rfl HT_.out HW_.out (Or.inl ⟨by rfl, by rintro w' ⟨s0, s1, s2⟩; go_simp; with_reducible rfl⟩) hHeld ?_
 refine tk (i := 3) (N := some 6) #[true, true, true, true, true, false, false, false, false] rfl rfl HT_.out HW_.out (Or.inl ⟨by rfl, by rintro w' ⟨s0, s1, s2⟩; go_simp; with_reducible rfl⟩) hHeld ?_
 refine tk (i := 5) (N := some 8) #[true, true, true, true, true, true, false, false, false] rfl rfl HT_.out HW_.out (Or.inl ⟨by rfl, by rintro w' ⟨s0, s1, s2⟩; go_simp; with_reducible rfl⟩) hHeld ?_
 refine one_ (i := 6) (N := some 9) #[true, true, true, true, true, true, true, false, false] rfl rfl (one_of HT_.out (by kernel_rfl)) (by decide) (fun K hK => ?_)
 refine goes_ Try.func177 (by kernel_rfl) rfl #[.slice A0_2 l0_2.length c0_2] (by rfl) rfl rfl (by (try simp only [List.map_toArray, List.map_cons, List.map_nil]); first | done | rfl | (simp only [List.length_drop, List.length_take]; rfl)) ?_
 with_reducible refine (spec_l1Own.calls _ _ l0_2 t103 _ ?side1 ?side2 A2.out).mono ?_
 (case side1 => exact pC (Kd.C_below HR0_2.out HB.out))
 (case side2 => exact HC0_2.out)
 rintro e w6 ⟨v104, rfl, ho0, hb⟩
 refine ⟨_, rfl, ?_⟩
 have HO105 := aK (Kd.R_lower ho0 (below_size (pS HB.out)))
 replace BK101 := bB BK101 hb
 replace BK102 := bB BK102 hb
 replace HB := bS HB hb
 (try clear hb)
 (try clear hb2)
 (try clear hk)
 (try clear hi)
 (try clear ho0)
 obtain ⟨Ao7, co7, eo7⟩ := Kd.R_slice HO105.out
 (first | subst eo7 | (obtain ⟨f4_, f5_⟩ := sI eo7; subst f4_; subst f5_))
 refine hK.out _ _ (cz3 BK101.out) (fun hHeld => ?_)
 clear hK K
 refine norm_ (a' := ?_) ?_ ?_
 rotate_left
 ·
  show Act.put _ (some 9) _ = _
  simp only [sP]
  rfl
 refine pu (i := 7) (N := some 10) #[true, true, true, true, true, true, true, true, false] rfl rfl HT_.out ?_
 refine one_ (i := 8) (N := none) #[true, true, true, true, true, true, true, true, true] rfl rfl (one_of HT_.out (by kernel_rfl)) (by decide) (fun K hK => ?_)
 have hs8 : w6.cell? ⟨gb102, 0, none⟩ = some (.int .i64 0) := (blk_cell BK102.out 0).trans rfl
 have hfs8 := blk_frozen BK102.out 0
 have hns8_0 := NB101_102.out
 have hms8_0 := NB102_101.out
 have hs9 : w6.cell? ⟨gb102, 1, none⟩ = some (.int .i64 0) := (blk_cell BK102.out 1).trans rfl
 have hfs9 := blk_frozen BK102.out 1
 have hns9_0 := NB101_102.out
 have hms9_0 := NB102_101.out
 have hs10 : w6.cell? ⟨gb102, 2, none⟩ = some (.slice none 0 0) := (blk_cell BK102.out 2).trans rfl
 have hfs10 := blk_frozen BK102.out 2
 have hns10_0 := NB101_102.out
 have hms10_0 := NB102_101.out
 refine skip_ (w1 := ?_) (by rfl) rfl ?_ ?_
 rotate_left
 ·
  go_simp
  rfl
 refine hK.out _ _ ⟨((cell_far (p := ⟨gb102, _, none⟩) NB101_102.out _).trans (((cell_far (p := ⟨gb102, _, none⟩) NB101_102.out _).trans (((cell_far (p := ⟨gb102, _, none⟩) NB101_102.out _).trans (hHeld.1)))))), ((cell_far (p := ⟨gb102, _, none⟩) NB101_102.out _).trans (((cell_far (p := ⟨gb102, _, none⟩) NB101_102.out _).trans (((cell_far (p := ⟨gb102, _, none⟩) NB101_102.out _).trans (hHeld.2.1)))))), ((cell_far (p := ⟨gb102, _, none⟩) NB101_102.out _).trans (((cell_far (p := ⟨gb102, _, none⟩) NB101_102.out _).trans (((cell_far (p := ⟨gb102, _, none⟩) NB101_102.out _).trans (hHeld.2.2))))))⟩ (fun hHeld => ?_)
 clear hK K
 refine done_ (done_of HT_.out (by kernel_rfl)) ?_
 try go_wp2
 refine bodyPost_ret (results_cell_row rfl _ _ gb102 29 #[.int .i64 a0_0, .int .i64 a0_1, .slice Ao7 t103.length co7] (0, 0) _ rfl (by refine bk ?_; refine blk_put (cs := #[.int .i64 a0_0, .int .i64 a0_1, .slice none 0 0]) ?_ 2 _ rfl; refine bk ?_; refine blk_put (cs := #[.int .i64 a0_0, .int .i64 0, .slice none 0 0]) ?_ 1 _ rfl; refine bk ?_; refine blk_put (cs := #[.int .i64 0, .int .i64 0, .slice none 0 0]) ?_ 0 _ rfl; refine bk ?_; exact BK102.out) Try.underlying29 rfl (by kernel_rfl)) rfl ?_
 exact ⟨_, er, by (with_reducible repeat (first | apply Kd.R_alloc | apply Kd.R_drewN | apply Kd.R_drew)); exact Kd.R_mono (rF3 HO105.out BK102.out (.int .i64 a0_0) (.int .i64 a0_1) (.slice Ao7 t103.length co7)) (fun _ h => trivial), pT HB.out⟩
end Go.Proofs.Ytilffhaghabdgaa.P
