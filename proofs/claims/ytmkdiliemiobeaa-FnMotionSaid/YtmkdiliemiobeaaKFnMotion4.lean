/- Texts of the claim FnMotion, merged: part 4 of 13: the program's and the reference's functions as Lean functions, the walks that show it, and plain lemmas; no conditions. -/
import Derived.Test.YtmkdiliemiobeaaKFnMotion3
namespace Go.Proofs.Ytmkdiliemiobeaa.P
open Go.RowKit Go.Proofs.YtmkdiliemiobeaaW.PrintWords Go.Proofs.YtmkdiliemiobeaaW.PrintLast Go.Proofs.YtmkdiliemiobeaaW.PrintMore
attribute [local go_sem] max2_int min2_int max_two min_two max_three min_three max_four min_four
set_option linter.unusedVariables false
set_option linter.unusedSimpArgs false
set_option maxHeartbeats 8000000
set_option maxRecDepth 100000
def spec_l1Cur_anyField.f (k : Nat) (s0_0 : List Int) (s0_1 : Int) (s0_2 : Int) : Option (Int × Int × List Int × Int × Int) := (spec_l1Cur_field.f k s0_0 s0_1 s0_2).bind fun bt102 => ((spec_l1Cur_pick.f s0_0 bt102.2.2.2.1 bt102.2.2.2.2 24).bind fun bt110 => (if bt110.1 = 0 then ((spec_l1Cur_among.f s0_0 bt110.2.1 bt110.2.2 (([0, 9, 8, bt102.2.1] : List Int))).bind fun bt116 => (some (bt116.1, bt102.2.1, bt102.2.2.1, bt116.2.1, bt116.2.2))) else (if bt110.1 = 1 then ((spec_l1Cur_pick.f s0_0 bt110.2.1 bt110.2.2 (bt102.2.2.1.length : Int)).bind fun bt119 => ((spec_l1Cur_among.f s0_0 bt119.2.1 bt119.2.2 (([9001, (-9001), (-9998), (-9999)] : List Int))).bind fun bt125 => (if 0 ≤ bt119.1 then (if bt119.1 < (bt102.2.2.1.length : Int) then (some (bt102.1, bt102.2.1, (bt102.2.2.1.set (bt119.1 : Int).toNat bt125.1), bt125.2.1, bt125.2.2)) else (none)) else (none)))) else (if bt110.1 = 2 then (if 1 ≤ (bt102.2.2.1.length : Int) then (some (bt102.1, bt102.2.1, (bt102.2.2.1.drop (1 : Int).toNat), bt110.2.1, bt110.2.2)) else (none)) else (some (bt102.1, bt102.2.1, bt102.2.2.1, bt110.2.1, bt110.2.2))))))
def spec_l1Cur_anyField.T6 : Bool × List (List Nat × List Nat) := (true, [([], []), ([0], [0]), ([], []), ([], []), ([3], [3]), ([4], [4]), ([2, 5], [2, 5]), ([], []), ([], []), ([7, 8, 6], [7, 8]), ([1, 6, 0, 1, 2, 3, 4, 5, 6, 7, 8, 9], [1, 6]), ([10, 9, 9, 0, 1, 2, 3, 4, 5, 6, 7, 8, 9], [9, 10])])
def spec_l1Cur_anyField.B6 : List Nat := [0, 1, 0, 0, 8, 24, 60, 0, 0, 508, 1023, 2047]
theorem spec_l1Cur_anyField.tab6 : rtab .any (opsOf Try.f41 6) = spec_l1Cur_anyField.T6 := by kernel_rfl
theorem spec_l1Cur_anyField.bits6 : waitsOk spec_l1Cur_anyField.T6.2 spec_l1Cur_anyField.B6 = true := by kernel_rfl
theorem spec_l1Cur_anyField.calls (k : Nat) (g : Nat) (s0_0 : List Int) (s0_1 : Int) (s0_2 : Int) (r1 : Int) (r2 : Int) (r3 : List Int) (r4 : Int) (r5 : Int) (w0 w : World) (hI : IsS58 w0 w g s0_0 s0_1 s0_2) (hB : Below w0.heap.size w0 w) (h : spec_l1Cur_anyField.f k s0_0 s0_1 s0_2 = some (r1, r2, r3, r4, r5)) :
  Calls Try.prog 41 #[.pointer (some ⟨g, 0, none⟩)] w fun e w' => ∃ v2_ : Value, e = .returned (.agg #[.int .i64 r1, .int .i64 r2, v2_]) ∧ Kd.Q (Kd.int .i64) 3 w' w.heap.size (fun _ => True) v2_ r3 ∧ IsS58 w0 w' g s0_0 r4 r5 ∧ Below w0.heap.size w0 w' ∧ KeepBut w w' g none := by
 have hu26 := Try.underlying26
 have HI0 := Aside0.mk hI
 have HK := aK (KeepBut.refl w g none)
 have HL := Aside0.mk hB.size
 clear hI
 have HW0 := Aside0.mk hB.size
 have HB := Aside0.mk hB
 clear hB
 have H : ((spec_l1Cur_field.f k s0_0 s0_1 s0_2).bind fun bt102 => ((spec_l1Cur_pick.f s0_0 bt102.2.2.2.1 bt102.2.2.2.2 24).bind fun bt110 => (if bt110.1 = 0 then ((spec_l1Cur_among.f s0_0 bt110.2.1 bt110.2.2 (([0, 9, 8, bt102.2.1] : List Int))).bind fun bt116 => (some (bt116.1, bt102.2.1, bt102.2.2.1, bt116.2.1, bt116.2.2))) else (if bt110.1 = 1 then ((spec_l1Cur_pick.f s0_0 bt110.2.1 bt110.2.2 (bt102.2.2.1.length : Int)).bind fun bt119 => ((spec_l1Cur_among.f s0_0 bt119.2.1 bt119.2.2 (([9001, (-9001), (-9998), (-9999)] : List Int))).bind fun bt125 => (if 0 ≤ bt119.1 then (if bt119.1 < (bt102.2.2.1.length : Int) then (some (bt102.1, bt102.2.1, (bt102.2.2.1.set (bt119.1 : Int).toNat bt125.1), bt125.2.1, bt125.2.2)) else (none)) else (none)))) else (if bt110.1 = 2 then (if 1 ≤ (bt102.2.2.1.length : Int) then (some (bt102.1, bt102.2.1, (bt102.2.2.1.drop (1 : Int).toNat), bt110.2.1, bt110.2.2)) else (none)) else (some (bt102.1, bt102.2.1, bt102.2.2.1, bt110.2.1, bt110.2.2))))))) = some (r1, r2, r3, r4, r5) := h
 clear h
 replace H := Option.bind_eq_some_iff.mp H
 obtain ⟨⟨t102, t103, t104, t107, t108⟩, A20, H⟩ := H
 replace H : ((spec_l1Cur_pick.f s0_0 t107 t108 24).bind fun bt110 => (if bt110.1 = 0 then ((spec_l1Cur_among.f s0_0 bt110.2.1 bt110.2.2 (([0, 9, 8, t103] : List Int))).bind fun bt116 => (some (bt116.1, t103, t104, bt116.2.1, bt116.2.2))) else (if bt110.1 = 1 then ((spec_l1Cur_pick.f s0_0 bt110.2.1 bt110.2.2 (t104.length : Int)).bind fun bt119 => ((spec_l1Cur_among.f s0_0 bt119.2.1 bt119.2.2 (([9001, (-9001), (-9998), (-9999)] : List Int))).bind fun bt125 => (if 0 ≤ bt119.1 then (if bt119.1 < (t104.length : Int) then (some (t102, t103, (t104.set (bt119.1 : Int).toNat bt125.1), bt125.2.1, bt125.2.2)) else (none)) else (none)))) else (if bt110.1 = 2 then (if 1 ≤ (t104.length : Int) then (some (t102, t103, (t104.drop (1 : Int).toNat), bt110.2.1, bt110.2.2)) else (none)) else (some (t102, t103, t104, bt110.2.1, bt110.2.2)))))) = some (r1, r2, r3, r4, r5) := H
 have A2 := Aside0.mk A20
 clear A20
 replace H := Option.bind_eq_some_iff.mp H
 obtain ⟨⟨t110, t111, t112⟩, A30, H⟩ := H
 replace H : (if t110 = 0 then ((spec_l1Cur_among.f s0_0 t111 t112 (([0, 9, 8, t103] : List Int))).bind fun bt116 => (some (bt116.1, t103, t104, bt116.2.1, bt116.2.2))) else (if t110 = 1 then ((spec_l1Cur_pick.f s0_0 t111 t112 (t104.length : Int)).bind fun bt119 => ((spec_l1Cur_among.f s0_0 bt119.2.1 bt119.2.2 (([9001, (-9001), (-9998), (-9999)] : List Int))).bind fun bt125 => (if 0 ≤ bt119.1 then (if bt119.1 < (t104.length : Int) then (some (t102, t103, (t104.set (bt119.1 : Int).toNat bt125.1), bt125.2.1, bt125.2.2)) else (none)) else (none)))) else (if t110 = 2 then (if 1 ≤ (t104.length : Int) then (some (t102, t103, (t104.drop (1 : Int).toNat), t111, t112)) else (none)) else (some (t102, t103, t104, t111, t112))))) = some (r1, r2, r3, r4, r5) := H
 have A3 := Aside0.mk A30
 clear A30
 by_cases c4 : t110 = 0
 ·
  rw [if_pos c4] at H
  have c4b0 : (t110 == 0) = true := beq_iff_eq.mpr c4
  have c4b1 : (t110 != 0) = false := bne_eq_false_iff_eq.mpr c4
  clear c4
  obtain ⟨y113, hy113⟩ : ∃ y_ : List Int, y_ = (([0, 9, 8, t103] : List Int)) := ⟨_, rfl⟩
  replace H : ((spec_l1Cur_among.f s0_0 t111 t112 y113).bind fun bt116 => (some (bt116.1, t103, t104, bt116.2.1, bt116.2.2))) = some (r1, r2, r3, r4, r5) := by first | (rw [hy113]; with_reducible exact H) | (have H2_ := (Option.bind_some _ _).symm.trans H; rw [hy113]; with_reducible exact H2_) | (have H2_ := (Option.bind_some _ _).symm.trans H; with_reducible exact H2_) | with_reducible exact H | (rw [hy113]; exact H) | exact H
  have Ny113 := Aside0.mk hy113; clear hy113; replace H := Option.bind_eq_some_iff.mp H
  obtain ⟨⟨t116, t117, t118⟩, A50, H⟩ := H
  replace H : (some (t116, t103, t104, t117, t118)) = some (r1, r2, r3, r4, r5) := H
  have A5 := Aside0.mk A50; clear A50
  simp only [Option.some.injEq, Prod.mk.injEq] at H
  obtain ⟨rfl, rfl, rfl, rfl, rfl⟩ := H
  go_enter Try.func41, Try.ntmps41
  go_wp2_with (first | ((with_reducible refine gate_dst (N := 2) rfl ?_); refine bxe (cs := #[.int .i64 0, .int .i64 0, .slice none 0 0]) (t := 26) ?_; intro gb101 hg w6 hbox hb; have n0_ := aK (IsS58.below (pI58 HI0.out) hb); have n1_ := aK (KeepBut.trans (pK HK.out) (KeepBut.of_below hb g none) (.inl rfl)); replace HB := aK (below_step ((pV HB.out (IsS58.ge HI0.out))) hb); have BK101 := aK (hbox); have GW101 := aK ((by rw [hg]; exact (keep_size (w := w) (g := g) (row := none) (pK HK.out)) : w.heap.size ≤ gb101)); have GE101 := aK ((Nat.le_trans HW0.out (by rw [hg]; exact (keep_size (w := w) (g := g) (row := none) (pK HK.out)) : w.heap.size ≤ gb101) : w0.heap.size ≤ gb101)); have NB0_101 := aK ((by rw [hg]; exact Nat.ne_of_lt (IsS58.lt (show IsS58 w0 _ g s0_0 s0_1 s0_2 from pI58 HI0.out)) : g ≠ gb101)); have NB101_0 := aK ((by rw [hg]; exact Nat.ne_of_gt (IsS58.lt (show IsS58 w0 _ g s0_0 s0_1 s0_2 from pI58 HI0.out)) : gb101 ≠ g)); clear HI0 HK; have HI0 := n0_; have HK := n1_; clear n0_ n1_; clear hb hbox hg) | ((with_reducible refine gate_callee (f := 39) rfl ?_); refine gl (some 5) Try.func39 #[.pointer (some ⟨g, 0, none⟩)] ?_; (with_reducible refine (spec_l1Cur_field.calls k g s0_0 s0_1 s0_2 t102 t103 t104 t107 t108 w0 _ ?side1 ?side2 A2.out).mono ?_); (case side1 => exact pI58 HI0.out); (case side2 => exact pV HB.out (IsS58.ge HI0.out)); rintro e w7 ⟨v105, rfl, ho0, hi, hb, hk⟩; refine ⟨_, rfl, ?_⟩; replace BK101 := aK (KeepBut.blk hk (pB BK101.out) NB101_0.out (by simp)); have HO106 := aK (Kd.R_lower ho0 (keep_size (w := w) (g := g) (row := none) (pK HK.out))); replace HK := aK (KeepBut.trans (pK HK.out) hk (.inl rfl)); replace HB := aK (hb); replace HI0 := aK (hi); (try clear hb); (try clear hk); (try clear hi); (try clear ho0)) | ((with_reducible refine gate_dst (N := 3) rfl ?_); refine bxe (cs := #[.int .i64 0, .int .i64 0, .slice none 0 0]) (t := 26) ?_; intro gb109 hg w8 hbox hb; replace HO106 := aK (Kd.R_below (pR HO106.out) hb); have n1_ := aK (IsS58.below (pI58 HI0.out) hb); have n3_ := aK (KeepBut.trans (pK HK.out) (KeepBut.of_below hb g none) (.inl rfl)); replace HB := aK (below_step ((pV HB.out (IsS58.ge HI0.out))) hb); have BK109 := aK (hbox); have GW109 := aK ((by rw [hg]; exact (keep_size (w := w) (g := g) (row := none) (pK HK.out)) : w.heap.size ≤ gb109)); have GE109 := aK ((Nat.le_trans HW0.out (by rw [hg]; exact (keep_size (w := w) (g := g) (row := none) (pK HK.out)) : w.heap.size ≤ gb109) : w0.heap.size ≤ gb109)); obtain ⟨NB101_109, NB109_101⟩ := nb hg (pB BK101.out); have NB0_109 := aK ((by rw [hg]; exact Nat.ne_of_lt (IsS58.lt (show IsS58 w0 _ g s0_0 t107 t108 from pI58 HI0.out)) : g ≠ gb109)); have NB109_0 := aK ((by rw [hg]; exact Nat.ne_of_gt (IsS58.lt (show IsS58 w0 _ g s0_0 t107 t108 from pI58 HI0.out)) : gb109 ≠ g)); replace BK101 := bB BK101 hb; clear HI0 HK; have HI0 := n1_; have HK := n3_; clear n1_ n3_ hb hbox hg; obtain ⟨hnb9, hnc9⟩ := nB NB109_101; obtain ⟨hnb10, hnc10⟩ := nB NB109_0; obtain ⟨z11_0, z11_1, z11_2, y11_0, y11_1, y11_2⟩ := bc3 BK109.out; obtain ⟨Ao12, co12, eo12⟩ := Kd.R_slice HO106.out; subst eo12) | ((with_reducible refine gate_callee (f := 44) rfl ?_); refine gl (some 7) Try.func44 #[.pointer (some ⟨g, 0, none⟩), .int .i64 24] ?_; (with_reducible refine (spec_l1Cur_pick.calls g s0_0 t107 t108 24 t110 t111 t112 w0 _ ?side1 ?side2 A3.out).mono ?_); (case side1 => exact pI58 HI0.out); (case side2 => exact pV HB.out (IsS58.ge HI0.out)); rintro e w13 ⟨rfl, hi, hb, hk⟩; refine ⟨_, rfl, ?_⟩; replace BK101 := aK (KeepBut.blk hk (g' := gb101) (o := .cells #[.int .i64 0, .int .i64 0, .slice none 0 0] 26 (0, 0)) (by refine bk ?_; refine blk_far ?_ NB101_109.out _; refine bk ?_; refine blk_far ?_ NB101_109.out _; refine bk ?_; refine blk_far ?_ NB101_109.out _; refine bk ?_; exact BK101.out) NB101_0.out (by simp)); replace HO106 := aK (Kd.R_mono (Kd.R_keep (IsS58.apart (show IsS58 w0 _ g s0_0 t107 t108 from pI58 HI0.out) (pR (rF3 HO106.out BK109.out (.int .i64 t102) (.int .i64 t103) (.slice Ao12 t104.length co12))) (by decide)) hk (fun _ h => h.2)) (fun _ h => h.1)); replace BK109 := aK (KeepBut.blk hk (g' := gb109) (o := .cells #[.int .i64 t102, .int .i64 t103, .slice Ao12 t104.length co12] 26 (0, 0)) (by refine bk ?_; refine blk_put (cs := #[.int .i64 t102, .int .i64 t103, .slice none 0 0]) ?_ 2 _ rfl; refine bk ?_; refine blk_put (cs := #[.int .i64 t102, .int .i64 0, .slice none 0 0]) ?_ 1 _ rfl; refine bk ?_; refine blk_put (cs := #[.int .i64 0, .int .i64 0, .slice none 0 0]) ?_ 0 _ rfl; refine bk ?_; exact BK109.out) NB109_0.out (by simp)); replace HK := aK (KeepBut.trans (pK HK.out) hk (.inl rfl)); replace HB := aK (hb); replace HI0 := aK (hi); (try clear hb); (try clear hk); (try clear hi); obtain ⟨z14_0, z14_1, z14_2, y14_0, y14_1, y14_2⟩ := bc3 BK109.out) | ((with_reducible refine gate_dst (N := 13) rfl ?_); refine Kd.R_lit (Kd.int .i64) _ 3 ?hg (N := 13) ?hd (xs := ([0, 9, 8, t103] : List Int)) (inner := [.int .i64 0, .int .i64 9, .int .i64 8, .int .i64 t103]) (ok := fun _ => True) (okp := fun _ => True) ?hr ?hp (fun _ hk => hk) trivial (Below.refl _ _) (Nat.le_refl _) (by simp) ?_; (case hd => rfl); (case hg => rfl); (case hr => first | (go_simp; done) | (go_simp; rfl)); (case hp => exact (Reps.one (show Kd.M (Kd.int .i64) _ _ _ 0 [.int .i64 0] from rfl) (Reps.one (show Kd.M (Kd.int .i64) _ _ _ 9 [.int .i64 9] from rfl) (Reps.one (show Kd.M (Kd.int .i64) _ _ _ 8 [.int .i64 8] from rfl) (Reps.one (show Kd.M (Kd.int .i64) _ _ _ t103 [.int .i64 t103] from rfl) (Reps.none _ _)))))); intro v114 w15 ho16 hb hg_ hnew_; clear hg_ hnew_; (first | rw [← Ny113.out] at ho16 | (simp only [Int.reduceToNat] at ho16; rw [← Ny113.out] at ho16)); have n0_ := aK (Kd.R_elder' (pR HO106.out) (Kd.R_base ho16) hb); have HO115 := aK (Kd.R_lower (nw1 ho16 (pR HO106.out)) (keep_size (w := w) (g := g) (row := none) (pK HK.out))); have n2_ := aK (IsS58.below (pI58 HI0.out) hb); replace HK := aK (KeepBut.trans (pK HK.out) (KeepBut.of_below hb g none) (.inl rfl)); replace HB := aK (below_step ((pV HB.out (IsS58.ge HI0.out))) hb); replace BK101 := bB BK101 hb; replace BK109 := bB BK109 hb; clear HO106 HI0; have HO106 := n0_; have HI0 := n2_; clear n0_ n2_ hb ho16; obtain ⟨Ao17, co17, eo17⟩ := Kd.R_slice HO115.out; subst eo17) | ((with_reducible refine gate_callee (f := 45) rfl ?_); refine gl (some 14) Try.func45 #[.pointer (some ⟨g, 0, none⟩), .slice Ao17 y113.length co17] ?_; (with_reducible refine (spec_l1Cur_among.calls g s0_0 t111 t112 _ _ y113 t116 t117 t118 w0 _ ?side1 ?side2 ?side3 ?side4 ?side5 A5.out).mono ?_); (case side1 => exact pI58 HI0.out); (case side2 => exact pV HB.out (IsS58.ge HI0.out)); (case side3 => exact pC (Kd.R_reads' HO115.out).2.2); (case side4 => exact (Kd.R_reads' HO115.out).2.1); (case side5 => exact far_slice (IsS58.own_ne HI0.out HO115.out (by decide))); rintro e w18 ⟨rfl, hi, hb, hk⟩; refine ⟨_, rfl, ?_⟩; replace BK101 := aK (KeepBut.blk hk (pB BK101.out) NB101_0.out (by simp)); replace HO106 := aK (Kd.R_mono (Kd.R_keep (IsS58.apart (show IsS58 w0 _ g s0_0 t111 t112 from pI58 HI0.out) (pR HO106.out) (by decide)) hk (fun _ h => h.2)) (fun _ h => h.1)); replace BK109 := aK (KeepBut.blk hk (pB BK109.out) NB109_0.out (by simp)); replace HO115 := aK (Kd.R_mono (Kd.R_keep (IsS58.apart (show IsS58 w0 _ g s0_0 t111 t112 from pI58 HI0.out) (pR HO115.out) (by decide)) hk (fun _ h => h.2)) (fun _ h => h.1)); replace HK := aK (KeepBut.trans (pK HK.out) hk (.inl rfl)); replace HB := aK (hb); replace HI0 := aK (hi); (try clear hb); (try clear hk); (try clear hi); obtain ⟨z19_0, z19_1, z19_2, y19_0, y19_1, y19_2⟩ := bc3 BK109.out; obtain ⟨hnb20, hnc20⟩ := nB NB101_0; obtain ⟨z21_0, z21_1, z21_2, y21_0, y21_1, y21_2⟩ := bc3 BK101.out))
  refine bodyPost_ret (results_cell_row rfl _ _ gb101 26 #[.int .i64 t116, .int .i64 t103, .slice Ao12 t104.length co12] (0, 0) _ rfl (by refine bk ?_; refine blk_put (cs := #[.int .i64 t116, .int .i64 t103, .slice none 0 0]) ?_ 2 _ rfl; refine bk ?_; refine blk_put (cs := #[.int .i64 t116, .int .i64 0, .slice none 0 0]) ?_ 1 _ rfl; refine bk ?_; refine blk_put (cs := #[.int .i64 0, .int .i64 0, .slice none 0 0]) ?_ 0 _ rfl; refine bk ?_; refine blk_far ?_ NB101_109.out _; refine bk ?_; exact BK101.out) Try.underlying26 rfl (by kernel_rfl)) rfl ?_
  exact ⟨_, er, Kd.Q_of_R (pR (Kd.R_mono (Kd.R_far (p := ⟨gb101, 2, none⟩) (Kd.R_far (p := ⟨gb101, 1, none⟩) (Kd.R_far (p := ⟨gb101, 0, none⟩) (Kd.R_far (p := ⟨gb109, 0, none⟩) (Kd.R_types (Kd.R_types HO106.out BK109.out (by decide)) BK101.out (by decide)) (fun _ hk => hk.1.2) (.int .i64 t116)) (fun _ hk => hk.2) (.int .i64 t116)) (fun _ hk => hk.2) (.int .i64 t103)) (fun _ hk => hk.2) (.slice Ao12 t104.length co12)) (fun _ hk => trivial))), pI58 HI0.out, (pV HB.out (IsS58.ge HI0.out)), pK HK.out⟩
 rw [if_neg c4] at H
 have c4b0 : (t110 == 0) = false := beq_eq_false_iff_ne.mpr c4
 have c4b1 : (t110 != 0) = true := bne_iff_ne.mpr c4
 by_cases c22 : t110 = 1
 rotate_left
 ·
  rw [if_neg c22] at H
  have c22b0 : (t110 == 1) = false := beq_eq_false_iff_ne.mpr c22
  have c22b1 : (t110 != 1) = true := bne_iff_ne.mpr c22
  by_cases c48 : t110 = 2
  rotate_left
  ·
   rw [if_neg c48] at H
   have c48b0 : (t110 == 2) = false := beq_eq_false_iff_ne.mpr c48
   have c48b1 : (t110 != 2) = true := bne_iff_ne.mpr c48
   simp only [Option.some.injEq, Prod.mk.injEq] at H
   obtain ⟨rfl, rfl, rfl, rfl, rfl⟩ := H
   go_enter Try.func41, Try.ntmps41
   go_wp2_with (first | ((with_reducible refine gate_dst (N := 2) rfl ?_); refine bxe (cs := #[.int .i64 0, .int .i64 0, .slice none 0 0]) (t := 26) ?_; intro gb101 hg w62 hbox hb; have n0_ := aK (IsS58.below (pI58 HI0.out) hb); have n1_ := aK (KeepBut.trans (pK HK.out) (KeepBut.of_below hb g none) (.inl rfl)); replace HB := aK (below_step ((pV HB.out (IsS58.ge HI0.out))) hb); have BK101 := aK (hbox); have GW101 := aK ((by rw [hg]; exact (keep_size (w := w) (g := g) (row := none) (pK HK.out)) : w.heap.size ≤ gb101)); have GE101 := aK ((Nat.le_trans HW0.out (by rw [hg]; exact (keep_size (w := w) (g := g) (row := none) (pK HK.out)) : w.heap.size ≤ gb101) : w0.heap.size ≤ gb101)); have NB0_101 := aK ((by rw [hg]; exact Nat.ne_of_lt (IsS58.lt (show IsS58 w0 _ g s0_0 s0_1 s0_2 from pI58 HI0.out)) : g ≠ gb101)); have NB101_0 := aK ((by rw [hg]; exact Nat.ne_of_gt (IsS58.lt (show IsS58 w0 _ g s0_0 s0_1 s0_2 from pI58 HI0.out)) : gb101 ≠ g)); clear HI0 HK; have HI0 := n0_; have HK := n1_; clear n0_ n1_; clear hb hbox hg) | ((with_reducible refine gate_callee (f := 39) rfl ?_); refine gl (some 5) Try.func39 #[.pointer (some ⟨g, 0, none⟩)] ?_; (with_reducible refine (spec_l1Cur_field.calls k g s0_0 s0_1 s0_2 t102 t103 t104 t107 t108 w0 _ ?side1 ?side2 A2.out).mono ?_); (case side1 => exact pI58 HI0.out); (case side2 => exact pV HB.out (IsS58.ge HI0.out)); rintro e w63 ⟨v105, rfl, ho0, hi, hb, hk⟩; refine ⟨_, rfl, ?_⟩; replace BK101 := aK (KeepBut.blk hk (pB BK101.out) NB101_0.out (by simp)); have HO106 := aK (Kd.R_lower ho0 (keep_size (w := w) (g := g) (row := none) (pK HK.out))); replace HK := aK (KeepBut.trans (pK HK.out) hk (.inl rfl)); replace HB := aK (hb); replace HI0 := aK (hi); (try clear hb); (try clear hk); (try clear hi); (try clear ho0)) | ((with_reducible refine gate_dst (N := 3) rfl ?_); refine bxe (cs := #[.int .i64 0, .int .i64 0, .slice none 0 0]) (t := 26) ?_; intro gb109 hg w64 hbox hb; replace HO106 := aK (Kd.R_below (pR HO106.out) hb); have n1_ := aK (IsS58.below (pI58 HI0.out) hb); have n3_ := aK (KeepBut.trans (pK HK.out) (KeepBut.of_below hb g none) (.inl rfl)); replace HB := aK (below_step ((pV HB.out (IsS58.ge HI0.out))) hb); have BK109 := aK (hbox); have GW109 := aK ((by rw [hg]; exact (keep_size (w := w) (g := g) (row := none) (pK HK.out)) : w.heap.size ≤ gb109)); have GE109 := aK ((Nat.le_trans HW0.out (by rw [hg]; exact (keep_size (w := w) (g := g) (row := none) (pK HK.out)) : w.heap.size ≤ gb109) : w0.heap.size ≤ gb109)); obtain ⟨NB101_109, NB109_101⟩ := nb hg (pB BK101.out); have NB0_109 := aK ((by rw [hg]; exact Nat.ne_of_lt (IsS58.lt (show IsS58 w0 _ g s0_0 t107 t108 from pI58 HI0.out)) : g ≠ gb109)); have NB109_0 := aK ((by rw [hg]; exact Nat.ne_of_gt (IsS58.lt (show IsS58 w0 _ g s0_0 t107 t108 from pI58 HI0.out)) : gb109 ≠ g)); replace BK101 := bB BK101 hb; clear HI0 HK; have HI0 := n1_; have HK := n3_; clear n1_ n3_ hb hbox hg; obtain ⟨hnb65, hnc65⟩ := nB NB109_101; obtain ⟨hnb66, hnc66⟩ := nB NB109_0; obtain ⟨z67_0, z67_1, z67_2, y67_0, y67_1, y67_2⟩ := bc3 BK109.out; obtain ⟨Ao68, co68, eo68⟩ := Kd.R_slice HO106.out; subst eo68) | ((with_reducible refine gate_callee (f := 44) rfl ?_); refine gl (some 7) Try.func44 #[.pointer (some ⟨g, 0, none⟩), .int .i64 24] ?_; (with_reducible refine (spec_l1Cur_pick.calls g s0_0 t107 t108 24 t110 t111 t112 w0 _ ?side1 ?side2 A3.out).mono ?_); (case side1 => exact pI58 HI0.out); (case side2 => exact pV HB.out (IsS58.ge HI0.out)); rintro e w69 ⟨rfl, hi, hb, hk⟩; refine ⟨_, rfl, ?_⟩; replace BK101 := aK (KeepBut.blk hk (g' := gb101) (o := .cells #[.int .i64 0, .int .i64 0, .slice none 0 0] 26 (0, 0)) (by refine bk ?_; refine blk_far ?_ NB101_109.out _; refine bk ?_; refine blk_far ?_ NB101_109.out _; refine bk ?_; refine blk_far ?_ NB101_109.out _; refine bk ?_; exact BK101.out) NB101_0.out (by simp)); replace HO106 := aK (Kd.R_mono (Kd.R_keep (IsS58.apart (show IsS58 w0 _ g s0_0 t107 t108 from pI58 HI0.out) (pR (rF3 HO106.out BK109.out (.int .i64 t102) (.int .i64 t103) (.slice Ao68 t104.length co68))) (by decide)) hk (fun _ h => h.2)) (fun _ h => h.1)); replace BK109 := aK (KeepBut.blk hk (g' := gb109) (o := .cells #[.int .i64 t102, .int .i64 t103, .slice Ao68 t104.length co68] 26 (0, 0)) (by refine bk ?_; refine blk_put (cs := #[.int .i64 t102, .int .i64 t103, .slice none 0 0]) ?_ 2 _ rfl; refine bk ?_; refine blk_put (cs := #[.int .i64 t102, .int .i64 0, .slice none 0 0]) ?_ 1 _ rfl; refine bk ?_; refine blk_put (cs := #[.int .i64 0, .int .i64 0, .slice none 0 0]) ?_ 0 _ rfl; refine bk ?_; exact BK109.out) NB109_0.out (by simp)); replace HK := aK (KeepBut.trans (pK HK.out) hk (.inl rfl)); replace HB := aK (hb); replace HI0 := aK (hi); (try clear hb); (try clear hk); (try clear hi); obtain ⟨z70_0, z70_1, z70_2, y70_0, y70_1, y70_2⟩ := bc3 BK109.out; obtain ⟨hnb71, hnc71⟩ := nB NB101_0; obtain ⟨z72_0, z72_1, z72_2, y72_0, y72_1, y72_2⟩ := bc3 BK101.out))
   refine bodyPost_ret (results_cell_row rfl _ _ gb101 26 #[.int .i64 t102, .int .i64 t103, .slice Ao68 t104.length co68] (0, 0) _ rfl (by refine bk ?_; refine blk_put (cs := #[.int .i64 t102, .int .i64 t103, .slice none 0 0]) ?_ 2 _ rfl; refine bk ?_; refine blk_put (cs := #[.int .i64 t102, .int .i64 0, .slice none 0 0]) ?_ 1 _ rfl; refine bk ?_; refine blk_put (cs := #[.int .i64 0, .int .i64 0, .slice none 0 0]) ?_ 0 _ rfl; refine bk ?_; exact BK101.out) Try.underlying26 rfl (by kernel_rfl)) rfl ?_
   exact ⟨_, er, Kd.Q_of_R (pR (Kd.R_mono (rF3 HO106.out BK101.out (.int .i64 t102) (.int .i64 t103) (.slice Ao68 t104.length co68)) (fun _ h => trivial))), pI58 HI0.out, (pV HB.out (IsS58.ge HI0.out)), pK HK.out⟩
  rw [if_pos c48] at H
  have c48b0 : (t110 == 2) = true := beq_iff_eq.mpr c48
  have c48b1 : (t110 != 2) = false := bne_eq_false_iff_eq.mpr c48
  clear c48
  by_cases c49 : 1 ≤ (t104.length : Int)
  rotate_left
  ·
   rw [if_neg c49] at H
   exact absurd H (by simp)
  rw [if_pos c49] at H; have c49b0 := eq_true c49
  have c49b1 : decide (1 ≤ (t104.length : Int)) = true := decide_eq_true c49
  clear c49
  obtain ⟨y129, hy129⟩ : ∃ y_ : List Int, y_ = (t104.drop (1 : Int).toNat) := ⟨_, rfl⟩
  replace H : (some (t102, t103, y129, t111, t112)) = some (r1, r2, r3, r4, r5) := by first | (rw [hy129]; with_reducible exact H) | (have H2_ := (Option.bind_some _ _).symm.trans H; rw [hy129]; with_reducible exact H2_) | (have H2_ := (Option.bind_some _ _).symm.trans H; with_reducible exact H2_) | with_reducible exact H | (rw [hy129]; exact H) | exact H
  have Ny129 := Aside0.mk hy129; clear hy129
  simp only [Option.some.injEq, Prod.mk.injEq] at H
  obtain ⟨rfl, rfl, rfl, rfl, rfl⟩ := H
  go_enter Try.func41, Try.ntmps41
  go_wp2_with (first | ((with_reducible refine gate_dst (N := 2) rfl ?_); refine bxe (cs := #[.int .i64 0, .int .i64 0, .slice none 0 0]) (t := 26) ?_; intro gb101 hg w50 hbox hb; have n0_ := aK (IsS58.below (pI58 HI0.out) hb); have n1_ := aK (KeepBut.trans (pK HK.out) (KeepBut.of_below hb g none) (.inl rfl)); replace HB := aK (below_step ((pV HB.out (IsS58.ge HI0.out))) hb); have BK101 := aK (hbox); have GW101 := aK ((by rw [hg]; exact (keep_size (w := w) (g := g) (row := none) (pK HK.out)) : w.heap.size ≤ gb101)); have GE101 := aK ((Nat.le_trans HW0.out (by rw [hg]; exact (keep_size (w := w) (g := g) (row := none) (pK HK.out)) : w.heap.size ≤ gb101) : w0.heap.size ≤ gb101)); have NB0_101 := aK ((by rw [hg]; exact Nat.ne_of_lt (IsS58.lt (show IsS58 w0 _ g s0_0 s0_1 s0_2 from pI58 HI0.out)) : g ≠ gb101)); have NB101_0 := aK ((by rw [hg]; exact Nat.ne_of_gt (IsS58.lt (show IsS58 w0 _ g s0_0 s0_1 s0_2 from pI58 HI0.out)) : gb101 ≠ g)); clear HI0 HK; have HI0 := n0_; have HK := n1_; clear n0_ n1_; clear hb hbox hg) | ((with_reducible refine gate_callee (f := 39) rfl ?_); refine gl (some 5) Try.func39 #[.pointer (some ⟨g, 0, none⟩)] ?_; (with_reducible refine (spec_l1Cur_field.calls k g s0_0 s0_1 s0_2 t102 t103 t104 t107 t108 w0 _ ?side1 ?side2 A2.out).mono ?_); (case side1 => exact pI58 HI0.out); (case side2 => exact pV HB.out (IsS58.ge HI0.out)); rintro e w51 ⟨v105, rfl, ho0, hi, hb, hk⟩; refine ⟨_, rfl, ?_⟩; replace BK101 := aK (KeepBut.blk hk (pB BK101.out) NB101_0.out (by simp)); have HO106 := aK (Kd.R_lower ho0 (keep_size (w := w) (g := g) (row := none) (pK HK.out))); replace HK := aK (KeepBut.trans (pK HK.out) hk (.inl rfl)); replace HB := aK (hb); replace HI0 := aK (hi); (try clear hb); (try clear hk); (try clear hi); (try clear ho0)) | ((with_reducible refine gate_dst (N := 3) rfl ?_); refine bxe (cs := #[.int .i64 0, .int .i64 0, .slice none 0 0]) (t := 26) ?_; intro gb109 hg w52 hbox hb; replace HO106 := aK (Kd.R_below (pR HO106.out) hb); have n1_ := aK (IsS58.below (pI58 HI0.out) hb); have n3_ := aK (KeepBut.trans (pK HK.out) (KeepBut.of_below hb g none) (.inl rfl)); replace HB := aK (below_step ((pV HB.out (IsS58.ge HI0.out))) hb); have BK109 := aK (hbox); have GW109 := aK ((by rw [hg]; exact (keep_size (w := w) (g := g) (row := none) (pK HK.out)) : w.heap.size ≤ gb109)); have GE109 := aK ((Nat.le_trans HW0.out (by rw [hg]; exact (keep_size (w := w) (g := g) (row := none) (pK HK.out)) : w.heap.size ≤ gb109) : w0.heap.size ≤ gb109)); obtain ⟨NB101_109, NB109_101⟩ := nb hg (pB BK101.out); have NB0_109 := aK ((by rw [hg]; exact Nat.ne_of_lt (IsS58.lt (show IsS58 w0 _ g s0_0 t107 t108 from pI58 HI0.out)) : g ≠ gb109)); have NB109_0 := aK ((by rw [hg]; exact Nat.ne_of_gt (IsS58.lt (show IsS58 w0 _ g s0_0 t107 t108 from pI58 HI0.out)) : gb109 ≠ g)); replace BK101 := bB BK101 hb; clear HI0 HK; have HI0 := n1_; have HK := n3_; clear n1_ n3_ hb hbox hg; obtain ⟨hnb53, hnc53⟩ := nB NB109_101; obtain ⟨hnb54, hnc54⟩ := nB NB109_0; obtain ⟨z55_0, z55_1, z55_2, y55_0, y55_1, y55_2⟩ := bc3 BK109.out; obtain ⟨Ao56, co56, eo56⟩ := Kd.R_slice HO106.out; subst eo56) | ((with_reducible refine gate_callee (f := 44) rfl ?_); refine gl (some 7) Try.func44 #[.pointer (some ⟨g, 0, none⟩), .int .i64 24] ?_; (with_reducible refine (spec_l1Cur_pick.calls g s0_0 t107 t108 24 t110 t111 t112 w0 _ ?side1 ?side2 A3.out).mono ?_); (case side1 => exact pI58 HI0.out); (case side2 => exact pV HB.out (IsS58.ge HI0.out)); rintro e w57 ⟨rfl, hi, hb, hk⟩; refine ⟨_, rfl, ?_⟩; replace BK101 := aK (KeepBut.blk hk (g' := gb101) (o := .cells #[.int .i64 0, .int .i64 0, .slice none 0 0] 26 (0, 0)) (by refine bk ?_; refine blk_far ?_ NB101_109.out _; refine bk ?_; refine blk_far ?_ NB101_109.out _; refine bk ?_; refine blk_far ?_ NB101_109.out _; refine bk ?_; exact BK101.out) NB101_0.out (by simp)); replace HO106 := aK (Kd.R_mono (Kd.R_keep (IsS58.apart (show IsS58 w0 _ g s0_0 t107 t108 from pI58 HI0.out) (pR (rF3 HO106.out BK109.out (.int .i64 t102) (.int .i64 t103) (.slice Ao56 t104.length co56))) (by decide)) hk (fun _ h => h.2)) (fun _ h => h.1)); replace BK109 := aK (KeepBut.blk hk (g' := gb109) (o := .cells #[.int .i64 t102, .int .i64 t103, .slice Ao56 t104.length co56] 26 (0, 0)) (by refine bk ?_; refine blk_put (cs := #[.int .i64 t102, .int .i64 t103, .slice none 0 0]) ?_ 2 _ rfl; refine bk ?_; refine blk_put (cs := #[.int .i64 t102, .int .i64 0, .slice none 0 0]) ?_ 1 _ rfl; refine bk ?_; refine blk_put (cs := #[.int .i64 0, .int .i64 0, .slice none 0 0]) ?_ 0 _ rfl; refine bk ?_; exact BK109.out) NB109_0.out (by simp)); replace HK := aK (KeepBut.trans (pK HK.out) hk (.inl rfl)); replace HB := aK (hb); replace HI0 := aK (hi); (try clear hb); (try clear hk); (try clear hi); obtain ⟨z58_0, z58_1, z58_2, y58_0, y58_1, y58_2⟩ := bc3 BK109.out; have q59 : (1 : Int) ≤ ((t104.length : Int) : Int) := of_decide_eq_true (by first | (with_reducible assumption) | assumption); obtain ⟨i059, hi059, _, hsz59, _⟩ := info_parts info3; have hcut59 := cut_from (P := Try.prog) 24 3 .i64 Try.underlying24 hi059 1 hsz59 Ao56 t104.length co56 1 (by omega) q59; have hr59 := Kd.Q_drop (k := (1 : Int).toNat) (Kd.Q_of_R HO106.out) (by omega); obtain ⟨A59, hA59⟩ : ∃ A1, A1 = (if co56 = (1 : Int).toNat then Ao56 else (Ao56 : Option Addr).map (·.add ((1 : Int).toNat * 1))) := ⟨_, rfl⟩; obtain ⟨c59, hc59⟩ : ∃ c1, c1 = co56 - (1 : Int).toNat := ⟨_, rfl⟩; have hy59 : y129.length = t104.length - (1 : Int).toNat := (by rw [Ny129.out, List.length_drop]); rw [← Ny129.out] at hr59; rw [← hy59, ← hA59, ← hc59] at hcut59; replace hr59 : Kd.Q (Kd.int .i64) 3 w57 w.heap.size (fun _ => True) (.slice A59 y129.length c59) y129 := (by rw [hA59, hc59, hy59]; exact hr59); have HE59 : Aside0 ((Value.slice A59 y129.length c59).ownBlock = (.slice Ao56 t104.length co56 : Value).ownBlock) := ⟨by rw [hA59]; split <;> (cases (Ao56 : Option Addr) <;> rfl)⟩; clear hy59 hi059 hsz59 HO106 hA59 hc59; have HO131 := Aside0.mk hr59; clear hr59; replace q59 := eq_true q59; obtain ⟨hnb60, hnc60⟩ := nB NB101_0; obtain ⟨z61_0, z61_1, z61_2, y61_0, y61_1, y61_2⟩ := bc3 BK101.out))
  refine bodyPost_ret (results_cell_row rfl _ _ gb101 26 #[.int .i64 t102, .int .i64 t103, .slice A59 y129.length c59] (0, 0) _ rfl (by refine bk ?_; refine blk_put (cs := #[.int .i64 t102, .int .i64 t103, .slice none 0 0]) ?_ 2 _ rfl; refine bk ?_; refine blk_put (cs := #[.int .i64 t102, .int .i64 0, .slice none 0 0]) ?_ 1 _ rfl; refine bk ?_; refine blk_put (cs := #[.int .i64 0, .int .i64 0, .slice none 0 0]) ?_ 0 _ rfl; refine bk ?_; refine blk_far ?_ NB101_109.out _; refine bk ?_; exact BK101.out) Try.underlying26 rfl (by kernel_rfl)) rfl ?_
  exact ⟨_, er, by (with_reducible repeat (first | apply Kd.Q_alloc | apply Kd.Q_drewN | apply Kd.Q_drew)); exact Kd.Q_mono (Kd.Q_far (p := ⟨gb101, 2, none⟩) (Kd.Q_far (p := ⟨gb101, 1, none⟩) (Kd.Q_far (p := ⟨gb101, 0, none⟩) (Kd.Q_far (p := ⟨gb109, 2, none⟩) (Kd.Q_types (Kd.Q_types HO131.out BK109.out (by decide)) BK101.out (by decide)) (fun _ hk => hk.1.2) (.slice A59 y129.length c59)) (fun _ hk => hk.2) (.int .i64 t102)) (fun _ hk => hk.2) (.int .i64 t103)) (fun _ hk => hk.2) (.slice A59 y129.length c59)) (fun _ hk => trivial), pI58 HI0.out, (pV HB.out (IsS58.ge HI0.out)), pK HK.out⟩
 rw [if_pos c22] at H
 have c22b0 : (t110 == 1) = true := beq_iff_eq.mpr c22
 have c22b1 : (t110 != 1) = false := bne_eq_false_iff_eq.mpr c22
 clear c22
 replace H := Option.bind_eq_some_iff.mp H
 obtain ⟨⟨t119, t120, t121⟩, A230, H⟩ := H
 replace H : ((spec_l1Cur_among.f s0_0 t120 t121 (([9001, (-9001), (-9998), (-9999)] : List Int))).bind fun bt125 => (if 0 ≤ t119 then (if t119 < (t104.length : Int) then (some (t102, t103, (t104.set (t119 : Int).toNat bt125.1), bt125.2.1, bt125.2.2)) else (none)) else (none))) = some (r1, r2, r3, r4, r5) := H
 have A23 := Aside0.mk A230
 clear A230
 obtain ⟨y122, hy122⟩ : ∃ y_ : List Int, y_ = (([9001, (-9001), (-9998), (-9999)] : List Int)) := ⟨_, rfl⟩
 replace H : ((spec_l1Cur_among.f s0_0 t120 t121 y122).bind fun bt125 => (if 0 ≤ t119 then (if t119 < (t104.length : Int) then (some (t102, t103, (t104.set (t119 : Int).toNat bt125.1), bt125.2.1, bt125.2.2)) else (none)) else (none))) = some (r1, r2, r3, r4, r5) := by first | (rw [hy122]; with_reducible exact H) | (have H2_ := (Option.bind_some _ _).symm.trans H; rw [hy122]; with_reducible exact H2_) | (have H2_ := (Option.bind_some _ _).symm.trans H; with_reducible exact H2_) | with_reducible exact H | (rw [hy122]; exact H) | exact H
 have Ny122 := Aside0.mk hy122
 clear hy122
 replace H := Option.bind_eq_some_iff.mp H
 obtain ⟨⟨t125, t126, t127⟩, A240, H⟩ := H
 replace H : (if 0 ≤ t119 then (if t119 < (t104.length : Int) then (some (t102, t103, (t104.set (t119 : Int).toNat t125), t126, t127)) else (none)) else (none)) = some (r1, r2, r3, r4, r5) := H
 have A24 := Aside0.mk A240
 clear A240
 by_cases c25 : 0 ≤ t119
 rotate_left
 ·
  rw [if_neg c25] at H
  exact absurd H (by simp)
 rw [if_pos c25] at H
 have c25b0 : decide (0 ≤ t119) = true := decide_eq_true c25
 clear c25
 by_cases c26 : t119 < (t104.length : Int)
 rotate_left
 ·
  rw [if_neg c26] at H
  exact absurd H (by simp)
 rw [if_pos c26] at H
 have c26b0 : decide (t119 < (t104.length : Int)) = true := decide_eq_true c26
 clear c26
 obtain ⟨y128, hy128⟩ : ∃ y_ : List Int, y_ = (t104.set (t119 : Int).toNat t125) := ⟨_, rfl⟩
 replace H : (some (t102, t103, y128, t126, t127)) = some (r1, r2, r3, r4, r5) := by first | (rw [hy128]; with_reducible exact H) | (have H2_ := (Option.bind_some _ _).symm.trans H; rw [hy128]; with_reducible exact H2_) | (have H2_ := (Option.bind_some _ _).symm.trans H; with_reducible exact H2_) | with_reducible exact H | (rw [hy128]; exact H) | exact H
 have Ny128 := Aside0.mk hy128
 clear hy128
 simp only [Option.some.injEq, Prod.mk.injEq] at H
 obtain ⟨rfl, rfl, rfl, rfl, rfl⟩ := H
 go_enter Try.func41, Try.ntmps41
 try go_wp2_with (first | ((with_reducible refine gate_dst (N := 2) rfl ?_); refine bxe (cs := #[.int .i64 0, .int .i64 0, .slice none 0 0]) (t := 26) ?_; intro gb101 hg w28 hbox hb; have n0_ := aK (IsS58.below (pI58 HI0.out) hb); have n1_ := aK (KeepBut.trans (pK HK.out) (KeepBut.of_below hb g none) (.inl rfl)); replace HB := aK (below_step ((pV HB.out (IsS58.ge HI0.out))) hb); have BK101 := aK (hbox); have GW101 := aK ((by rw [hg]; exact (keep_size (w := w) (g := g) (row := none) (pK HK.out)) : w.heap.size ≤ gb101)); have GE101 := aK ((Nat.le_trans HW0.out (by rw [hg]; exact (keep_size (w := w) (g := g) (row := none) (pK HK.out)) : w.heap.size ≤ gb101) : w0.heap.size ≤ gb101)); have NB0_101 := aK ((by rw [hg]; exact Nat.ne_of_lt (IsS58.lt (show IsS58 w0 _ g s0_0 s0_1 s0_2 from pI58 HI0.out)) : g ≠ gb101)); have NB101_0 := aK ((by rw [hg]; exact Nat.ne_of_gt (IsS58.lt (show IsS58 w0 _ g s0_0 s0_1 s0_2 from pI58 HI0.out)) : gb101 ≠ g)); clear HI0 HK; have HI0 := n0_; have HK := n1_; clear n0_ n1_; clear hb hbox hg) | ((with_reducible refine gate_callee (f := 39) rfl ?_); refine gl (some 5) Try.func39 #[.pointer (some ⟨g, 0, none⟩)] ?_; (with_reducible refine (spec_l1Cur_field.calls k g s0_0 s0_1 s0_2 t102 t103 t104 t107 t108 w0 _ ?side1 ?side2 A2.out).mono ?_); (case side1 => exact pI58 HI0.out); (case side2 => exact pV HB.out (IsS58.ge HI0.out)); rintro e w29 ⟨v105, rfl, ho0, hi, hb, hk⟩; refine ⟨_, rfl, ?_⟩; replace BK101 := aK (KeepBut.blk hk (pB BK101.out) NB101_0.out (by simp)); have HO106 := aK (Kd.R_lower ho0 (keep_size (w := w) (g := g) (row := none) (pK HK.out))); replace HK := aK (KeepBut.trans (pK HK.out) hk (.inl rfl)); replace HB := aK (hb); replace HI0 := aK (hi); (try clear hb); (try clear hk); (try clear hi); (try clear ho0)) | ((with_reducible refine gate_dst (N := 3) rfl ?_); refine bxe (cs := #[.int .i64 0, .int .i64 0, .slice none 0 0]) (t := 26) ?_; intro gb109 hg w30 hbox hb; replace HO106 := aK (Kd.R_below (pR HO106.out) hb); have n1_ := aK (IsS58.below (pI58 HI0.out) hb); have n3_ := aK (KeepBut.trans (pK HK.out) (KeepBut.of_below hb g none) (.inl rfl)); replace HB := aK (below_step ((pV HB.out (IsS58.ge HI0.out))) hb); have BK109 := aK (hbox); have GW109 := aK ((by rw [hg]; exact (keep_size (w := w) (g := g) (row := none) (pK HK.out)) : w.heap.size ≤ gb109)); have GE109 := aK ((Nat.le_trans HW0.out (by rw [hg]; exact (keep_size (w := w) (g := g) (row := none) (pK HK.out)) : w.heap.size ≤ gb109) : w0.heap.size ≤ gb109)); obtain ⟨NB101_109, NB109_101⟩ := nb hg (pB BK101.out); have NB0_109 := aK ((by rw [hg]; exact Nat.ne_of_lt (IsS58.lt (show IsS58 w0 _ g s0_0 t107 t108 from pI58 HI0.out)) : g ≠ gb109)); have NB109_0 := aK ((by rw [hg]; exact Nat.ne_of_gt (IsS58.lt (show IsS58 w0 _ g s0_0 t107 t108 from pI58 HI0.out)) : gb109 ≠ g)); replace BK101 := bB BK101 hb; clear HI0 HK; have HI0 := n1_; have HK := n3_; clear n1_ n3_ hb hbox hg; obtain ⟨hnb31, hnc31⟩ := nB NB109_101; obtain ⟨hnb32, hnc32⟩ := nB NB109_0; obtain ⟨z33_0, z33_1, z33_2, y33_0, y33_1, y33_2⟩ := bc3 BK109.out; obtain ⟨Ao34, co34, eo34⟩ := Kd.R_slice HO106.out; subst eo34) | ((with_reducible refine gate_callee (f := 44) rfl ?_); refine gl (some 7) Try.func44 #[.pointer (some ⟨g, 0, none⟩), .int .i64 24] ?_; (with_reducible refine (spec_l1Cur_pick.calls g s0_0 t107 t108 24 t110 t111 t112 w0 _ ?side1 ?side2 A3.out).mono ?_); (case side1 => exact pI58 HI0.out); (case side2 => exact pV HB.out (IsS58.ge HI0.out)); rintro e w35 ⟨rfl, hi, hb, hk⟩; refine ⟨_, rfl, ?_⟩; replace BK101 := aK (KeepBut.blk hk (g' := gb101) (o := .cells #[.int .i64 0, .int .i64 0, .slice none 0 0] 26 (0, 0)) (by refine bk ?_; refine blk_far ?_ NB101_109.out _; refine bk ?_; refine blk_far ?_ NB101_109.out _; refine bk ?_; refine blk_far ?_ NB101_109.out _; refine bk ?_; exact BK101.out) NB101_0.out (by simp)); replace HO106 := aK (Kd.R_mono (Kd.R_keep (IsS58.apart (show IsS58 w0 _ g s0_0 t107 t108 from pI58 HI0.out) (pR (rF3 HO106.out BK109.out (.int .i64 t102) (.int .i64 t103) (.slice Ao34 t104.length co34))) (by decide)) hk (fun _ h => h.2)) (fun _ h => h.1)); replace BK109 := aK (KeepBut.blk hk (g' := gb109) (o := .cells #[.int .i64 t102, .int .i64 t103, .slice Ao34 t104.length co34] 26 (0, 0)) (by refine bk ?_; refine blk_put (cs := #[.int .i64 t102, .int .i64 t103, .slice none 0 0]) ?_ 2 _ rfl; refine bk ?_; refine blk_put (cs := #[.int .i64 t102, .int .i64 0, .slice none 0 0]) ?_ 1 _ rfl; refine bk ?_; refine blk_put (cs := #[.int .i64 0, .int .i64 0, .slice none 0 0]) ?_ 0 _ rfl; refine bk ?_; exact BK109.out) NB109_0.out (by simp)); replace HK := aK (KeepBut.trans (pK HK.out) hk (.inl rfl)); replace HB := aK (hb); replace HI0 := aK (hi); (try clear hb); (try clear hk); (try clear hi)))
 replace HO106 := aK (Kd.R_drew HO106.out)
 replace BK101 := aK (blk_drew BK101.out)
 replace BK109 := aK (blk_drew BK109.out)
 replace HI0 := aK (IsS58.drew HI0.out)
 replace HK := aK (keep_drew HK.out)
 replace HB := aK (below_drew1 HB.out)
 refine start_ (n := 12) (S := fun w' => w'.cell? ⟨gb109, 0, none⟩ = some (.int .i64 t102) ∧ w'.cell? ⟨gb109, 1, none⟩ = some (.int .i64 t103) ∧ w'.cell? ⟨gb109, 2, none⟩ = some (.slice Ao34 t104.length co34)) (ds := [11]) (bz [0, 12]) (by kernel_rfl) rfl rfl (cz3 BK109.out) (fun hHeld => ?_); refine with_tabW spec_l1Cur_anyField.tab6 spec_l1Cur_anyField.bits6 (fun HT_ HW_ => ?_)
 generalize w35.drew = w36 at HO106 BK101 BK109 HI0 HK HB hHeld ⊢
 refine pz 0 18 [1, 11] HT_.out ?_
 refine pz 2 20 [1, 1, 1, 9] HT_.out ?_
 refine pz 3 21 [1, 1, 2, 8] HT_.out ?_
 refine pz 7 25 [1, 1, 2, 3, 1, 4] HT_.out ?_
 refine tk (i := 1) (N := some 19) (bz [4, 3, 1, 4]) rfl rfl HT_.out HW_.out (Or.inl ⟨by rfl, by rintro w' ⟨s0, s1, s2⟩; go_simp; with_reducible rfl⟩) hHeld ?_
 refine tk (i := 4) (N := some 22) (bz [5, 2, 1, 4]) rfl rfl HT_.out HW_.out (Or.inl ⟨by rfl, by rintro w' ⟨s0, s1, s2⟩; go_simp; with_reducible rfl⟩) hHeld ?_
 refine pz 5 23 [6, 1, 1, 4] HT_.out ?_
 refine join_ (σ := Value) 3 (bz [9, 3]) (fun s_ => [(24, .int .i64 t119), (26, s_)]) (fun s_ w' => (w'.cell? ⟨gb109, 0, none⟩ = some (.int .i64 t102) ∧ w'.cell? ⟨gb109, 1, none⟩ = some (.int .i64 t103) ∧ w'.cell? ⟨gb109, 2, none⟩ = some (.slice Ao34 t104.length co34)) ∧ (Kd.R (Kd.int .i64) 3 w' w.heap.size (fun k_ => some k_ ≠ (s_ : Value).ownBlock) (.slice Ao34 t104.length co34) t104) ∧ (Kd.R (Kd.int .i64) 3 w' w.heap.size (fun k_ => some k_ ≠ (.slice Ao34 t104.length co34 : Value).ownBlock) s_ y122) ∧ (w'.heap[gb101]? = some (.cells #[.int .i64 0, .int .i64 0, .slice none 0 0] 26 (0, 0))) ∧ (w'.heap[gb109]? = some (.cells #[.int .i64 t102, .int .i64 t103, .slice Ao34 t104.length co34] 26 (0, 0))) ∧ (IsS58 w0 w' g s0_0 t120 t121) ∧ (KeepBut w w' g none) ∧ (Below w0.heap.size w0 w')) ?_ ?_
 rotate_left
 ·
  intro hCont
  refine two_ (i := 6) (j := 8) (Ni := some 24) (Nj := some 26) (bz [8, 4]) (bz [6, 1, 2, 3]) rfl rfl rfl rfl (two_of HT_.out (by kernel_rfl)) (by decide) (by decide) (fun K hK => ?_) (fun K hK => ?_)
  ·
   skip
   refine goes_ Try.func44 (by kernel_rfl) rfl #[.pointer (some ⟨g, 0, none⟩), .int .i64 (t104.length : Int)] (by rfl) rfl rfl (by (try simp only [List.map_toArray, List.map_cons, List.map_nil]); first | done | rfl | (simp only [List.length_drop, List.length_take]; rfl)) ?_
   with_reducible refine (spec_l1Cur_pick.calls g s0_0 t111 t112 (t104.length : Int) t119 t120 t121 w0 _ ?side1 ?side2 A23.out).mono ?_
   (case side1 => exact pI58 HI0.out)
   (case side2 => exact pV HB.out (IsS58.ge HI0.out))
   rintro e w37 ⟨rfl, hi, hb, hk⟩
   refine ⟨_, rfl, ?_⟩
   replace BK101 := aK (KeepBut.blk hk (pB BK101.out) NB101_0.out (by simp))
   replace HO106 := aK (Kd.R_mono (Kd.R_keep (IsS58.apart (show IsS58 w0 _ g s0_0 t111 t112 from pI58 HI0.out) (pR HO106.out) (by decide)) hk (fun _ h => h.2)) (fun _ h => h.1))
   replace BK109 := aK (KeepBut.blk hk (pB BK109.out) NB109_0.out (by simp))
   replace HK := aK (KeepBut.trans (pK HK.out) hk (.inl rfl)); replace HB := aK (hb); replace HI0 := aK (hi)
   (try clear hb)
   (try clear hb2)
   (try clear hk)
   (try clear hi)
   refine hK.out _ _ (cz3 BK109.out) (fun hHeld => ?_)
   clear hK K
   refine norm_ (a' := ?_) ?_ ?_
   rotate_left
   ·
    show Act.put _ (some 24) _ = _
    simp only [sP]
    rfl
   refine one_ (i := 8) (N := some 26) (bz [9, 3]) rfl rfl (one_of HT_.out (by kernel_rfl)) (by decide) (fun K hK => ?_)
   refine Kd.R_lit_step (Kd.int .i64) _ 3 ?hg (N := 26) ?hd (xs := ([9001, (-9001), (-9998), (-9999)] : List Int)) (inner := [.int .i64 9001, .int .i64 (-9001), .int .i64 (-9998), .int .i64 (-9999)]) (ok := fun _ => True) (okp := fun _ => True) ?hr ?hp (fun _ hk => hk) trivial (Below.refl _ _) (Nat.le_refl _) (by simp) ?_; (case hd => rfl); (case hg => rfl); (case hr => first | (go_simp; done) | (go_simp; rfl)); (case hp => exact (Reps.one (show Kd.M (Kd.int .i64) _ _ _ 9001 [.int .i64 9001] from rfl) (Reps.one (show Kd.M (Kd.int .i64) _ _ _ (-9001) [.int .i64 (-9001)] from rfl) (Reps.one (show Kd.M (Kd.int .i64) _ _ _ (-9998) [.int .i64 (-9998)] from rfl) (Reps.one (show Kd.M (Kd.int .i64) _ _ _ (-9999) [.int .i64 (-9999)] from rfl) (Reps.none _ _))))))
   intro v123 w38 ho39 hb hg_ hnew_
   clear hg_ hnew_
   (first | rw [← Ny122.out] at ho39 | (simp only [Int.reduceToNat] at ho39; rw [← Ny122.out] at ho39))
   have n0_ := aK (Kd.R_elder' (pR HO106.out) (Kd.R_base ho39) hb); have HO124 := aK (Kd.R_lower (nw1 ho39 (pR HO106.out)) (keep_size (w := w) (g := g) (row := none) (pK HK.out))); have n2_ := aK (IsS58.below (pI58 HI0.out) hb); replace HK := aK (KeepBut.trans (pK HK.out) (KeepBut.of_below hb g none) (.inl rfl)); replace HB := aK (below_step ((pV HB.out (IsS58.ge HI0.out))) hb); replace BK101 := bB BK101 hb; replace BK109 := bB BK109 hb; clear HO106 HI0; have HO106 := n0_; have HI0 := n2_; clear n0_ n2_ hb ho39
   refine hK.out _ _ (cz3 BK109.out) (fun hHeld => ?_)
   clear hK K
   refine norm_ (a' := ?_) ?_ ?_
   rotate_left
   ·
    show Act.put _ (some 26) _ = _
    simp only [sP]
    rfl
   exact norm_ (by simp only [putAll, Act.put, List.setIfInBounds_toArray, List.set_cons_zero, List.set_cons_succ]) (hCont (v123) _ ⟨hHeld, (pR (Kd.R_mono HO106.out (fun _ hk => hk.2))), (pR (Kd.R_mono HO124.out (fun _ hk => hk.2))), (pB BK101.out), (pB BK109.out), (pI58 HI0.out), (pK HK.out), ((pV HB.out (IsS58.ge HI0.out)))⟩)
  skip
  refine Kd.R_lit_step (Kd.int .i64) _ 3 ?hg (N := 26) ?hd (xs := ([9001, (-9001), (-9998), (-9999)] : List Int)) (inner := [.int .i64 9001, .int .i64 (-9001), .int .i64 (-9998), .int .i64 (-9999)]) (ok := fun _ => True) (okp := fun _ => True) ?hr ?hp (fun _ hk => hk) trivial (Below.refl _ _) (Nat.le_refl _) (by simp) ?_; (case hd => rfl); (case hg => rfl); (case hr => first | (go_simp; done) | (go_simp; rfl)); (case hp => exact (Reps.one (show Kd.M (Kd.int .i64) _ _ _ 9001 [.int .i64 9001] from rfl) (Reps.one (show Kd.M (Kd.int .i64) _ _ _ (-9001) [.int .i64 (-9001)] from rfl) (Reps.one (show Kd.M (Kd.int .i64) _ _ _ (-9998) [.int .i64 (-9998)] from rfl) (Reps.one (show Kd.M (Kd.int .i64) _ _ _ (-9999) [.int .i64 (-9999)] from rfl) (Reps.none _ _))))))
  intro v123 w37 ho38 hb hg_ hnew_
  clear hg_ hnew_
  (first | rw [← Ny122.out] at ho38 | (simp only [Int.reduceToNat] at ho38; rw [← Ny122.out] at ho38))
  have n0_ := aK (Kd.R_elder' (pR HO106.out) (Kd.R_base ho38) hb); have HO124 := aK (Kd.R_lower (nw1 ho38 (pR HO106.out)) (keep_size (w := w) (g := g) (row := none) (pK HK.out))); have n2_ := aK (IsS58.below (pI58 HI0.out) hb); replace HK := aK (KeepBut.trans (pK HK.out) (KeepBut.of_below hb g none) (.inl rfl)); replace HB := aK (below_step ((pV HB.out (IsS58.ge HI0.out))) hb); replace BK101 := bB BK101 hb; replace BK109 := bB BK109 hb; clear HO106 HI0; have HO106 := n0_; have HI0 := n2_; clear n0_ n2_ hb ho38
  refine hK.out _ _ (cz3 BK109.out) (fun hHeld => ?_)
  clear hK K
  refine norm_ (a' := ?_) ?_ ?_
  rotate_left
  ·
   show Act.put _ (some 26) _ = _
   simp only [sP]
   rfl
  refine one_ (i := 6) (N := some 24) (bz [9, 3]) rfl rfl (one_of HT_.out (by kernel_rfl)) (by decide) (fun K hK => ?_)
  refine goes_ Try.func44 (by kernel_rfl) rfl #[.pointer (some ⟨g, 0, none⟩), .int .i64 (t104.length : Int)] (by rfl) rfl rfl (by (try simp only [List.map_toArray, List.map_cons, List.map_nil]); first | done | rfl | (simp only [List.length_drop, List.length_take]; rfl)) ?_
  with_reducible refine (spec_l1Cur_pick.calls g s0_0 t111 t112 (t104.length : Int) t119 t120 t121 w0 _ ?side1 ?side2 A23.out).mono ?_
  (case side1 => exact pI58 HI0.out)
  (case side2 => exact pV HB.out (IsS58.ge HI0.out))
  rintro e w39 ⟨rfl, hi, hb, hk⟩
  refine ⟨_, rfl, ?_⟩
  replace BK101 := aK (KeepBut.blk hk (pB BK101.out) NB101_0.out (by simp))
  replace HO106 := aK (Kd.R_mono (Kd.R_keep (IsS58.apart (show IsS58 w0 _ g s0_0 t111 t112 from pI58 HI0.out) (pR HO106.out) (by decide)) hk (fun _ h => h.2)) (fun _ h => h.1))
  replace BK109 := aK (KeepBut.blk hk (pB BK109.out) NB109_0.out (by simp))
  replace HO124 := aK (Kd.R_mono (Kd.R_keep (IsS58.apart (show IsS58 w0 _ g s0_0 t111 t112 from pI58 HI0.out) (pR HO124.out) (by decide)) hk (fun _ h => h.2)) (fun _ h => h.1))
  replace HK := aK (KeepBut.trans (pK HK.out) hk (.inl rfl)); replace HB := aK (hb); replace HI0 := aK (hi)
  (try clear hb)
  (try clear hb2)
  (try clear hk)
  (try clear hi)
  refine hK.out _ _ (cz3 BK109.out) (fun hHeld => ?_)
  clear hK K
  refine norm_ (a' := ?_) ?_ ?_
  rotate_left
  ·
   show Act.put _ (some 24) _ = _
   simp only [sP]
   rfl
  exact norm_ (by simp only [putAll, Act.put, List.setIfInBounds_toArray, List.set_cons_zero, List.set_cons_succ]) (hCont (v123) _ ⟨hHeld, (pR (Kd.R_mono HO106.out (fun _ hk => hk.2))), (pR (Kd.R_mono HO124.out (fun _ hk => hk.2))), (pB BK101.out), (pB BK109.out), (pI58 HI0.out), (pK HK.out), ((pV HB.out (IsS58.ge HI0.out)))⟩)
 rintro v123 w40 ⟨hS_, h0_, h1_, h2_, h3_, h4_, h5_, h6_⟩
 replace HO106 : Aside0 (Kd.R (Kd.int .i64) 3 w40 w.heap.size (fun k_ => some k_ ≠ (v123 : Value).ownBlock) (.slice Ao34 t104.length co34) t104) := ⟨h0_⟩
 have n1_ : Aside0 (Kd.R (Kd.int .i64) 3 w40 w.heap.size (fun k_ => some k_ ≠ (.slice Ao34 t104.length co34 : Value).ownBlock) v123 y122) := ⟨h1_⟩
 replace BK101 : Aside0 (w40.heap[gb101]? = some (.cells #[.int .i64 0, .int .i64 0, .slice none 0 0] 26 (0, 0))) := ⟨h2_⟩
 replace BK109 : Aside0 (w40.heap[gb109]? = some (.cells #[.int .i64 t102, .int .i64 t103, .slice Ao34 t104.length co34] 26 (0, 0))) := ⟨h3_⟩
 replace HI0 : Aside0 (IsS58 w0 w40 g s0_0 t120 t121) := ⟨h4_⟩
 replace HK : Aside0 (KeepBut w w40 g none) := ⟨h5_⟩
 replace HB : Aside0 (Below w0.heap.size w0 w40) := ⟨h6_⟩
 clear h0_ h1_ h2_ h3_ h4_ h5_ h6_
 have HO124 := n1_
 clear n1_
 have hHeld : w40.cell? ⟨gb109, 0, none⟩ = some (.int .i64 t102) ∧ w40.cell? ⟨gb109, 1, none⟩ = some (.int .i64 t103) ∧ w40.cell? ⟨gb109, 2, none⟩ = some (.slice Ao34 t104.length co34) := hS_
 obtain ⟨Ao41, co41, eo41⟩ := Kd.R_slice HO124.out
 (first | subst eo41 | (obtain ⟨f4_, f5_⟩ := sI eo41; subst f4_; subst f5_))
 refine norm_ (a' := ?_) ?_ ?_
 rotate_left
 ·
  simp only [putAll, Act.put, List.setIfInBounds_toArray, List.set_cons_zero, List.set_cons_succ]
  rfl
 refine one_ (i := 9) (N := some 27) (bz [10, 2]) rfl rfl (one_of HT_.out (by kernel_rfl)) (by decide) (fun K hK => ?_)
 refine goes_ Try.func45 (by kernel_rfl) rfl #[.pointer (some ⟨g, 0, none⟩), .slice Ao41 y122.length co41] (by rfl) rfl rfl (by (try simp only [List.map_toArray, List.map_cons, List.map_nil]); first | done | rfl | (simp only [List.length_drop, List.length_take]; rfl)) ?_
 with_reducible refine (spec_l1Cur_among.calls g s0_0 t120 t121 _ _ y122 t125 t126 t127 w0 _ ?side1 ?side2 ?side3 ?side4 ?side5 A24.out).mono ?_
 (case side1 => exact pI58 HI0.out)
 (case side2 => exact pV HB.out (IsS58.ge HI0.out))
 (case side3 => exact pC (Kd.R_reads' HO124.out).2.2)
 (case side4 => exact (Kd.R_reads' HO124.out).2.1)
 (case side5 => exact far_slice (IsS58.own_ne HI0.out HO124.out (by decide)))
 rintro e w42 ⟨rfl, hi, hb, hk⟩
 refine ⟨_, rfl, ?_⟩
 replace BK101 := aK (KeepBut.blk hk (pB BK101.out) NB101_0.out (by simp))
 replace HO106 := aK (Kd.R_mono (Kd.R_keep (IsS58.apart (show IsS58 w0 _ g s0_0 t120 t121 from pI58 HI0.out) (pR HO106.out) (by decide)) hk (fun _ h => h.2)) (fun _ h => h.1))
 replace BK109 := aK (KeepBut.blk hk (pB BK109.out) NB109_0.out (by simp))
 replace HO124 := aK (Kd.R_mono (Kd.R_keep (IsS58.apart (show IsS58 w0 _ g s0_0 t120 t121 from pI58 HI0.out) (pR HO124.out) (by decide)) hk (fun _ h => h.2)) (fun _ h => h.1))
 replace HK := aK (KeepBut.trans (pK HK.out) hk (.inl rfl))
 replace HB := aK (hb)
 replace HI0 := aK (hi)
 (try clear hb)
 (try clear hb2)
 (try clear hk)
 (try clear hi)
 have p27 : 0 ≤ (t119 : Int) := of_decide_eq_true (by first | (with_reducible assumption) | assumption)
 have q27 : (t119 : Int) < ((t104.length : Int) : Int) := of_decide_eq_true (by first | (with_reducible assumption) | assumption)
 obtain ⟨go27, co27, eo27, gb27, gl27, cl27, HG27⟩ := Kd.R_form HO106.out (by omega)
 (first | cases eo27 | (injection eo27 with ea_ en_ ec_; (first | subst ea_ | (injection ea_ with ea_; subst ea_)); subst ec_; clear en_))
 have GB27 := Aside0.mk gb27
 have GG27 := Aside0.mk HG27
 clear gb27 gl27 HG27
 obtain ⟨hx27_0, hf27_0⟩ := Kd.R_celln 0 HO106.out (t119 : Int) p27 q27
 replace p27 := eq_true p27
 replace q27 := eq_true q27
 have HN0_go27 := aK (show g ≠ go27 from by have h_ := IsS58.own_ne HI0.out HO106.out (by decide); intro e_; exact h_ (by rw [e_]; rfl))
 have HP43 := Kd.R_putn HO106.out (t119 : Int) t125
 rw [← Ny128.out] at HP43
 have HQ43 := Aside0.mk HP43
 clear HP43
 refine hK.out _ _ (cz3 BK109.out) (fun hHeld => ?_)
 clear hK K
 refine norm_ (a' := ?_) ?_ ?_
 rotate_left
 ·
  show Act.put _ (some 27) _ = _
  simp only [sP]
  rfl
 refine pz 10 28 [11, 1] HT_.out ?_
 refine last_ (i := 11) (N := none) (bz [12, 0]) rfl rfl (one_of HT_.out (by kernel_rfl)) (by decide) (fun K hK => ?_)
 refine skip_ (w1 := ?_) (by rfl) rfl ?_ ?_
 rotate_left
 ·
  go_simp
  rfl
 refine hK.out _ _ ?_
 clear hK K
 refine done_ (done_of HT_.out (by kernel_rfl)) ?_
 have n0_ : Aside0 (Kd.R (Kd.int .i64) 3 (w42.setCell ⟨go27, (t119 : Int).toNat, none⟩ (.int .i64 t125)) w.heap.size (fun k_ => some k_ ≠ (.slice Ao41 y122.length co41 : Value).ownBlock) (.slice (some ⟨go27, 0, none⟩) t104.length co34) y128) := ⟨pR HQ43.out⟩
 have n1_ : Aside0 (Kd.R (Kd.int .i64) 3 (w42.setCell ⟨go27, (t119 : Int).toNat, none⟩ (.int .i64 t125)) w.heap.size (fun k_ => some k_ ≠ (.slice (some ⟨go27, 0, none⟩) t104.length co34 : Value).ownBlock) (.slice Ao41 y122.length co41) y122) := ⟨by (with_reducible repeat (first | apply Kd.R_alloc | apply Kd.R_drewN | apply Kd.R_drew)); exact Kd.R_mono (Kd.R_far (p := ⟨go27, (t119 : Int).toNat, none⟩) (Kd.R_mono HO124.out (fun k_ hk => (⟨hk, fun e_ => hk (by rw [e_]; rfl)⟩ : _ ∧ k_ ≠ go27))) (fun _ hk => hk.2) (.int .i64 t125)) (fun _ hk => hk.1)⟩
 have n2_ : Aside0 ((w42.setCell ⟨go27, (t119 : Int).toNat, none⟩ (.int .i64 t125)).heap[gb101]? = some (.cells #[.int .i64 0, .int .i64 0, .slice none 0 0] 26 (0, 0))) := ⟨by refine bk ?_; refine blk_far ?_ (by have h_ := Kd.R_ne HO106.out BK101.out (by decide); intro e_; exact h_ (by rw [e_]; rfl)) _; refine bk ?_; exact BK101.out⟩
 have n3_ : Aside0 ((w42.setCell ⟨go27, (t119 : Int).toNat, none⟩ (.int .i64 t125)).heap[gb109]? = some (.cells #[.int .i64 t102, .int .i64 t103, .slice (some ⟨go27, 0, none⟩) t104.length co34] 26 (0, 0))) := ⟨by refine bk ?_; refine blk_far ?_ (by have h_ := Kd.R_ne HO106.out BK109.out (by decide); intro e_; exact h_ (by rw [e_]; rfl)) _; refine bk ?_; exact BK109.out⟩
 have n4_ : Aside0 (IsS58 w0 (w42.setCell ⟨go27, (t119 : Int).toNat, none⟩ (.int .i64 t125)) g s0_0 t126 t127) := ⟨by repeat (first | (with_reducible first | exact HI0.out | apply IsS58.alloc | apply IsS58.drewN | apply IsS58.drew | apply IsS58.set_1 | apply IsS58.set_2 | refine IsS58.far ?_ HN0_go27.out _ | refine IsS58.far ?_ NB0_101.out _ | refine IsS58.far ?_ NB0_109.out _) | exact HI0.out)⟩
 have n5_ : Aside0 (KeepBut w (w42.setCell ⟨go27, (t119 : Int).toNat, none⟩ (.int .i64 t125)) g none) := ⟨by repeat (first | (with_reducible first | exact HK.out | apply KeepBut.set_ | apply keep_drewN | apply keep_drew | apply keep_alloc | refine keep_far ?_ GB27.out _ | refine keep_far ?_ GW101.out _ | refine keep_far ?_ GW109.out _) | exact HK.out)⟩
 have n6_ : Aside0 (Below w0.heap.size w0 (w42.setCell ⟨go27, (t119 : Int).toNat, none⟩ (.int .i64 t125))) := ⟨by repeat (first | (with_reducible first | exact HB.out | apply below_alloc | apply pw_below_drewN | apply below_drew1 | refine below_set ?_ (Nat.le_trans HL.out GB27.out) | refine below_set ?_ (IsS58.ge HI0.out) | refine below_set ?_ GE101.out | refine below_set ?_ GE109.out) | exact HB.out)⟩
 (try clear HO106)
 (try clear HO124)
 (try clear BK101)
 (try clear BK109)
 (try clear HI0)
 (try clear HK)
 (try clear HB)
 generalize (w42.setCell ⟨go27, (t119 : Int).toNat, none⟩ (.int .i64 t125)) = w44 at n0_ n1_ n2_ n3_ n4_ n5_ n6_ ⊢
 have HO106 := n0_
 have HO124 := n1_
 have BK101 := n2_
 have BK109 := n3_
 have HI0 := n4_
 have HK := n5_
 have HB := n6_
 clear n0_ n1_ n2_ n3_ n4_ n5_ n6_
 obtain ⟨z45_0, z45_1, z45_2, y45_0, y45_1, y45_2⟩ := bc3 BK109.out
 obtain ⟨hnb46, hnc46⟩ := nB NB101_0
 obtain ⟨z47_0, z47_1, z47_2, y47_0, y47_1, y47_2⟩ := bc3 BK101.out
 try go_wp2
 refine bodyPost_ret (results_cell_row rfl _ _ gb101 26 #[.int .i64 t102, .int .i64 t103, .slice (some ⟨go27, 0, none⟩) t104.length co34] (0, 0) _ rfl (by refine bk ?_; refine blk_put (cs := #[.int .i64 t102, .int .i64 t103, .slice none 0 0]) ?_ 2 _ rfl; refine bk ?_; refine blk_put (cs := #[.int .i64 t102, .int .i64 0, .slice none 0 0]) ?_ 1 _ rfl; refine bk ?_; refine blk_put (cs := #[.int .i64 0, .int .i64 0, .slice none 0 0]) ?_ 0 _ rfl; refine bk ?_; exact BK101.out) Try.underlying26 rfl (by kernel_rfl)) rfl ?_
 exact ⟨_, er, Kd.Q_of_R (pR (Kd.R_mono (rF3 HO106.out BK101.out (.int .i64 t102) (.int .i64 t103) (.slice (some ⟨go27, 0, none⟩) t104.length co34)) (fun _ h => trivial))), pI58 HI0.out, (pV HB.out (IsS58.ge HI0.out)), pK HK.out⟩
def spec_l1Own.f (l0 : List Int) : Option (List Int) := (some (([] : List Int) : List Int)).bind fun y101 => (if y101.length + l0.length < 17592186044416 then (some (y101 ++ l0)) else (none))
theorem spec_l1Own.calls (A0 : Option Addr) (c0 : Nat) (l0 : List Int) (r : List Int) (w : World) (hr0 : Kd.C (Kd.int .i64) w A0 l0.length l0) (hc0 : l0.length ≤ c0) (h : spec_l1Own.f l0 = some r) :
  Calls Try.prog 79 #[.slice A0 l0.length c0] w fun e w' => ∃ v0_ : Value, e = .returned (v0_) ∧ Kd.R (Kd.int .i64) 3 w' w.heap.size (fun _ => True) v0_ r ∧ Below w.heap.size w w' := by
 have HR0 := Aside0.mk hr0
 have HC0 := Aside0.mk hc0
 clear hr0 hc0
 have HB := aK (Below.refl w.heap.size w)
 have H : ((some (([] : List Int) : List Int)).bind fun y101 => (if y101.length + l0.length < 17592186044416 then (some (y101 ++ l0)) else (none))) = some r := h
 clear h
 obtain ⟨y101, hy101⟩ : ∃ y_ : List Int, y_ = (([] : List Int)) := ⟨_, rfl⟩
 replace H : (if y101.length + l0.length < 17592186044416 then (some (y101 ++ l0)) else (none)) = some r := by first | (rw [hy101]; with_reducible exact H) | (have H2_ := (Option.bind_some _ _).symm.trans H; rw [hy101]; with_reducible exact H2_) | (have H2_ := (Option.bind_some _ _).symm.trans H; with_reducible exact H2_) | with_reducible exact H | (rw [hy101]; exact H) | exact H
 have Ny101 := Aside0.mk hy101
 clear hy101
 by_cases c2 : y101.length + l0.length < 17592186044416
 rotate_left
 ·
  rw [if_neg c2] at H
  exact absurd H (by simp)
 rw [if_pos c2] at H
 have LMc2 := Aside0.mk c2
 clear c2
 obtain ⟨y104, hy104⟩ : ∃ y_ : List Int, y_ = (y101 ++ l0) := ⟨_, rfl⟩
 replace H : (some y104) = some r := by first | (rw [hy104]; with_reducible exact H) | (have H2_ := (Option.bind_some _ _).symm.trans H; rw [hy104]; with_reducible exact H2_) | (have H2_ := (Option.bind_some _ _).symm.trans H; with_reducible exact H2_) | with_reducible exact H | (rw [hy104]; exact H) | exact H
 have Ny104 := Aside0.mk hy104
 clear hy104
 obtain rfl := Option.some.inj H
 go_enter Try.func79, Try.ntmps79
 go_wp2_with (first | ((with_reducible refine gate_dst (N := 3) rfl ?_); refine Kd.R_lit (Kd.int .i64) _ 3 ?hg (N := 3) ?hd (xs := ([] : List Int)) (inner := []) (ok := fun _ => True) (okp := fun _ => True) ?hr ?hp (fun _ hk => hk) trivial (Below.refl _ _) (Nat.le_refl _) (by simp) ?_; (case hd => rfl); (case hg => rfl); (case hr => first | (go_simp; done) | (go_simp; rfl)); (case hp => exact (Reps.none _ _)); intro v102 w3 ho4 hb hg_ hnew_; clear hg_ hnew_; (first | rw [← Ny101.out] at ho4 | (simp only [Int.reduceToNat] at ho4; rw [← Ny101.out] at ho4)); have HO103 := aK (Kd.R_lower ho4 (below_size (pS HB.out))); replace HB := bS HB hb; clear hb ho4) | ((with_reducible refine gate_builtin (b := .append) (xs := #[.tmp 3, .tmp 4]) rfl ?_); at_builtin; refine Kd.R_append_rows (Kd.int .i64) (w0 := w) w.heap.size rfl (.tmp 3) (.tmp 4) 24 3 (.int .i64 0) 8 rfl Try.underlying24 info3 rfl (by decide) (by omega) v102 y101 l0 _ _ _ (fun _ => True) (fun _ => False) rfl rfl ?aO ?aR (fun _ _ h => h) (fun _ h => h.elim) ?aF ?aB ?aS ?aL ?_; (case aR => exact pC (Kd.C_below HR0.out HB.out)); (case aB => exact (pS HB.out)); (case aF => exact (fun _ _ => trivial)); (case aO => exact (pR HO103.out)); (case aS => exact (below_size (pS HB.out))); (case aL => have := LMc2.out; omega); intro v105 w5 ho hb hg hat; rw [← Ny104.out] at ho; replace HB := aK (hb); have HO106 := aK (ho); clear HO103; clear ho hb hg hat))
 go_ret
 exact ⟨_, er, by (with_reducible repeat (first | apply Kd.R_alloc | apply Kd.R_drewN | apply Kd.R_drew)); exact HO106.out, pT HB.out⟩
def spec_l2Own.f (a0_0 : Int) (a0_1 : Int) (l0_2 : List Int) : Option (Int × Int × List Int) := (spec_l1Own.f l0_2).bind fun t103 => (some (a0_0, a0_1, t103))
def spec_l2Own.T1 : Bool × List (List Nat × List Nat) := (true, [([], []), ([0], [0]), ([], []), ([2], [2]), ([], []), ([4], [4]), ([5], [5]), ([1, 3, 6], [1, 3, 6]), ([7, 6, 0, 1, 2, 3, 4, 5, 6, 7], [7])])
def spec_l2Own.B1 : List Nat := [0, 1, 0, 4, 0, 16, 48, 127, 255]
theorem spec_l2Own.tab1 : rtab .any (opsOf Try.f69 1) = spec_l2Own.T1 := by kernel_rfl
theorem spec_l2Own.bits1 : waitsOk spec_l2Own.T1.2 spec_l2Own.B1 = true := by kernel_rfl
theorem spec_l2Own.calls (a0_0 : Int) (a0_1 : Int) (A0_2 : Option Addr) (c0_2 : Nat) (l0_2 : List Int) (r1 : Int) (r2 : Int) (r3 : List Int) (w : World) (hr0_2 : Kd.C (Kd.int .i64) w A0_2 l0_2.length l0_2) (hc0_2 : l0_2.length ≤ c0_2) (h : spec_l2Own.f a0_0 a0_1 l0_2 = some (r1, r2, r3)) :
  Calls Try.prog 69 #[.agg #[.int .i64 a0_0, .int .i64 a0_1, .slice A0_2 l0_2.length c0_2]] w fun e w' => ∃ v2_ : Value, e = .returned (.agg #[.int .i64 r1, .int .i64 r2, v2_]) ∧ Kd.R (Kd.int .i64) 3 w' w.heap.size (fun _ => True) v2_ r3 ∧ Below w.heap.size w w' := by
 have hu26 := Try.underlying26
 have HR0_2 := Aside0.mk hr0_2
 have HC0_2 := Aside0.mk hc0_2
 clear hr0_2 hc0_2
 have HB := aK (Below.refl w.heap.size w)
 have H : ((spec_l1Own.f l0_2).bind fun t103 => (some (a0_0, a0_1, t103))) = some (r1, r2, r3) := h
 clear h
 replace H := Option.bind_eq_some_iff.mp H
 obtain ⟨t103, A20, H⟩ := H
 replace H : (some (a0_0, a0_1, t103)) = some (r1, r2, r3) := H
 have A2 := Aside0.mk A20
 clear A20
 simp only [Option.some.injEq, Prod.mk.injEq] at H
 obtain ⟨rfl, rfl, rfl⟩ := H
 go_enter Try.func69, Try.ntmps69
 try go_wp2_with (first | ((with_reducible refine gate_dst (N := 1) rfl ?_); refine bxe (cs := #[.int .i64 a0_0, .int .i64 a0_1, .slice A0_2 l0_2.length c0_2]) (t := 26) ?_; intro gb101 hg w3 hbox hb; have BK101 := aK (hbox); have GW101 := aK (gE hg (pS HB.out)); have GE101 := GW101; replace HB := bS HB hb; clear hb hbox hg) | ((with_reducible refine gate_dst (N := 2) rfl ?_); refine bxe (cs := #[.int .i64 0, .int .i64 0, .slice none 0 0]) (t := 26) ?_; intro gb102 hg w4 hbox hb; have BK102 := aK (hbox); have GW102 := aK (gE hg (pS HB.out)); have GE102 := GW102; obtain ⟨NB101_102, NB102_101⟩ := nb hg (pB BK101.out); replace BK101 := bB BK101 hb; replace HB := bS HB hb; clear hb hbox hg))
 replace BK101 := aK (blk_drew BK101.out)
 replace BK102 := aK (blk_drew BK102.out)
 replace HB := aK (below_drew1 HB.out)
 refine start_ (n := 9) (S := fun w' => w'.cell? ⟨gb101, 0, none⟩ = some (.int .i64 a0_0) ∧ w'.cell? ⟨gb101, 1, none⟩ = some (.int .i64 a0_1) ∧ w'.cell? ⟨gb101, 2, none⟩ = some (.slice A0_2 l0_2.length c0_2)) (ds := []) (bz [0, 9]) (by kernel_rfl) rfl rfl (cz3 BK101.out) (fun hHeld => ?_); refine with_tabW spec_l2Own.tab1 spec_l2Own.bits1 (fun HT_ HW_ => ?_)
 generalize w4.drew = w5 at BK101 BK102 HB hHeld ⊢
 refine pz 0 3 [1, 8] HT_.out ?_
 refine pz 2 5 [1, 1, 1, 6] HT_.out ?_
 refine pz 4 7 [1, 1, 1, 1, 1, 4] HT_.out ?_
 refine tk (i := 1) (N := some 4) (bz [3, 1, 1, 4]) rfl rfl HT_.out HW_.out (Or.inl ⟨by rfl, by rintro w' ⟨s0, s1, s2⟩; go_simp; with_reducible rfl⟩) hHeld ?_
 refine tk (i := 3) (N := some 6) (bz [5, 4]) rfl rfl HT_.out HW_.out (Or.inl ⟨by rfl, by rintro w' ⟨s0, s1, s2⟩; go_simp; with_reducible rfl⟩) hHeld ?_
 refine tk (i := 5) (N := some 8) (bz [6, 3]) rfl rfl HT_.out HW_.out (Or.inl ⟨by rfl, by rintro w' ⟨s0, s1, s2⟩; go_simp; with_reducible rfl⟩) hHeld ?_
 refine one_ (i := 6) (N := some 9) (bz [7, 2]) rfl rfl (one_of HT_.out (by kernel_rfl)) (by decide) (fun K hK => ?_)
 refine goes_ Try.func79 (by kernel_rfl) rfl #[.slice A0_2 l0_2.length c0_2] (by rfl) rfl rfl (by (try simp only [List.map_toArray, List.map_cons, List.map_nil]); first | done | rfl | (simp only [List.length_drop, List.length_take]; rfl)) ?_
 with_reducible refine (spec_l1Own.calls _ _ l0_2 t103 _ ?side1 ?side2 A2.out).mono ?_
 (case side1 => exact pC (Kd.C_below HR0_2.out HB.out))
 (case side2 => exact HC0_2.out)
 rintro e w6 ⟨v104, rfl, ho0, hb⟩
 refine ⟨_, rfl, ?_⟩
 have HO105 := aK (Kd.R_lower ho0 (below_size (pS HB.out)))
 replace BK101 := bB BK101 hb
 replace BK102 := bB BK102 hb
 replace HB := bS HB hb
 (try clear hb)
 (try clear hb2)
 (try clear hk)
 (try clear hi)
 (try clear ho0)
 obtain ⟨Ao7, co7, eo7⟩ := Kd.R_slice HO105.out
 (first | subst eo7 | (obtain ⟨f4_, f5_⟩ := sI eo7; subst f4_; subst f5_))
 refine hK.out _ _ (cz3 BK101.out) (fun hHeld => ?_)
 clear hK K
 refine norm_ (a' := ?_) ?_ ?_
 rotate_left
 ·
  show Act.put _ (some 9) _ = _
  simp only [sP]
  rfl
 refine pz 7 10 [8, 1] HT_.out ?_
 refine one_ (i := 8) (N := none) (bz [9, 0]) rfl rfl (one_of HT_.out (by kernel_rfl)) (by decide) (fun K hK => ?_)
 have hs8 : w6.cell? ⟨gb102, 0, none⟩ = some (.int .i64 0) := (blk_cell BK102.out 0).trans rfl
 have hfs8 := blk_frozen BK102.out 0
 have hns8_0 := NB101_102.out
 have hms8_0 := NB102_101.out
 have hs9 : w6.cell? ⟨gb102, 1, none⟩ = some (.int .i64 0) := (blk_cell BK102.out 1).trans rfl
 have hfs9 := blk_frozen BK102.out 1
 have hns9_0 := NB101_102.out
 have hms9_0 := NB102_101.out
 have hs10 : w6.cell? ⟨gb102, 2, none⟩ = some (.slice none 0 0) := (blk_cell BK102.out 2).trans rfl
 have hfs10 := blk_frozen BK102.out 2
 have hns10_0 := NB101_102.out
 have hms10_0 := NB102_101.out
 refine skip_ (w1 := ?_) (by rfl) rfl ?_ ?_
 rotate_left
 ·
  go_simp
  rfl
 refine hK.out _ _ ⟨(cf3 NB101_102 hHeld.1), (cf3 NB101_102 hHeld.2.1), (cf3 NB101_102 hHeld.2.2)⟩ (fun hHeld => ?_)
 clear hK K
 refine done_ (done_of HT_.out (by kernel_rfl)) ?_
 try go_wp2
 refine bodyPost_ret (results_cell_row rfl _ _ gb102 26 #[.int .i64 a0_0, .int .i64 a0_1, .slice Ao7 t103.length co7] (0, 0) _ rfl (by refine bk ?_; refine blk_put (cs := #[.int .i64 a0_0, .int .i64 a0_1, .slice none 0 0]) ?_ 2 _ rfl; refine bk ?_; refine blk_put (cs := #[.int .i64 a0_0, .int .i64 0, .slice none 0 0]) ?_ 1 _ rfl; refine bk ?_; refine blk_put (cs := #[.int .i64 0, .int .i64 0, .slice none 0 0]) ?_ 0 _ rfl; refine bk ?_; exact BK102.out) Try.underlying26 rfl (by kernel_rfl)) rfl ?_
 exact ⟨_, er, by (with_reducible repeat (first | apply Kd.R_alloc | apply Kd.R_drewN | apply Kd.R_drew)); exact Kd.R_mono (rF3 HO105.out BK102.out (.int .i64 a0_0) (.int .i64 a0_1) (.slice Ao7 t103.length co7)) (fun _ h => trivial), pT HB.out⟩
def spec_l1Cur_like.l0 : Nat → Int → List Int → Int → Int → Int → Int → List Int → Option (Int × Int × List Int × Int × Int)
 | 0, _, _, _, _, _, _, _ => none
 | k + 1, x6, x1000, x1001, x1002, x109000, x109001, x109002 => if x6 < (x109002.length : Int) then ((spec_l1Cur_pick.f x1000 x1001 x1002 5).bind fun bt109 => (if bt109.1 = 0 then ((spec_l1Cur_pick.f x1000 bt109.2.1 bt109.2.2 40).bind fun bt112 => (if 0 ≤ x6 then (spec_l1Cur_like.l0 k (wrap64 (x6 + 1)) x1000 bt112.2.1 bt112.2.2 x109000 x109001 (x109002.set (x6 : Int).toNat bt112.1)) else (none))) else (if bt109.1 = 1 then ((spec_l1Cur_one.f x1000 bt109.2.1 bt109.2.2 3).bind fun bt116 => (if bt116.1 = true then (if 0 ≤ x6 then (spec_l1Cur_like.l0 k (wrap64 (x6 + 1)) x1000 bt116.2.1 bt116.2.2 x109000 x109001 (x109002.set (x6 : Int).toNat (-9999))) else (none)) else (spec_l1Cur_like.l0 k (wrap64 (x6 + 1)) x1000 bt116.2.1 bt116.2.2 x109000 x109001 x109002))) else (spec_l1Cur_like.l0 k (wrap64 (x6 + 1)) x1000 bt109.2.1 bt109.2.2 x109000 x109001 x109002)))) else ((spec_l1Cur_one.f x1000 x1001 x1002 16).bind fun bt120 => (if bt120.1 = true then ((spec_l1Cur_field.f k x1000 bt120.2.1 bt120.2.2).bind fun bt123 => (some (bt123.1, bt123.2.1, bt123.2.2.1, bt123.2.2.2.1, bt123.2.2.2.2))) else (some (x109000, x109001, x109002, bt120.2.1, bt120.2.2))))
def spec_l1Cur_like.f (k : Nat) (s0_0 : List Int) (s0_1 : Int) (s0_2 : Int) (a1_0 : Int) (a1_1 : Int) (l1_2 : List Int) : Option (Int × Int × List Int × Int × Int) := (spec_l2Own.f a1_0 a1_1 l1_2).bind fun bt103 => (spec_l1Cur_like.l0 k 0 s0_0 s0_1 s0_2 bt103.1 bt103.2.1 bt103.2.2)
theorem spec_l1Cur_like.calls (k : Nat) (g : Nat) (s0_0 : List Int) (s0_1 : Int) (s0_2 : Int) (a1_0 : Int) (a1_1 : Int) (A1_2 : Option Addr) (c1_2 : Nat) (l1_2 : List Int) (r1 : Int) (r2 : Int) (r3 : List Int) (r4 : Int) (r5 : Int) (w0 w : World) (hI : IsS58 w0 w g s0_0 s0_1 s0_2) (hB : Below w0.heap.size w0 w) (hr1_2 : Kd.C (Kd.int .i64) w A1_2 l1_2.length l1_2) (hc1_2 : l1_2.length ≤ c1_2) (hf1_2 : ∀ ad, A1_2 = some ad → 0 < l1_2.length → ad.block ≠ g) (h : spec_l1Cur_like.f k s0_0 s0_1 s0_2 a1_0 a1_1 l1_2 = some (r1, r2, r3, r4, r5)) :
  Calls Try.prog 42 #[.pointer (some ⟨g, 0, none⟩), .agg #[.int .i64 a1_0, .int .i64 a1_1, .slice A1_2 l1_2.length c1_2]] w fun e w' => ∃ v2_ : Value, e = .returned (.agg #[.int .i64 r1, .int .i64 r2, v2_]) ∧ Kd.R (Kd.int .i64) 3 w' w.heap.size (fun _ => True) v2_ r3 ∧ IsS58 w0 w' g s0_0 r4 r5 ∧ Below w0.heap.size w0 w' ∧ KeepBut w w' g none := by
 have hu26 := Try.underlying26
 have HR1_2 := Aside0.mk hr1_2
 have HC1_2 := Aside0.mk hc1_2
 clear hr1_2 hc1_2
 have HI0 := Aside0.mk hI
 have HK := aK (KeepBut.refl w g none)
 have HL := Aside0.mk hB.size
 clear hI
 have HW0 := Aside0.mk hB.size
 have HB := Aside0.mk hB
 clear hB
 have H : ((spec_l2Own.f a1_0 a1_1 l1_2).bind fun bt103 => (spec_l1Cur_like.l0 k 0 s0_0 s0_1 s0_2 bt103.1 bt103.2.1 bt103.2.2)) = some (r1, r2, r3, r4, r5) := h
 clear h
 replace H := Option.bind_eq_some_iff.mp H
 obtain ⟨⟨t103, t104, t105⟩, A30, H⟩ := H
 replace H : (spec_l1Cur_like.l0 k 0 s0_0 s0_1 s0_2 t103 t104 t105) = some (r1, r2, r3, r4, r5) := H
 have A3 := Aside0.mk A30
 clear A30
 have H' := Aside0.mk H
 clear H
 go_enter Try.func42, Try.ntmps42
 go_wp2_with (first | ((with_reducible refine gate_dst (N := 3) rfl ?_); refine bxe (cs := #[.int .i64 a1_0, .int .i64 a1_1, .slice A1_2 l1_2.length c1_2]) (t := 26) ?_; intro gb101 hg w4 hbox hb; have n0_ := aK (IsS58.below (pI58 HI0.out) hb); have n1_ := aK (KeepBut.trans (pK HK.out) (KeepBut.of_below hb g none) (.inl rfl)); replace HB := aK (below_step ((pV HB.out (IsS58.ge HI0.out))) hb); have BK101 := aK (hbox); have GW101 := aK ((by rw [hg]; exact (keep_size (w := w) (g := g) (row := none) (pK HK.out)) : w.heap.size ≤ gb101)); have GE101 := aK ((Nat.le_trans HW0.out (by rw [hg]; exact (keep_size (w := w) (g := g) (row := none) (pK HK.out)) : w.heap.size ≤ gb101) : w0.heap.size ≤ gb101)); have NB0_101 := aK ((by rw [hg]; exact Nat.ne_of_lt (IsS58.lt (show IsS58 w0 _ g s0_0 s0_1 s0_2 from pI58 HI0.out)) : g ≠ gb101)); have NB101_0 := aK ((by rw [hg]; exact Nat.ne_of_gt (IsS58.lt (show IsS58 w0 _ g s0_0 s0_1 s0_2 from pI58 HI0.out)) : gb101 ≠ g)); clear HI0 HK; have HI0 := n0_; have HK := n1_; clear n0_ n1_; clear hb hbox hg) | ((with_reducible refine gate_dst (N := 4) rfl ?_); refine bxe (cs := #[.int .i64 0, .int .i64 0, .slice none 0 0]) (t := 26) ?_; intro gb102 hg w5 hbox hb; have n0_ := aK (IsS58.below (pI58 HI0.out) hb); have n2_ := aK (KeepBut.trans (pK HK.out) (KeepBut.of_below hb g none) (.inl rfl)); replace HB := aK (below_step ((pV HB.out (IsS58.ge HI0.out))) hb); have BK102 := aK (hbox); have GW102 := aK ((by rw [hg]; exact (keep_size (w := w) (g := g) (row := none) (pK HK.out)) : w.heap.size ≤ gb102)); have GE102 := aK ((Nat.le_trans HW0.out (by rw [hg]; exact (keep_size (w := w) (g := g) (row := none) (pK HK.out)) : w.heap.size ≤ gb102) : w0.heap.size ≤ gb102)); obtain ⟨NB101_102, NB102_101⟩ := nb hg (pB BK101.out); have NB0_102 := aK ((by rw [hg]; exact Nat.ne_of_lt (IsS58.lt (show IsS58 w0 _ g s0_0 s0_1 s0_2 from pI58 HI0.out)) : g ≠ gb102)); have NB102_0 := aK ((by rw [hg]; exact Nat.ne_of_gt (IsS58.lt (show IsS58 w0 _ g s0_0 s0_1 s0_2 from pI58 HI0.out)) : gb102 ≠ g)); replace BK101 := bB BK101 hb; clear HI0 HK; have HI0 := n0_; have HK := n2_; clear n0_ n2_ hb hbox hg; obtain ⟨hnb6, hnc6⟩ := nB NB101_102; obtain ⟨hnb7, hnc7⟩ := nB NB101_0; obtain ⟨z8_0, z8_1, z8_2, y8_0, y8_1, y8_2⟩ := bc3 BK101.out) | ((with_reducible refine gate_callee (f := 69) rfl ?_); refine gl (some 8) Try.func69 #[.agg #[.int .i64 a1_0, .int .i64 a1_1, .slice A1_2 l1_2.length c1_2]] ?_; (with_reducible refine (spec_l2Own.calls a1_0 a1_1 _ _ l1_2 t103 t104 t105 _ ?side1 ?side2 A3.out).mono ?_); (case side1 => exact Kd.C_keep 0 HR1_2.out (pK HK.out) hf1_2); (case side2 => exact HC1_2.out); rintro e w9 ⟨v106, rfl, ho0, hb⟩; refine ⟨_, rfl, ?_⟩; have HO107 := aK (Kd.R_lower ho0 (keep_size (w := w) (g := g) (row := none) (pK HK.out))); have n1_ := aK (IsS58.below (pI58 HI0.out) hb); have n4_ := aK (KeepBut.trans (pK HK.out) (KeepBut.of_below hb g none) (.inl rfl)); have n5_ := aK (below_step ((pV HB.out (IsS58.ge HI0.out))) hb); replace BK101 := bB BK101 hb; replace BK102 := bB BK102 hb; clear HI0 HK HB; have HI0 := n1_; have HK := n4_; have HB := n5_; clear n1_ n4_ n5_; (try clear hb); (try clear ho0)) | ((with_reducible refine gate_dst (N := 5) rfl ?_); refine bxe (cs := #[.int .i64 0, .int .i64 0, .slice none 0 0]) (t := 26) ?_; intro gb108 hg w10 hbox hb; replace HO107 := aK (Kd.R_below (pR HO107.out) hb); have n1_ := aK (IsS58.below (pI58 HI0.out) hb); have n4_ := aK (KeepBut.trans (pK HK.out) (KeepBut.of_below hb g none) (.inl rfl)); replace HB := aK (below_step ((pV HB.out (IsS58.ge HI0.out))) hb); have BK108 := aK (hbox); have GW108 := aK ((by rw [hg]; exact (keep_size (w := w) (g := g) (row := none) (pK HK.out)) : w.heap.size ≤ gb108)); have GE108 := aK ((Nat.le_trans HW0.out (by rw [hg]; exact (keep_size (w := w) (g := g) (row := none) (pK HK.out)) : w.heap.size ≤ gb108) : w0.heap.size ≤ gb108)); obtain ⟨NB101_108, NB108_101⟩ := nb hg (pB BK101.out); obtain ⟨NB102_108, NB108_102⟩ := nb hg (pB BK102.out); have NB0_108 := aK ((by rw [hg]; exact Nat.ne_of_lt (IsS58.lt (show IsS58 w0 _ g s0_0 s0_1 s0_2 from pI58 HI0.out)) : g ≠ gb108)); have NB108_0 := aK ((by rw [hg]; exact Nat.ne_of_gt (IsS58.lt (show IsS58 w0 _ g s0_0 s0_1 s0_2 from pI58 HI0.out)) : gb108 ≠ g)); replace BK101 := bB BK101 hb; replace BK102 := bB BK102 hb; clear HI0 HK; have HI0 := n1_; have HK := n4_; clear n1_ n4_ hb hbox hg; obtain ⟨hnb11, hnc11⟩ := nB NB108_101; obtain ⟨hnb12, hnc12⟩ := nB NB108_102; obtain ⟨hnb13, hnc13⟩ := nB NB108_0; obtain ⟨z14_0, z14_1, z14_2, y14_0, y14_1, y14_2⟩ := bc3 BK108.out; obtain ⟨Ao15, co15, eo15⟩ := Kd.R_slice HO107.out; subst eo15))
 go_loopg [6] k (fun kq v6 w' => ∃ (x6_1 : Int) (x1001_1 : Int) (x1002_1 : Int) (x109002_1 : List Int) (u109002 : Value), v6 = .int .i64 x6_1 ∧ Aside0 (spec_l1Cur_like.l0 kq x6_1 s0_0 x1001_1 x1002_1 t103 t104 x109002_1 = some (r1, r2, r3, r4, r5)) ∧ Aside0 (kq ≤ k) ∧ Aside0 (Kd.R (Kd.int .i64) 3 w' w.heap.size (fun _ => True) u109002 x109002_1) ∧ Aside0 (w'.heap[gb101]? = some (.cells #[.int .i64 a1_0, .int .i64 a1_1, (.slice A1_2 l1_2.length c1_2)] 26 (0, 0))) ∧ Aside0 (w'.heap[gb102]? = some (.cells #[.int .i64 0, .int .i64 0, (.slice none 0 0)] 26 (0, 0))) ∧ Aside0 (w'.heap[gb108]? = some (.cells #[.int .i64 t103, .int .i64 t104, u109002] 26 (0, 0))) ∧ Aside0 (IsS58 w0 w' g s0_0 x1001_1 x1002_1) ∧ Aside0 (KeepBut w w' g none) ∧ Aside0 (Below w0.heap.size w0 w'))
 case atStart => exact ⟨(0), (s0_1), (s0_2), (t105), (.slice Ao15 t105.length co15), (by first | rfl | (simp; done) | (simp [*]; done)), H', ⟨Nat.le_refl _⟩, ⟨pR (Kd.R_mono (rF3 HO107.out BK108.out (.int .i64 t103) (.int .i64 t104) (.slice Ao15 t105.length co15)) (fun _ h => trivial))⟩, ⟨by refine bk ?_; refine blk_far ?_ NB101_108.out _; refine bk ?_; refine blk_far ?_ NB101_108.out _; refine bk ?_; refine blk_far ?_ NB101_108.out _; refine bk ?_; exact BK101.out⟩, ⟨by refine bk ?_; refine blk_far ?_ NB102_108.out _; refine bk ?_; refine blk_far ?_ NB102_108.out _; refine bk ?_; refine blk_far ?_ NB102_108.out _; refine bk ?_; exact BK102.out⟩, ⟨by refine bk ?_; refine blk_put (cs := #[.int .i64 t103, .int .i64 t104, .slice none 0 0]) ?_ 2 _ rfl; refine bk ?_; refine blk_put (cs := #[.int .i64 t103, .int .i64 0, .slice none 0 0]) ?_ 1 _ rfl; refine bk ?_; refine blk_put (cs := #[.int .i64 0, .int .i64 0, .slice none 0 0]) ?_ 0 _ rfl; refine bk ?_; exact BK108.out⟩, ⟨pI58 HI0.out⟩, ⟨pK HK.out⟩, ⟨(pV HB.out (IsS58.ge HI0.out))⟩⟩
 case round =>
  clear H'
  try clear z14_0
  try clear z14_1
  try clear z14_2
  try clear z8_0
  try clear z8_1
  try clear z8_2
  try clear y14_0
  try clear y14_1
  try clear y14_2
  try clear y8_0
  try clear y8_1
  try clear y8_2
  obtain ⟨x6_1, x1001_1, x1002_1, x109002_1, u109002, rfl, HA, HK1, HO_109002, BK101, BK102, BK108, HI0, HK, HB⟩ := hrel
  cases gk with
  | zero => exact absurd HA.out (by simp [spec_l1Cur_like.l0])
  | succ k1 =>
   have H := HA.out; clear HA
   simp only [spec_l1Cur_like.l0] at H
   by_cases c16 : x6_1 < (x109002_1.length : Int)
   rotate_left
   ·
    rw [if_neg c16] at H
    have c16b0 : decide (x6_1 < (x109002_1.length : Int)) = false := decide_eq_false c16
    clear c16; replace H := Option.bind_eq_some_iff.mp H
    obtain ⟨⟨t120, t121, t122⟩, A590, H⟩ := H
    replace H : (if t120 = true then ((spec_l1Cur_field.f k1 s0_0 t121 t122).bind fun bt123 => (some (bt123.1, bt123.2.1, bt123.2.2.1, bt123.2.2.2.1, bt123.2.2.2.2))) else (some (t103, t104, x109002_1, t121, t122))) = some (r1, r2, r3, r4, r5) := H
    have A59 := Aside0.mk A590; clear A590
    by_cases c60 : t120 = true
    ·
     subst c60
     have H1 : ((spec_l1Cur_field.f k1 s0_0 t121 t122).bind fun bt123 => (some (bt123.1, bt123.2.1, bt123.2.2.1, bt123.2.2.2.1, bt123.2.2.2.2))) = some (r1, r2, r3, r4, r5) := by rw [if_pos rfl] at H; exact H
     clear H; have H := H1; clear H1; replace H := Option.bind_eq_some_iff.mp H
     obtain ⟨⟨t123, t124, t125, t128, t129⟩, A610, H⟩ := H
     replace H : (some (t123, t124, t125, t128, t129)) = some (r1, r2, r3, r4, r5) := H
     have A61 := Aside0.mk A610; clear A610
     simp only [Option.some.injEq, Prod.mk.injEq] at H
     obtain ⟨rfl, rfl, rfl, rfl, rfl⟩ := H; obtain ⟨hnb62, hnc62⟩ := nB NB108_101; obtain ⟨hnb63, hnc63⟩ := nB NB108_102; obtain ⟨hnb64, hnc64⟩ := nB NB108_0; obtain ⟨z65_0, z65_1, z65_2, y65_0, y65_1, y65_2⟩ := bc3 BK108.out; obtain ⟨Ao66, co66, eo66⟩ := Kd.R_slice HO_109002.out; subst eo66
     go_wp2_with (first | ((with_reducible refine gate_callee (f := 40) rfl ?_); refine gl (some 35) Try.func40 #[.pointer (some ⟨g, 0, none⟩), .int .i64 16] ?_; (with_reducible refine (spec_l1Cur_one.calls g s0_0 x1001_1 x1002_1 16 true t121 t122 w0 _ ?side1 ?side2 A59.out).mono ?_); (case side1 => exact pI58 HI0.out); (case side2 => exact pV HB.out (IsS58.ge HI0.out)); rintro e w67 ⟨rfl, hi, hb, hk⟩; refine ⟨_, rfl, ?_⟩; replace HO_109002 := aK (Kd.R_mono (Kd.R_keep (IsS58.apart (show IsS58 w0 _ g s0_0 x1001_1 x1002_1 from pI58 HI0.out) (pR HO_109002.out) (by decide)) hk (fun _ h => h.2)) (fun _ h => h.1)); replace BK101 := aK (KeepBut.blk hk (pB BK101.out) NB101_0.out (by simp)); replace BK102 := aK (KeepBut.blk hk (pB BK102.out) NB102_0.out (by simp)); replace BK108 := aK (KeepBut.blk hk (pB BK108.out) NB108_0.out (by simp)); replace HK := aK (KeepBut.trans (pK HK.out) hk (.inl rfl)); replace HB := aK (hb); replace HI0 := aK (hi); (try clear hb); (try clear hk); (try clear hi)) | ((with_reducible refine gate_callee (f := 39) rfl ?_); refine gl (some 37) Try.func39 #[.pointer (some ⟨g, 0, none⟩)] ?_; (with_reducible refine (spec_l1Cur_field.calls k1 g s0_0 t121 t122 t123 t124 t125 t128 t129 w0 _ ?side1 ?side2 A61.out).mono ?_); (case side1 => exact pI58 HI0.out); (case side2 => exact pV HB.out (IsS58.ge HI0.out)); rintro e w68 ⟨v126, rfl, ho0, hi, hb, hk⟩; refine ⟨_, rfl, ?_⟩; have n0_ := aK (Kd.R_mono (Kd.R_told (Kd.R_oldK (IsS58.apart (show IsS58 w0 _ g s0_0 t121 t122 from pI58 HI0.out) (pR HO_109002.out) (by decide)) hk) (Kd.R_base ho0)) (fun _ h_ => h_.1)); replace BK101 := aK (KeepBut.blk hk (pB BK101.out) NB101_0.out (by simp)); replace BK102 := aK (KeepBut.blk hk (pB BK102.out) NB102_0.out (by simp)); replace BK108 := aK (KeepBut.blk hk (pB BK108.out) NB108_0.out (by simp)); have HO127 := aK (Kd.R_lower (nw1 ho0 (pR HO_109002.out)) (keep_size (w := w) (g := g) (row := none) (pK HK.out))); replace HK := aK (KeepBut.trans (pK HK.out) hk (.inl rfl)); replace HB := aK (hb); replace HI0 := aK (hi); clear HO_109002; have HO_109002 := n0_; clear n0_; (try clear hb); (try clear hk); (try clear hi); (try clear ho0); obtain ⟨z69_0, z69_1, z69_2, y69_0, y69_1, y69_2⟩ := bc3 BK108.out; obtain ⟨Ao70, co70, eo70⟩ := Kd.R_slice HO127.out; subst eo70; obtain ⟨hnb71, hnc71⟩ := nB NB102_101; obtain ⟨hnb72, hnc72⟩ := nB NB102_0; obtain ⟨z73_0, z73_1, z73_2, y73_0, y73_1, y73_2⟩ := bc3 BK102.out))
     refine bodyPost_ret (results_cell_row rfl _ _ gb102 26 #[.int .i64 t123, .int .i64 t124, .slice Ao70 t125.length co70] (0, 0) _ rfl (by refine bk ?_; refine blk_put (cs := #[.int .i64 t123, .int .i64 t124, .slice none 0 0]) ?_ 2 _ rfl; refine bk ?_; refine blk_put (cs := #[.int .i64 t123, .int .i64 0, .slice none 0 0]) ?_ 1 _ rfl; refine bk ?_; refine blk_put (cs := #[.int .i64 0, .int .i64 0, .slice none 0 0]) ?_ 0 _ rfl; refine bk ?_; refine blk_far ?_ NB102_108.out _; refine bk ?_; refine blk_far ?_ NB102_108.out _; refine bk ?_; refine blk_far ?_ NB102_108.out _; refine bk ?_; exact BK102.out) Try.underlying26 rfl (by kernel_rfl)) rfl ?_
     exact ⟨_, er, by (with_reducible repeat (first | apply Kd.R_alloc | apply Kd.R_drewN | apply Kd.R_drew)); exact Kd.R_mono (Kd.R_far (p := ⟨gb102, 2, none⟩) (Kd.R_far (p := ⟨gb102, 1, none⟩) (Kd.R_far (p := ⟨gb102, 0, none⟩) (Kd.R_far (p := ⟨gb108, 2, none⟩) (Kd.R_far (p := ⟨gb108, 1, none⟩) (Kd.R_far (p := ⟨gb108, 0, none⟩) (Kd.R_types (Kd.R_types HO127.out BK108.out (by decide)) BK102.out (by decide)) (fun _ hk => hk.1.2) (.int .i64 t123)) (fun _ hk => hk.1.2) (.int .i64 t124)) (fun _ hk => hk.1.2) (.slice Ao70 t125.length co70)) (fun _ hk => hk.2) (.int .i64 t123)) (fun _ hk => hk.2) (.int .i64 t124)) (fun _ hk => hk.2) (.slice Ao70 t125.length co70)) (fun _ hk => trivial), pI58 HI0.out, (pV HB.out (IsS58.ge HI0.out)), pK HK.out⟩
    replace c60 := Bool.eq_false_iff.mpr c60; subst c60
    have H1 : (some (t103, t104, x109002_1, t121, t122)) = some (r1, r2, r3, r4, r5) := by rw [if_neg (show ¬ (false = true) by decide)] at H; exact H
    clear H; have H := H1; clear H1
    simp only [Option.some.injEq, Prod.mk.injEq] at H
    obtain ⟨rfl, rfl, rfl, rfl, rfl⟩ := H; obtain ⟨hnb74, hnc74⟩ := nB NB108_101; obtain ⟨hnb75, hnc75⟩ := nB NB108_102; obtain ⟨hnb76, hnc76⟩ := nB NB108_0; obtain ⟨z77_0, z77_1, z77_2, y77_0, y77_1, y77_2⟩ := bc3 BK108.out; obtain ⟨Ao78, co78, eo78⟩ := Kd.R_slice HO_109002.out; subst eo78
    go_wp2_with (first | ((with_reducible refine gate_callee (f := 40) rfl ?_); refine gl (some 35) Try.func40 #[.pointer (some ⟨g, 0, none⟩), .int .i64 16] ?_; (with_reducible refine (spec_l1Cur_one.calls g s0_0 x1001_1 x1002_1 16 false t121 t122 w0 _ ?side1 ?side2 A59.out).mono ?_); (case side1 => exact pI58 HI0.out); (case side2 => exact pV HB.out (IsS58.ge HI0.out)); rintro e w79 ⟨rfl, hi, hb, hk⟩; refine ⟨_, rfl, ?_⟩; replace HO_109002 := aK (Kd.R_mono (Kd.R_keep (IsS58.apart (show IsS58 w0 _ g s0_0 x1001_1 x1002_1 from pI58 HI0.out) (pR HO_109002.out) (by decide)) hk (fun _ h => h.2)) (fun _ h => h.1)); replace BK101 := aK (KeepBut.blk hk (pB BK101.out) NB101_0.out (by simp)); replace BK102 := aK (KeepBut.blk hk (pB BK102.out) NB102_0.out (by simp)); replace BK108 := aK (KeepBut.blk hk (pB BK108.out) NB108_0.out (by simp)); replace HK := aK (KeepBut.trans (pK HK.out) hk (.inl rfl)); replace HB := aK (hb); replace HI0 := aK (hi); (try clear hb); (try clear hk); (try clear hi); obtain ⟨z80_0, z80_1, z80_2, y80_0, y80_1, y80_2⟩ := bc3 BK108.out; obtain ⟨hnb81, hnc81⟩ := nB NB102_101; obtain ⟨hnb82, hnc82⟩ := nB NB102_0; obtain ⟨z83_0, z83_1, z83_2, y83_0, y83_1, y83_2⟩ := bc3 BK102.out))
    refine bodyPost_ret (results_cell_row rfl _ _ gb102 26 #[.int .i64 t103, .int .i64 t104, .slice Ao78 x109002_1.length co78] (0, 0) _ rfl (by refine bk ?_; refine blk_put (cs := #[.int .i64 t103, .int .i64 t104, .slice none 0 0]) ?_ 2 _ rfl; refine bk ?_; refine blk_put (cs := #[.int .i64 t103, .int .i64 0, .slice none 0 0]) ?_ 1 _ rfl; refine bk ?_; refine blk_put (cs := #[.int .i64 0, .int .i64 0, .slice none 0 0]) ?_ 0 _ rfl; refine bk ?_; exact BK102.out) Try.underlying26 rfl (by kernel_rfl)) rfl ?_
    exact ⟨_, er, by (with_reducible repeat (first | apply Kd.R_alloc | apply Kd.R_drewN | apply Kd.R_drew)); exact Kd.R_mono (rF3 HO_109002.out BK102.out (.int .i64 t103) (.int .i64 t104) (.slice Ao78 x109002_1.length co78)) (fun _ h => trivial), pI58 HI0.out, (pV HB.out (IsS58.ge HI0.out)), pK HK.out⟩
   rw [if_pos c16] at H
   have c16b0 : decide (x6_1 < (x109002_1.length : Int)) = true := decide_eq_true c16
   clear c16; replace H := Option.bind_eq_some_iff.mp H
   obtain ⟨⟨t109, t110, t111⟩, A170, H⟩ := H
   replace H : (if t109 = 0 then ((spec_l1Cur_pick.f s0_0 t110 t111 40).bind fun bt112 => (if 0 ≤ x6_1 then (spec_l1Cur_like.l0 k1 (wrap64 (x6_1 + 1)) s0_0 bt112.2.1 bt112.2.2 t103 t104 (x109002_1.set (x6_1 : Int).toNat bt112.1)) else (none))) else (if t109 = 1 then ((spec_l1Cur_one.f s0_0 t110 t111 3).bind fun bt116 => (if bt116.1 = true then (if 0 ≤ x6_1 then (spec_l1Cur_like.l0 k1 (wrap64 (x6_1 + 1)) s0_0 bt116.2.1 bt116.2.2 t103 t104 (x109002_1.set (x6_1 : Int).toNat (-9999))) else (none)) else (spec_l1Cur_like.l0 k1 (wrap64 (x6_1 + 1)) s0_0 bt116.2.1 bt116.2.2 t103 t104 x109002_1))) else (spec_l1Cur_like.l0 k1 (wrap64 (x6_1 + 1)) s0_0 t110 t111 t103 t104 x109002_1))) = some (r1, r2, r3, r4, r5) := H
   have A17 := Aside0.mk A170; clear A170
   by_cases c18 : t109 = 0
   rotate_left
   ·
    rw [if_neg c18] at H
    have c18b0 : (t109 == 0) = false := beq_eq_false_iff_ne.mpr c18
    have c18b1 : (t109 != 0) = true := bne_iff_ne.mpr c18
    by_cases c31 : t109 = 1
    rotate_left
    ·
     rw [if_neg c31] at H
     have c31b0 : (t109 == 1) = false := beq_eq_false_iff_ne.mpr c31
     have c31b1 : (t109 != 1) = true := bne_iff_ne.mpr c31
     have H' := Aside0.mk H; clear H; obtain ⟨hnb53, hnc53⟩ := nB NB108_101; obtain ⟨hnb54, hnc54⟩ := nB NB108_102; obtain ⟨hnb55, hnc55⟩ := nB NB108_0; obtain ⟨z56_0, z56_1, z56_2, y56_0, y56_1, y56_2⟩ := bc3 BK108.out; obtain ⟨Ao57, co57, eo57⟩ := Kd.R_slice HO_109002.out; subst eo57
     go_wp2_with (first | ((with_reducible refine gate_callee (f := 44) rfl ?_); refine gl (some 17) Try.func44 #[.pointer (some ⟨g, 0, none⟩), .int .i64 5] ?_; (with_reducible refine (spec_l1Cur_pick.calls g s0_0 x1001_1 x1002_1 5 t109 t110 t111 w0 _ ?side1 ?side2 A17.out).mono ?_); (case side1 => exact pI58 HI0.out); (case side2 => exact pV HB.out (IsS58.ge HI0.out)); rintro e w58 ⟨rfl, hi, hb, hk⟩; refine ⟨_, rfl, ?_⟩; replace HO_109002 := aK (Kd.R_mono (Kd.R_keep (IsS58.apart (show IsS58 w0 _ g s0_0 x1001_1 x1002_1 from pI58 HI0.out) (pR HO_109002.out) (by decide)) hk (fun _ h => h.2)) (fun _ h => h.1)); replace BK101 := aK (KeepBut.blk hk (pB BK101.out) NB101_0.out (by simp)); replace BK102 := aK (KeepBut.blk hk (pB BK102.out) NB102_0.out (by simp)); replace BK108 := aK (KeepBut.blk hk (pB BK108.out) NB108_0.out (by simp)); replace HK := aK (KeepBut.trans (pK HK.out) hk (.inl rfl)); replace HB := aK (hb); replace HI0 := aK (hi); (try clear hb); (try clear hk); (try clear hi)))
     go_roundg k1
     case measure => have := HK1.out; omega
     case rel => exact ⟨(wrap64 (x6_1 + 1)), (t110), (t111), (x109002_1), (.slice Ao57 x109002_1.length co57), (by first | rfl | (simp; done) | (simp [*]; done)), H', ⟨by have := HK1.out; omega⟩, ⟨pR HO_109002.out⟩, ⟨by refine bk ?_; exact BK101.out⟩, ⟨by refine bk ?_; exact BK102.out⟩, ⟨by refine bk ?_; exact BK108.out⟩, ⟨pI58 HI0.out⟩, ⟨pK HK.out⟩, ⟨(pV HB.out (IsS58.ge HI0.out))⟩⟩
    rw [if_pos c31] at H
    have c31b0 : (t109 == 1) = true := beq_iff_eq.mpr c31
    have c31b1 : (t109 != 1) = false := bne_eq_false_iff_eq.mpr c31
    clear c31; replace H := Option.bind_eq_some_iff.mp H
    obtain ⟨⟨t116, t117, t118⟩, A320, H⟩ := H
    replace H : (if t116 = true then (if 0 ≤ x6_1 then (spec_l1Cur_like.l0 k1 (wrap64 (x6_1 + 1)) s0_0 t117 t118 t103 t104 (x109002_1.set (x6_1 : Int).toNat (-9999))) else (none)) else (spec_l1Cur_like.l0 k1 (wrap64 (x6_1 + 1)) s0_0 t117 t118 t103 t104 x109002_1)) = some (r1, r2, r3, r4, r5) := H
    have A32 := Aside0.mk A320; clear A320
    by_cases c33 : t116 = true
    rotate_left
    ·
     replace c33 := Bool.eq_false_iff.mpr c33; subst c33
     have H1 : (spec_l1Cur_like.l0 k1 (wrap64 (x6_1 + 1)) s0_0 t117 t118 t103 t104 x109002_1) = some (r1, r2, r3, r4, r5) := by rw [if_neg (show ¬ (false = true) by decide)] at H; exact H
     clear H; have H := H1; clear H1; have H' := Aside0.mk H; clear H; obtain ⟨hnb46, hnc46⟩ := nB NB108_101; obtain ⟨hnb47, hnc47⟩ := nB NB108_102; obtain ⟨hnb48, hnc48⟩ := nB NB108_0; obtain ⟨z49_0, z49_1, z49_2, y49_0, y49_1, y49_2⟩ := bc3 BK108.out; obtain ⟨Ao50, co50, eo50⟩ := Kd.R_slice HO_109002.out; subst eo50
     go_wp2_with (first | ((with_reducible refine gate_callee (f := 44) rfl ?_); refine gl (some 17) Try.func44 #[.pointer (some ⟨g, 0, none⟩), .int .i64 5] ?_; (with_reducible refine (spec_l1Cur_pick.calls g s0_0 x1001_1 x1002_1 5 t109 t110 t111 w0 _ ?side1 ?side2 A17.out).mono ?_); (case side1 => exact pI58 HI0.out); (case side2 => exact pV HB.out (IsS58.ge HI0.out)); rintro e w51 ⟨rfl, hi, hb, hk⟩; refine ⟨_, rfl, ?_⟩; replace HO_109002 := aK (Kd.R_mono (Kd.R_keep (IsS58.apart (show IsS58 w0 _ g s0_0 x1001_1 x1002_1 from pI58 HI0.out) (pR HO_109002.out) (by decide)) hk (fun _ h => h.2)) (fun _ h => h.1)); replace BK101 := aK (KeepBut.blk hk (pB BK101.out) NB101_0.out (by simp)); replace BK102 := aK (KeepBut.blk hk (pB BK102.out) NB102_0.out (by simp)); replace BK108 := aK (KeepBut.blk hk (pB BK108.out) NB108_0.out (by simp)); replace HK := aK (KeepBut.trans (pK HK.out) hk (.inl rfl)); replace HB := aK (hb); replace HI0 := aK (hi); (try clear hb); (try clear hk); (try clear hi)) | ((with_reducible refine gate_callee (f := 40) rfl ?_); refine gl (some 29) Try.func40 #[.pointer (some ⟨g, 0, none⟩), .int .i64 3] ?_; (with_reducible refine (spec_l1Cur_one.calls g s0_0 t110 t111 3 false t117 t118 w0 _ ?side1 ?side2 A32.out).mono ?_); (case side1 => exact pI58 HI0.out); (case side2 => exact pV HB.out (IsS58.ge HI0.out)); rintro e w52 ⟨rfl, hi, hb, hk⟩; refine ⟨_, rfl, ?_⟩; replace HO_109002 := aK (Kd.R_mono (Kd.R_keep (IsS58.apart (show IsS58 w0 _ g s0_0 t110 t111 from pI58 HI0.out) (pR HO_109002.out) (by decide)) hk (fun _ h => h.2)) (fun _ h => h.1)); replace BK101 := aK (KeepBut.blk hk (pB BK101.out) NB101_0.out (by simp)); replace BK102 := aK (KeepBut.blk hk (pB BK102.out) NB102_0.out (by simp)); replace BK108 := aK (KeepBut.blk hk (pB BK108.out) NB108_0.out (by simp)); replace HK := aK (KeepBut.trans (pK HK.out) hk (.inl rfl)); replace HB := aK (hb); replace HI0 := aK (hi); (try clear hb); (try clear hk); (try clear hi)))
     go_roundg k1
     case measure => have := HK1.out; omega
     case rel => exact ⟨(wrap64 (x6_1 + 1)), (t117), (t118), (x109002_1), (.slice Ao50 x109002_1.length co50), (by first | rfl | (simp; done) | (simp [*]; done)), H', ⟨by have := HK1.out; omega⟩, ⟨pR HO_109002.out⟩, ⟨by refine bk ?_; exact BK101.out⟩, ⟨by refine bk ?_; exact BK102.out⟩, ⟨by refine bk ?_; exact BK108.out⟩, ⟨pI58 HI0.out⟩, ⟨pK HK.out⟩, ⟨(pV HB.out (IsS58.ge HI0.out))⟩⟩
    subst c33
    have H1 : (if 0 ≤ x6_1 then (spec_l1Cur_like.l0 k1 (wrap64 (x6_1 + 1)) s0_0 t117 t118 t103 t104 (x109002_1.set (x6_1 : Int).toNat (-9999))) else (none)) = some (r1, r2, r3, r4, r5) := by rw [if_pos rfl] at H; exact H
    clear H; have H := H1; clear H1
    by_cases c34 : 0 ≤ x6_1
    rotate_left
    ·
     rw [if_neg c34] at H
     exact absurd H (by simp)
    rw [if_pos c34] at H
    have c34b0 : decide (0 ≤ x6_1) = true := decide_eq_true c34
    clear c34
    obtain ⟨y119, hy119⟩ : ∃ y_ : List Int, y_ = (x109002_1.set (x6_1 : Int).toNat (-9999)) := ⟨_, rfl⟩
    replace H : (spec_l1Cur_like.l0 k1 (wrap64 (x6_1 + 1)) s0_0 t117 t118 t103 t104 y119) = some (r1, r2, r3, r4, r5) := by first | (rw [hy119]; with_reducible exact H) | (have H2_ := (Option.bind_some _ _).symm.trans H; rw [hy119]; with_reducible exact H2_) | (have H2_ := (Option.bind_some _ _).symm.trans H; with_reducible exact H2_) | with_reducible exact H | (rw [hy119]; exact H) | exact H
    have Ny119 := Aside0.mk hy119; clear hy119; have H' := Aside0.mk H; clear H; obtain ⟨hnb36, hnc36⟩ := nB NB108_101; obtain ⟨hnb37, hnc37⟩ := nB NB108_102; obtain ⟨hnb38, hnc38⟩ := nB NB108_0; obtain ⟨z39_0, z39_1, z39_2, y39_0, y39_1, y39_2⟩ := bc3 BK108.out; obtain ⟨Ao40, co40, eo40⟩ := Kd.R_slice HO_109002.out; subst eo40
    go_wp2_with (first | ((with_reducible refine gate_callee (f := 44) rfl ?_); refine gl (some 17) Try.func44 #[.pointer (some ⟨g, 0, none⟩), .int .i64 5] ?_; (with_reducible refine (spec_l1Cur_pick.calls g s0_0 x1001_1 x1002_1 5 t109 t110 t111 w0 _ ?side1 ?side2 A17.out).mono ?_); (case side1 => exact pI58 HI0.out); (case side2 => exact pV HB.out (IsS58.ge HI0.out)); rintro e w41 ⟨rfl, hi, hb, hk⟩; refine ⟨_, rfl, ?_⟩; replace HO_109002 := aK (Kd.R_mono (Kd.R_keep (IsS58.apart (show IsS58 w0 _ g s0_0 x1001_1 x1002_1 from pI58 HI0.out) (pR HO_109002.out) (by decide)) hk (fun _ h => h.2)) (fun _ h => h.1)); replace BK101 := aK (KeepBut.blk hk (pB BK101.out) NB101_0.out (by simp)); replace BK102 := aK (KeepBut.blk hk (pB BK102.out) NB102_0.out (by simp)); replace BK108 := aK (KeepBut.blk hk (pB BK108.out) NB108_0.out (by simp)); replace HK := aK (KeepBut.trans (pK HK.out) hk (.inl rfl)); replace HB := aK (hb); replace HI0 := aK (hi); (try clear hb); (try clear hk); (try clear hi)) | ((with_reducible refine gate_callee (f := 40) rfl ?_); refine gl (some 29) Try.func40 #[.pointer (some ⟨g, 0, none⟩), .int .i64 3] ?_; (with_reducible refine (spec_l1Cur_one.calls g s0_0 t110 t111 3 true t117 t118 w0 _ ?side1 ?side2 A32.out).mono ?_); (case side1 => exact pI58 HI0.out); (case side2 => exact pV HB.out (IsS58.ge HI0.out)); rintro e w42 ⟨rfl, hi, hb, hk⟩; refine ⟨_, rfl, ?_⟩; replace HO_109002 := aK (Kd.R_mono (Kd.R_keep (IsS58.apart (show IsS58 w0 _ g s0_0 t110 t111 from pI58 HI0.out) (pR HO_109002.out) (by decide)) hk (fun _ h => h.2)) (fun _ h => h.1)); replace BK101 := aK (KeepBut.blk hk (pB BK101.out) NB101_0.out (by simp)); replace BK102 := aK (KeepBut.blk hk (pB BK102.out) NB102_0.out (by simp)); replace BK108 := aK (KeepBut.blk hk (pB BK108.out) NB108_0.out (by simp)); replace HK := aK (KeepBut.trans (pK HK.out) hk (.inl rfl)); replace HB := aK (hb); replace HI0 := aK (hi); (try clear hb); (try clear hk); (try clear hi); obtain ⟨z43_0, z43_1, z43_2, y43_0, y43_1, y43_2⟩ := bc3 BK108.out; have p35 : 0 ≤ (x6_1 : Int) := of_decide_eq_true (by first | (with_reducible assumption) | assumption); have q35 : (x6_1 : Int) < ((x109002_1.length : Int) : Int) := of_decide_eq_true (by first | (with_reducible assumption) | assumption); obtain ⟨go35, co35, eo35, gb35, gl35, cl35, HG35⟩ := Kd.R_form HO_109002.out (by omega); (first | cases eo35 | (injection eo35 with ea_ en_ ec_; (first | subst ea_ | (injection ea_ with ea_; subst ea_)); subst ec_; clear en_)); have GB35 := Aside0.mk gb35; have GG35 := Aside0.mk HG35; clear gb35 gl35 HG35; obtain ⟨hx35_0, hf35_0⟩ := Kd.R_celln 0 HO_109002.out (x6_1 : Int) p35 q35; replace p35 := eq_true p35; replace q35 := eq_true q35; obtain ⟨hy44_, hz44_⟩ := Kd.R_celln 0 HO_109002.out (x6_1 : Int) (of_decide_eq_true (by first | (with_reducible assumption) | assumption)) (of_decide_eq_true (by first | (with_reducible assumption) | assumption)); have HP44 := Kd.R_putg HO_109002.out (x6_1 : Int) (-9999)) | ((with_reducible refine gate_store (t := 3) (p := 33) rfl ?_); refine store_event (t := 3) (p := 33) (v := ?vo_w45) (w1 := (w42.setCell ⟨go35, (x6_1 : Int).toNat, none⟩ (.int .i64 (-9999)))) ?hg ?ho ?hn ?hr ?_; (case ho => rfl); (case hg => rfl); (case hn => rfl); (case hr => first | (go_simp; done) | (go_simp; rfl)); intro w45 hw; have hg : w42.grownBy w45 (some go35) := (by rw [hw]; exact HP44.2); have hp_ : Kd.R (Kd.int .i64) 3 w45 w.heap.size (fun _ => True) (.slice (some ⟨go35, 0, none⟩) x109002_1.length co40) y119 := (by rw [hw, Ny119.out]; exact HP44.1); clear HP44; have n0_ := aK (hp_); replace BK101 := aK (blk_grown (pB BK101.out) hg (Kd.R_ne HO_109002.out BK101.out (by decide))); replace BK102 := aK (blk_grown (pB BK102.out) hg (Kd.R_ne HO_109002.out BK102.out (by decide))); replace BK108 := aK (blk_grown (pB BK108.out) hg (Kd.R_ne HO_109002.out BK108.out (by decide))); replace HI0 := aK (IsS58.grown (pI58 HI0.out) hg (IsS58.own_ne HI0.out HO_109002.out (by decide))); replace HB := aK ((by rw [hw]; exact below_set (HB.out) (Nat.le_trans HL.out GB35.out) : Below w0.heap.size w0 w45)); replace HK := aK (KeepBut.trans (pK HK.out) (KeepBut.of_grown hg g) (Kd.R_base2 HO_109002.out)); clear HO_109002; have HO_109002 := n0_; clear n0_; clear hg hw hp_))
    go_roundg k1
    case measure => have := HK1.out; omega
    case rel => exact ⟨(wrap64 (x6_1 + 1)), (t117), (t118), (y119), (.slice (some ⟨go35, 0, none⟩) x109002_1.length co40), (by first | rfl | (simp; done) | (simp [*]; done)), H', ⟨by have := HK1.out; omega⟩, ⟨pR HO_109002.out⟩, ⟨by refine bk ?_; exact BK101.out⟩, ⟨by refine bk ?_; exact BK102.out⟩, ⟨by refine bk ?_; exact BK108.out⟩, ⟨pI58 HI0.out⟩, ⟨pK HK.out⟩, ⟨(pV HB.out (IsS58.ge HI0.out))⟩⟩
   rw [if_pos c18] at H
   have c18b0 : (t109 == 0) = true := beq_iff_eq.mpr c18
   have c18b1 : (t109 != 0) = false := bne_eq_false_iff_eq.mpr c18
   clear c18; replace H := Option.bind_eq_some_iff.mp H
   obtain ⟨⟨t112, t113, t114⟩, A190, H⟩ := H
   replace H : (if 0 ≤ x6_1 then (spec_l1Cur_like.l0 k1 (wrap64 (x6_1 + 1)) s0_0 t113 t114 t103 t104 (x109002_1.set (x6_1 : Int).toNat t112)) else (none)) = some (r1, r2, r3, r4, r5) := H
   have A19 := Aside0.mk A190; clear A190
   by_cases c20 : 0 ≤ x6_1
   rotate_left
   ·
    rw [if_neg c20] at H
    exact absurd H (by simp)
   rw [if_pos c20] at H
   have c20b0 : decide (0 ≤ x6_1) = true := decide_eq_true c20
   clear c20
   obtain ⟨y115, hy115⟩ : ∃ y_ : List Int, y_ = (x109002_1.set (x6_1 : Int).toNat t112) := ⟨_, rfl⟩
   replace H : (spec_l1Cur_like.l0 k1 (wrap64 (x6_1 + 1)) s0_0 t113 t114 t103 t104 y115) = some (r1, r2, r3, r4, r5) := by first | (rw [hy115]; with_reducible exact H) | (have H2_ := (Option.bind_some _ _).symm.trans H; rw [hy115]; with_reducible exact H2_) | (have H2_ := (Option.bind_some _ _).symm.trans H; with_reducible exact H2_) | with_reducible exact H | (rw [hy115]; exact H) | exact H
   have Ny115 := Aside0.mk hy115; clear hy115; have H' := Aside0.mk H; clear H; obtain ⟨hnb22, hnc22⟩ := nB NB108_101; obtain ⟨hnb23, hnc23⟩ := nB NB108_102; obtain ⟨hnb24, hnc24⟩ := nB NB108_0; obtain ⟨z25_0, z25_1, z25_2, y25_0, y25_1, y25_2⟩ := bc3 BK108.out; obtain ⟨Ao26, co26, eo26⟩ := Kd.R_slice HO_109002.out; subst eo26
   try go_wp2_with (first | ((with_reducible refine gate_callee (f := 44) rfl ?_); refine gl (some 17) Try.func44 #[.pointer (some ⟨g, 0, none⟩), .int .i64 5] ?_; (with_reducible refine (spec_l1Cur_pick.calls g s0_0 x1001_1 x1002_1 5 t109 t110 t111 w0 _ ?side1 ?side2 A17.out).mono ?_); (case side1 => exact pI58 HI0.out); (case side2 => exact pV HB.out (IsS58.ge HI0.out)); rintro e w27 ⟨rfl, hi, hb, hk⟩; refine ⟨_, rfl, ?_⟩; replace HO_109002 := aK (Kd.R_mono (Kd.R_keep (IsS58.apart (show IsS58 w0 _ g s0_0 x1001_1 x1002_1 from pI58 HI0.out) (pR HO_109002.out) (by decide)) hk (fun _ h => h.2)) (fun _ h => h.1)); replace BK101 := aK (KeepBut.blk hk (pB BK101.out) NB101_0.out (by simp)); replace BK102 := aK (KeepBut.blk hk (pB BK102.out) NB102_0.out (by simp)); replace BK108 := aK (KeepBut.blk hk (pB BK108.out) NB108_0.out (by simp)); replace HK := aK (KeepBut.trans (pK HK.out) hk (.inl rfl)); replace HB := aK (hb); replace HI0 := aK (hi); (try clear hb); (try clear hk); (try clear hi)))
   replace HO_109002 := aK (Kd.R_drew HO_109002.out); replace BK101 := aK (blk_drew BK101.out); replace BK102 := aK (blk_drew BK102.out); replace BK108 := aK (blk_drew BK108.out); replace HI0 := aK (IsS58.drew HI0.out); replace HK := aK (keep_drew HK.out); replace HB := aK (below_drew1 HB.out)
   refine start_ (n := 7) (S := fun w' => w'.cell? ⟨gb108, 0, none⟩ = some (.int .i64 t103) ∧ w'.cell? ⟨gb108, 1, none⟩ = some (.int .i64 t104) ∧ w'.cell? ⟨gb108, 2, none⟩ = some (.slice Ao26 x109002_1.length co26)) (ds := [6]) (bz [0, 7]) (by kernel_rfl) rfl rfl (cz3 BK108.out) (fun hHeld => ?_)
   generalize w27.drew = w28 at HO_109002 BK101 BK102 BK108 HI0 HK HB hHeld ⊢
   refine pure_ (i := 0) (N := some 20) (v := ?_) (a' := ?_) (bz [1, 6]) rfl rfl (by kernel_rfl) (fun _ _ _ h => h) (Or.inl ⟨by rfl, ?_⟩) ?_ ?_
   rotate_left
   ·
    intro w'
    go_simp
    with_reducible rfl
   rotate_left
   ·
    simp only [sP]
    rfl
   refine pure_ (i := 2) (N := some 22) (v := ?_) (a' := ?_) (bz [1, 1, 1, 4]) rfl rfl (by kernel_rfl) (fun _ _ _ h => h) (Or.inl ⟨by rfl, ?_⟩) ?_ ?_
   rotate_left
   ·
    intro w'
    go_simp
    with_reducible rfl
   rotate_left
   ·
    simp only [sP]
    rfl
   refine pure_ (i := 3) (N := some 23) (v := ?_) (a' := ?_) (bz [1, 1, 2, 3]) rfl rfl (by kernel_rfl) (fun _ _ _ h => h) (Or.inl ⟨by rfl, ?_⟩) ?_ ?_
   rotate_left
   ·
    intro w'
    go_simp
    with_reducible rfl
   rotate_left
   ·
    simp only [sP]
    rfl
   refine take_ (i := 1) (N := some 21) (v := ?_) (a' := ?_) (bz [4, 3]) rfl rfl (by kernel_rfl) (fun _ _ _ h => h) (Or.inl ⟨by rfl, ?_⟩) hHeld ?_ ?_
   rotate_left
   ·
    rintro w' ⟨s0, s1, s2⟩
    go_simp
    with_reducible rfl
   rotate_left
   ·
    simp only [sP]
    rfl
   refine one_ (i := 4) (N := some 24) (bz [5, 2]) rfl rfl (by kernel_rfl) (by decide) (fun K hK => ?_)
   refine goes_ Try.func44 (by kernel_rfl) rfl #[.pointer (some ⟨g, 0, none⟩), .int .i64 40] (by rfl) rfl rfl (by (try simp only [List.map_toArray, List.map_cons, List.map_nil]); first | done | rfl | (simp only [List.length_drop, List.length_take]; rfl)) ?_
   with_reducible refine (spec_l1Cur_pick.calls g s0_0 t110 t111 40 t112 t113 t114 w0 _ ?side1 ?side2 A19.out).mono ?_
   (case side1 => exact pI58 HI0.out)
   (case side2 => exact pV HB.out (IsS58.ge HI0.out))
   rintro e w29 ⟨rfl, hi, hb, hk⟩
   refine ⟨_, rfl, ?_⟩
   replace HO_109002 := aK (Kd.R_mono (Kd.R_keep (IsS58.apart (show IsS58 w0 _ g s0_0 t110 t111 from pI58 HI0.out) (pR HO_109002.out) (by decide)) hk (fun _ h => h.2)) (fun _ h => h.1))
   replace BK101 := aK (KeepBut.blk hk (pB BK101.out) NB101_0.out (by simp))
   replace BK102 := aK (KeepBut.blk hk (pB BK102.out) NB102_0.out (by simp))
   replace BK108 := aK (KeepBut.blk hk (pB BK108.out) NB108_0.out (by simp))
   replace HK := aK (KeepBut.trans (pK HK.out) hk (.inl rfl)); replace HB := aK (hb); replace HI0 := aK (hi)
   (try clear hb)
   (try clear hb2)
   (try clear hk)
   (try clear hi)
   have p21 : 0 ≤ (x6_1 : Int) := of_decide_eq_true (by first | (with_reducible assumption) | assumption)
   have q21 : (x6_1 : Int) < ((x109002_1.length : Int) : Int) := of_decide_eq_true (by first | (with_reducible assumption) | assumption)
   obtain ⟨go21, co21, eo21, gb21, gl21, cl21, HG21⟩ := Kd.R_form HO_109002.out (by omega)
   (first | cases eo21 | (injection eo21 with ea_ en_ ec_; (first | subst ea_ | (injection ea_ with ea_; subst ea_)); subst ec_; clear en_))
   have GB21 := Aside0.mk gb21; have GG21 := Aside0.mk HG21; clear gb21 gl21 HG21; obtain ⟨hx21_0, hf21_0⟩ := Kd.R_celln 0 HO_109002.out (x6_1 : Int) p21 q21; replace p21 := eq_true p21; replace q21 := eq_true q21
   have HN0_go21 := aK (show g ≠ go21 from by have h_ := IsS58.own_ne HI0.out HO_109002.out (by decide); intro e_; exact h_ (by rw [e_]; rfl))
   have HP30 := Kd.R_putn HO_109002.out (x6_1 : Int) t112; rw [← Ny115.out] at HP30; have HQ30 := Aside0.mk HP30; clear HP30
   refine hK.out _ _ (cz3 BK108.out) (fun hHeld => ?_)
   clear hK K
   refine norm_ (a' := ?_) ?_ ?_
   rotate_left
   ·
    show Act.put _ (some 24) _ = _
    simp only [sP]
    rfl
   refine pure_ (i := 5) (N := some 25) (v := ?_) (a' := ?_) (bz [6, 1]) rfl rfl (by kernel_rfl) (fun _ _ _ h => h) (Or.inl ⟨by rfl, ?_⟩) ?_ ?_
   rotate_left
   ·
    intro w'
    go_simp
    with_reducible rfl
   rotate_left
   ·
    simp only [sP]
    rfl
   refine last_ (i := 6) (N := none) (bz [7, 0]) rfl rfl (by kernel_rfl) (by decide) (fun K hK => ?_)
   refine skip_ (w1 := ?_) (by rfl) rfl ?_ ?_
   rotate_left
   ·
    go_simp
    rfl
   refine hK.out _ _ ?_
   clear hK K
   refine done_ (by kernel_rfl) ?_
   try go_wp2
   go_roundg k1
   case measure => have := HK1.out; omega
   case rel => exact ⟨(wrap64 (x6_1 + 1)), (t113), (t114), (y115), (.slice (some ⟨go21, 0, none⟩) x109002_1.length co26), (by first | rfl | (simp; done) | (simp [*]; done)), H', ⟨by have := HK1.out; omega⟩, ⟨pR HQ30.out⟩, ⟨by refine bk ?_; refine blk_far ?_ (by have h_ := Kd.R_ne HO_109002.out BK101.out (by decide); intro e_; exact h_ (by rw [e_]; rfl)) _; refine bk ?_; exact BK101.out⟩, ⟨by refine bk ?_; refine blk_far ?_ (by have h_ := Kd.R_ne HO_109002.out BK102.out (by decide); intro e_; exact h_ (by rw [e_]; rfl)) _; refine bk ?_; exact BK102.out⟩, ⟨by refine bk ?_; refine blk_far ?_ (by have h_ := Kd.R_ne HO_109002.out BK108.out (by decide); intro e_; exact h_ (by rw [e_]; rfl)) _; refine bk ?_; exact BK108.out⟩, ⟨by repeat (first | (with_reducible first | exact HI0.out | apply IsS58.alloc | apply IsS58.drewN | apply IsS58.drew | apply IsS58.set_1 | apply IsS58.set_2 | refine IsS58.far ?_ HN0_go21.out _ | refine IsS58.far ?_ NB0_101.out _ | refine IsS58.far ?_ NB0_102.out _ | refine IsS58.far ?_ NB0_108.out _) | exact HI0.out)⟩, ⟨by repeat (first | (with_reducible first | exact HK.out | apply KeepBut.set_ | apply keep_drewN | apply keep_drew | apply keep_alloc | refine keep_far ?_ GB21.out _ | refine keep_far ?_ GW101.out _ | refine keep_far ?_ GW102.out _ | refine keep_far ?_ GW108.out _) | exact HK.out)⟩, ⟨by repeat (first | (with_reducible first | exact HB.out | apply below_alloc | apply pw_below_drewN | apply below_drew1 | refine below_set ?_ (Nat.le_trans HL.out GB21.out) | refine below_set ?_ (IsS58.ge HI0.out) | refine below_set ?_ GE101.out | refine below_set ?_ GE102.out | refine below_set ?_ GE108.out) | exact HB.out)⟩⟩
def spec_l2Has.f (a0_0 : Int) (a0_1 : Int) (l0_2 : List Int) (a1 : Int) (a2 : Int) : Option (Bool) := (spec_l1In.f a1 0 (wrap64 (a0_0 - 1))).bind fun t102 => (if t102 = true then ((spec_l1In.f a2 0 (wrap64 (a0_1 - 1))).bind fun t103 => (some t103)) else (some false))
theorem spec_l2Has.calls (a0_0 : Int) (a0_1 : Int) (A0_2 : Option Addr) (c0_2 : Nat) (l0_2 : List Int) (a1 : Int) (a2 : Int) (r : Bool) (w : World) (hr0_2 : Kd.C (Kd.int .i64) w A0_2 l0_2.length l0_2) (hc0_2 : l0_2.length ≤ c0_2) (h : spec_l2Has.f a0_0 a0_1 l0_2 a1 a2 = some r) :
  Calls Try.prog 47 #[.agg #[.int .i64 a0_0, .int .i64 a0_1, .slice A0_2 l0_2.length c0_2], .int .i64 a1, .int .i64 a2] w fun e w' => e = .returned (.bool r) ∧ Below w.heap.size w w' := by
 have hu26 := Try.underlying26
 have HR0_2 := Aside0.mk hr0_2
 have HC0_2 := Aside0.mk hc0_2
 clear hr0_2 hc0_2
 have HB := aK (Below.refl w.heap.size w)
 have H : ((spec_l1In.f a1 0 (wrap64 (a0_0 - 1))).bind fun t102 => (if t102 = true then ((spec_l1In.f a2 0 (wrap64 (a0_1 - 1))).bind fun t103 => (some t103)) else (some false))) = some r := h
 clear h
 replace H := Option.bind_eq_some_iff.mp H
 obtain ⟨t102, A40, H⟩ := H
 replace H : (if t102 = true then ((spec_l1In.f a2 0 (wrap64 (a0_1 - 1))).bind fun t103 => (some t103)) else (some false)) = some r := H
 have A4 := Aside0.mk A40
 clear A40
 by_cases c5 : t102 = true
 ·
  subst c5
  have H1 : ((spec_l1In.f a2 0 (wrap64 (a0_1 - 1))).bind fun t103 => (some t103)) = some r := by rw [if_pos rfl] at H; exact H
  clear H; have H := H1; clear H1; replace H := Option.bind_eq_some_iff.mp H; obtain ⟨t103, A60, H⟩ := H
  replace H : (some t103) = some r := H
  have A6 := Aside0.mk A60; clear A60
  obtain rfl := Option.some.inj H
  go_enter Try.func47, Try.ntmps47
  go_wp2_with (first | ((with_reducible refine gate_dst (N := 3) rfl ?_); refine bxe (cs := #[.int .i64 a0_0, .int .i64 a0_1, .slice A0_2 l0_2.length c0_2]) (t := 26) ?_; intro gb101 hg w7 hbox hb; have BK101 := aK (hbox); have GW101 := aK (gE hg (pS HB.out)); have GE101 := GW101; replace HB := bS HB hb; clear hb hbox hg; obtain ⟨z8_0, z8_1, z8_2, y8_0, y8_1, y8_2⟩ := bc3 BK101.out) | ((with_reducible refine gate_callee (f := 46) rfl ?_); refine gl (some 11) Try.func46 #[.int .i64 a1, .int .i64 0, .int .i64 (wrap64 (a0_0 - 1))] ?_; (with_reducible refine (spec_l1In.calls a1 0 (wrap64 (a0_0 - 1)) true _ A4.out).mono ?_); rintro e w' ⟨rfl, ⟨nd, rfl⟩⟩; refine ⟨_, rfl, ?_⟩) | (go_at_call 46; (with_reducible refine (spec_l1In.calls a2 0 (wrap64 (a0_1 - 1)) t103 _ A6.out).mono ?_); rintro e w' ⟨rfl, ⟨nd, rfl⟩⟩))
  go_ret
  exact ⟨er, pT HB.out⟩
 replace c5 := Bool.eq_false_iff.mpr c5
 subst c5
 have H1 : (some false) = some r := by rw [if_neg (show ¬ (false = true) by decide)] at H; exact H
 clear H
 have H := H1
 clear H1
 obtain rfl := Option.some.inj H
 go_enter Try.func47, Try.ntmps47
 go_wp2_with (first | ((with_reducible refine gate_dst (N := 3) rfl ?_); refine bxe (cs := #[.int .i64 a0_0, .int .i64 a0_1, .slice A0_2 l0_2.length c0_2]) (t := 26) ?_; intro gb101 hg w9 hbox hb; have BK101 := aK (hbox); have GW101 := aK (gE hg (pS HB.out)); have GE101 := GW101; replace HB := bS HB hb; clear hb hbox hg; obtain ⟨z10_0, z10_1, z10_2, y10_0, y10_1, y10_2⟩ := bc3 BK101.out) | ((with_reducible refine gate_callee (f := 46) rfl ?_); refine gl (some 11) Try.func46 #[.int .i64 a1, .int .i64 0, .int .i64 (wrap64 (a0_0 - 1))] ?_; (with_reducible refine (spec_l1In.calls a1 0 (wrap64 (a0_0 - 1)) false _ A4.out).mono ?_); rintro e w' ⟨rfl, ⟨nd, rfl⟩⟩; refine ⟨_, rfl, ?_⟩))
 go_ret
 exact ⟨er, pT HB.out⟩
def spec_l2At.f (a0_0 : Int) (a0_1 : Int) (l0_2 : List Int) (a1 : Int) (a2 : Int) : Option (Int) := if 0 ≤ (wrap64 ((wrap64 (a2 * a0_0)) + a1)) then (if (wrap64 ((wrap64 (a2 * a0_0)) + a1)) < (l0_2.length : Int) then (some (rd l0_2 (wrap64 ((wrap64 (a2 * a0_0)) + a1)))) else (none)) else (none)
theorem spec_l2At.calls (a0_0 : Int) (a0_1 : Int) (A0_2 : Option Addr) (c0_2 : Nat) (l0_2 : List Int) (a1 : Int) (a2 : Int) (r : Int) (w : World) (hr0_2 : Kd.C (Kd.int .i64) w A0_2 l0_2.length l0_2) (hc0_2 : l0_2.length ≤ c0_2) (h : spec_l2At.f a0_0 a0_1 l0_2 a1 a2 = some r) :
  Calls Try.prog 48 #[.agg #[.int .i64 a0_0, .int .i64 a0_1, .slice A0_2 l0_2.length c0_2], .int .i64 a1, .int .i64 a2] w fun e w' => e = .returned (.int .i64 r) ∧ Below w.heap.size w w' := by
 have hu26 := Try.underlying26
 have HR0_2 := Aside0.mk hr0_2
 have HC0_2 := Aside0.mk hc0_2
 clear hr0_2 hc0_2
 have HB := aK (Below.refl w.heap.size w)
 have H : (if 0 ≤ (wrap64 ((wrap64 (a2 * a0_0)) + a1)) then (if (wrap64 ((wrap64 (a2 * a0_0)) + a1)) < (l0_2.length : Int) then (some (rd l0_2 (wrap64 ((wrap64 (a2 * a0_0)) + a1)))) else (none)) else (none)) = some r := h
 clear h
 obtain ⟨ji4, hji4⟩ : ∃ j_ : Int, (wrap64 ((wrap64 (a2 * a0_0)) + a1)) = j_ := ⟨_, rfl⟩
 replace H : (if 0 ≤ (ji4) then (if (ji4) < (l0_2.length : Int) then (some (rd l0_2 (ji4))) else (none)) else (none)) = some r := by first | (rw [hji4] at H; exact H) | (simp only [hji4] at H ⊢; exact H)
 have hji4w : (IntKind.i64.wrap ((wrap64 (a2 * a0_0)) + a1)) = ji4 := (i64_w _).trans hji4
 by_cases c5 : 0 ≤ (ji4)
 rotate_left
 ·
  rw [if_neg c5] at H
  exact absurd H (by simp)
 rw [if_pos c5] at H
 have c5b0 : decide (0 ≤ (ji4)) = true := decide_eq_true c5
 clear c5
 by_cases c6 : (ji4) < (l0_2.length : Int)
 rotate_left
 ·
  rw [if_neg c6] at H
  exact absurd H (by simp)
 rw [if_pos c6] at H
 have c6b0 : decide ((ji4) < (l0_2.length : Int)) = true := decide_eq_true c6
 clear c6
 obtain rfl := Option.some.inj H
 go_enter Try.func48, Try.ntmps48
 go_wp2_with (first | ((with_reducible refine gate_dst (N := 3) rfl ?_); refine bxe (cs := #[.int .i64 a0_0, .int .i64 a0_1, .slice A0_2 l0_2.length c0_2]) (t := 26) ?_; intro gb101 hg w7 hbox hb; have BK101 := aK (hbox); have GW101 := aK (gE hg (pS HB.out)); have GE101 := GW101; replace HB := bS HB hb; clear hb hbox hg; obtain ⟨z8_0, z8_1, z8_2, y8_0, y8_1, y8_2⟩ := bc3 BK101.out; have p102 : 0 ≤ ((ji4) : Int) := of_decide_eq_true (by first | (with_reducible assumption) | assumption); have q102 : (ji4) < (l0_2.length : Int) := of_decide_eq_true (by first | (with_reducible assumption) | assumption); obtain ⟨ad102, e102, hx102_0⟩ := Kd.at_int HR0_2.out (ji4) p102 q102; cases e102; replace hx102_0 := (HB.out.cell (World.block_lt_of_cell? w _ hx102_0)).trans hx102_0; replace p102 := eq_true p102; replace q102 := eq_true q102))
 go_ret
 exact ⟨by first | rfl | (simp [errW_none, errW_some] <;> rfl) | (simp only [← hji4]; first | rfl | (simp [errW_none, errW_some] <;> rfl)) | (simp [*, errW_none, errW_some] <;> rfl), pT HB.out⟩
end Go.Proofs.Ytmkdiliemiobeaa.P
