/- Texts of the claim FnTallies, merged: part 6 of 11: the program's and the reference's functions as Lean functions, the walks that show it, and plain lemmas; no conditions. -/
import Derived.Test.YtjicgmcogadleaaKFnTallies3
import Derived.Test.YtjicgmcogadleaaKFnTallies4
import Derived.Test.YtjicgmcogadleaaKFnTallies5
import Derived.Test.YtjicgmcogadleaaKFnTallies2
import Derived.WalkKit
namespace Go.Proofs.Ytjicgmcogadleaa.P
open Go.RowKit Go.Proofs.YtjicgmcogadleaaW.PrintWords Go.Proofs.YtjicgmcogadleaaW.PrintLast Go.Proofs.YtjicgmcogadleaaW.PrintMore
attribute [local go_sem] max2_int min2_int max_two min_two max_three min_three max_four min_four
set_option linter.unusedVariables false
set_option linter.unusedSimpArgs false
set_option maxHeartbeats 8000000
set_option maxRecDepth 100000
def spec_l1Cur_share.f (k : Nat) (s0_0 : List Int) (s0_1 : Int) (s0_2 : Int) : Option (Int × Int × Int × Int) := (spec_l1Cur_pick.f s0_0 s0_1 s0_2 12).bind fun bt102 => ((spec_l1Cur_pick.f s0_0 bt102.2.1 bt102.2.2 (wrap64 ((wrap64 (1 + bt102.1)) + 1))).bind fun bt105 => ((spec_l10Share.f k bt105.1 (wrap64 (1 + bt102.1))).bind fun bt108 => ((spec_l1Cur_one.f s0_0 bt105.2.1 bt105.2.2 10).bind fun bt111 => (if bt111.1 = true then ((spec_l1Cur_among.f s0_0 bt111.2.1 bt111.2.2 (([2, 0, 5, (-1)] : List Int))).bind fun bt117 => ((spec_l1Cur_among.f s0_0 bt117.2.1 bt117.2.2 (([4, 0, 3, (-2)] : List Int))).bind fun bt123 => (some (bt117.1, bt123.1, bt123.2.1, bt123.2.2)))) else (some (bt108.1, bt108.2, bt111.2.1, bt111.2.2))))))
theorem spec_l1Cur_share.calls (k : Nat) (g : Nat) (s0_0 : List Int) (s0_1 : Int) (s0_2 : Int) (r1 : Int) (r2 : Int) (r3 : Int) (r4 : Int) (w0 w : World) (hI : IsS65 w0 w g s0_0 s0_1 s0_2) (hB : Below w0.heap.size w0 w) (h : spec_l1Cur_share.f k s0_0 s0_1 s0_2 = some (r1, r2, r3, r4)) :
  Calls Try.prog 50 #[.pointer (some ⟨g, 0, none⟩)] w fun e w' => e = .returned (.agg #[.int .i64 r1, .int .i64 r2]) ∧ IsS65 w0 w' g s0_0 r3 r4 ∧ Below w0.heap.size w0 w' ∧ KeepBut w w' g none := by
 have hu33 := Try.underlying33
 have HI0 := Aside0.mk hI
 have HK := aK (KeepBut.refl w g none)
 have HL := Aside0.mk hB.size
 clear hI
 have HW0 := Aside0.mk hB.size
 have HB := Aside0.mk hB
 clear hB
 have H : ((spec_l1Cur_pick.f s0_0 s0_1 s0_2 12).bind fun bt102 => ((spec_l1Cur_pick.f s0_0 bt102.2.1 bt102.2.2 (wrap64 ((wrap64 (1 + bt102.1)) + 1))).bind fun bt105 => ((spec_l10Share.f k bt105.1 (wrap64 (1 + bt102.1))).bind fun bt108 => ((spec_l1Cur_one.f s0_0 bt105.2.1 bt105.2.2 10).bind fun bt111 => (if bt111.1 = true then ((spec_l1Cur_among.f s0_0 bt111.2.1 bt111.2.2 (([2, 0, 5, (-1)] : List Int))).bind fun bt117 => ((spec_l1Cur_among.f s0_0 bt117.2.1 bt117.2.2 (([4, 0, 3, (-2)] : List Int))).bind fun bt123 => (some (bt117.1, bt123.1, bt123.2.1, bt123.2.2)))) else (some (bt108.1, bt108.2, bt111.2.1, bt111.2.2))))))) = some (r1, r2, r3, r4) := h
 clear h
 replace H := Option.bind_eq_some_iff.mp H
 obtain ⟨⟨t102, t103, t104⟩, A20, H⟩ := H
 replace H : ((spec_l1Cur_pick.f s0_0 t103 t104 (wrap64 ((wrap64 (1 + t102)) + 1))).bind fun bt105 => ((spec_l10Share.f k bt105.1 (wrap64 (1 + t102))).bind fun bt108 => ((spec_l1Cur_one.f s0_0 bt105.2.1 bt105.2.2 10).bind fun bt111 => (if bt111.1 = true then ((spec_l1Cur_among.f s0_0 bt111.2.1 bt111.2.2 (([2, 0, 5, (-1)] : List Int))).bind fun bt117 => ((spec_l1Cur_among.f s0_0 bt117.2.1 bt117.2.2 (([4, 0, 3, (-2)] : List Int))).bind fun bt123 => (some (bt117.1, bt123.1, bt123.2.1, bt123.2.2)))) else (some (bt108.1, bt108.2, bt111.2.1, bt111.2.2)))))) = some (r1, r2, r3, r4) := H
 have A2 := Aside0.mk A20
 clear A20
 replace H := Option.bind_eq_some_iff.mp H
 obtain ⟨⟨t105, t106, t107⟩, A30, H⟩ := H
 replace H : ((spec_l10Share.f k t105 (wrap64 (1 + t102))).bind fun bt108 => ((spec_l1Cur_one.f s0_0 t106 t107 10).bind fun bt111 => (if bt111.1 = true then ((spec_l1Cur_among.f s0_0 bt111.2.1 bt111.2.2 (([2, 0, 5, (-1)] : List Int))).bind fun bt117 => ((spec_l1Cur_among.f s0_0 bt117.2.1 bt117.2.2 (([4, 0, 3, (-2)] : List Int))).bind fun bt123 => (some (bt117.1, bt123.1, bt123.2.1, bt123.2.2)))) else (some (bt108.1, bt108.2, bt111.2.1, bt111.2.2))))) = some (r1, r2, r3, r4) := H
 have A3 := Aside0.mk A30
 clear A30
 replace H := Option.bind_eq_some_iff.mp H
 obtain ⟨⟨t108, t109⟩, A40, H⟩ := H
 replace H : ((spec_l1Cur_one.f s0_0 t106 t107 10).bind fun bt111 => (if bt111.1 = true then ((spec_l1Cur_among.f s0_0 bt111.2.1 bt111.2.2 (([2, 0, 5, (-1)] : List Int))).bind fun bt117 => ((spec_l1Cur_among.f s0_0 bt117.2.1 bt117.2.2 (([4, 0, 3, (-2)] : List Int))).bind fun bt123 => (some (bt117.1, bt123.1, bt123.2.1, bt123.2.2)))) else (some (t108, t109, bt111.2.1, bt111.2.2)))) = some (r1, r2, r3, r4) := H
 have A4 := Aside0.mk A40
 clear A40
 replace H := Option.bind_eq_some_iff.mp H
 obtain ⟨⟨t111, t112, t113⟩, A50, H⟩ := H
 replace H : (if t111 = true then ((spec_l1Cur_among.f s0_0 t112 t113 (([2, 0, 5, (-1)] : List Int))).bind fun bt117 => ((spec_l1Cur_among.f s0_0 bt117.2.1 bt117.2.2 (([4, 0, 3, (-2)] : List Int))).bind fun bt123 => (some (bt117.1, bt123.1, bt123.2.1, bt123.2.2)))) else (some (t108, t109, t112, t113))) = some (r1, r2, r3, r4) := H
 have A5 := Aside0.mk A50
 clear A50
 by_cases c6 : t111 = true
 ·
  subst c6
  have H1 : ((spec_l1Cur_among.f s0_0 t112 t113 (([2, 0, 5, (-1)] : List Int))).bind fun bt117 => ((spec_l1Cur_among.f s0_0 bt117.2.1 bt117.2.2 (([4, 0, 3, (-2)] : List Int))).bind fun bt123 => (some (bt117.1, bt123.1, bt123.2.1, bt123.2.2)))) = some (r1, r2, r3, r4) := by rw [if_pos rfl] at H; exact H
  clear H
  have H := H1
  clear H1
  obtain ⟨y114, hy114⟩ : ∃ y_ : List Int, y_ = (([2, 0, 5, (-1)] : List Int)) := ⟨_, rfl⟩
  replace H : ((spec_l1Cur_among.f s0_0 t112 t113 y114).bind fun bt117 => ((spec_l1Cur_among.f s0_0 bt117.2.1 bt117.2.2 (([4, 0, 3, (-2)] : List Int))).bind fun bt123 => (some (bt117.1, bt123.1, bt123.2.1, bt123.2.2)))) = some (r1, r2, r3, r4) := by first | (rw [hy114]; with_reducible exact H) | (have H2_ := (Option.bind_some _ _).symm.trans H; rw [hy114]; with_reducible exact H2_) | (have H2_ := (Option.bind_some _ _).symm.trans H; with_reducible exact H2_) | with_reducible exact H | (rw [hy114]; exact H) | exact H
  have Ny114 := Aside0.mk hy114
  clear hy114
  replace H := Option.bind_eq_some_iff.mp H
  obtain ⟨⟨t117, t118, t119⟩, A70, H⟩ := H
  replace H : ((spec_l1Cur_among.f s0_0 t118 t119 (([4, 0, 3, (-2)] : List Int))).bind fun bt123 => (some (t117, bt123.1, bt123.2.1, bt123.2.2))) = some (r1, r2, r3, r4) := H
  have A7 := Aside0.mk A70
  clear A70
  obtain ⟨y120, hy120⟩ : ∃ y_ : List Int, y_ = (([4, 0, 3, (-2)] : List Int)) := ⟨_, rfl⟩
  replace H : ((spec_l1Cur_among.f s0_0 t118 t119 y120).bind fun bt123 => (some (t117, bt123.1, bt123.2.1, bt123.2.2))) = some (r1, r2, r3, r4) := by first | (rw [hy120]; with_reducible exact H) | (have H2_ := (Option.bind_some _ _).symm.trans H; rw [hy120]; with_reducible exact H2_) | (have H2_ := (Option.bind_some _ _).symm.trans H; with_reducible exact H2_) | with_reducible exact H | (rw [hy120]; exact H) | exact H
  have Ny120 := Aside0.mk hy120
  clear hy120
  replace H := Option.bind_eq_some_iff.mp H
  obtain ⟨⟨t123, t124, t125⟩, A80, H⟩ := H
  replace H : (some (t117, t123, t124, t125)) = some (r1, r2, r3, r4) := H
  have A8 := Aside0.mk A80
  clear A80
  simp only [Option.some.injEq, Prod.mk.injEq] at H
  obtain ⟨rfl, rfl, rfl, rfl⟩ := H
  go_enter Try.func50, Try.ntmps50
  go_wp2_with (first | ((with_reducible refine gate_dst (N := 2) rfl ?_); refine bxe (cs := #[.int .i64 0, .int .i64 0]) (t := 33) ?_; intro gb101 hg w9 hbox hb; have n0_ := aK (IsS65.below (pI65 HI0.out) hb); have n1_ := aK (KeepBut.trans (pK HK.out) (KeepBut.of_below hb g none) (.inl rfl)); have n2_ := aK (below_step ((pV HB.out (IsS65.ge HI0.out))) hb); have BK101 := aK (hbox); have GW101 := aK ((by rw [hg]; exact (keep_size (w := w) (g := g) (row := none) (pK HK.out)) : w.heap.size ≤ gb101)); have GE101 := aK ((Nat.le_trans HW0.out (by rw [hg]; exact (keep_size (w := w) (g := g) (row := none) (pK HK.out)) : w.heap.size ≤ gb101) : w0.heap.size ≤ gb101)); have NB0_101 := aK ((by rw [hg]; exact Nat.ne_of_lt (IsS65.lt (show IsS65 w0 _ g s0_0 s0_1 s0_2 from pI65 HI0.out)) : g ≠ gb101)); have NB101_0 := aK ((by rw [hg]; exact Nat.ne_of_gt (IsS65.lt (show IsS65 w0 _ g s0_0 s0_1 s0_2 from pI65 HI0.out)) : gb101 ≠ g)); clear HI0 HK HB; have HI0 := n0_; have HK := n1_; have HB := n2_; clear n0_ n1_ n2_; clear hb hbox hg) | ((with_reducible refine gate_callee (f := 39) rfl ?_); refine gl (some 6) Try.func39 #[.pointer (some ⟨g, 0, none⟩), .int .i64 12] ?_; (with_reducible refine (spec_l1Cur_pick.calls g s0_0 s0_1 s0_2 12 t102 t103 t104 w0 _ ?side1 ?side2 A2.out).mono ?_); (case side1 => exact pI65 HI0.out); (case side2 => exact pV HB.out (IsS65.ge HI0.out)); rintro e w10 ⟨rfl, hi, hb, hk⟩; refine ⟨_, rfl, ?_⟩; have n0_ := aK (KeepBut.blk hk (pB BK101.out) NB101_0.out (by simp)); have n1_ := aK (KeepBut.trans (pK HK.out) hk (.inl rfl)); have n2_ := aK (hb); have n3_ := aK (hi); clear BK101 HK HB HI0; have BK101 := n0_; have HK := n1_; have HB := n2_; have HI0 := n3_; clear n0_ n1_ n2_ n3_; (try clear hb); (try clear hb2); (try clear hk); (try clear hi)) | ((with_reducible refine gate_callee (f := 39) rfl ?_); refine gl (some 11) Try.func39 #[.pointer (some ⟨g, 0, none⟩), .int .i64 (wrap64 ((wrap64 (1 + t102)) + 1))] ?_; (with_reducible refine (spec_l1Cur_pick.calls g s0_0 t103 t104 (wrap64 ((wrap64 (1 + t102)) + 1)) t105 t106 t107 w0 _ ?side1 ?side2 A3.out).mono ?_); (case side1 => exact pI65 HI0.out); (case side2 => exact pV HB.out (IsS65.ge HI0.out)); rintro e w11 ⟨rfl, hi, hb, hk⟩; refine ⟨_, rfl, ?_⟩; have n0_ := aK (KeepBut.blk hk (pB BK101.out) NB101_0.out (by simp)); have n1_ := aK (KeepBut.trans (pK HK.out) hk (.inl rfl)); have n2_ := aK (hb); have n3_ := aK (hi); clear BK101 HK HB HI0; have BK101 := n0_; have HK := n1_; have HB := n2_; have HI0 := n3_; clear n0_ n1_ n2_ n3_; (try clear hb); (try clear hb2); (try clear hk); (try clear hi)) | ((with_reducible refine gate_callee (f := 49) rfl ?_); refine gl (some 13) Try.func49 #[.int .i64 t105, .int .i64 (wrap64 (1 + t102))] ?_; (with_reducible refine (spec_l10Share.calls k t105 (wrap64 (1 + t102)) t108 t109 _ A4.out).mono ?_); rintro e w12 ⟨rfl, hb⟩; refine ⟨_, rfl, ?_⟩; have n0_ := aK (IsS65.below (pI65 HI0.out) hb); have n2_ := aK (KeepBut.trans (pK HK.out) (KeepBut.of_below hb g none) (.inl rfl)); have n3_ := aK (below_step ((pV HB.out (IsS65.ge HI0.out))) hb); replace BK101 := bB BK101 hb; clear HI0 HK HB; have HI0 := n0_; have HK := n2_; have HB := n3_; clear n0_ n2_ n3_; (try clear hb); (try clear hb2); (try clear hk); (try clear hi)) | ((with_reducible refine gate_dst (N := 4) rfl ?_); refine bxe (cs := #[.int .i64 0, .int .i64 0]) (t := 33) ?_; intro gb110 hg w13 hbox hb; have n0_ := aK (IsS65.below (pI65 HI0.out) hb); have n2_ := aK (KeepBut.trans (pK HK.out) (KeepBut.of_below hb g none) (.inl rfl)); have n3_ := aK (below_step ((pV HB.out (IsS65.ge HI0.out))) hb); have BK110 := aK (hbox); have GW110 := aK ((by rw [hg]; exact (keep_size (w := w) (g := g) (row := none) (pK HK.out)) : w.heap.size ≤ gb110)); have GE110 := aK ((Nat.le_trans HW0.out (by rw [hg]; exact (keep_size (w := w) (g := g) (row := none) (pK HK.out)) : w.heap.size ≤ gb110) : w0.heap.size ≤ gb110)); obtain ⟨NB101_110, NB110_101⟩ := nb hg (pB BK101.out); have NB0_110 := aK ((by rw [hg]; exact Nat.ne_of_lt (IsS65.lt (show IsS65 w0 _ g s0_0 t106 t107 from pI65 HI0.out)) : g ≠ gb110)); have NB110_0 := aK ((by rw [hg]; exact Nat.ne_of_gt (IsS65.lt (show IsS65 w0 _ g s0_0 t106 t107 from pI65 HI0.out)) : gb110 ≠ g)); replace BK101 := bB BK101 hb; clear HI0 HK HB; have HI0 := n0_; have HK := n2_; have HB := n3_; clear n0_ n2_ n3_ hb hbox hg; have hnb14 := NB110_101.out; have hnc14 := NB101_110.out; have hnb15 := NB110_0.out; have hnc15 := NB0_110.out; obtain ⟨hcz16_0, hcz16_1, hfz16_0, hfz16_1⟩ := bc2 BK110.out) | ((with_reducible refine gate_callee (f := 40) rfl ?_); refine gl (some 15) Try.func40 #[.pointer (some ⟨g, 0, none⟩), .int .i64 10] ?_; (with_reducible refine (spec_l1Cur_one.calls g s0_0 t106 t107 10 true t112 t113 w0 _ ?side1 ?side2 A5.out).mono ?_); (case side1 => exact pI65 HI0.out); (case side2 => exact pV HB.out (IsS65.ge HI0.out)); rintro e w17 ⟨rfl, hi, hb, hk⟩; refine ⟨_, rfl, ?_⟩; have n0_ := aK (KeepBut.blk hk (g' := gb101) (o := .cells #[.int .i64 0, .int .i64 0] 33 (0, 0)) (by refine bk ?_; refine blk_far ?_ NB101_110.out _; refine bk ?_; refine blk_far ?_ NB101_110.out _; refine bk ?_; exact BK101.out) NB101_0.out (by simp)); have n1_ := aK (KeepBut.blk hk (g' := gb110) (o := .cells #[.int .i64 t108, .int .i64 t109] 33 (0, 0)) (by refine bk ?_; refine blk_put (cs := #[.int .i64 t108, .int .i64 0]) ?_ 1 _ rfl; refine bk ?_; refine blk_put (cs := #[.int .i64 0, .int .i64 0]) ?_ 0 _ rfl; refine bk ?_; exact BK110.out) NB110_0.out (by simp)); have n2_ := aK (KeepBut.trans (pK HK.out) hk (.inl rfl)); have n3_ := aK (hb); have n4_ := aK (hi); clear BK101 BK110 HK HB HI0; have BK101 := n0_; have BK110 := n1_; have HK := n2_; have HB := n3_; have HI0 := n4_; clear n0_ n1_ n2_ n3_ n4_; (try clear hb); (try clear hb2); (try clear hk); (try clear hi)) | ((with_reducible refine gate_dst (N := 17) rfl ?_); refine Kd.R_lit (Kd.int .i64) _ 3 ?hg (N := 17) ?hd (xs := ([2, 0, 5, (-1)] : List Int)) (inner := [.int .i64 2, .int .i64 0, .int .i64 5, .int .i64 (-1)]) (ok := fun _ => True) (okp := fun _ => True) ?hr ?hp (fun _ hk => hk) trivial (Below.refl _ _) (Nat.le_refl _) (by simp) ?_; (case hd => rfl); (case hg => rfl); (case hr => first | (go_simp; done) | (go_simp; rfl)); (case hp => exact (Reps.one (show Kd.M (Kd.int .i64) _ _ _ 2 [.int .i64 2] from rfl) (Reps.one (show Kd.M (Kd.int .i64) _ _ _ 0 [.int .i64 0] from rfl) (Reps.one (show Kd.M (Kd.int .i64) _ _ _ 5 [.int .i64 5] from rfl) (Reps.one (show Kd.M (Kd.int .i64) _ _ _ (-1) [.int .i64 (-1)] from rfl) (Reps.none _ _)))))); intro v115 w18 ho19 hb hg_ hnew_; clear hg_ hnew_; (first | rw [← Ny114.out] at ho19 | (simp only [Int.reduceToNat] at ho19; rw [← Ny114.out] at ho19)); have HO116 := aK (Kd.R_lower ho19 (keep_size (w := w) (g := g) (row := none) (pK HK.out))); have n1_ := aK (IsS65.below (pI65 HI0.out) hb); have n4_ := aK (KeepBut.trans (pK HK.out) (KeepBut.of_below hb g none) (.inl rfl)); have n5_ := aK (below_step ((pV HB.out (IsS65.ge HI0.out))) hb); replace BK101 := bB BK101 hb; replace BK110 := bB BK110 hb; clear HI0 HK HB; have HI0 := n1_; have HK := n4_; have HB := n5_; clear n1_ n4_ n5_ hb ho19; obtain ⟨Ao20, co20, eo20⟩ := Kd.R_slice HO116.out; subst eo20) | ((with_reducible refine gate_callee (f := 70) rfl ?_); refine gl (some 18) Try.func70 #[.pointer (some ⟨g, 0, none⟩), .slice Ao20 y114.length co20] ?_; (with_reducible refine (spec_l1Cur_among.calls g s0_0 t112 t113 _ _ y114 t117 t118 t119 w0 _ ?side1 ?side2 ?side3 ?side4 ?side5 A7.out).mono ?_); (case side1 => exact pI65 HI0.out); (case side2 => exact pV HB.out (IsS65.ge HI0.out)); (case side3 => exact pC (Kd.R_reads' HO116.out).2.2); (case side4 => exact (Kd.R_reads' HO116.out).2.1); (case side5 => exact far_slice (IsS65.own_ne HI0.out HO116.out (by decide))); rintro e w21 ⟨rfl, hi, hb, hk⟩; refine ⟨_, rfl, ?_⟩; have n0_ := aK (KeepBut.blk hk (pB BK101.out) NB101_0.out (by simp)); have n1_ := aK (KeepBut.blk hk (pB BK110.out) NB110_0.out (by simp)); have n2_ := aK (Kd.R_mono (Kd.R_keep (IsS65.apart (show IsS65 w0 _ g s0_0 t112 t113 from pI65 HI0.out) (pR HO116.out) (by decide)) hk (fun _ h => h.2)) (fun _ h => h.1)); have n3_ := aK (KeepBut.trans (pK HK.out) hk (.inl rfl)); have n4_ := aK (hb); have n5_ := aK (hi); clear BK101 BK110 HO116 HK HB HI0; have BK101 := n0_; have BK110 := n1_; have HO116 := n2_; have HK := n3_; have HB := n4_; have HI0 := n5_; clear n0_ n1_ n2_ n3_ n4_ n5_; (try clear hb); (try clear hb2); (try clear hk); (try clear hi)) | ((with_reducible refine gate_dst (N := 20) rfl ?_); refine Kd.R_lit (Kd.int .i64) _ 3 ?hg (N := 20) ?hd (xs := ([4, 0, 3, (-2)] : List Int)) (inner := [.int .i64 4, .int .i64 0, .int .i64 3, .int .i64 (-2)]) (ok := fun _ => True) (okp := fun _ => True) ?hr ?hp (fun _ hk => hk) trivial (Below.refl _ _) (Nat.le_refl _) (by simp) ?_; (case hd => rfl); (case hg => rfl); (case hr => first | (go_simp; done) | (go_simp; rfl)); (case hp => exact (Reps.one (show Kd.M (Kd.int .i64) _ _ _ 4 [.int .i64 4] from rfl) (Reps.one (show Kd.M (Kd.int .i64) _ _ _ 0 [.int .i64 0] from rfl) (Reps.one (show Kd.M (Kd.int .i64) _ _ _ 3 [.int .i64 3] from rfl) (Reps.one (show Kd.M (Kd.int .i64) _ _ _ (-2) [.int .i64 (-2)] from rfl) (Reps.none _ _)))))); intro v121 w22 ho23 hb hg_ hnew_; clear hg_ hnew_; (first | rw [← Ny120.out] at ho23 | (simp only [Int.reduceToNat] at ho23; rw [← Ny120.out] at ho23)); have n0_ := aK (Kd.R_elder' (pR HO116.out) (Kd.R_base ho23) hb); have HO122 := aK (Kd.R_lower (nw1 ho23 (pR HO116.out)) (keep_size (w := w) (g := g) (row := none) (pK HK.out))); have n2_ := aK (IsS65.below (pI65 HI0.out) hb); have n5_ := aK (KeepBut.trans (pK HK.out) (KeepBut.of_below hb g none) (.inl rfl)); have n6_ := aK (below_step ((pV HB.out (IsS65.ge HI0.out))) hb); replace BK101 := bB BK101 hb; replace BK110 := bB BK110 hb; clear HO116 HI0 HK HB; have HO116 := n0_; have HI0 := n2_; have HK := n5_; have HB := n6_; clear n0_ n2_ n5_ n6_ hb ho23; obtain ⟨Ao24, co24, eo24⟩ := Kd.R_slice HO122.out; subst eo24) | ((with_reducible refine gate_callee (f := 70) rfl ?_); refine gl (some 21) Try.func70 #[.pointer (some ⟨g, 0, none⟩), .slice Ao24 y120.length co24] ?_; (with_reducible refine (spec_l1Cur_among.calls g s0_0 t118 t119 _ _ y120 t123 t124 t125 w0 _ ?side1 ?side2 ?side3 ?side4 ?side5 A8.out).mono ?_); (case side1 => exact pI65 HI0.out); (case side2 => exact pV HB.out (IsS65.ge HI0.out)); (case side3 => exact pC (Kd.R_reads' HO122.out).2.2); (case side4 => exact (Kd.R_reads' HO122.out).2.1); (case side5 => exact far_slice (IsS65.own_ne HI0.out HO122.out (by decide))); rintro e w25 ⟨rfl, hi, hb, hk⟩; refine ⟨_, rfl, ?_⟩; have n0_ := aK (KeepBut.blk hk (pB BK101.out) NB101_0.out (by simp)); have n1_ := aK (KeepBut.blk hk (pB BK110.out) NB110_0.out (by simp)); have n2_ := aK (Kd.R_mono (Kd.R_keep (IsS65.apart (show IsS65 w0 _ g s0_0 t118 t119 from pI65 HI0.out) (pR HO116.out) (by decide)) hk (fun _ h => h.2)) (fun _ h => h.1)); have n3_ := aK (Kd.R_mono (Kd.R_keep (IsS65.apart (show IsS65 w0 _ g s0_0 t118 t119 from pI65 HI0.out) (pR HO122.out) (by decide)) hk (fun _ h => h.2)) (fun _ h => h.1)); have n4_ := aK (KeepBut.trans (pK HK.out) hk (.inl rfl)); have n5_ := aK (hb); have n6_ := aK (hi); clear BK101 BK110 HO116 HO122 HK HB HI0; have BK101 := n0_; have BK110 := n1_; have HO116 := n2_; have HO122 := n3_; have HK := n4_; have HB := n5_; have HI0 := n6_; clear n0_ n1_ n2_ n3_ n4_ n5_ n6_; (try clear hb); (try clear hb2); (try clear hk); (try clear hi); obtain ⟨hcz26_0, hcz26_1, hfz26_0, hfz26_1⟩ := bc2 BK110.out; have hnb27 := NB101_0.out; have hnc27 := NB0_101.out; obtain ⟨hcz28_0, hcz28_1, hfz28_0, hfz28_1⟩ := bc2 BK101.out))
  refine bodyPost_ret (results_cell_row rfl _ _ gb101 33 #[.int .i64 t117, .int .i64 t123] (0, 0) _ rfl (by refine bk ?_; refine blk_put (cs := #[.int .i64 t117, .int .i64 0]) ?_ 1 _ rfl; refine bk ?_; refine blk_put (cs := #[.int .i64 0, .int .i64 0]) ?_ 0 _ rfl; refine bk ?_; refine blk_far ?_ NB101_110.out _; refine bk ?_; refine blk_far ?_ NB101_110.out _; refine bk ?_; exact BK101.out) Try.underlying33 rfl (by kernel_rfl)) rfl ?_
  exact ⟨er, pI65 HI0.out, (pV HB.out (IsS65.ge HI0.out)), pK HK.out⟩
 replace c6 := Bool.eq_false_iff.mpr c6
 subst c6
 have H1 : (some (t108, t109, t112, t113)) = some (r1, r2, r3, r4) := by rw [if_neg (show ¬ (false = true) by decide)] at H; exact H
 clear H
 have H := H1
 clear H1
 simp only [Option.some.injEq, Prod.mk.injEq] at H
 obtain ⟨rfl, rfl, rfl, rfl⟩ := H
 go_enter Try.func50, Try.ntmps50
 go_wp2_with (first | ((with_reducible refine gate_dst (N := 2) rfl ?_); refine bxe (cs := #[.int .i64 0, .int .i64 0]) (t := 33) ?_; intro gb101 hg w29 hbox hb; have n0_ := aK (IsS65.below (pI65 HI0.out) hb); have n1_ := aK (KeepBut.trans (pK HK.out) (KeepBut.of_below hb g none) (.inl rfl)); have n2_ := aK (below_step ((pV HB.out (IsS65.ge HI0.out))) hb); have BK101 := aK (hbox); have GW101 := aK ((by rw [hg]; exact (keep_size (w := w) (g := g) (row := none) (pK HK.out)) : w.heap.size ≤ gb101)); have GE101 := aK ((Nat.le_trans HW0.out (by rw [hg]; exact (keep_size (w := w) (g := g) (row := none) (pK HK.out)) : w.heap.size ≤ gb101) : w0.heap.size ≤ gb101)); have NB0_101 := aK ((by rw [hg]; exact Nat.ne_of_lt (IsS65.lt (show IsS65 w0 _ g s0_0 s0_1 s0_2 from pI65 HI0.out)) : g ≠ gb101)); have NB101_0 := aK ((by rw [hg]; exact Nat.ne_of_gt (IsS65.lt (show IsS65 w0 _ g s0_0 s0_1 s0_2 from pI65 HI0.out)) : gb101 ≠ g)); clear HI0 HK HB; have HI0 := n0_; have HK := n1_; have HB := n2_; clear n0_ n1_ n2_; clear hb hbox hg) | ((with_reducible refine gate_callee (f := 39) rfl ?_); refine gl (some 6) Try.func39 #[.pointer (some ⟨g, 0, none⟩), .int .i64 12] ?_; (with_reducible refine (spec_l1Cur_pick.calls g s0_0 s0_1 s0_2 12 t102 t103 t104 w0 _ ?side1 ?side2 A2.out).mono ?_); (case side1 => exact pI65 HI0.out); (case side2 => exact pV HB.out (IsS65.ge HI0.out)); rintro e w30 ⟨rfl, hi, hb, hk⟩; refine ⟨_, rfl, ?_⟩; have n0_ := aK (KeepBut.blk hk (pB BK101.out) NB101_0.out (by simp)); have n1_ := aK (KeepBut.trans (pK HK.out) hk (.inl rfl)); have n2_ := aK (hb); have n3_ := aK (hi); clear BK101 HK HB HI0; have BK101 := n0_; have HK := n1_; have HB := n2_; have HI0 := n3_; clear n0_ n1_ n2_ n3_; (try clear hb); (try clear hb2); (try clear hk); (try clear hi)) | ((with_reducible refine gate_callee (f := 39) rfl ?_); refine gl (some 11) Try.func39 #[.pointer (some ⟨g, 0, none⟩), .int .i64 (wrap64 ((wrap64 (1 + t102)) + 1))] ?_; (with_reducible refine (spec_l1Cur_pick.calls g s0_0 t103 t104 (wrap64 ((wrap64 (1 + t102)) + 1)) t105 t106 t107 w0 _ ?side1 ?side2 A3.out).mono ?_); (case side1 => exact pI65 HI0.out); (case side2 => exact pV HB.out (IsS65.ge HI0.out)); rintro e w31 ⟨rfl, hi, hb, hk⟩; refine ⟨_, rfl, ?_⟩; have n0_ := aK (KeepBut.blk hk (pB BK101.out) NB101_0.out (by simp)); have n1_ := aK (KeepBut.trans (pK HK.out) hk (.inl rfl)); have n2_ := aK (hb); have n3_ := aK (hi); clear BK101 HK HB HI0; have BK101 := n0_; have HK := n1_; have HB := n2_; have HI0 := n3_; clear n0_ n1_ n2_ n3_; (try clear hb); (try clear hb2); (try clear hk); (try clear hi)) | ((with_reducible refine gate_callee (f := 49) rfl ?_); refine gl (some 13) Try.func49 #[.int .i64 t105, .int .i64 (wrap64 (1 + t102))] ?_; (with_reducible refine (spec_l10Share.calls k t105 (wrap64 (1 + t102)) t108 t109 _ A4.out).mono ?_); rintro e w32 ⟨rfl, hb⟩; refine ⟨_, rfl, ?_⟩; have n0_ := aK (IsS65.below (pI65 HI0.out) hb); have n2_ := aK (KeepBut.trans (pK HK.out) (KeepBut.of_below hb g none) (.inl rfl)); have n3_ := aK (below_step ((pV HB.out (IsS65.ge HI0.out))) hb); replace BK101 := bB BK101 hb; clear HI0 HK HB; have HI0 := n0_; have HK := n2_; have HB := n3_; clear n0_ n2_ n3_; (try clear hb); (try clear hb2); (try clear hk); (try clear hi)) | ((with_reducible refine gate_dst (N := 4) rfl ?_); refine bxe (cs := #[.int .i64 0, .int .i64 0]) (t := 33) ?_; intro gb110 hg w33 hbox hb; have n0_ := aK (IsS65.below (pI65 HI0.out) hb); have n2_ := aK (KeepBut.trans (pK HK.out) (KeepBut.of_below hb g none) (.inl rfl)); have n3_ := aK (below_step ((pV HB.out (IsS65.ge HI0.out))) hb); have BK110 := aK (hbox); have GW110 := aK ((by rw [hg]; exact (keep_size (w := w) (g := g) (row := none) (pK HK.out)) : w.heap.size ≤ gb110)); have GE110 := aK ((Nat.le_trans HW0.out (by rw [hg]; exact (keep_size (w := w) (g := g) (row := none) (pK HK.out)) : w.heap.size ≤ gb110) : w0.heap.size ≤ gb110)); obtain ⟨NB101_110, NB110_101⟩ := nb hg (pB BK101.out); have NB0_110 := aK ((by rw [hg]; exact Nat.ne_of_lt (IsS65.lt (show IsS65 w0 _ g s0_0 t106 t107 from pI65 HI0.out)) : g ≠ gb110)); have NB110_0 := aK ((by rw [hg]; exact Nat.ne_of_gt (IsS65.lt (show IsS65 w0 _ g s0_0 t106 t107 from pI65 HI0.out)) : gb110 ≠ g)); replace BK101 := bB BK101 hb; clear HI0 HK HB; have HI0 := n0_; have HK := n2_; have HB := n3_; clear n0_ n2_ n3_ hb hbox hg; have hnb34 := NB110_101.out; have hnc34 := NB101_110.out; have hnb35 := NB110_0.out; have hnc35 := NB0_110.out; obtain ⟨hcz36_0, hcz36_1, hfz36_0, hfz36_1⟩ := bc2 BK110.out) | ((with_reducible refine gate_callee (f := 40) rfl ?_); refine gl (some 15) Try.func40 #[.pointer (some ⟨g, 0, none⟩), .int .i64 10] ?_; (with_reducible refine (spec_l1Cur_one.calls g s0_0 t106 t107 10 false t112 t113 w0 _ ?side1 ?side2 A5.out).mono ?_); (case side1 => exact pI65 HI0.out); (case side2 => exact pV HB.out (IsS65.ge HI0.out)); rintro e w37 ⟨rfl, hi, hb, hk⟩; refine ⟨_, rfl, ?_⟩; have n0_ := aK (KeepBut.blk hk (g' := gb101) (o := .cells #[.int .i64 0, .int .i64 0] 33 (0, 0)) (by refine bk ?_; refine blk_far ?_ NB101_110.out _; refine bk ?_; refine blk_far ?_ NB101_110.out _; refine bk ?_; exact BK101.out) NB101_0.out (by simp)); have n1_ := aK (KeepBut.blk hk (g' := gb110) (o := .cells #[.int .i64 t108, .int .i64 t109] 33 (0, 0)) (by refine bk ?_; refine blk_put (cs := #[.int .i64 t108, .int .i64 0]) ?_ 1 _ rfl; refine bk ?_; refine blk_put (cs := #[.int .i64 0, .int .i64 0]) ?_ 0 _ rfl; refine bk ?_; exact BK110.out) NB110_0.out (by simp)); have n2_ := aK (KeepBut.trans (pK HK.out) hk (.inl rfl)); have n3_ := aK (hb); have n4_ := aK (hi); clear BK101 BK110 HK HB HI0; have BK101 := n0_; have BK110 := n1_; have HK := n2_; have HB := n3_; have HI0 := n4_; clear n0_ n1_ n2_ n3_ n4_; (try clear hb); (try clear hb2); (try clear hk); (try clear hi); obtain ⟨hcz38_0, hcz38_1, hfz38_0, hfz38_1⟩ := bc2 BK110.out; have hnb39 := NB101_0.out; have hnc39 := NB0_101.out; obtain ⟨hcz40_0, hcz40_1, hfz40_0, hfz40_1⟩ := bc2 BK101.out))
 refine bodyPost_ret (results_cell_row rfl _ _ gb101 33 #[.int .i64 t108, .int .i64 t109] (0, 0) _ rfl (by refine bk ?_; refine blk_put (cs := #[.int .i64 t108, .int .i64 0]) ?_ 1 _ rfl; refine bk ?_; refine blk_put (cs := #[.int .i64 0, .int .i64 0]) ?_ 0 _ rfl; refine bk ?_; exact BK101.out) Try.underlying33 rfl (by kernel_rfl)) rfl ?_
 exact ⟨er, pI65 HI0.out, (pV HB.out (IsS65.ge HI0.out)), pK HK.out⟩
def spec_DrawClassFor.f (k : Nat) (l0 : List Int) : Option (List Int × List Int × Int × Int) := (spec_l1Cur_tally.f k l0 0 0).bind fun bt104 => ((spec_l1Cur_share.f k l0 bt104.2.2.1 bt104.2.2.2).bind fun bt112 => (some (bt104.1, bt104.2.1, bt112.1, bt112.2.1)))
theorem spec_DrawClassFor.calls (k : Nat) (A0 : Option Addr) (c0 : Nat) (l0 : List Int) (r1 : List Int) (r2 : List Int) (r3 : Int) (r4 : Int) (w : World) (hr0 : Kd.C (Kd.int .u8) w A0 l0.length l0) (hc0 : l0.length ≤ c0) (h : spec_DrawClassFor.f k l0 = some (r1, r2, r3, r4)) :
  Calls Try.prog 16 #[.slice A0 l0.length c0] w fun e w' => ∃ v0_ v1_ : Value, e = .returned (.tuple #[.agg #[v0_, v1_], .agg #[.int .i64 r3, .int .i64 r4]]) ∧ Kd.R (Kd.int .i64) 3 w' w.heap.size (fun k_ => some k_ ≠ (v1_ : Value).ownBlock) v0_ r1 ∧ Kd.Q (Kd.int .i64) 3 w' w.heap.size (fun k_ => some k_ ≠ (v0_ : Value).ownBlock) v1_ r2 ∧ Below w.heap.size w w' := by
 have hu26 := Try.underlying26
 have hu33 := Try.underlying33
 have hu65 := Try.underlying65
 have HR0 := Aside0.mk hr0
 have HC0 := Aside0.mk hc0
 clear hr0 hc0
 have HB := aK (Below.refl w.heap.size w)
 have H : ((spec_l1Cur_tally.f k l0 0 0).bind fun bt104 => ((spec_l1Cur_share.f k l0 bt104.2.2.1 bt104.2.2.2).bind fun bt112 => (some (bt104.1, bt104.2.1, bt112.1, bt112.2.1)))) = some (r1, r2, r3, r4) := h
 clear h
 replace H := Option.bind_eq_some_iff.mp H
 obtain ⟨⟨t104, t107, t110, t111⟩, A20, H⟩ := H
 replace H : ((spec_l1Cur_share.f k l0 t110 t111).bind fun bt112 => (some (t104, t107, bt112.1, bt112.2.1))) = some (r1, r2, r3, r4) := H
 have A2 := Aside0.mk A20
 clear A20
 replace H := Option.bind_eq_some_iff.mp H
 obtain ⟨⟨t112, t113, t114, t115⟩, A30, H⟩ := H
 replace H : (some (t104, t107, t112, t113)) = some (r1, r2, r3, r4) := H
 have A3 := Aside0.mk A30
 clear A30
 simp only [Option.some.injEq, Prod.mk.injEq] at H
 obtain ⟨rfl, rfl, rfl, rfl⟩ := H
 go_enter Try.func16, Try.ntmps16
 go_wp2_with (first | ((with_reducible refine gate_dst (N := 2) rfl ?_); refine bxe (cs := #[.slice none 0 0, .slice none 0 0]) (t := 26) ?_; intro gb101 hg w4 hbox hb; have BK101 := aK (hbox); have GW101 := aK (gE hg (pS HB.out)); have GE101 := GW101; replace HB := bS HB hb; clear hb hbox hg) | ((with_reducible refine gate_dst (N := 3) rfl ?_); refine bxe (cs := #[.int .i64 0, .int .i64 0]) (t := 33) ?_; intro gb102 hg w5 hbox hb; have BK102 := aK (hbox); have GW102 := aK (gE hg (pS HB.out)); have GE102 := GW102; obtain ⟨NB101_102, NB102_101⟩ := nb hg (pB BK101.out); replace BK101 := bB BK101 hb; replace HB := bS HB hb; clear hb hbox hg) | ((with_reducible refine gate_dst (N := 7) rfl ?_); refine bxe (cs := #[.slice A0 l0.length c0, .int .i64 0, .int .u64 0]) (t := 65) ?_; intro gb103 hg w6 hbox hb; have HI103 := aK ((⟨_, _, hbox, (by rw [hg]; exact (below_size (pS HB.out)) : w.heap.size ≤ gb103), HR0.out⟩ : IsS65 w w6 gb103 l0 0 0)); obtain ⟨NB101_103, NB103_101⟩ := nb hg (pB BK101.out); obtain ⟨NB102_103, NB103_102⟩ := nb hg (pB BK102.out); replace BK101 := bB BK101 hb; replace BK102 := bB BK102 hb; replace HB := bS HB hb; clear hb hbox hg) | ((with_reducible refine gate_callee (f := 38) rfl ?_); refine gl (some 9) Try.func38 #[.pointer (some ⟨gb103, 0, none⟩)] ?_; (with_reducible refine (spec_l1Cur_tally.calls k gb103 l0 0 0 t104 t107 t110 t111 w _ ?side1 ?side2 A2.out).mono ?_); (case side1 => exact pI65 HI103.out); (case side2 => exact pV HB.out (IsS65.ge HI103.out)); rintro e w7 ⟨v105, v108, rfl, ho0, ho1, hi, hb, hk⟩; refine ⟨_, rfl, ?_⟩; have n0_ := aK (KeepBut.blk hk (pB BK101.out) NB101_103.out (by simp)); have n1_ := aK (KeepBut.blk hk (pB BK102.out) NB102_103.out (by simp)); have HO106 := aK (Kd.R_lower ho0 (below_size ((pV HB.out (IsS65.ge HI103.out))))); have HO109 := aK (Kd.Q_lower ho1 (below_size ((pV HB.out (IsS65.ge HI103.out))))); have n4_ := aK (hb); have n5_ := aK (hi); clear BK101 BK102 HB HI103; have BK101 := n0_; have BK102 := n1_; have HB := n4_; have HI103 := n5_; clear n0_ n1_ n4_ n5_; (try clear hb); (try clear hb2); (try clear hk); (try clear hi); (try clear ho0); (try clear ho1)) | ((with_reducible refine gate_callee (f := 50) rfl ?_); refine gl (some 11) Try.func50 #[.pointer (some ⟨gb103, 0, none⟩)] ?_; (with_reducible refine (spec_l1Cur_share.calls k gb103 l0 t110 t111 t112 t113 t114 t115 w _ ?side1 ?side2 A3.out).mono ?_); (case side1 => exact pI65 HI103.out); (case side2 => exact pV HB.out (IsS65.ge HI103.out)); rintro e w8 ⟨rfl, hi, hb, hk⟩; refine ⟨_, rfl, ?_⟩; have n0_ := aK (KeepBut.blk hk (pB BK101.out) NB101_103.out (by simp)); have n1_ := aK (KeepBut.blk hk (pB BK102.out) NB102_103.out (by simp)); have n2_ := aK (Kd.R_mono (Kd.R_keep (IsS65.apart (show IsS65 w _ gb103 l0 t110 t111 from pI65 HI103.out) (pR HO106.out) (by decide)) hk (fun _ h => h.2)) (fun _ h => h.1)); have n3_ := aK (Kd.Q_mono (Kd.Q_keep (IsS65.apartQ (show IsS65 w _ gb103 l0 t110 t111 from pI65 HI103.out) (pQ HO109.out) (by decide)) hk (fun _ h => h.2)) (fun _ h => h.1)); have n4_ := aK (hb); have n5_ := aK (hi); clear BK101 BK102 HO106 HO109 HB HI103; have BK101 := n0_; have BK102 := n1_; have HO106 := n2_; have HO109 := n3_; have HB := n4_; have HI103 := n5_; clear n0_ n1_ n2_ n3_ n4_ n5_; (try clear hb); (try clear hb2); (try clear hk); (try clear hi); obtain ⟨Ao9, co9, eo9⟩ := Kd.R_slice HO106.out; subst eo9; have hnb10 := NB101_102.out; have hnc10 := NB102_101.out; have hnb11 := NB101_103.out; have hnc11 := NB103_101.out; obtain ⟨hcz12_0, hcz12_1, hfz12_0, hfz12_1⟩ := bc2 BK101.out; obtain ⟨Ao13, co13, eo13, _⟩ := Kd.Q_slice HO109.out; subst eo13; have hnb14 := NB102_103.out; have hnc14 := NB103_102.out; obtain ⟨hcz15_0, hcz15_1, hfz15_0, hfz15_1⟩ := bc2 BK102.out))
 refine bodyPost_ret (results_cc rfl _ _ gb101 gb102 26 33 #[.slice Ao9 t104.length co9, .slice Ao13 t107.length co13] #[.int .i64 t112, .int .i64 t113] (0, 0) (0, 0) _ _ rfl (by refine bk ?_; refine blk_far ?_ NB101_102.out _; refine bk ?_; refine blk_far ?_ NB101_102.out _; refine bk ?_; refine blk_put (cs := #[.slice Ao9 t104.length co9, .slice none 0 0]) ?_ 1 _ rfl; refine bk ?_; refine blk_put (cs := #[.slice none 0 0, .slice none 0 0]) ?_ 0 _ rfl; refine bk ?_; exact BK101.out) Try.underlying26 rfl (by kernel_rfl) rfl (by refine bk ?_; refine blk_put (cs := #[.int .i64 t112, .int .i64 0]) ?_ 1 _ rfl; refine bk ?_; refine blk_put (cs := #[.int .i64 0, .int .i64 0]) ?_ 0 _ rfl; refine bk ?_; refine blk_far ?_ NB102_101.out _; refine bk ?_; refine blk_far ?_ NB102_101.out _; refine bk ?_; exact BK102.out) Try.underlying33 rfl (by kernel_rfl)) rfl ?_
 exact ⟨_, _, er, by (with_reducible repeat (first | apply Kd.R_alloc | apply Kd.R_drewN | apply Kd.R_drew)); exact Kd.R_mono (Kd.R_far (p := ⟨gb102, 1, none⟩) (Kd.R_far (p := ⟨gb102, 0, none⟩) (Kd.R_far (p := ⟨gb101, 1, none⟩) (Kd.R_far (p := ⟨gb101, 0, none⟩) (Kd.R_types (Kd.R_types HO106.out BK101.out (by decide)) BK102.out (by decide)) (fun _ hk => hk.1.2) (.slice Ao9 t104.length co9)) (fun _ hk => hk.1.2) (.slice Ao13 t107.length co13)) (fun _ hk => hk.2) (.int .i64 t112)) (fun _ hk => hk.2) (.int .i64 t113)) (fun _ hk => hk.1.1), by (with_reducible repeat (first | apply Kd.Q_alloc | apply Kd.Q_drewN | apply Kd.Q_drew)); exact Kd.Q_mono (Kd.Q_far (p := ⟨gb102, 1, none⟩) (Kd.Q_far (p := ⟨gb102, 0, none⟩) (Kd.Q_far (p := ⟨gb101, 1, none⟩) (Kd.Q_far (p := ⟨gb101, 0, none⟩) (Kd.Q_types (Kd.Q_types HO109.out BK101.out (by decide)) BK102.out (by decide)) (fun _ hk => hk.1.2) (.slice Ao9 t104.length co9)) (fun _ hk => hk.1.2) (.slice Ao13 t107.length co13)) (fun _ hk => hk.2) (.int .i64 t112)) (fun _ hk => hk.2) (.int .i64 t113)) (fun _ hk => hk.1.1), (pV HB.out (IsS65.ge HI103.out))⟩
def impl_isShare.f (k : Nat) (a0_0 : Int) (a0_1 : Int) : Option (Bool) := (impl_within.f a0_1 1 1000000).bind fun t102 => (if t102 = true then ((impl_within.f a0_0 0 a0_1).bind fun t103 => (if t103 = true then ((impl_divisorOf.f k a0_1 a0_0).bind fun t104 => (some (t104 == 1))) else (some false))) else (some false))
theorem impl_isShare.calls (k : Nat) (a0_0 : Int) (a0_1 : Int) (r : Bool) (w : World) (h : impl_isShare.f k a0_0 a0_1 = some r) :
  Calls Try.prog 51 #[.agg #[.int .i64 a0_0, .int .i64 a0_1]] w fun e w' => e = .returned (.bool r) ∧ Below w.heap.size w w' := by
 have hu33 := Try.underlying33
 have HB := aK (Below.refl w.heap.size w)
 have H : ((impl_within.f a0_1 1 1000000).bind fun t102 => (if t102 = true then ((impl_within.f a0_0 0 a0_1).bind fun t103 => (if t103 = true then ((impl_divisorOf.f k a0_1 a0_0).bind fun t104 => (some (t104 == 1))) else (some false))) else (some false))) = some r := h
 clear h
 replace H := Option.bind_eq_some_iff.mp H
 obtain ⟨t102, A20, H⟩ := H
 replace H : (if t102 = true then ((impl_within.f a0_0 0 a0_1).bind fun t103 => (if t103 = true then ((impl_divisorOf.f k a0_1 a0_0).bind fun t104 => (some (t104 == 1))) else (some false))) else (some false)) = some r := H
 have A2 := Aside0.mk A20
 clear A20
 by_cases c3 : t102 = true
 ·
  subst c3
  have H1 : ((impl_within.f a0_0 0 a0_1).bind fun t103 => (if t103 = true then ((impl_divisorOf.f k a0_1 a0_0).bind fun t104 => (some (t104 == 1))) else (some false))) = some r := by rw [if_pos rfl] at H; exact H
  clear H
  have H := H1
  clear H1
  replace H := Option.bind_eq_some_iff.mp H
  obtain ⟨t103, A40, H⟩ := H
  replace H : (if t103 = true then ((impl_divisorOf.f k a0_1 a0_0).bind fun t104 => (some (t104 == 1))) else (some false)) = some r := H
  have A4 := Aside0.mk A40
  clear A40
  by_cases c5 : t103 = true
  ·
   subst c5
   have H1 : ((impl_divisorOf.f k a0_1 a0_0).bind fun t104 => (some (t104 == 1))) = some r := by rw [if_pos rfl] at H; exact H
   clear H
   have H := H1
   clear H1
   replace H := Option.bind_eq_some_iff.mp H
   obtain ⟨t104, A60, H⟩ := H
   replace H : (some (t104 == 1)) = some r := H
   have A6 := Aside0.mk A60
   clear A60
   obtain rfl := Option.some.inj H
   go_enter Try.func51, Try.ntmps51
   go_wp2_with (first | ((with_reducible refine gate_dst (N := 1) rfl ?_); refine bxe (cs := #[.int .i64 a0_0, .int .i64 a0_1]) (t := 33) ?_; intro gb101 hg w7 hbox hb; have BK101 := aK (hbox); have GW101 := aK (gE hg (pS HB.out)); have GE101 := GW101; replace HB := bS HB hb; clear hb hbox hg; obtain ⟨hcz8_0, hcz8_1, hfz8_0, hfz8_1⟩ := bc2 BK101.out) | ((with_reducible refine gate_callee (f := 41) rfl ?_); refine gl (some 5) Try.func41 #[.int .i64 a0_1, .int .i64 1, .int .i64 1000000] ?_; (with_reducible refine (impl_within.calls a0_1 1 1000000 true _ A2.out).mono ?_); rintro e w' ⟨rfl, ⟨nd, rfl⟩⟩; refine ⟨_, rfl, ?_⟩) | (go_at_call 41; (with_reducible refine (impl_within.calls a0_0 0 a0_1 true _ A4.out).mono ?_); rintro e w' ⟨rfl, ⟨nd, rfl⟩⟩) | (go_at_call 74; (with_reducible refine (impl_divisorOf.calls k a0_1 a0_0 t104 _ A6.out).mono ?_); rintro e w' ⟨rfl, ⟨nd, rfl⟩⟩))
   go_ret
   exact ⟨er, pT HB.out⟩
  replace c5 := Bool.eq_false_iff.mpr c5
  subst c5
  have H1 : (some false) = some r := by rw [if_neg (show ¬ (false = true) by decide)] at H; exact H
  clear H
  have H := H1
  clear H1
  obtain rfl := Option.some.inj H
  go_enter Try.func51, Try.ntmps51
  go_wp2_with (first | ((with_reducible refine gate_dst (N := 1) rfl ?_); refine bxe (cs := #[.int .i64 a0_0, .int .i64 a0_1]) (t := 33) ?_; intro gb101 hg w9 hbox hb; have BK101 := aK (hbox); have GW101 := aK (gE hg (pS HB.out)); have GE101 := GW101; replace HB := bS HB hb; clear hb hbox hg; obtain ⟨hcz10_0, hcz10_1, hfz10_0, hfz10_1⟩ := bc2 BK101.out) | ((with_reducible refine gate_callee (f := 41) rfl ?_); refine gl (some 5) Try.func41 #[.int .i64 a0_1, .int .i64 1, .int .i64 1000000] ?_; (with_reducible refine (impl_within.calls a0_1 1 1000000 true _ A2.out).mono ?_); rintro e w' ⟨rfl, ⟨nd, rfl⟩⟩; refine ⟨_, rfl, ?_⟩) | (go_at_call 41; (with_reducible refine (impl_within.calls a0_0 0 a0_1 false _ A4.out).mono ?_); rintro e w' ⟨rfl, ⟨nd, rfl⟩⟩))
  go_ret
  exact ⟨er, pT HB.out⟩
 replace c3 := Bool.eq_false_iff.mpr c3
 subst c3
 have H1 : (some false) = some r := by rw [if_neg (show ¬ (false = true) by decide)] at H; exact H
 clear H
 have H := H1
 clear H1
 obtain rfl := Option.some.inj H
 go_enter Try.func51, Try.ntmps51
 go_wp2_with (first | ((with_reducible refine gate_dst (N := 1) rfl ?_); refine bxe (cs := #[.int .i64 a0_0, .int .i64 a0_1]) (t := 33) ?_; intro gb101 hg w11 hbox hb; have BK101 := aK (hbox); have GW101 := aK (gE hg (pS HB.out)); have GE101 := GW101; replace HB := bS HB hb; clear hb hbox hg; obtain ⟨hcz12_0, hcz12_1, hfz12_0, hfz12_1⟩ := bc2 BK101.out) | ((with_reducible refine gate_callee (f := 41) rfl ?_); refine gl (some 5) Try.func41 #[.int .i64 a0_1, .int .i64 1, .int .i64 1000000] ?_; (with_reducible refine (impl_within.calls a0_1 1 1000000 false _ A2.out).mono ?_); rintro e w' ⟨rfl, ⟨nd, rfl⟩⟩; refine ⟨_, rfl, ?_⟩))
 go_ret
 exact ⟨er, pT HB.out⟩
mutual
def impl_calibrationOf.l0 : Nat → List (S93) → List Int → Int → Int → List Int → List Int → Option ((List (S33)) × Bool)
 | 0, _, _, _, _, _, _ => none
 | k + 1, x4, x16, x17, x18, x102000, x102001 => if x18 < x17 then (if 0 ≤ x18 then (if x18 < (x16.length : Int) then (if (rd x16 x18) = 0 then (impl_calibrationOf.l0 k x4 x16 x17 (wrap64 (x18 + 1)) x102000 x102001) else (if x18 < (x102001.length : Int) then (impl_calibrationOf.l1 k x4 (x4.length : Int) x16 x17 x18 x102000 x102001 x18 (rd x16 x18) (rd x102001 x18)) else (none))) else (none)) else (none)) else (if (x4.length : Int) = 0 then (some (([] : List (S33)), false)) else (if 11 ≤ 17592186044416 then ((some (List.replicate 11 z33 : List (S33))).bind fun y116 => (impl_calibrationOf.l2 k x4 y116 (y116.length : Int) 0)) else (none)))
def impl_calibrationOf.l1 : Nat → List (S93) → Int → List Int → Int → Int → List Int → List Int → Int → Int → Int → Option ((List (S33)) × Bool)
 | 0, _, _, _, _, _, _, _, _, _, _ => none
 | k + 1, x4, x8, x16, x17, x18, x102000, x102001, x105000, x105001, x105002 => if x8 > 0 then (if 0 ≤ (wrap64 (x8 - 1)) then (if (wrap64 (x8 - 1)) < (x4.length : Int) then (if (wrap64 (((rd_T93 x4 (wrap64 (x8 - 1))).f2) * x105001)) ≤ (wrap64 (x105002 * ((rd_T93 x4 (wrap64 (x8 - 1))).f1))) then (if x4.length < 5864062014805 then (impl_calibrationOf.l0 k (x4 ++ [(⟨x105000, x105001, x105002⟩ : S93)]) x16 x17 (wrap64 (x18 + 1)) x102000 x102001) else (none)) else (if (wrap64 (x8 - 1)) ≤ (x4.length : Int) then ((some (x4.take ((wrap64 (x8 - 1)) : Int).toNat : List (S93))).bind fun y110 => (impl_calibrationOf.l1 k y110 (y110.length : Int) x16 x17 x18 x102000 x102001 ((rd_T93 x4 (wrap64 (x8 - 1))).f0) (wrap64 (((rd_T93 x4 (wrap64 (x8 - 1))).f1) + x105001)) (wrap64 (((rd_T93 x4 (wrap64 (x8 - 1))).f2) + x105002)))) else (none))) else (none)) else (none)) else (if x4.length < 5864062014805 then (impl_calibrationOf.l0 k (x4 ++ [(⟨x105000, x105001, x105002⟩ : S93)]) x16 x17 (wrap64 (x18 + 1)) x102000 x102001) else (none))
def impl_calibrationOf.l2 : Nat → List (S93) → List (S33) → Int → Int → Option ((List (S33)) × Bool)
 | 0, _, _, _, _ => none
 | k + 1, x4, x10, x82, x83 => if x83 < x82 then (impl_calibrationOf.l3 k x4 x10 x83 0 x82 x83 x4 (x4.length : Int) 0) else (some (x10, true))
def impl_calibrationOf.l3 : Nat → List (S93) → List (S33) → Int → Int → Int → Int → List (S93) → Int → Int → Option ((List (S33)) × Bool)
 | 0, _, _, _, _, _, _, _, _, _ => none
 | k + 1, x4, x10, x11, x12, x82, x83, x86, x87, x88 => if x88 < x87 then (if 0 ≤ x88 then (if x88 < (x86.length : Int) then (if ((rd_T93 x86 x88).f0) ≤ x11 then (impl_calibrationOf.l3 k x4 x10 x11 x88 x82 x83 x86 x87 (wrap64 (x88 + 1))) else (impl_calibrationOf.l3 k x4 x10 x11 x12 x82 x83 x86 x87 (wrap64 (x88 + 1)))) else (none)) else (none)) else (if 0 ≤ x12 then (if x12 < (x4.length : Int) then ((impl_shareOf.f k ((rd_T93 x4 x12).f2) ((rd_T93 x4 x12).f1)).bind fun bt123 => (if 0 ≤ x11 then (if x11 < (x10.length : Int) then (impl_calibrationOf.l2 k x4 (x10.set (x11 : Int).toNat (⟨bt123.1, bt123.2⟩ : S33)) x82 (wrap64 (x83 + 1))) else (none)) else (none))) else (none)) else (none))
end
def impl_calibrationOf.f (k : Nat) (l0_0 : List Int) (l0_1 : List Int) : Option ((List (S33)) × Bool) := impl_calibrationOf.l0 k ([] : List (S93)) l0_0 (l0_0.length : Int) 0 l0_0 l0_1
def impl_calibrationOf.T29 : Bool × List (List Nat × List Nat) := (true, [([], []), ([], []), ([], []), ([], []), ([2, 3], [2, 3]), ([4], [4]), ([5], [5]), ([], []), ([], []), ([7, 8], [7, 8]), ([9], [9]), ([10], [10]), ([6, 11], [6, 11]), ([0, 1, 0, 1, 2, 3, 4, 5, 6, 7, 8, 9, 10, 11, 12], [0, 1]), ([13, 12, 12, 0, 1, 2, 3, 4, 5, 6, 7, 8, 9, 10, 11, 12], [12, 13])])
def impl_calibrationOf.B29 : List Nat := [0, 0, 0, 0, 12, 28, 60, 0, 0, 384, 896, 1920, 4092, 8191, 16383]
theorem impl_calibrationOf.tab29 : rtab .any (opsOf Try.f52 29) = impl_calibrationOf.T29 := by kernel_rfl
theorem impl_calibrationOf.bits29 : waitsOk impl_calibrationOf.T29.2 impl_calibrationOf.B29 = true := by kernel_rfl
theorem impl_calibrationOf.calls (k : Nat) (A0_0 : Option Addr) (c0_0 : Nat) (l0_0 : List Int) (A0_1 : Option Addr) (c0_1 : Nat) (l0_1 : List Int) (r1 : List (S33)) (r2 : Bool) (w : World) (hr0_0 : Kd.C (Kd.int .i64) w A0_0 l0_0.length l0_0) (hc0_0 : l0_0.length ≤ c0_0) (hr0_1 : Kd.C (Kd.int .i64) w A0_1 l0_1.length l0_1) (hc0_1 : l0_1.length ≤ c0_1) (h : impl_calibrationOf.f k l0_0 l0_1 = some (r1, r2)) :
  Calls Try.prog 52 #[.agg #[.slice A0_0 l0_0.length c0_0, .slice A0_1 l0_1.length c0_1]] w fun e w' => ∃ v0_ : Value, e = .returned (.tuple #[v0_, .bool r2]) ∧ Kd.R k33 33 w' w.heap.size (fun _ => True) v0_ r1 ∧ Below w.heap.size w w' := by
 have hu26 := Try.underlying26
 have hu93 := Try.underlying93
 have hu33 := Try.underlying33
 have HR0_0 := Aside0.mk hr0_0
 have HC0_0 := Aside0.mk hc0_0
 clear hr0_0 hc0_0
 have HR0_1 := Aside0.mk hr0_1
 have HC0_1 := Aside0.mk hc0_1
 clear hr0_1 hc0_1
 have HB := aK (Below.refl w.heap.size w)
 have H : (impl_calibrationOf.l0 k ([] : List (S93)) l0_0 (l0_0.length : Int) 0 l0_0 l0_1) = some (r1, r2) := h
 clear h
 have H' := Aside0.mk H
 clear H
 go_enter Try.func52, Try.ntmps52
 go_wp2_with (first | ((with_reducible refine gate_dst (N := 1) rfl ?_); refine bxe (cs := #[.slice A0_0 l0_0.length c0_0, .slice A0_1 l0_1.length c0_1]) (t := 26) ?_; intro gb101 hg w2 hbox hb; have BK101 := aK (hbox); have GW101 := aK (gE hg (pS HB.out)); have GE101 := GW101; replace HB := bS HB hb; clear hb hbox hg; obtain ⟨hcz3_0, hcz3_1, hfz3_0, hfz3_1⟩ := bc2 BK101.out))
 go_loopg [4, 18] k (fun kq v4 v18 w' => ∃ (x4_1 : List (S93)) (x18_1 : Int), v18 = .int .i64 x18_1 ∧ Aside0 (impl_calibrationOf.l0 kq x4_1 l0_0 (l0_0.length : Int) x18_1 l0_0 l0_1 = some (r1, r2)) ∧ Aside0 (kq ≤ k) ∧ Aside0 (Kd.R k93 93 w' w.heap.size (fun _ => True) v4 x4_1) ∧ Aside0 (w'.heap[gb101]? = some (.cells #[(.slice A0_0 l0_0.length c0_0), (.slice A0_1 l0_1.length c0_1)] 26 (0, 0))) ∧ Aside0 (Below w.heap.size w w'))
 case atStart => exact ⟨(([] : List (S93))), (0), (by first | rfl | (simp; done) | (simp [*]; done)), H', ⟨Nat.le_refl _⟩, ⟨by first | exact Kd.R_nil _ _ _ _ _ | exact Kd.N_nil _ _ _ _ _ | exact Kd.V_nil _ _ _ _ _ | exact Kd.Q_nil _ _ _ _ _ | exact Kd.S_nil _ _ _ _ _⟩, ⟨by refine bk ?_; exact BK101.out⟩, ⟨pT HB.out⟩⟩
 case round =>
  clear H'
  try clear p2
  try clear hcz3_0
  try clear hcz3_1
  try clear hfz3_0
  try clear hfz3_1
  obtain ⟨x4_1, x18_1, rfl, HA, HK1, HO_4, BK101, HB⟩ := hrel
  cases gk with
  | zero => exact absurd HA.out (by simp [impl_calibrationOf.l0])
  | succ k1 =>
   have H := HA.out
   clear HA
   simp only [impl_calibrationOf.l0] at H
   by_cases c4 : x18_1 < (l0_0.length : Int)
   ·
    rw [if_pos c4] at H
    have c4b0 : decide (x18_1 < (l0_0.length : Int)) = true := decide_eq_true c4
    clear c4
    by_cases c5 : 0 ≤ x18_1
    ·
     rw [if_pos c5] at H
     have c5b0 : decide (0 ≤ x18_1) = true := decide_eq_true c5
     clear c5
     by_cases c6 : x18_1 < (l0_0.length : Int)
     ·
      rw [if_pos c6] at H
      have c6b0 : decide (x18_1 < (l0_0.length : Int)) = true := decide_eq_true c6
      clear c6
      by_cases c7 : (rd l0_0 x18_1) = 0
      ·
       rw [if_pos c7] at H
       have c7b0 : ((rd l0_0 x18_1) == 0) = true := beq_iff_eq.mpr c7
       have c7b1 : ((rd l0_0 x18_1) != 0) = false := bne_eq_false_iff_eq.mpr c7
       clear c7
       have H' := Aside0.mk H
       clear H
       have p102 : 0 ≤ (x18_1 : Int) := of_decide_eq_true (by first | (with_reducible assumption) | assumption)
       have q102 : x18_1 < (l0_0.length : Int) := of_decide_eq_true (by first | (with_reducible assumption) | assumption)
       obtain ⟨ad102, e102, hx102_0⟩ := Kd.at_int HR0_0.out x18_1 p102 q102
       cases e102
       replace hx102_0 := (HB.out.cell (World.block_lt_of_cell? w _ hx102_0)).trans hx102_0
       replace p102 := eq_true p102
       replace q102 := eq_true q102
       go_wp2
       go_roundg k1
       case measure => have := HK1.out; omega
       case rel => exact ⟨(x4_1), (wrap64 (x18_1 + 1)), (by first | rfl | (simp; done) | (simp [*]; done)), H', ⟨by have := HK1.out; omega⟩, ⟨pR HO_4.out⟩, ⟨by refine bk ?_; exact BK101.out⟩, ⟨pT HB.out⟩⟩
      rw [if_neg c7] at H
      have c7b0 : ((rd l0_0 x18_1) == 0) = false := beq_eq_false_iff_ne.mpr c7
      have c7b1 : ((rd l0_0 x18_1) != 0) = true := bne_iff_ne.mpr c7
      by_cases c8 : x18_1 < (l0_1.length : Int)
      ·
       rw [if_pos c8] at H
       have c8b0 : decide (x18_1 < (l0_1.length : Int)) = true := decide_eq_true c8
       clear c8
       have H' := Aside0.mk H
       clear H
       have p102 : 0 ≤ (x18_1 : Int) := of_decide_eq_true (by first | (with_reducible assumption) | assumption)
       have q102 : x18_1 < (l0_0.length : Int) := of_decide_eq_true (by first | (with_reducible assumption) | assumption)
       obtain ⟨ad102, e102, hx102_0⟩ := Kd.at_int HR0_0.out x18_1 p102 q102
       cases e102
       replace hx102_0 := (HB.out.cell (World.block_lt_of_cell? w _ hx102_0)).trans hx102_0
       replace p102 := eq_true p102
       replace q102 := eq_true q102
       obtain ⟨hcz9_0, hcz9_1, hfz9_0, hfz9_1⟩ := bc2 BK101.out
       have p103 : 0 ≤ (x18_1 : Int) := of_decide_eq_true (by first | (with_reducible assumption) | assumption)
       have q103 : x18_1 < (l0_1.length : Int) := of_decide_eq_true (by first | (with_reducible assumption) | assumption)
       obtain ⟨ad103, e103, hx103_0⟩ := Kd.at_int HR0_1.out x18_1 p103 q103
       cases e103
       replace hx103_0 := (HB.out.cell (World.block_lt_of_cell? w _ hx103_0)).trans hx103_0
       replace p103 := eq_true p103
       replace q103 := eq_true q103
       go_wp2_with (first | ((with_reducible refine gate_dst (N := 7) rfl ?_); refine bxe (cs := #[.int .i64 0, .int .i64 0, .int .i64 0]) (t := 93) ?_; intro gb104 hg w10 hbox hb; have n0_ := aK (Kd.R_below (Kd.R_elderB (pR HO_4.out) gb104 (Nat.le_of_eq hg.symm)) hb); have BK104 := aK (hbox); have GW104 := aK (gE hg (pS HB.out)); have GE104 := GW104; obtain ⟨NB101_104, NB104_101⟩ := nb hg (pB BK101.out); replace BK101 := bB BK101 hb; replace HB := bS HB hb; clear HO_4; have HO_4 := n0_; clear n0_ hb hbox hg; have hnb11 := NB104_101.out; have hnc11 := NB101_104.out; obtain ⟨hcz12_0, hcz12_1, hcz12_2, hfz12_0, hfz12_1, hfz12_2⟩ := bc3 BK104.out; obtain ⟨Ao13, co13, eo13⟩ := Kd.R_slice HO_4.out; subst eo13))
       go_loopg [4, 8] k1 (fun kq v4 v8 w' => ∃ (x4_2 : List (S93)) (x8_2 : Int) (x105000_2 : Int) (x105001_2 : Int) (x105002_2 : Int), v8 = .int .i64 x8_2 ∧ Aside0 (impl_calibrationOf.l1 kq x4_2 x8_2 l0_0 (l0_0.length : Int) x18_1 l0_0 l0_1 x105000_2 x105001_2 x105002_2 = some (r1, r2)) ∧ Aside0 (kq ≤ k1) ∧ Aside0 (Kd.R k93 93 w' w.heap.size (fun k_ => k_ ≠ gb104) v4 x4_2) ∧ Aside0 (w'.heap[gb101]? = some (.cells #[(.slice (some ad102) l0_0.length c0_0), (.slice (some ad103) l0_1.length c0_1)] 26 (0, 0))) ∧ Aside0 (w'.heap[gb104]? = some (.cells #[.int .i64 x105000_2, .int .i64 x105001_2, .int .i64 x105002_2] 93 (0, 0))) ∧ Aside0 (Below w.heap.size w w'))
       case atStart => exact ⟨(x4_1), ((x4_1.length : Int)), (x18_1), (rd l0_0 x18_1), (rd l0_1 x18_1), (by first | rfl | (simp; done) | (simp [*]; done)), H', ⟨Nat.le_refl _⟩, ⟨pR (Kd.R_mono (Kd.R_far (p := ⟨gb104, 2, none⟩) (Kd.R_far (p := ⟨gb104, 1, none⟩) (Kd.R_far (p := ⟨gb104, 0, none⟩) (Kd.R_mono HO_4.out (fun k_ hk => (⟨hk, hk.2⟩ : _ ∧ k_ ≠ gb104))) (fun _ hk => hk.2) (.int .i64 x18_1)) (fun _ hk => hk.2) (.int .i64 (rd l0_0 x18_1))) (fun _ hk => hk.2) (.int .i64 (rd l0_1 x18_1))) (fun _ hk => hk.1.2))⟩, ⟨by refine bk ?_; refine blk_far ?_ NB101_104.out _; refine bk ?_; refine blk_far ?_ NB101_104.out _; refine bk ?_; refine blk_far ?_ NB101_104.out _; refine bk ?_; exact BK101.out⟩, ⟨by refine bk ?_; refine blk_put (cs := #[.int .i64 x18_1, .int .i64 (rd l0_0 x18_1), .int .i64 0]) ?_ 2 _ rfl; refine bk ?_; refine blk_put (cs := #[.int .i64 x18_1, .int .i64 0, .int .i64 0]) ?_ 1 _ rfl; refine bk ?_; refine blk_put (cs := #[.int .i64 0, .int .i64 0, .int .i64 0]) ?_ 0 _ rfl; refine bk ?_; exact BK104.out⟩, ⟨pT HB.out⟩⟩
       case round =>
        clear H'
        try clear c1
        try clear p1
        try clear q1
        try clear hx1
        try clear p2
        try clear c4
        try clear c4b0
        try clear c5
        try clear c5b0
        try clear c6
        try clear c6b0
        try clear p6
        try clear c7
        try clear c7b0
        try clear c7b1
        try clear c8
        try clear c8b0
        try clear p10
        try clear q10
        try clear hx10
        try clear c11
        try clear hcz12_0
        try clear hcz12_1
        try clear hcz12_2
        try clear hcz3_0
        try clear hcz3_1
        try clear hcz9_0
        try clear hcz9_1
        try clear hfz12_0
        try clear hfz12_1
        try clear hfz12_2
        try clear hfz3_0
        try clear hfz3_1
        try clear hfz9_0
        try clear hfz9_1
        try clear hx102_0
        try clear hx103_0
        try clear p102
        try clear p103
        try clear p2
        try clear q102
        try clear q103
        obtain ⟨x4_2, x8_2, x105000_2, x105001_2, x105002_2, rfl, HA, HK2, HO_4, BK101, BK104, HB⟩ := hrel
        cases gk with
        | zero => exact absurd HA.out (by simp [impl_calibrationOf.l1])
        | succ k2 =>
         have H := HA.out
         clear HA
         simp only [impl_calibrationOf.l1] at H
         by_cases c14 : x8_2 > 0
         ·
          rw [if_pos c14] at H
          have c14b0 : decide (0 < x8_2) = true := decide_eq_true c14
          clear c14
          obtain ⟨ji15, hji15⟩ : ∃ j_ : Int, (wrap64 (x8_2 - 1)) = j_ := ⟨_, rfl⟩
          replace H : (if 0 ≤ (ji15) then (if (ji15) < (x4_2.length : Int) then (if (wrap64 (((rd_T93 x4_2 (ji15)).f2) * x105001_2)) ≤ (wrap64 (x105002_2 * ((rd_T93 x4_2 (ji15)).f1))) then (if x4_2.length < 5864062014805 then (impl_calibrationOf.l0 k2 (x4_2 ++ [(⟨x105000_2, x105001_2, x105002_2⟩ : S93)]) l0_0 (l0_0.length : Int) (wrap64 (x18_1 + 1)) l0_0 l0_1) else (none)) else (if (ji15) ≤ (x4_2.length : Int) then ((some (x4_2.take ((ji15) : Int).toNat : List (S93))).bind fun y110 => (impl_calibrationOf.l1 k2 y110 (y110.length : Int) l0_0 (l0_0.length : Int) x18_1 l0_0 l0_1 ((rd_T93 x4_2 (ji15)).f0) (wrap64 (((rd_T93 x4_2 (ji15)).f1) + x105001_2)) (wrap64 (((rd_T93 x4_2 (ji15)).f2) + x105002_2)))) else (none))) else (none)) else (none)) = some (r1, r2) := by first | (rw [hji15] at H; exact H) | (simp only [hji15] at H ⊢; exact H)
          have hji15w : (IntKind.i64.wrap (x8_2 - 1)) = ji15 := (i64_w _).trans hji15
          by_cases c16 : 0 ≤ (ji15)
          ·
           rw [if_pos c16] at H
           have c16b0 : decide (0 ≤ (ji15)) = true := decide_eq_true c16
           clear c16
           by_cases c17 : (ji15) < (x4_2.length : Int)
           ·
            rw [if_pos c17] at H
            have c17b0 : decide ((ji15) < (x4_2.length : Int)) = true := decide_eq_true c17
            clear c17
            by_cases c18 : (wrap64 (((rd_T93 x4_2 (ji15)).f2) * x105001_2)) ≤ (wrap64 (x105002_2 * ((rd_T93 x4_2 (ji15)).f1)))
            ·
             rw [if_pos c18] at H
             have c18b0 : decide ((wrap64 (((rd_T93 x4_2 (ji15)).f2) * x105001_2)) ≤ (wrap64 (x105002_2 * ((rd_T93 x4_2 (ji15)).f1)))) = true := decide_eq_true c18
             clear c18
             by_cases c19 : x4_2.length < 5864062014805
             ·
              rw [if_pos c19] at H
              have LMc19 := Aside0.mk c19
              clear c19
              obtain ⟨y107, hy107⟩ : ∃ y_ : List (S93), y_ = (x4_2 ++ [(⟨x105000_2, x105001_2, x105002_2⟩ : S93)]) := ⟨_, rfl⟩
              replace H : (impl_calibrationOf.l0 k2 y107 l0_0 (l0_0.length : Int) (wrap64 (x18_1 + 1)) l0_0 l0_1) = some (r1, r2) := by first | (rw [hy107]; with_reducible exact H) | (have H2_ := (Option.bind_some _ _).symm.trans H; rw [hy107]; with_reducible exact H2_) | (have H2_ := (Option.bind_some _ _).symm.trans H; with_reducible exact H2_) | with_reducible exact H | (rw [hy107]; exact H) | exact H
              have Ny107 := Aside0.mk hy107
              clear hy107
              have H' := Aside0.mk H
              clear H
              obtain ⟨Ao20, co20, eo20⟩ := Kd.R_slice HO_4.out
              subst eo20
              have p105 : 0 ≤ ((ji15) : Int) := of_decide_eq_true (by first | (with_reducible assumption) | assumption)
              have q105 : (ji15) < (x4_2.length : Int) := of_decide_eq_true (by first | (with_reducible assumption) | assumption)
              obtain ⟨ad105, e105, hx105_0, hx105_1, hx105_2⟩ := at_T93 (Kd.R_reads' HO_4.out).2.2 (ji15) p105 q105
              cases e105
              replace p105 := eq_true p105
              replace q105 := eq_true q105
              go_wp2_with (first | ((with_reducible refine gate_dst (N := 9) rfl ?_); refine bxe (cs := #[.int .i64 0, .int .i64 0, .int .i64 0]) (t := 93) ?_; intro gb106 hg w21 hbox hb; have n0_ := aK (Kd.R_below (Kd.R_elderB (pR HO_4.out) gb106 (Nat.le_of_eq hg.symm)) hb); have BK106 := aK (hbox); have GW106 := aK (gE hg (pS HB.out)); have GE106 := GW106; obtain ⟨NB101_106, NB106_101⟩ := nb hg (pB BK101.out); obtain ⟨NB104_106, NB106_104⟩ := nb hg (pB BK104.out); replace BK101 := bB BK101 hb; replace BK104 := bB BK104 hb; replace HB := bS HB hb; clear HO_4; have HO_4 := n0_; clear n0_ hb hbox hg; have hnb22 := NB106_101.out; have hnc22 := NB101_106.out; have hnb23 := NB106_104.out; have hnc23 := NB104_106.out; obtain ⟨hcz24_0, hcz24_1, hcz24_2, hfz24_0, hfz24_1, hfz24_2⟩ := bc3 BK106.out; have hnb25 := NB104_101.out; have hnc25 := NB101_104.out; obtain ⟨hcz26_0, hcz26_1, hcz26_2, hfz26_0, hfz26_1, hfz26_2⟩ := bc3 BK104.out) | ((with_reducible refine gate_builtin (b := .append) (xs := #[.tmp 72, .tmp 74]) rfl ?_); at_builtin; refine Kd.R_append k93 (w0 := w) w.heap.size rfl (.tmp 72) (.tmp 74) 91 93 (.agg #[(.int .i64 0), (.int .i64 0), (.int .i64 0)]) 24 rfl Try.underlying91 info93 rfl (by decide) (by omega) (.slice (some ad105) x4_2.length co20) x4_2 (⟨x105000_2, x105001_2, x105002_2⟩ : S93) [.int .i64 x105000_2, .int .i64 x105001_2, .int .i64 x105002_2] (fun k_ => k_ ≠ gb104 ∧ k_ ≠ gb106) (fun _ => False) rfl (by first | (go_simp; done) | (go_simp; rfl)) ?aP (fun _ hk => hk.elim) ?aF ?aO ?aB ?aS ?aL ?_; (case aP => exact k93_mkM _ _ _ (⟨x105000_2, x105001_2, x105002_2⟩ : S93)); (case aB => exact (pS HB.out)); (case aF => exact (fun k_ hk => ⟨Kd.freshB (g := gb104) (o := .cells #[.int .i64 x105000_2, .int .i64 x105001_2, .int .i64 x105002_2] 93 (0, 0)) (by refine bk ?_; refine blk_far ?_ NB104_106.out _; refine bk ?_; refine blk_far ?_ NB104_106.out _; refine bk ?_; refine blk_far ?_ NB104_106.out _; refine bk ?_; exact BK104.out) k_ hk, Kd.freshB (g := gb106) (o := .cells #[.int .i64 ((rd_T93 x4_2 (ji15)).f0), .int .i64 ((rd_T93 x4_2 (ji15)).f1), .int .i64 ((rd_T93 x4_2 (ji15)).f2)] 93 (0, 0)) (by refine bk ?_; refine blk_put (cs := #[.int .i64 ((rd_T93 x4_2 (ji15)).f0), .int .i64 ((rd_T93 x4_2 (ji15)).f1), .int .i64 0]) ?_ 2 _ rfl; refine bk ?_; refine blk_put (cs := #[.int .i64 ((rd_T93 x4_2 (ji15)).f0), .int .i64 0, .int .i64 0]) ?_ 1 _ rfl; refine bk ?_; refine blk_put (cs := #[.int .i64 0, .int .i64 0, .int .i64 0]) ?_ 0 _ rfl; refine bk ?_; exact BK106.out) k_ hk⟩)); (case aO => exact (pR (Kd.R_mono (Kd.R_far (p := ⟨gb106, 2, none⟩) (Kd.R_far (p := ⟨gb106, 1, none⟩) (Kd.R_far (p := ⟨gb106, 0, none⟩) (Kd.R_mono HO_4.out (fun k_ hk => (⟨hk, hk.2⟩ : _ ∧ k_ ≠ gb106))) (fun _ hk => hk.2) (.int .i64 ((rd_T93 x4_2 (ji15)).f0))) (fun _ hk => hk.2) (.int .i64 ((rd_T93 x4_2 (ji15)).f1))) (fun _ hk => hk.2) (.int .i64 ((rd_T93 x4_2 (ji15)).f2))) (fun _ hk => ⟨hk.1.1, hk.1.2⟩)))); (case aS => exact (below_size (pS HB.out))); (case aL => have := LMc19.out; omega); intro v108 w27 ho hb hg hat; rw [← Ny107.out] at ho; have n0_ := aK (blk_grown (g := gb101) (o := .cells #[.slice (some ad102) l0_0.length c0_0, .slice (some ad103) l0_1.length c0_1] 26 (0, 0)) (by refine bk ?_; refine blk_far ?_ NB101_106.out _; refine bk ?_; refine blk_far ?_ NB101_106.out _; refine bk ?_; refine blk_far ?_ NB101_106.out _; refine bk ?_; exact BK101.out) hg (Kd.R_ne HO_4.out BK101.out (by decide))); have n1_ := aK (blk_grown (g := gb104) (o := .cells #[.int .i64 x105000_2, .int .i64 x105001_2, .int .i64 x105002_2] 93 (0, 0)) (by refine bk ?_; refine blk_far ?_ NB104_106.out _; refine bk ?_; refine blk_far ?_ NB104_106.out _; refine bk ?_; refine blk_far ?_ NB104_106.out _; refine bk ?_; exact BK104.out) hg (Kd.R_away HO_4.out (fun _ hk => hk.1))); have n2_ := aK (blk_grown (g := gb106) (o := .cells #[.int .i64 ((rd_T93 x4_2 (ji15)).f0), .int .i64 ((rd_T93 x4_2 (ji15)).f1), .int .i64 ((rd_T93 x4_2 (ji15)).f2)] 93 (0, 0)) (by refine bk ?_; refine blk_put (cs := #[.int .i64 ((rd_T93 x4_2 (ji15)).f0), .int .i64 ((rd_T93 x4_2 (ji15)).f1), .int .i64 0]) ?_ 2 _ rfl; refine bk ?_; refine blk_put (cs := #[.int .i64 ((rd_T93 x4_2 (ji15)).f0), .int .i64 0, .int .i64 0]) ?_ 1 _ rfl; refine bk ?_; refine blk_put (cs := #[.int .i64 0, .int .i64 0, .int .i64 0]) ?_ 0 _ rfl; refine bk ?_; exact BK106.out) hg (Kd.R_away HO_4.out (fun _ hk => hk.2))); have n3_ := aK (hb); have HO109 := aK (ho); clear BK101 BK104 BK106 HB HO_4; have BK101 := n0_; have BK104 := n1_; have BK106 := n2_; have HB := n3_; clear n0_ n1_ n2_ n3_; clear ho hb hg hat))
              go_roundg k2
              case measure => have := HK1.out; have := HK2.out; omega
              case rel => exact ⟨(y107), (wrap64 (x18_1 + 1)), (by first | rfl | (simp; done) | (simp [*]; done)), H', ⟨by have := HK1.out; have := HK2.out; omega⟩, ⟨pR (Kd.R_mono HO109.out (fun _ hk => trivial))⟩, ⟨by refine bk ?_; exact BK101.out⟩, ⟨pT HB.out⟩⟩
             rw [if_neg c19] at H
             exact absurd H (by simp)
            rw [if_neg c18] at H
            have c18b0 : decide ((wrap64 (((rd_T93 x4_2 (ji15)).f2) * x105001_2)) ≤ (wrap64 (x105002_2 * ((rd_T93 x4_2 (ji15)).f1)))) = false := decide_eq_false c18
            clear c18
            by_cases c28 : (ji15) ≤ (x4_2.length : Int)
            ·
             rw [if_pos c28] at H
             have c28b0 := eq_true c28
             have c28b1 : decide ((ji15) ≤ (x4_2.length : Int)) = true := decide_eq_true c28
             clear c28
             obtain ⟨y110, hy110⟩ : ∃ y_ : List (S93), y_ = (x4_2.take ((ji15) : Int).toNat) := ⟨_, rfl⟩
             replace H : (impl_calibrationOf.l1 k2 y110 (y110.length : Int) l0_0 (l0_0.length : Int) x18_1 l0_0 l0_1 ((rd_T93 x4_2 (ji15)).f0) (wrap64 (((rd_T93 x4_2 (ji15)).f1) + x105001_2)) (wrap64 (((rd_T93 x4_2 (ji15)).f2) + x105002_2))) = some (r1, r2) := by first | (rw [hy110]; with_reducible exact H) | (have H2_ := (Option.bind_some _ _).symm.trans H; rw [hy110]; with_reducible exact H2_) | (have H2_ := (Option.bind_some _ _).symm.trans H; with_reducible exact H2_) | with_reducible exact H | (rw [hy110]; exact H) | exact H
             have Ny110 := Aside0.mk hy110
             clear hy110
             have H' := Aside0.mk H
             clear H
             obtain ⟨Ao29, co29, eo29⟩ := Kd.R_slice HO_4.out
             subst eo29
             have p105 : 0 ≤ ((ji15) : Int) := of_decide_eq_true (by first | (with_reducible assumption) | assumption)
             have q105 : (ji15) < (x4_2.length : Int) := of_decide_eq_true (by first | (with_reducible assumption) | assumption)
             obtain ⟨ad105, e105, hx105_0, hx105_1, hx105_2⟩ := at_T93 (Kd.R_reads' HO_4.out).2.2 (ji15) p105 q105
             cases e105
             replace p105 := eq_true p105
             replace q105 := eq_true q105
             go_wp2_with (first | ((with_reducible refine gate_dst (N := 9) rfl ?_); refine bxe (cs := #[.int .i64 0, .int .i64 0, .int .i64 0]) (t := 93) ?_; intro gb106 hg w30 hbox hb; have n0_ := aK (Kd.R_below (Kd.R_elderB (pR HO_4.out) gb106 (Nat.le_of_eq hg.symm)) hb); have BK106 := aK (hbox); have GW106 := aK (gE hg (pS HB.out)); have GE106 := GW106; obtain ⟨NB101_106, NB106_101⟩ := nb hg (pB BK101.out); obtain ⟨NB104_106, NB106_104⟩ := nb hg (pB BK104.out); replace BK101 := bB BK101 hb; replace BK104 := bB BK104 hb; replace HB := bS HB hb; clear HO_4; have HO_4 := n0_; clear n0_ hb hbox hg; have hnb31 := NB106_101.out; have hnc31 := NB101_106.out; have hnb32 := NB106_104.out; have hnc32 := NB104_106.out; obtain ⟨hcz33_0, hcz33_1, hcz33_2, hfz33_0, hfz33_1, hfz33_2⟩ := bc3 BK106.out) | ((with_reducible refine gate_store (t := 93) (p := 9) rfl ?_); refine store_event (t := 93) (p := 9) (v := ?vo_w34) (w1 := (((w30.setCell ⟨gb106, 0, none⟩ (.int .i64 ((rd_T93 x4_2 (ji15)).f0))).setCell ⟨gb106, 1, none⟩ (.int .i64 ((rd_T93 x4_2 (ji15)).f1))).setCell ⟨gb106, 2, none⟩ (.int .i64 ((rd_T93 x4_2 (ji15)).f2)))) ?hg ?ho ?hn ?hr ?_; (case ho => rfl); (case hg => rfl); (case hn => rfl); (case hr => first | (go_simp; done) | (go_simp; rfl)); intro w34 hw; have n0_ : Aside0 (Kd.R k93 93 w34 w.heap.size (fun k_ => k_ ≠ gb104 ∧ k_ ≠ gb106) (.slice (some ad105) x4_2.length co29) x4_2) := ⟨(by rw [hw]; exact (pR (Kd.R_mono (Kd.R_far (p := ⟨gb106, 2, none⟩) (Kd.R_far (p := ⟨gb106, 1, none⟩) (Kd.R_far (p := ⟨gb106, 0, none⟩) (Kd.R_mono HO_4.out (fun k_ hk => (⟨hk, hk.2⟩ : _ ∧ k_ ≠ gb106))) (fun _ hk => hk.2) (.int .i64 ((rd_T93 x4_2 (ji15)).f0))) (fun _ hk => hk.2) (.int .i64 ((rd_T93 x4_2 (ji15)).f1))) (fun _ hk => hk.2) (.int .i64 ((rd_T93 x4_2 (ji15)).f2))) (fun _ hk => ⟨hk.1.1, hk.1.2⟩))))⟩; have n1_ : Aside0 (w34.heap[gb101]? = some (.cells #[.slice (some ad102) l0_0.length c0_0, .slice (some ad103) l0_1.length c0_1] 26 (0, 0))) := ⟨(by rw [hw]; exact (by refine bk ?_; refine blk_far ?_ NB101_106.out _; refine bk ?_; refine blk_far ?_ NB101_106.out _; refine bk ?_; refine blk_far ?_ NB101_106.out _; refine bk ?_; exact BK101.out))⟩; have n2_ : Aside0 (w34.heap[gb104]? = some (.cells #[.int .i64 x105000_2, .int .i64 x105001_2, .int .i64 x105002_2] 93 (0, 0))) := ⟨(by rw [hw]; exact (by refine bk ?_; refine blk_far ?_ NB104_106.out _; refine bk ?_; refine blk_far ?_ NB104_106.out _; refine bk ?_; refine blk_far ?_ NB104_106.out _; refine bk ?_; exact BK104.out))⟩; have n3_ : Aside0 (w34.heap[gb106]? = some (.cells #[.int .i64 ((rd_T93 x4_2 (ji15)).f0), .int .i64 ((rd_T93 x4_2 (ji15)).f1), .int .i64 ((rd_T93 x4_2 (ji15)).f2)] 93 (0, 0))) := ⟨(by rw [hw]; exact (by refine bk ?_; refine blk_put (cs := #[.int .i64 ((rd_T93 x4_2 (ji15)).f0), .int .i64 ((rd_T93 x4_2 (ji15)).f1), .int .i64 0]) ?_ 2 _ rfl; refine bk ?_; refine blk_put (cs := #[.int .i64 ((rd_T93 x4_2 (ji15)).f0), .int .i64 0, .int .i64 0]) ?_ 1 _ rfl; refine bk ?_; refine blk_put (cs := #[.int .i64 0, .int .i64 0, .int .i64 0]) ?_ 0 _ rfl; refine bk ?_; exact BK106.out))⟩; have n4_ : Aside0 (Below w.heap.size w w34) := ⟨(by rw [hw]; exact (pS HB.out))⟩; clear hw HO_4 BK101 BK104 BK106 HB; have HO_4 := n0_; have BK101 := n1_; have BK104 := n2_; have BK106 := n3_; have HB := n4_; clear n0_ n1_ n2_ n3_ n4_; obtain ⟨hcz35_0, hcz35_1, hcz35_2, hfz35_0, hfz35_1, hfz35_2⟩ := bc3 BK106.out; have hnb36 := NB104_101.out; have hnc36 := NB101_104.out; obtain ⟨hcz37_0, hcz37_1, hcz37_2, hfz37_0, hfz37_1, hfz37_2⟩ := bc3 BK104.out) | ((with_reducible refine gate_store (t := 93) (p := 7) rfl ?_); refine store_event (t := 93) (p := 7) (v := ?vo_w38) (w1 := (((w34.setCell ⟨gb104, 0, none⟩ (.int .i64 ((rd_T93 x4_2 (ji15)).f0))).setCell ⟨gb104, 1, none⟩ (.int .i64 (wrap64 (((rd_T93 x4_2 (ji15)).f1) + x105001_2)))).setCell ⟨gb104, 2, none⟩ (.int .i64 (wrap64 (((rd_T93 x4_2 (ji15)).f2) + x105002_2))))) ?hg ?ho ?hn ?hr ?_; (case ho => rfl); (case hg => rfl); (case hn => rfl); (case hr => first | (go_simp; done) | (go_simp; rfl)); intro w38 hw; have n0_ : Aside0 (Kd.R k93 93 w38 w.heap.size (fun k_ => k_ ≠ gb104 ∧ k_ ≠ gb106) (.slice (some ad105) x4_2.length co29) x4_2) := ⟨(by rw [hw]; exact (pR (Kd.R_mono (Kd.R_far (p := ⟨gb104, 2, none⟩) (Kd.R_far (p := ⟨gb104, 1, none⟩) (Kd.R_far (p := ⟨gb104, 0, none⟩) (Kd.R_mono HO_4.out (fun k_ hk => (⟨hk, hk.1⟩ : _ ∧ k_ ≠ gb104))) (fun _ hk => hk.2) (.int .i64 ((rd_T93 x4_2 (ji15)).f0))) (fun _ hk => hk.2) (.int .i64 (wrap64 (((rd_T93 x4_2 (ji15)).f1) + x105001_2)))) (fun _ hk => hk.2) (.int .i64 (wrap64 (((rd_T93 x4_2 (ji15)).f2) + x105002_2)))) (fun _ hk => ⟨hk.1.1, hk.1.2⟩))))⟩; have n1_ : Aside0 (w38.heap[gb101]? = some (.cells #[.slice (some ad102) l0_0.length c0_0, .slice (some ad103) l0_1.length c0_1] 26 (0, 0))) := ⟨(by rw [hw]; exact (by refine bk ?_; refine blk_far ?_ NB101_104.out _; refine bk ?_; refine blk_far ?_ NB101_104.out _; refine bk ?_; refine blk_far ?_ NB101_104.out _; refine bk ?_; exact BK101.out))⟩; have n2_ : Aside0 (w38.heap[gb104]? = some (.cells #[.int .i64 ((rd_T93 x4_2 (ji15)).f0), .int .i64 (wrap64 (((rd_T93 x4_2 (ji15)).f1) + x105001_2)), .int .i64 (wrap64 (((rd_T93 x4_2 (ji15)).f2) + x105002_2))] 93 (0, 0))) := ⟨(by rw [hw]; exact (by refine bk ?_; refine blk_put (cs := #[.int .i64 ((rd_T93 x4_2 (ji15)).f0), .int .i64 (wrap64 (((rd_T93 x4_2 (ji15)).f1) + x105001_2)), .int .i64 x105002_2]) ?_ 2 _ rfl; refine bk ?_; refine blk_put (cs := #[.int .i64 ((rd_T93 x4_2 (ji15)).f0), .int .i64 x105001_2, .int .i64 x105002_2]) ?_ 1 _ rfl; refine bk ?_; refine blk_put (cs := #[.int .i64 x105000_2, .int .i64 x105001_2, .int .i64 x105002_2]) ?_ 0 _ rfl; refine bk ?_; exact BK104.out))⟩; have n3_ : Aside0 (w38.heap[gb106]? = some (.cells #[.int .i64 ((rd_T93 x4_2 (ji15)).f0), .int .i64 ((rd_T93 x4_2 (ji15)).f1), .int .i64 ((rd_T93 x4_2 (ji15)).f2)] 93 (0, 0))) := ⟨(by rw [hw]; exact (by refine bk ?_; refine blk_far ?_ NB106_104.out _; refine bk ?_; refine blk_far ?_ NB106_104.out _; refine bk ?_; refine blk_far ?_ NB106_104.out _; refine bk ?_; exact BK106.out))⟩; have n4_ : Aside0 (Below w.heap.size w w38) := ⟨(by rw [hw]; exact (pS HB.out))⟩; clear hw HO_4 BK101 BK104 BK106 HB; have HO_4 := n0_; have BK101 := n1_; have BK104 := n2_; have BK106 := n3_; have HB := n4_; clear n0_ n1_ n2_ n3_ n4_; have q39 : ((ji15) : Int) ≤ ((x4_2.length : Int) : Int) := of_decide_eq_true (by first | (with_reducible assumption) | assumption); obtain ⟨i039, hi039, _, hsz39, _⟩ := info_parts info93; have hcut39 := cut_to (P := Try.prog) 91 93 .i64 Try.underlying91 hi039 (some ad105) x4_2.length co29 (ji15) (of_decide_eq_true (by first | (with_reducible assumption) | assumption)) q39 (Kd.R_reads' HO_4.out).2.1; have hr39 := Kd.R_take (m := ((ji15) : Int).toNat) HO_4.out (by omega); have hy39 : y110.length = ((ji15) : Int).toNat := (by rw [Ny110.out, List.length_take]; omega); rw [← Ny110.out] at hr39; rw [← hy39] at hr39 hcut39; clear hy39 hi039 hsz39 HO_4; have HO112 := Aside0.mk hr39; clear hr39; replace q39 := eq_true q39))
             go_roundg k2
             case measure => have := HK1.out; have := HK2.out; omega
             case rel => exact ⟨(y110), ((y110.length : Int)), ((rd_T93 x4_2 (ji15)).f0), (wrap64 (((rd_T93 x4_2 (ji15)).f1) + x105001_2)), (wrap64 (((rd_T93 x4_2 (ji15)).f2) + x105002_2)), (by first | rfl | (simp; done) | (simp [*]; done)), H', ⟨by have := HK1.out; have := HK2.out; omega⟩, ⟨pR (Kd.R_mono HO112.out (fun _ hk => hk.1))⟩, ⟨by refine bk ?_; exact BK101.out⟩, ⟨by refine bk ?_; exact BK104.out⟩, ⟨pT HB.out⟩⟩
            rw [if_neg c28] at H
            exact absurd H (by simp)
           rw [if_neg c17] at H
           exact absurd H (by simp)
          rw [if_neg c16] at H
          exact absurd H (by simp)
         rw [if_neg c14] at H
         have c14b0 : decide (0 < x8_2) = false := decide_eq_false c14
         clear c14
         by_cases c40 : x4_2.length < 5864062014805
         ·
          rw [if_pos c40] at H
          have LMc40 := Aside0.mk c40
          clear c40
          obtain ⟨y113, hy113⟩ : ∃ y_ : List (S93), y_ = (x4_2 ++ [(⟨x105000_2, x105001_2, x105002_2⟩ : S93)]) := ⟨_, rfl⟩
          replace H : (impl_calibrationOf.l0 k2 y113 l0_0 (l0_0.length : Int) (wrap64 (x18_1 + 1)) l0_0 l0_1) = some (r1, r2) := by first | (rw [hy113]; with_reducible exact H) | (have H2_ := (Option.bind_some _ _).symm.trans H; rw [hy113]; with_reducible exact H2_) | (have H2_ := (Option.bind_some _ _).symm.trans H; with_reducible exact H2_) | with_reducible exact H | (rw [hy113]; exact H) | exact H
          have Ny113 := Aside0.mk hy113
          clear hy113
          have H' := Aside0.mk H
          clear H
          have hnb41 := NB104_101.out
          have hnc41 := NB101_104.out
          obtain ⟨hcz42_0, hcz42_1, hcz42_2, hfz42_0, hfz42_1, hfz42_2⟩ := bc3 BK104.out
          go_wp2_with (first | ((with_reducible refine gate_builtin (b := .append) (xs := #[.tmp 72, .tmp 74]) rfl ?_); at_builtin; refine Kd.R_append k93 (w0 := w) w.heap.size rfl (.tmp 72) (.tmp 74) 91 93 (.agg #[(.int .i64 0), (.int .i64 0), (.int .i64 0)]) 24 rfl Try.underlying91 info93 rfl (by decide) (by omega) u4 x4_2 (⟨x105000_2, x105001_2, x105002_2⟩ : S93) [.int .i64 x105000_2, .int .i64 x105001_2, .int .i64 x105002_2] (fun k_ => k_ ≠ gb104) (fun _ => False) rfl rfl ?aP (fun _ hk => hk.elim) ?aF ?aO ?aB ?aS ?aL ?_; (case aP => exact k93_mkM _ _ _ (⟨x105000_2, x105001_2, x105002_2⟩ : S93)); (case aB => exact (pS HB.out)); (case aF => exact (fun k_ hk => Kd.freshB (g := gb104) (o := .cells #[.int .i64 x105000_2, .int .i64 x105001_2, .int .i64 x105002_2] 93 (0, 0)) (pB BK104.out) k_ hk)); (case aO => exact (pR HO_4.out)); (case aS => exact (below_size (pS HB.out))); (case aL => have := LMc40.out; omega); intro v114 w43 ho hb hg hat; rw [← Ny113.out] at ho; have n0_ := aK (blk_grown (pB BK101.out) hg (Kd.R_ne HO_4.out BK101.out (by decide))); have n1_ := aK (blk_grown (pB BK104.out) hg (Kd.R_away HO_4.out (fun _ hk => hk))); have n2_ := aK (hb); have HO115 := aK (ho); clear BK101 BK104 HB HO_4; have BK101 := n0_; have BK104 := n1_; have HB := n2_; clear n0_ n1_ n2_; clear ho hb hg hat))
          go_roundg k2
          case measure => have := HK1.out; have := HK2.out; omega
          case rel => exact ⟨(y113), (wrap64 (x18_1 + 1)), (by first | rfl | (simp; done) | (simp [*]; done)), H', ⟨by have := HK1.out; have := HK2.out; omega⟩, ⟨pR (Kd.R_mono HO115.out (fun _ hk => trivial))⟩, ⟨by refine bk ?_; exact BK101.out⟩, ⟨pT HB.out⟩⟩
         rw [if_neg c40] at H
         exact absurd H (by simp)
      rw [if_neg c8] at H
      exact absurd H (by simp)
     rw [if_neg c6] at H
     exact absurd H (by simp)
    rw [if_neg c5] at H
    exact absurd H (by simp)
   rw [if_neg c4] at H
   have c4b0 : decide (x18_1 < (l0_0.length : Int)) = false := decide_eq_false c4
   clear c4
   by_cases c44 : (x4_1.length : Int) = 0
   ·
    rw [if_pos c44] at H
    have c44b0 : ((x4_1.length : Int) == 0) = true := beq_iff_eq.mpr c44
    have c44b1 : ((x4_1.length : Int) != 0) = false := bne_eq_false_iff_eq.mpr c44
    clear c44
    simp only [Option.some.injEq, Prod.mk.injEq] at H
    obtain ⟨rfl, rfl⟩ := H
    obtain ⟨Ao45, co45, eo45⟩ := Kd.R_slice HO_4.out
    subst eo45
    go_wp2
    go_ret2
    exact ⟨_, er, by first | exact Kd.R_nil _ _ _ _ _ | exact Kd.N_nil _ _ _ _ _ | exact Kd.V_nil _ _ _ _ _ | exact Kd.Q_nil _ _ _ _ _ | exact Kd.S_nil _ _ _ _ _, pT HB.out⟩
   rw [if_neg c44] at H
   have c44b0 : ((x4_1.length : Int) == 0) = false := beq_eq_false_iff_ne.mpr c44
   have c44b1 : ((x4_1.length : Int) != 0) = true := bne_iff_ne.mpr c44
   have c44b2 : ¬ (x4_1 = []) := fun h_ => c44 (by rw [h_]; rfl)
   by_cases c46 : 11 ≤ 17592186044416
   ·
    rw [if_pos c46] at H
    have c46b0 := eq_true c46
    have c46b1 : decide (11 ≤ 17592186044416) = true := decide_eq_true c46
    clear c46
    obtain ⟨y116, hy116⟩ : ∃ y_ : List (S33), y_ = (List.replicate 11 z33) := ⟨_, rfl⟩
    replace H : (impl_calibrationOf.l2 k1 x4_1 y116 (y116.length : Int) 0) = some (r1, r2) := by first | (rw [hy116]; with_reducible exact H) | (have H2_ := (Option.bind_some _ _).symm.trans H; rw [hy116]; with_reducible exact H2_) | (have H2_ := (Option.bind_some _ _).symm.trans H; with_reducible exact H2_) | with_reducible exact H | (rw [hy116]; exact H) | exact H
    have Ny116 := Aside0.mk hy116
    clear hy116
    have H' := Aside0.mk H
    clear H
    obtain ⟨Ao47, co47, eo47⟩ := Kd.R_slice HO_4.out
    subst eo47
    go_wp2_with (first | ((with_reducible refine gate_dst (N := 80) rfl ?_); refine Kd.R_make k33 _ 33 rfl (N := 80) rfl 43 _ _ rfl 11 rfl rfl Try.underlying43 (.agg #[(.int .i64 0), (.int .i64 0)]) 16 info33 rfl (by decide) (by omega) z33 (ok := fun _ => True) (okp := fun _ => True) (k33_mkM _ _ _ z33 ) (fun _ hk => hk) trivial (by omega) (by omega) (Below.refl _ _) (Nat.le_refl _) ?_; intro v117 w48 ho49 hb hg_ hnew_; clear hg_ hnew_; (first | rw [← Ny116.out] at ho49 | (simp only [Int.reduceToNat] at ho49; rw [← Ny116.out] at ho49)); have n0_ := aK (Kd.R_below (pR HO_4.out) hb); have HO118 := aK (Kd.R_lower ho49 (below_size (pS HB.out))); replace BK101 := bB BK101 hb; replace HB := bS HB hb; clear HO_4; have HO_4 := n0_; clear n0_ hb ho49; obtain ⟨Ao50, co50, eo50⟩ := Kd.R_slice HO118.out; subst eo50))
    go_loopg [83] k1 (fun kq v83 w' => ∃ (x10_2 : List (S33)) (x83_2 : Int), v83 = .int .i64 x83_2 ∧ Aside0 (impl_calibrationOf.l2 kq x4_1 x10_2 (y116.length : Int) x83_2 = some (r1, r2)) ∧ Aside0 (kq ≤ k1) ∧ Aside0 (Kd.R k93 93 w' w.heap.size (fun _ => True) (.slice Ao47 x4_1.length co47) x4_1) ∧ Aside0 (Kd.R k33 33 w' w.heap.size (fun _ => True) (.slice Ao50 y116.length co50) x10_2) ∧ Aside0 (w'.heap[gb101]? = some (.cells #[(.slice A0_0 l0_0.length c0_0), (.slice A0_1 l0_1.length c0_1)] 26 (0, 0))) ∧ Aside0 (Below w.heap.size w w'))
    case atStart => exact ⟨(y116), (0), (by first | rfl | (simp; done) | (simp [*]; done)), H', ⟨Nat.le_refl _⟩, ⟨pR HO_4.out⟩, ⟨pR HO118.out⟩, ⟨by refine bk ?_; exact BK101.out⟩, ⟨pT HB.out⟩⟩
    case round =>
     clear H'
     try clear c1
     try clear p1
     try clear q1
     try clear hx1
     try clear c2
     try clear p2
     try clear c3
     try clear q3
     try clear c4
     try clear c4b0
     try clear c5
     try clear c5b0
     try clear c6
     try clear c6b0
     try clear p6
     try clear c7
     try clear c7b0
     try clear c7b1
     try clear c8
     try clear c8b0
     try clear p10
     try clear q10
     try clear hx10
     try clear c11
     try clear c14
     try clear c14b0
     try clear c16
     try clear c16b0
     try clear c17
     try clear c17b0
     try clear c18
     try clear c18b0
     try clear c19
     try clear c22
     try clear c23
     try clear c25
     try clear c28
     try clear c28b0
     try clear c28b1
     try clear c31
     try clear c32
     try clear c36
     try clear q39
     try clear c40
     try clear c41
     try clear c44
     try clear c44b0
     try clear c44b1
     try clear c44b2
     try clear c46
     try clear c46b0
     try clear c46b1
     try clear hcz12_0
     try clear hcz12_1
     try clear hcz12_2
     try clear hcz24_0
     try clear hcz24_1
     try clear hcz24_2
     try clear hcz26_0
     try clear hcz26_1
     try clear hcz26_2
     try clear hcz33_0
     try clear hcz33_1
     try clear hcz33_2
     try clear hcz35_0
     try clear hcz35_1
     try clear hcz35_2
     try clear hcz37_0
     try clear hcz37_1
     try clear hcz37_2
     try clear hcz3_0
     try clear hcz3_1
     try clear hcz42_0
     try clear hcz42_1
     try clear hcz42_2
     try clear hcz9_0
     try clear hcz9_1
     try clear hfz12_0
     try clear hfz12_1
     try clear hfz12_2
     try clear hfz24_0
     try clear hfz24_1
     try clear hfz24_2
     try clear hfz26_0
     try clear hfz26_1
     try clear hfz26_2
     try clear hfz33_0
     try clear hfz33_1
     try clear hfz33_2
     try clear hfz35_0
     try clear hfz35_1
     try clear hfz35_2
     try clear hfz37_0
     try clear hfz37_1
     try clear hfz37_2
     try clear hfz3_0
     try clear hfz3_1
     try clear hfz42_0
     try clear hfz42_1
     try clear hfz42_2
     try clear hfz9_0
     try clear hfz9_1
     try clear hx102_0
     try clear hx103_0
     try clear hx105_0
     try clear hx105_1
     try clear hx105_2
     try clear p1
     try clear p10
     try clear p102
     try clear p103
     try clear p105
     try clear p2
     try clear p6
     try clear q1
     try clear q10
     try clear q102
     try clear q103
     try clear q105
     try clear q39
     obtain ⟨x10_2, x83_2, rfl, HA, HK2, HO_4, HO_10, BK101, HB⟩ := hrel
     have hl10_2 := (Kd.R_reads' HO_10.out).1
     rw [hl10_2] at HO_10
     (try simp only [hl10_2])
     (try simp only [hl10_2] at BK101)
     (try simp only [hl10_2] at HO_4)
     cases gk with
     | zero => exact absurd HA.out (by simp [impl_calibrationOf.l2])
     | succ k2 =>
      have H := HA.out
      clear HA
      simp only [impl_calibrationOf.l2] at H
      by_cases c51 : x83_2 < (y116.length : Int)
      ·
       rw [if_pos c51] at H
       have c51b0 : decide (x83_2 < (y116.length : Int)) = true := decide_eq_true c51
       (try simp only [hl10_2] at c51b0)
       clear c51
       have H' := Aside0.mk H
       clear H
       go_wp2
       go_loopg [12, 88] k2 (fun kq v12 v88 w' => ∃ (x12_3 : Int) (x88_3 : Int), v12 = .int .i64 x12_3 ∧ v88 = .int .i64 x88_3 ∧ Aside0 (impl_calibrationOf.l3 kq x4_1 x10_2 x83_2 x12_3 (y116.length : Int) x83_2 x4_1 (x4_1.length : Int) x88_3 = some (r1, r2)) ∧ Aside0 (kq ≤ k2) ∧ Aside0 (Kd.R k93 93 w' w.heap.size (fun _ => True) (.slice Ao47 x4_1.length co47) x4_1) ∧ Aside0 (Kd.R k33 33 w' w.heap.size (fun _ => True) (.slice Ao50 x10_2.length co50) x10_2) ∧ Aside0 (Kd.R k93 93 w' w.heap.size (fun _ => True) (.slice Ao47 x4_1.length co47) x4_1) ∧ Aside0 (w'.heap[gb101]? = some (.cells #[(.slice A0_0 l0_0.length c0_0), (.slice A0_1 l0_1.length c0_1)] 26 (0, 0))) ∧ Aside0 (Below w.heap.size w w'))
       case atStart => exact ⟨(0), (0), (by first | rfl | (simp; done) | (simp [*]; done)), (by first | rfl | (simp; done) | (simp [*]; done)), H', ⟨Nat.le_refl _⟩, ⟨by (try simp only [hl10_2]); (with_reducible repeat (first | apply Kd.R_alloc | apply Kd.R_drewN | apply Kd.R_drew)); exact HO_4.out⟩, ⟨by (try simp only [hl10_2]); (with_reducible repeat (first | apply Kd.R_alloc | apply Kd.R_drewN | apply Kd.R_drew)); exact HO_10.out⟩, ⟨by (try simp only [hl10_2]); (with_reducible repeat (first | apply Kd.R_alloc | apply Kd.R_drewN | apply Kd.R_drew)); exact HO_4.out⟩, ⟨by (try simp only [hl10_2]); refine bk ?_; exact BK101.out⟩, ⟨pT HB.out⟩⟩
       case round =>
        clear H'
        try clear c1
        try clear p1
        try clear q1
        try clear hx1
        try clear c2
        try clear p2
        try clear c3
        try clear q3
        try clear c4
        try clear c4b0
        try clear c5
        try clear c5b0
        try clear c6
        try clear c6b0
        try clear p6
        try clear c7
        try clear c7b0
        try clear c7b1
        try clear c8
        try clear c8b0
        try clear p10
        try clear q10
        try clear hx10
        try clear c11
        try clear c14
        try clear c14b0
        try clear c16
        try clear c16b0
        try clear c17
        try clear c17b0
        try clear c18
        try clear c18b0
        try clear c19
        try clear c22
        try clear c23
        try clear c25
        try clear c28
        try clear c28b0
        try clear c28b1
        try clear c31
        try clear c32
        try clear c36
        try clear q39
        try clear c40
        try clear c41
        try clear c44
        try clear c44b0
        try clear c44b1
        try clear c44b2
        try clear c46
        try clear c46b0
        try clear c46b1
        try clear c51
        try clear c51b0
        try clear hcz12_0
        try clear hcz12_1
        try clear hcz12_2
        try clear hcz24_0
        try clear hcz24_1
        try clear hcz24_2
        try clear hcz26_0
        try clear hcz26_1
        try clear hcz26_2
        try clear hcz33_0
        try clear hcz33_1
        try clear hcz33_2
        try clear hcz35_0
        try clear hcz35_1
        try clear hcz35_2
        try clear hcz37_0
        try clear hcz37_1
        try clear hcz37_2
        try clear hcz3_0
        try clear hcz3_1
        try clear hcz42_0
        try clear hcz42_1
        try clear hcz42_2
        try clear hcz9_0
        try clear hcz9_1
        try clear hfz12_0
        try clear hfz12_1
        try clear hfz12_2
        try clear hfz24_0
        try clear hfz24_1
        try clear hfz24_2
        try clear hfz26_0
        try clear hfz26_1
        try clear hfz26_2
        try clear hfz33_0
        try clear hfz33_1
        try clear hfz33_2
        try clear hfz35_0
        try clear hfz35_1
        try clear hfz35_2
        try clear hfz37_0
        try clear hfz37_1
        try clear hfz37_2
        try clear hfz3_0
        try clear hfz3_1
        try clear hfz42_0
        try clear hfz42_1
        try clear hfz42_2
        try clear hfz9_0
        try clear hfz9_1
        try clear hx102_0
        try clear hx103_0
        try clear hx105_0
        try clear hx105_1
        try clear hx105_2
        try clear p1
        try clear p10
        try clear p102
        try clear p103
        try clear p105
        try clear p2
        try clear p6
        try clear q1
        try clear q10
        try clear q102
        try clear q103
        try clear q105
        try clear q3
        try clear q39
        obtain ⟨x12_3, x88_3, rfl, rfl, HA, HK3, HO_4, HO_10, HO_86, BK101, HB⟩ := hrel
        cases gk with
        | zero => exact absurd HA.out (by simp [impl_calibrationOf.l3])
        | succ k3 =>
         have H := HA.out
         clear HA
         simp only [impl_calibrationOf.l3] at H
         by_cases c52 : x88_3 < (x4_1.length : Int)
         ·
          rw [if_pos c52] at H
          have c52b0 : decide (x88_3 < (x4_1.length : Int)) = true := decide_eq_true c52
          (try simp only [hl10_2] at c52b0)
          clear c52
          by_cases c53 : 0 ≤ x88_3
          ·
           rw [if_pos c53] at H
           have c53b0 : decide (0 ≤ x88_3) = true := decide_eq_true c53
           clear c53
           by_cases c54 : x88_3 < (x4_1.length : Int)
           ·
            rw [if_pos c54] at H
            have c54b0 : decide (x88_3 < (x4_1.length : Int)) = true := decide_eq_true c54
            (try simp only [hl10_2] at c54b0)
            clear c54
            by_cases c55 : ((rd_T93 x4_1 x88_3).f0) ≤ x83_2
            ·
             rw [if_pos c55] at H
             have c55b0 : decide (((rd_T93 x4_1 x88_3).f0) ≤ x83_2) = true := decide_eq_true c55
             clear c55
             have H' := Aside0.mk H
             clear H
             have p119 : 0 ≤ (x88_3 : Int) := of_decide_eq_true (by first | (with_reducible assumption) | assumption)
             have q119 : x88_3 < (x4_1.length : Int) := of_decide_eq_true (by first | (with_reducible assumption) | assumption)
             obtain ⟨ad119, e119, hx119_0, hx119_1, hx119_2⟩ := at_T93 (Kd.R_reads' HO_86.out).2.2 x88_3 p119 q119
             cases e119
             replace p119 := eq_true p119
             replace q119 := eq_true q119
             go_wp2_with (first | ((with_reducible refine gate_dst (N := 14) rfl ?_); refine bxe (cs := #[.int .i64 0, .int .i64 0, .int .i64 0]) (t := 93) ?_; intro gb120 hg w56 hbox hb; have n0_ := aK (Kd.R_below (Kd.R_elderB (pR HO_4.out) gb120 (Nat.le_of_eq hg.symm)) hb); have n1_ := aK (Kd.R_below (pR HO_10.out) hb); have n2_ := aK (Kd.R_below (Kd.R_elderB (pR HO_86.out) gb120 (Nat.le_of_eq hg.symm)) hb); have BK120 := aK (hbox); have GW120 := aK (gE hg (pS HB.out)); have GE120 := GW120; obtain ⟨NB101_120, NB120_101⟩ := nb hg (pB BK101.out); replace BK101 := bB BK101 hb; replace HB := bS HB hb; clear HO_4 HO_10 HO_86; have HO_4 := n0_; have HO_10 := n1_; have HO_86 := n2_; clear n0_ n1_ n2_ hb hbox hg; have hnb57 := NB120_101.out; have hnc57 := NB101_120.out; obtain ⟨hcz58_0, hcz58_1, hcz58_2, hfz58_0, hfz58_1, hfz58_2⟩ := bc3 BK120.out))
             go_roundg k3
             case measure => have := HK1.out; have := HK2.out; have := HK3.out; omega
             case rel => exact ⟨(x88_3), (wrap64 (x88_3 + 1)), (by first | rfl | (simp; done) | (simp [*]; done)), (by first | rfl | (simp; done) | (simp [*]; done)), H', ⟨by have := HK1.out; have := HK2.out; have := HK3.out; omega⟩, ⟨by (try simp only [hl10_2]); (with_reducible repeat (first | apply Kd.R_alloc | apply Kd.R_drewN | apply Kd.R_drew)); exact Kd.R_mono (Kd.R_far (p := ⟨gb120, 2, none⟩) (Kd.R_far (p := ⟨gb120, 1, none⟩) (Kd.R_far (p := ⟨gb120, 0, none⟩) (Kd.R_mono HO_4.out (fun k_ hk => (⟨hk, hk.2⟩ : _ ∧ k_ ≠ gb120))) (fun _ hk => hk.2) (.int .i64 ((rd_T93 x4_1 x88_3).f0))) (fun _ hk => hk.2) (.int .i64 ((rd_T93 x4_1 x88_3).f1))) (fun _ hk => hk.2) (.int .i64 ((rd_T93 x4_1 x88_3).f2))) (fun _ hk => trivial)⟩, ⟨by (try simp only [hl10_2]); (with_reducible repeat (first | apply Kd.R_alloc | apply Kd.R_drewN | apply Kd.R_drew)); exact Kd.R_mono (rF3 HO_10.out BK120.out (.int .i64 ((rd_T93 x4_1 x88_3).f0)) (.int .i64 ((rd_T93 x4_1 x88_3).f1)) (.int .i64 ((rd_T93 x4_1 x88_3).f2))) (fun _ h => trivial)⟩, ⟨by (try simp only [hl10_2]); (with_reducible repeat (first | apply Kd.R_alloc | apply Kd.R_drewN | apply Kd.R_drew)); exact Kd.R_mono (Kd.R_far (p := ⟨gb120, 2, none⟩) (Kd.R_far (p := ⟨gb120, 1, none⟩) (Kd.R_far (p := ⟨gb120, 0, none⟩) (Kd.R_mono HO_86.out (fun k_ hk => (⟨hk, hk.2⟩ : _ ∧ k_ ≠ gb120))) (fun _ hk => hk.2) (.int .i64 ((rd_T93 x4_1 x88_3).f0))) (fun _ hk => hk.2) (.int .i64 ((rd_T93 x4_1 x88_3).f1))) (fun _ hk => hk.2) (.int .i64 ((rd_T93 x4_1 x88_3).f2))) (fun _ hk => trivial)⟩, ⟨by (try simp only [hl10_2]); refine bk ?_; refine blk_far ?_ NB101_120.out _; refine bk ?_; refine blk_far ?_ NB101_120.out _; refine bk ?_; refine blk_far ?_ NB101_120.out _; refine bk ?_; exact BK101.out⟩, ⟨pT HB.out⟩⟩
            rw [if_neg c55] at H
            have c55b0 : decide (((rd_T93 x4_1 x88_3).f0) ≤ x83_2) = false := decide_eq_false c55
            clear c55
            have H' := Aside0.mk H
            clear H
            have p119 : 0 ≤ (x88_3 : Int) := of_decide_eq_true (by first | (with_reducible assumption) | assumption)
            have q119 : x88_3 < (x4_1.length : Int) := of_decide_eq_true (by first | (with_reducible assumption) | assumption)
            obtain ⟨ad119, e119, hx119_0, hx119_1, hx119_2⟩ := at_T93 (Kd.R_reads' HO_86.out).2.2 x88_3 p119 q119
            cases e119
            replace p119 := eq_true p119
            replace q119 := eq_true q119
            go_wp2_with (first | ((with_reducible refine gate_dst (N := 14) rfl ?_); refine bxe (cs := #[.int .i64 0, .int .i64 0, .int .i64 0]) (t := 93) ?_; intro gb120 hg w59 hbox hb; have n0_ := aK (Kd.R_below (Kd.R_elderB (pR HO_4.out) gb120 (Nat.le_of_eq hg.symm)) hb); have n1_ := aK (Kd.R_below (pR HO_10.out) hb); have n2_ := aK (Kd.R_below (Kd.R_elderB (pR HO_86.out) gb120 (Nat.le_of_eq hg.symm)) hb); have BK120 := aK (hbox); have GW120 := aK (gE hg (pS HB.out)); have GE120 := GW120; obtain ⟨NB101_120, NB120_101⟩ := nb hg (pB BK101.out); replace BK101 := bB BK101 hb; replace HB := bS HB hb; clear HO_4 HO_10 HO_86; have HO_4 := n0_; have HO_10 := n1_; have HO_86 := n2_; clear n0_ n1_ n2_ hb hbox hg; have hnb60 := NB120_101.out; have hnc60 := NB101_120.out; obtain ⟨hcz61_0, hcz61_1, hcz61_2, hfz61_0, hfz61_1, hfz61_2⟩ := bc3 BK120.out))
            go_roundg k3
            case measure => have := HK1.out; have := HK2.out; have := HK3.out; omega
            case rel => exact ⟨(x12_3), (wrap64 (x88_3 + 1)), (by first | rfl | (simp; done) | (simp [*]; done)), (by first | rfl | (simp; done) | (simp [*]; done)), H', ⟨by have := HK1.out; have := HK2.out; have := HK3.out; omega⟩, ⟨by (try simp only [hl10_2]); (with_reducible repeat (first | apply Kd.R_alloc | apply Kd.R_drewN | apply Kd.R_drew)); exact Kd.R_mono (Kd.R_far (p := ⟨gb120, 2, none⟩) (Kd.R_far (p := ⟨gb120, 1, none⟩) (Kd.R_far (p := ⟨gb120, 0, none⟩) (Kd.R_mono HO_4.out (fun k_ hk => (⟨hk, hk.2⟩ : _ ∧ k_ ≠ gb120))) (fun _ hk => hk.2) (.int .i64 ((rd_T93 x4_1 x88_3).f0))) (fun _ hk => hk.2) (.int .i64 ((rd_T93 x4_1 x88_3).f1))) (fun _ hk => hk.2) (.int .i64 ((rd_T93 x4_1 x88_3).f2))) (fun _ hk => trivial)⟩, ⟨by (try simp only [hl10_2]); (with_reducible repeat (first | apply Kd.R_alloc | apply Kd.R_drewN | apply Kd.R_drew)); exact Kd.R_mono (rF3 HO_10.out BK120.out (.int .i64 ((rd_T93 x4_1 x88_3).f0)) (.int .i64 ((rd_T93 x4_1 x88_3).f1)) (.int .i64 ((rd_T93 x4_1 x88_3).f2))) (fun _ h => trivial)⟩, ⟨by (try simp only [hl10_2]); (with_reducible repeat (first | apply Kd.R_alloc | apply Kd.R_drewN | apply Kd.R_drew)); exact Kd.R_mono (Kd.R_far (p := ⟨gb120, 2, none⟩) (Kd.R_far (p := ⟨gb120, 1, none⟩) (Kd.R_far (p := ⟨gb120, 0, none⟩) (Kd.R_mono HO_86.out (fun k_ hk => (⟨hk, hk.2⟩ : _ ∧ k_ ≠ gb120))) (fun _ hk => hk.2) (.int .i64 ((rd_T93 x4_1 x88_3).f0))) (fun _ hk => hk.2) (.int .i64 ((rd_T93 x4_1 x88_3).f1))) (fun _ hk => hk.2) (.int .i64 ((rd_T93 x4_1 x88_3).f2))) (fun _ hk => trivial)⟩, ⟨by (try simp only [hl10_2]); refine bk ?_; refine blk_far ?_ NB101_120.out _; refine bk ?_; refine blk_far ?_ NB101_120.out _; refine bk ?_; refine blk_far ?_ NB101_120.out _; refine bk ?_; exact BK101.out⟩, ⟨pT HB.out⟩⟩
           rw [if_neg c54] at H
           exact absurd H (by simp)
          rw [if_neg c53] at H
          exact absurd H (by simp)
         rw [if_neg c52] at H
         have c52b0 : decide (x88_3 < (x4_1.length : Int)) = false := decide_eq_false c52
         (try simp only [hl10_2] at c52b0)
         clear c52
         by_cases c62 : 0 ≤ x12_3
         ·
          rw [if_pos c62] at H
          have c62b0 : decide (0 ≤ x12_3) = true := decide_eq_true c62
          clear c62
          by_cases c63 : x12_3 < (x4_1.length : Int)
          ·
           rw [if_pos c63] at H
           have c63b0 : decide (x12_3 < (x4_1.length : Int)) = true := decide_eq_true c63
           (try simp only [hl10_2] at c63b0)
           clear c63
           replace H := Option.bind_eq_some_iff.mp H
           obtain ⟨⟨t123, t124⟩, A640, H⟩ := H
           replace H : (if 0 ≤ x83_2 then (if x83_2 < (x10_2.length : Int) then (impl_calibrationOf.l2 k3 x4_1 (x10_2.set (x83_2 : Int).toNat (⟨t123, t124⟩ : S33)) (y116.length : Int) (wrap64 (x83_2 + 1))) else (none)) else (none)) = some (r1, r2) := H
           have A64 := Aside0.mk A640
           clear A640
           by_cases c65 : 0 ≤ x83_2
           ·
            rw [if_pos c65] at H
            have c65b0 : decide (0 ≤ x83_2) = true := decide_eq_true c65
            clear c65
            by_cases c66 : x83_2 < (x10_2.length : Int)
            ·
             rw [if_pos c66] at H
             have c66b0 : decide (x83_2 < (x10_2.length : Int)) = true := decide_eq_true c66
             (try simp only [hl10_2] at c66b0)
             clear c66
             obtain ⟨y125, hy125⟩ : ∃ y_ : List (S33), y_ = (x10_2.set (x83_2 : Int).toNat (⟨t123, t124⟩ : S33)) := ⟨_, rfl⟩
             replace H : (impl_calibrationOf.l2 k3 x4_1 y125 (y116.length : Int) (wrap64 (x83_2 + 1))) = some (r1, r2) := by first | (rw [hy125]; with_reducible exact H) | (have H2_ := (Option.bind_some _ _).symm.trans H; rw [hy125]; with_reducible exact H2_) | (have H2_ := (Option.bind_some _ _).symm.trans H; with_reducible exact H2_) | with_reducible exact H | (rw [hy125]; exact H) | exact H
             have Ny125 := Aside0.mk hy125
             clear hy125
             have H' := Aside0.mk H
             clear H
             try go_wp2
             have n0_ := aK (Kd.R_drew HO_4.out)
             have n1_ := aK (Kd.R_drew HO_10.out)
             have n2_ := aK (Kd.R_drew HO_86.out)
             have n3_ := aK (blk_drew BK101.out)
             have n4_ := aK (below_drew1 HB.out)
             clear HO_4 HO_10 HO_86 BK101 HB
             have HO_4 := n0_
             have HO_10 := n1_
             have HO_86 := n2_
             have BK101 := n3_
             have HB := n4_
             clear n0_ n1_ n2_ n3_ n4_
             have p121 : 0 ≤ (x12_3 : Int) := of_decide_eq_true (by first | (with_reducible assumption) | assumption)
             have q121 : x12_3 < (x4_1.length : Int) := of_decide_eq_true (by first | (with_reducible assumption) | assumption)
             obtain ⟨ad121, e121, hx121_0, hx121_1, hx121_2⟩ := at_T93 (Kd.R_reads' HO_4.out).2.2 x12_3 p121 q121
             cases e121
             replace p121 := eq_true p121
             replace q121 := eq_true q121
             have p122 : 0 ≤ (x12_3 : Int) := of_decide_eq_true (by first | (with_reducible assumption) | assumption)
             have q122 : x12_3 < (x4_1.length : Int) := of_decide_eq_true (by first | (with_reducible assumption) | assumption)
             obtain ⟨ad122, e122, hx122_0, hx122_1, hx122_2⟩ := at_T93 (Kd.R_reads' HO_4.out).2.2 x12_3 p122 q122
             obtain rfl : ad121 = ad122 := (by injection e122)
             replace p122 := eq_true p122
             replace q122 := eq_true q122
             refine start_ (n := 15) (S := fun w' => w'.cell? (ad121.add ((x12_3).toNat * 3)) = some (.int .i64 ((rd_T93 x4_1 x12_3).f0)) ∧ w'.cell? ⟨(ad121.add ((x12_3).toNat * 3)).block, (ad121.add ((x12_3).toNat * 3)).off + 1, none⟩ = some (.int .i64 ((rd_T93 x4_1 x12_3).f1)) ∧ w'.cell? ⟨(ad121.add ((x12_3).toNat * 3)).block, (ad121.add ((x12_3).toNat * 3)).off + 2, none⟩ = some (.int .i64 ((rd_T93 x4_1 x12_3).f2)) ∧ w'.cell? (ad121.add ((x12_3).toNat * 3)) = some (.int .i64 ((rd_T93 x4_1 x12_3).f0)) ∧ w'.cell? ⟨(ad121.add ((x12_3).toNat * 3)).block, (ad121.add ((x12_3).toNat * 3)).off + 1, none⟩ = some (.int .i64 ((rd_T93 x4_1 x12_3).f1)) ∧ w'.cell? ⟨(ad121.add ((x12_3).toNat * 3)).block, (ad121.add ((x12_3).toNat * 3)).off + 2, none⟩ = some (.int .i64 ((rd_T93 x4_1 x12_3).f2))) (ds := [14]) #[false, false, false, false, false, false, false, false, false, false, false, false, false, false, false] (by kernel_rfl) rfl rfl ⟨hx121_0, hx121_1, hx121_2, hx122_0, hx122_1, hx122_2⟩ (fun hHeld => ?_); refine with_tabW impl_calibrationOf.tab29 impl_calibrationOf.bits29 (fun HT_ HW_ => ?_)
             generalize wr.drew = w68 at HO_4 HO_10 HO_86 BK101 HB hx121_0 hx121_1 hx121_2 hx122_0 hx122_1 hx122_2 hHeld ⊢
             refine pu (i := 0) (N := some 99) #[true, false, false, false, false, false, false, false, false, false, false, false, false, false, false] rfl rfl HT_.out ?_
             refine pu (i := 1) (N := some 100) #[true, true, false, false, false, false, false, false, false, false, false, false, false, false, false] rfl rfl HT_.out ?_
             refine pu (i := 2) (N := some 101) #[true, true, true, false, false, false, false, false, false, false, false, false, false, false, false] rfl rfl HT_.out ?_
             refine pu (i := 3) (N := some 102) #[true, true, true, true, false, false, false, false, false, false, false, false, false, false, false] rfl rfl HT_.out ?_
             refine pu (i := 4) (N := some 103) #[true, true, true, true, true, false, false, false, false, false, false, false, false, false, false] rfl rfl HT_.out ?_
             refine pu (i := 5) (N := some 104) #[true, true, true, true, true, true, false, false, false, false, false, false, false, false, false] rfl rfl HT_.out ?_
             refine pu (i := 7) (N := some 106) #[true, true, true, true, true, true, false, true, false, false, false, false, false, false, false] rfl rfl HT_.out ?_
             refine pu (i := 8) (N := some 107) #[true, true, true, true, true, true, false, true, true, false, false, false, false, false, false] rfl rfl HT_.out ?_
             refine pu (i := 9) (N := some 108) #[true, true, true, true, true, true, false, true, true, true, false, false, false, false, false] rfl rfl HT_.out ?_
             refine pu (i := 10) (N := some 109) #[true, true, true, true, true, true, false, true, true, true, true, false, false, false, false] rfl rfl HT_.out ?_
             refine tk (i := 6) (N := some 105) #[true, true, true, true, true, true, true, true, true, true, true, false, false, false, false] rfl rfl HT_.out HW_.out (Or.inl ⟨by rfl, by rintro w' ⟨s0, s1, s2, s3, s4, s5⟩; go_simp; with_reducible rfl⟩) hHeld ?_
             refine tk (i := 11) (N := some 110) #[true, true, true, true, true, true, true, true, true, true, true, true, false, false, false] rfl rfl HT_.out HW_.out (Or.inl ⟨by rfl, by rintro w' ⟨s0, s1, s2, s3, s4, s5⟩; go_simp; with_reducible rfl⟩) hHeld ?_
             refine one_ (i := 12) (N := some 111) #[true, true, true, true, true, true, true, true, true, true, true, true, true, false, false] rfl rfl (one_of HT_.out (by kernel_rfl)) (by decide) (fun K hK => ?_)
             refine goes_ Try.func48 (by kernel_rfl) rfl #[.int .i64 ((rd_T93 x4_1 x12_3).f2), .int .i64 ((rd_T93 x4_1 x12_3).f1)] (by rfl) rfl rfl (by (try simp only [List.map_toArray, List.map_cons, List.map_nil]); first | done | rfl | (simp only [List.length_drop, List.length_take]; rfl)) ?_
             with_reducible refine (impl_shareOf.calls k3 ((rd_T93 x4_1 x12_3).f2) ((rd_T93 x4_1 x12_3).f1) t123 t124 _ A64.out).mono ?_
             rintro e w69 ⟨rfl, hb⟩
             have HS0_ := (hb.cell (World.block_lt_of_cell? _ _ (hHeld.1))).trans (hHeld.1)
             have HS1_ := (hb.cell (World.block_lt_of_cell? _ _ (hHeld.2.1))).trans (hHeld.2.1)
             have HS2_ := (hb.cell (World.block_lt_of_cell? _ _ (hHeld.2.2.1))).trans (hHeld.2.2.1)
             have HS3_ := (hb.cell (World.block_lt_of_cell? _ _ (hHeld.2.2.2.1))).trans (hHeld.2.2.2.1)
             have HS4_ := (hb.cell (World.block_lt_of_cell? _ _ (hHeld.2.2.2.2.1))).trans (hHeld.2.2.2.2.1)
             have HS5_ := (hb.cell (World.block_lt_of_cell? _ _ (hHeld.2.2.2.2.2))).trans (hHeld.2.2.2.2.2)
             refine ⟨_, rfl, ?_⟩
             have n0_ := aK (Kd.R_below (pR HO_4.out) hb)
             have n1_ := aK (Kd.R_below (pR HO_10.out) hb)
             have n2_ := aK (Kd.R_below (pR HO_86.out) hb)
             replace BK101 := bB BK101 hb
             replace HB := bS HB hb
             clear HO_4 HO_10 HO_86
             have HO_4 := n0_
             have HO_10 := n1_
             have HO_86 := n2_
             clear n0_ n1_ n2_
             (try clear hb)
             (try clear hb2)
             (try clear hk)
             (try clear hi)
             have p67 : 0 ≤ (x83_2 : Int) := of_decide_eq_true (by first | (with_reducible assumption) | assumption)
             have q67 : (x83_2 : Int) < ((x10_2.length : Int) : Int) := of_decide_eq_true (by first | (with_reducible assumption) | assumption)
             obtain ⟨go67, co67, eo67, gb67, gl67, cl67, HG67⟩ := Kd.R_form HO_10.out (by omega)
             (first | cases eo67 | (injection eo67 with ea_ en_ ec_; (first | subst ea_ | (injection ea_ with ea_; subst ea_)); subst ec_; clear en_))
             have GB67 := Aside0.mk gb67
             have GG67 := Aside0.mk HG67
             clear gb67 gl67 HG67
             obtain ⟨ce67, hcl67, hM67, hcc67, hfr67⟩ := Kd.R_elem HO_10.out z33 (x83_2 : Int) p67 q67
             obtain rfl := k33_openM hM67
             have hx67_0 : World.cell? _ ⟨go67, (x83_2 : Int).toNat * 2, none⟩ = some (.int .i64 ((rd_T33 x10_2 x83_2).f0)) := hcc67 0 _ rfl
             have hx67_1 : World.cell? _ ⟨go67, (x83_2 : Int).toNat * 2 + 1, none⟩ = some (.int .i64 ((rd_T33 x10_2 x83_2).f1)) := hcc67 1 _ rfl
             have hf67_0 : World.frozen? _ ⟨go67, (x83_2 : Int).toNat * 2, none⟩ = false := hfr67 0
             have hf67_1 : World.frozen? _ ⟨go67, (x83_2 : Int).toNat * 2 + 1, none⟩ = false := hfr67 1
             clear hcl67 hcc67 hfr67 hM67
             replace p67 := eq_true p67
             replace q67 := eq_true q67
             obtain ⟨ce70, hcl70, hM70, hcc70, hfr70⟩ := Kd.R_elem HO_10.out z33 (x83_2 : Int) (of_decide_eq_true (by first | (with_reducible assumption) | assumption)) (by have h_ : (x83_2 : Int) < ((x10_2.length : Int) : Int) := of_decide_eq_true (by first | (with_reducible assumption) | assumption); first | exact h_ | (have e_ := (Kd.R_reads' HO_10.out).1; omega) | simpa using h_)
             obtain rfl := k33_openM hM70
             have HP70 := (Kd.R_seg HO_10.out (x83_2 : Int) (of_decide_eq_true (by first | (with_reducible assumption) | assumption)) (by have h_ : (x83_2 : Int) < ((x10_2.length : Int) : Int) := of_decide_eq_true (by first | (with_reducible assumption) | assumption); first | exact h_ | (have e_ := (Kd.R_reads' HO_10.out).1; omega) | simpa using h_) (seg := [.int .i64 t123, .int .i64 t124]) (j := 0) hcl70 hcc70 (show 2 ≤ 2 from by decide) (x' := (⟨t123, t124⟩ : S33)) (k33_mkM _ _ _ (⟨t123, t124⟩ : S33) ) (fun _ hk => hk)).1
             rw [← Ny125.out] at HP70
             have HQ70 := Aside0.mk HP70
             clear hcl70 hcc70 hfr70 hM70 HP70
             refine hK.out _ _ ⟨HS0_, HS1_, HS2_, HS3_, HS4_, HS5_⟩ (fun hHeld => ?_)
             clear hK K
             refine norm_ (a' := ?_) ?_ ?_
             rotate_left
             ·
              show Act.put _ (some 111) _ = _
              simp only [sP]
              rfl
             refine pu (i := 13) (N := some 112) #[true, true, true, true, true, true, true, true, true, true, true, true, true, true, false] rfl rfl HT_.out ?_
             refine last_ (i := 14) (N := none) #[true, true, true, true, true, true, true, true, true, true, true, true, true, true, true] rfl rfl (one_of HT_.out (by kernel_rfl)) (by decide) (fun K hK => ?_)
             refine skip_ (w1 := ?_) (by rfl) rfl ?_ ?_
             rotate_left
             ·
              go_simp
              rfl
             refine hK.out _ _ ?_
             clear hK K
             refine done_ (done_of HT_.out (by kernel_rfl)) ?_
             try go_wp2
             (try simp only [← hl10_2])
             go_roundg k3
             case measure => have := HK1.out; have := HK2.out; have := HK3.out; omega
             case rel => exact ⟨(y125), (wrap64 (x83_2 + 1)), (by first | rfl | (simp; done) | (simp [*]; done)), H', ⟨by have := HK1.out; have := HK2.out; have := HK3.out; omega⟩, ⟨by (try simp only [hl10_2]); (with_reducible repeat (first | apply Kd.R_alloc | apply Kd.R_drewN | apply Kd.R_drew)); exact Kd.R_mono (Kd.R_far (p := ⟨go67, (x83_2 : Int).toNat * 2 + 1, none⟩) (Kd.R_far (p := ⟨go67, (x83_2 : Int).toNat * 2, none⟩) (Kd.R_types HO_4.out GG67.out (by decide)) (fun _ hk => hk.2) (.int .i64 t123)) (fun _ hk => hk.2) (.int .i64 t124)) (fun _ hk => trivial)⟩, ⟨by (try simp only [hl10_2]); (with_reducible repeat (first | apply Kd.R_alloc | apply Kd.R_drewN | apply Kd.R_drew)); exact HQ70.out⟩, ⟨by (try simp only [hl10_2]); refine bk ?_; refine blk_far ?_ (by have h_ := Kd.R_ne HO_10.out BK101.out (by decide); intro e_; exact h_ (by rw [e_]; rfl)) _; refine bk ?_; refine blk_far ?_ (by have h_ := Kd.R_ne HO_10.out BK101.out (by decide); intro e_; exact h_ (by rw [e_]; rfl)) _; refine bk ?_; exact BK101.out⟩, ⟨by repeat (first | (with_reducible first | exact HB.out | apply below_alloc | apply pw_below_drewN | apply below_drew1 | refine below_set ?_ GB67.out | refine below_set ?_ GB67.out | refine below_set ?_ GE101.out) | exact HB.out)⟩⟩
            rw [if_neg c66] at H
            exact absurd H (by simp)
           rw [if_neg c65] at H
           exact absurd H (by simp)
          rw [if_neg c63] at H
          exact absurd H (by simp)
         rw [if_neg c62] at H
         exact absurd H (by simp)
      rw [if_neg c51] at H
      have c51b0 : decide (x83_2 < (y116.length : Int)) = false := decide_eq_false c51
      (try simp only [hl10_2] at c51b0)
      clear c51
      simp only [Option.some.injEq, Prod.mk.injEq] at H
      obtain ⟨rfl, rfl⟩ := H
      go_wp2
      go_ret2
      exact ⟨_, er, by (with_reducible repeat (first | apply Kd.R_alloc | apply Kd.R_drewN | apply Kd.R_drew)); exact HO_10.out, pT HB.out⟩
   rw [if_neg c46] at H
   exact absurd H (by simp)
end Go.Proofs.Ytjicgmcogadleaa.P
namespace Go.Proofs.Ytjicgmcogadleaa.P
open Go.RowKit Go.Proofs.YtjicgmcogadleaaW.PrintWords Go.Proofs.YtjicgmcogadleaaW.PrintLast Go.Proofs.YtjicgmcogadleaaW.PrintMore
theorem gate_call {P : Program} (g : FuncId) {args : Array Value} {w : World} {Q : Ending → World → Prop} (h : Calls P g args w Q) : Calls P g args w Q := h
end Go.Proofs.Ytjicgmcogadleaa.P
namespace Go.Proofs.Ytjicgmcogadleaa.P
open Go.RowKit Go.Proofs.YtjicgmcogadleaaW.PrintWords Go.Proofs.YtjicgmcogadleaaW.PrintLast Go.Proofs.YtjicgmcogadleaaW.PrintMore
attribute [local go_sem] max2_int min2_int max_two min_two max_three min_three max_four min_four
set_option linter.unusedVariables false
set_option linter.unusedSimpArgs false
set_option maxHeartbeats 8000000
set_option maxRecDepth 100000
def slices_IndexFunc_Share_at_mp_mpGst33_bool.l0 (p : Int → Int → Option (Bool)) : Nat → List (S33) → Int → Int → Option (Int)
 | 0, _, _, _ => none
 | k + 1, x0, x7, x8 => if x8 < x7 then (if 0 ≤ x8 then (if x8 < (x0.length : Int) then ((p ((rd_T33 x0 x8).f0) ((rd_T33 x0 x8).f1)).bind fun t102 => (if t102 = true then (some x8) else (slices_IndexFunc_Share_at_mp_mpGst33_bool.l0 p k x0 x7 (wrap64 (x8 + 1))))) else (none)) else (none)) else (some (-1))
def slices_IndexFunc_Share_at_mp_mpGst33_bool.f (k : Nat) (p : Int → Int → Option (Bool)) (l0 : List (S33))  : Option (Int) := slices_IndexFunc_Share_at_mp_mpGst33_bool.l0 p k l0 (l0.length : Int) 0
theorem slices_IndexFunc_Share_at_mp_mpGst33_bool.calls (p : Int → Int → Option (Bool)) (g : Nat) (lb : Array Value) (k : Nat) (A0 : Option Addr) (c0 : Nat) (l0 : List (S33))  (r : Int) (w : World) (eg : ∀ args w, (callFunc g args).run Try.prog w = .ok (.enter g args) w) (hp : ∀ (a0_0 : Int) (a0_1 : Int) (r : Bool) (W : World), p a0_0 a0_1 = some r → Below w.heap.size w W → Calls Try.prog g (#[.agg #[.int .i64 a0_0, .int .i64 a0_1]] ++ lb) W fun e W' => e = .returned (.bool r) ∧ Below W.heap.size W W') (hr0 : Kd.C k33 w A0 l0.length l0) (hc0 : l0.length ≤ c0) (h : slices_IndexFunc_Share_at_mp_mpGst33_bool.f k p l0 = some r) :
  Calls Try.prog 53 #[.slice A0 l0.length c0, .func (.func g) #[] lb] w fun e w' => e = .returned (.int .i64 r) ∧ Below w.heap.size w w' := by
 have hu33 := Try.underlying33
 have HR0 := Aside0.mk hr0
 have HC0 := Aside0.mk hc0
 clear hr0 hc0
 have HB := aK (Below.refl w.heap.size w)
 have H : (slices_IndexFunc_Share_at_mp_mpGst33_bool.l0 p k l0 (l0.length : Int) 0) = some r := h
 clear h
 have H' := Aside0.mk H
 clear H
 go_enter Try.func53, Try.ntmps53
 go_wp2
 go_loopg [8] k (fun kq v8 w' => ∃ (x8_1 : Int), v8 = .int .i64 x8_1 ∧ Aside0 (slices_IndexFunc_Share_at_mp_mpGst33_bool.l0 p kq l0 (l0.length : Int) x8_1 = some r) ∧ Aside0 (kq ≤ k) ∧ Aside0 (Below w.heap.size w w'))
 case atStart => exact ⟨(0), (by first | rfl | (simp; done) | (simp [*]; done)), H', ⟨Nat.le_refl _⟩, ⟨pT HB.out⟩⟩
 case round =>
  clear H'
  try clear p2
  obtain ⟨x8_1, rfl, HA, HK1, HB⟩ := hrel
  cases gk with
  | zero => exact absurd HA.out (by simp [slices_IndexFunc_Share_at_mp_mpGst33_bool.l0])
  | succ k1 =>
   have H := HA.out
   clear HA
   simp only [slices_IndexFunc_Share_at_mp_mpGst33_bool.l0] at H
   by_cases c3 : x8_1 < (l0.length : Int)
   ·
    rw [if_pos c3] at H
    have c3b0 : decide (x8_1 < (l0.length : Int)) = true := decide_eq_true c3
    clear c3
    by_cases c4 : 0 ≤ x8_1
    ·
     rw [if_pos c4] at H
     have c4b0 : decide (0 ≤ x8_1) = true := decide_eq_true c4
     clear c4
     by_cases c5 : x8_1 < (l0.length : Int)
     ·
      rw [if_pos c5] at H
      have c5b0 : decide (x8_1 < (l0.length : Int)) = true := decide_eq_true c5
      clear c5
      replace H := Option.bind_eq_some_iff.mp H
      obtain ⟨t102, A60, H⟩ := H
      replace H : (if t102 = true then (some x8_1) else (slices_IndexFunc_Share_at_mp_mpGst33_bool.l0 p k1 l0 (l0.length : Int) (wrap64 (x8_1 + 1)))) = some r := H
      have A6 := Aside0.mk A60
      clear A60
      by_cases c7 : t102 = true
      ·
       subst c7
       have H1 : (some x8_1) = some r := by rw [if_pos rfl] at H; exact H
       clear H
       have H := H1
       clear H1
       obtain rfl := Option.some.inj H
       have p101 : 0 ≤ (x8_1 : Int) := of_decide_eq_true (by first | (with_reducible assumption) | assumption)
       have q101 : x8_1 < (l0.length : Int) := of_decide_eq_true (by first | (with_reducible assumption) | assumption)
       obtain ⟨ad101, e101, hx101_0, hx101_1⟩ := at_T33 HR0.out x8_1 p101 q101
       cases e101
       replace hx101_0 := (HB.out.cell (World.block_lt_of_cell? w _ hx101_0)).trans hx101_0
       replace hx101_1 := (HB.out.cell (World.block_lt_of_cell? w _ hx101_1)).trans hx101_1
       replace p101 := eq_true p101
       replace q101 := eq_true q101
       go_wp2_with (first | ((with_reducible refine gate_call g ?_); (refine (hp ((rd_T33 l0 x8_1).f0) ((rd_T33 l0 x8_1).f1) true _ A6.out (pS HB.out)).mono ?_); rintro e w8 ⟨rfl, hb⟩; replace HB := bS HB hb; (try clear hb); (try clear hb2); (try clear hk); (try clear hi)))
       go_ret
       exact ⟨er, pT HB.out⟩
      replace c7 := Bool.eq_false_iff.mpr c7
      subst c7
      have H1 : (slices_IndexFunc_Share_at_mp_mpGst33_bool.l0 p k1 l0 (l0.length : Int) (wrap64 (x8_1 + 1))) = some r := by rw [if_neg (show ¬ (false = true) by decide)] at H; exact H
      clear H
      have H := H1
      clear H1
      have H' := Aside0.mk H
      clear H
      have p101 : 0 ≤ (x8_1 : Int) := of_decide_eq_true (by first | (with_reducible assumption) | assumption)
      have q101 : x8_1 < (l0.length : Int) := of_decide_eq_true (by first | (with_reducible assumption) | assumption)
      obtain ⟨ad101, e101, hx101_0, hx101_1⟩ := at_T33 HR0.out x8_1 p101 q101
      cases e101
      replace hx101_0 := (HB.out.cell (World.block_lt_of_cell? w _ hx101_0)).trans hx101_0
      replace hx101_1 := (HB.out.cell (World.block_lt_of_cell? w _ hx101_1)).trans hx101_1
      replace p101 := eq_true p101
      replace q101 := eq_true q101
      go_wp2_with (first | ((with_reducible refine gate_call g ?_); (refine (hp ((rd_T33 l0 x8_1).f0) ((rd_T33 l0 x8_1).f1) false _ A6.out (pS HB.out)).mono ?_); rintro e w9 ⟨rfl, hb⟩; replace HB := bS HB hb; (try clear hb); (try clear hb2); (try clear hk); (try clear hi)))
      go_roundg k1
      case measure => have := HK1.out; omega
      case rel => exact ⟨(wrap64 (x8_1 + 1)), (by first | rfl | (simp; done) | (simp [*]; done)), H', ⟨by have := HK1.out; omega⟩, ⟨pT HB.out⟩⟩
     rw [if_neg c5] at H
     exact absurd H (by simp)
    rw [if_neg c4] at H
    exact absurd H (by simp)
   rw [if_neg c3] at H
   have c3b0 : decide (x8_1 < (l0.length : Int)) = false := decide_eq_false c3
   clear c3
   obtain rfl := Option.some.inj H
   go_wp2
   go_ret
   exact ⟨er, pT HB.out⟩
def cmp_isNaN_int.f (a0 : Int) : Option (Bool) := some (a0 != a0)
theorem cmp_isNaN_int.calls (a0 : Int) (r : Bool) (w : World) (h : cmp_isNaN_int.f a0 = some r) :
  Calls Try.prog 77 #[.int .i64 a0] w fun e w' => e = .returned (.bool r) ∧ Drawn0 w w' := by
 have H : (some (a0 != a0)) = some r := h
 clear h
 obtain rfl := Option.some.inj H
 go_enter Try.func77, Try.ntmps77
 go_wp2
 go_ret
 exact ⟨by first | rfl | (simp; done) | (simp [*]; done), by repeat (first | exact Drawn0.refl _ | apply Drawn0.step)⟩
def cmp_Compare_int.f (a0 : Int) (a1 : Int) : Option (Int) := (cmp_isNaN_int.f a0).bind fun t101 => ((cmp_isNaN_int.f a1).bind fun t102 => (if t101 = true then (if t102 = true then (some 0) else (some (-1))) else (if t102 = true then (some 1) else (if a0 < a1 then (some (-1)) else (if a0 > a1 then (some 1) else (some 0))))))
theorem cmp_Compare_int.calls (a0 : Int) (a1 : Int) (r : Int) (w : World) (h : cmp_Compare_int.f a0 a1 = some r) :
  Calls Try.prog 76 #[.int .i64 a0, .int .i64 a1] w fun e w' => e = .returned (.int .i64 r) ∧ Drawn0 w w' := by
 have H : ((cmp_isNaN_int.f a0).bind fun t101 => ((cmp_isNaN_int.f a1).bind fun t102 => (if t101 = true then (if t102 = true then (some 0) else (some (-1))) else (if t102 = true then (some 1) else (if a0 < a1 then (some (-1)) else (if a0 > a1 then (some 1) else (some 0))))))) = some r := h
 clear h
 replace H := Option.bind_eq_some_iff.mp H
 obtain ⟨t101, A30, H⟩ := H
 replace H : ((cmp_isNaN_int.f a1).bind fun t102 => (if t101 = true then (if t102 = true then (some 0) else (some (-1))) else (if t102 = true then (some 1) else (if a0 < a1 then (some (-1)) else (if a0 > a1 then (some 1) else (some 0)))))) = some r := H
 have A3 := Aside0.mk A30
 clear A30
 replace H := Option.bind_eq_some_iff.mp H
 obtain ⟨t102, A40, H⟩ := H
 replace H : (if t101 = true then (if t102 = true then (some 0) else (some (-1))) else (if t102 = true then (some 1) else (if a0 < a1 then (some (-1)) else (if a0 > a1 then (some 1) else (some 0))))) = some r := H
 have A4 := Aside0.mk A40
 clear A40
 by_cases c5 : t101 = true
 ·
  subst c5
  have H1 : (if t102 = true then (some 0) else (some (-1))) = some r := by rw [if_pos rfl] at H; exact H
  clear H
  have H := H1
  clear H1
  by_cases c6 : t102 = true
  ·
   subst c6
   have H1 : (some 0) = some r := by rw [if_pos rfl] at H; exact H
   clear H
   have H := H1
   clear H1
   obtain rfl := Option.some.inj H
   go_enter Try.func76, Try.ntmps76
   go_wp2_with (first | ((with_reducible refine gate_callee (f := 77) rfl ?_); refine gl (some 8) Try.func77 #[.int .i64 a0] ?_; (with_reducible refine (cmp_isNaN_int.calls a0 true _ A3.out).mono ?_); rintro e w' ⟨rfl, ⟨nd, rfl⟩⟩; refine ⟨_, rfl, ?_⟩) | ((with_reducible refine gate_callee (f := 77) rfl ?_); refine gl (some 10) Try.func77 #[.int .i64 a1] ?_; (with_reducible refine (cmp_isNaN_int.calls a1 true _ A4.out).mono ?_); rintro e w' ⟨rfl, ⟨nd, rfl⟩⟩; refine ⟨_, rfl, ?_⟩))
   go_ret
   exact ⟨by first | rfl | (simp; done) | (simp [*]; done), by repeat (first | exact Drawn0.refl _ | apply Drawn0.step)⟩
  replace c6 := Bool.eq_false_iff.mpr c6
  subst c6
  have H1 : (some (-1)) = some r := by rw [if_neg (show ¬ (false = true) by decide)] at H; exact H
  clear H
  have H := H1
  clear H1
  obtain rfl := Option.some.inj H
  go_enter Try.func76, Try.ntmps76
  go_wp2_with (first | ((with_reducible refine gate_callee (f := 77) rfl ?_); refine gl (some 8) Try.func77 #[.int .i64 a0] ?_; (with_reducible refine (cmp_isNaN_int.calls a0 true _ A3.out).mono ?_); rintro e w' ⟨rfl, ⟨nd, rfl⟩⟩; refine ⟨_, rfl, ?_⟩) | ((with_reducible refine gate_callee (f := 77) rfl ?_); refine gl (some 10) Try.func77 #[.int .i64 a1] ?_; (with_reducible refine (cmp_isNaN_int.calls a1 false _ A4.out).mono ?_); rintro e w' ⟨rfl, ⟨nd, rfl⟩⟩; refine ⟨_, rfl, ?_⟩))
  go_ret
  exact ⟨by first | rfl | (simp; done) | (simp [*]; done), by repeat (first | exact Drawn0.refl _ | apply Drawn0.step)⟩
 replace c5 := Bool.eq_false_iff.mpr c5
 subst c5
 have H1 : (if t102 = true then (some 1) else (if a0 < a1 then (some (-1)) else (if a0 > a1 then (some 1) else (some 0)))) = some r := by rw [if_neg (show ¬ (false = true) by decide)] at H; exact H
 clear H
 have H := H1
 clear H1
 by_cases c7 : t102 = true
 ·
  subst c7
  have H1 : (some 1) = some r := by rw [if_pos rfl] at H; exact H
  clear H
  have H := H1
  clear H1
  obtain rfl := Option.some.inj H
  go_enter Try.func76, Try.ntmps76
  go_wp2_with (first | ((with_reducible refine gate_callee (f := 77) rfl ?_); refine gl (some 8) Try.func77 #[.int .i64 a0] ?_; (with_reducible refine (cmp_isNaN_int.calls a0 false _ A3.out).mono ?_); rintro e w' ⟨rfl, ⟨nd, rfl⟩⟩; refine ⟨_, rfl, ?_⟩) | ((with_reducible refine gate_callee (f := 77) rfl ?_); refine gl (some 10) Try.func77 #[.int .i64 a1] ?_; (with_reducible refine (cmp_isNaN_int.calls a1 true _ A4.out).mono ?_); rintro e w' ⟨rfl, ⟨nd, rfl⟩⟩; refine ⟨_, rfl, ?_⟩))
  go_ret
  exact ⟨by first | rfl | (simp; done) | (simp [*]; done), by repeat (first | exact Drawn0.refl _ | apply Drawn0.step)⟩
 replace c7 := Bool.eq_false_iff.mpr c7
 subst c7
 have H1 : (if a0 < a1 then (some (-1)) else (if a0 > a1 then (some 1) else (some 0))) = some r := by rw [if_neg (show ¬ (false = true) by decide)] at H; exact H
 clear H
 have H := H1
 clear H1
 by_cases c8 : a0 < a1
 ·
  rw [if_pos c8] at H
  have c8b0 : decide (a0 < a1) = true := decide_eq_true c8
  clear c8
  obtain rfl := Option.some.inj H
  go_enter Try.func76, Try.ntmps76
  go_wp2_with (first | ((with_reducible refine gate_callee (f := 77) rfl ?_); refine gl (some 8) Try.func77 #[.int .i64 a0] ?_; (with_reducible refine (cmp_isNaN_int.calls a0 false _ A3.out).mono ?_); rintro e w' ⟨rfl, ⟨nd, rfl⟩⟩; refine ⟨_, rfl, ?_⟩) | ((with_reducible refine gate_callee (f := 77) rfl ?_); refine gl (some 10) Try.func77 #[.int .i64 a1] ?_; (with_reducible refine (cmp_isNaN_int.calls a1 false _ A4.out).mono ?_); rintro e w' ⟨rfl, ⟨nd, rfl⟩⟩; refine ⟨_, rfl, ?_⟩))
  go_ret
  exact ⟨by first | rfl | (simp; done) | (simp [*]; done), by repeat (first | exact Drawn0.refl _ | apply Drawn0.step)⟩
 rw [if_neg c8] at H
 have c8b0 : decide (a0 < a1) = false := decide_eq_false c8
 clear c8
 by_cases c9 : a0 > a1
 ·
  rw [if_pos c9] at H
  have c9b0 : decide (a1 < a0) = true := decide_eq_true c9
  clear c9
  obtain rfl := Option.some.inj H
  go_enter Try.func76, Try.ntmps76
  go_wp2_with (first | ((with_reducible refine gate_callee (f := 77) rfl ?_); refine gl (some 8) Try.func77 #[.int .i64 a0] ?_; (with_reducible refine (cmp_isNaN_int.calls a0 false _ A3.out).mono ?_); rintro e w' ⟨rfl, ⟨nd, rfl⟩⟩; refine ⟨_, rfl, ?_⟩) | ((with_reducible refine gate_callee (f := 77) rfl ?_); refine gl (some 10) Try.func77 #[.int .i64 a1] ?_; (with_reducible refine (cmp_isNaN_int.calls a1 false _ A4.out).mono ?_); rintro e w' ⟨rfl, ⟨nd, rfl⟩⟩; refine ⟨_, rfl, ?_⟩))
  go_ret
  exact ⟨by first | rfl | (simp; done) | (simp [*]; done), by repeat (first | exact Drawn0.refl _ | apply Drawn0.step)⟩
 rw [if_neg c9] at H
 have c9b0 : decide (a1 < a0) = false := decide_eq_false c9
 clear c9
 obtain rfl := Option.some.inj H
 go_enter Try.func76, Try.ntmps76
 go_wp2_with (first | ((with_reducible refine gate_callee (f := 77) rfl ?_); refine gl (some 8) Try.func77 #[.int .i64 a0] ?_; (with_reducible refine (cmp_isNaN_int.calls a0 false _ A3.out).mono ?_); rintro e w' ⟨rfl, ⟨nd, rfl⟩⟩; refine ⟨_, rfl, ?_⟩) | ((with_reducible refine gate_callee (f := 77) rfl ?_); refine gl (some 10) Try.func77 #[.int .i64 a1] ?_; (with_reducible refine (cmp_isNaN_int.calls a1 false _ A4.out).mono ?_); rintro e w' ⟨rfl, ⟨nd, rfl⟩⟩; refine ⟨_, rfl, ?_⟩))
 go_ret
 exact ⟨by first | rfl | (simp; done) | (simp [*]; done), by repeat (first | exact Drawn0.refl _ | apply Drawn0.step)⟩
def impl_compareShares.f (a0_0 : Int) (a0_1 : Int) (a1_0 : Int) (a1_1 : Int) : Option (Int) := (cmp_Compare_int.f (wrap64 (a0_0 * a1_1)) (wrap64 (a1_0 * a0_1))).bind fun t103 => (some t103)
theorem impl_compareShares.calls (a0_0 : Int) (a0_1 : Int) (a1_0 : Int) (a1_1 : Int) (r : Int) (w : World) (h : impl_compareShares.f a0_0 a0_1 a1_0 a1_1 = some r) :
  Calls Try.prog 55 #[.agg #[.int .i64 a0_0, .int .i64 a0_1], .agg #[.int .i64 a1_0, .int .i64 a1_1]] w fun e w' => e = .returned (.int .i64 r) ∧ Below w.heap.size w w' := by
 have hu33 := Try.underlying33
 have HB := aK (Below.refl w.heap.size w)
 have H : ((cmp_Compare_int.f (wrap64 (a0_0 * a1_1)) (wrap64 (a1_0 * a0_1))).bind fun t103 => (some t103)) = some r := h
 clear h
 replace H := Option.bind_eq_some_iff.mp H
 obtain ⟨t103, A30, H⟩ := H
 replace H : (some t103) = some r := H
 have A3 := Aside0.mk A30
 clear A30
 obtain rfl := Option.some.inj H
 go_enter Try.func55, Try.ntmps55
 go_wp2_with (first | ((with_reducible refine gate_dst (N := 2) rfl ?_); refine bxe (cs := #[.int .i64 a0_0, .int .i64 a0_1]) (t := 33) ?_; intro gb101 hg w4 hbox hb; have BK101 := aK (hbox); have GW101 := aK (gE hg (pS HB.out)); have GE101 := GW101; replace HB := bS HB hb; clear hb hbox hg) | ((with_reducible refine gate_dst (N := 3) rfl ?_); refine bxe (cs := #[.int .i64 a1_0, .int .i64 a1_1]) (t := 33) ?_; intro gb102 hg w5 hbox hb; have BK102 := aK (hbox); have GW102 := aK (gE hg (pS HB.out)); have GE102 := GW102; obtain ⟨NB101_102, NB102_101⟩ := nb hg (pB BK101.out); replace BK101 := bB BK101 hb; replace HB := bS HB hb; clear hb hbox hg; have hnb6 := NB101_102.out; have hnc6 := NB102_101.out; obtain ⟨hcz7_0, hcz7_1, hfz7_0, hfz7_1⟩ := bc2 BK101.out; obtain ⟨hcz8_0, hcz8_1, hfz8_0, hfz8_1⟩ := bc2 BK102.out) | ((with_reducible refine gate_callee (f := 76) rfl ?_); refine gl (some 15) Try.func76 #[.int .i64 (wrap64 (a0_0 * a1_1)), .int .i64 (wrap64 (a1_0 * a0_1))] ?_; (with_reducible refine (cmp_Compare_int.calls (wrap64 (a0_0 * a1_1)) (wrap64 (a1_0 * a0_1)) t103 _ A3.out).mono ?_); rintro e w' ⟨rfl, ⟨nd, rfl⟩⟩; refine ⟨_, rfl, ?_⟩))
 go_ret
 exact ⟨er, pT HB.out⟩
def impl_ClassFor_1.f (a0_0 : Int) (a0_1 : Int) (a1_0 : Int) (a1_1 : Int) : Option (Bool) := (impl_compareShares.f a0_0 a0_1 a1_0 a1_1).bind fun t103 => (some (decide (t103 ≥ 0)))
theorem impl_ClassFor_1.calls (a0_0 : Int) (a0_1 : Int) (cb1 : Nat) (a1_0 : Int) (a1_1 : Int) (r : Bool) (w : World) (hk1 : w.heap[cb1]? = some (.cells #[.int .i64 a1_0, .int .i64 a1_1] 33 (0, 0))) (h : impl_ClassFor_1.f a0_0 a0_1 a1_0 a1_1 = some r) :
  Calls Try.prog 54 #[.agg #[.int .i64 a0_0, .int .i64 a0_1], .pointer (some ⟨cb1, 0, none⟩)] w fun e w' => e = .returned (.bool r) ∧ Below w.heap.size w w' := by
 have hu33 := Try.underlying33
 have BK101 := Aside0.mk hk1
 clear hk1
 have HB := aK (Below.refl w.heap.size w)
 have H : ((impl_compareShares.f a0_0 a0_1 a1_0 a1_1).bind fun t103 => (some (decide (t103 ≥ 0)))) = some r := h
 clear h
 replace H := Option.bind_eq_some_iff.mp H
 obtain ⟨t103, A30, H⟩ := H
 replace H : (some (decide (t103 ≥ 0))) = some r := H
 have A3 := Aside0.mk A30
 clear A30
 obtain rfl := Option.some.inj H
 go_enter Try.func54, Try.ntmps54
 go_wp2_with (first | ((with_reducible refine gate_dst (N := 2) rfl ?_); refine bxe (cs := #[.int .i64 a0_0, .int .i64 a0_1]) (t := 33) ?_; intro gb102 hg w4 hbox hb; have BK102 := aK (hbox); have GW102 := aK (gE hg (pS HB.out)); have GE102 := GW102; obtain ⟨NB101_102, NB102_101⟩ := nb hg (pB BK101.out); replace BK101 := bB BK101 hb; replace HB := bS HB hb; clear hb hbox hg; have hnb5 := NB102_101.out; have hnc5 := NB101_102.out; obtain ⟨hcz6_0, hcz6_1, hfz6_0, hfz6_1⟩ := bc2 BK102.out; obtain ⟨hcz7_0, hcz7_1, hfz7_0, hfz7_1⟩ := bc2 BK101.out) | ((with_reducible refine gate_callee (f := 55) rfl ?_); refine gl (some 6) Try.func55 #[.agg #[.int .i64 a0_0, .int .i64 a0_1], .agg #[.int .i64 a1_0, .int .i64 a1_1]] ?_; (with_reducible refine (impl_compareShares.calls a0_0 a0_1 a1_0 a1_1 t103 _ A3.out).mono ?_); rintro e w8 ⟨rfl, hb⟩; refine ⟨_, rfl, ?_⟩; replace BK101 := bB BK101 hb; replace BK102 := bB BK102 hb; replace HB := bS HB hb; (try clear hb); (try clear hb2); (try clear hk); (try clear hi)))
 go_ret
 exact ⟨er, pT HB.out⟩
def impl_ClassFor.j0 : Nat → Bool → List Int → List Int → Int → Int → Option (Int × Bool)
 | 0, _, _, _, _, _ => none
 | k + 1, x16, x102000, x102001, x103000, x103001 => if x16 = true then (some (0, false)) else ((impl_calibrationOf.f k x102000 x102001).bind fun bt105 => ((slices_IndexFunc_Share_at_mp_mpGst33_bool.f k (fun z0_ z1_ => impl_ClassFor_1.f z0_ z1_ x103000 x103001) bt105.1).bind fun t109 => (if t109 < 0 then (some (0, false)) else (some (t109, true)))))
def impl_ClassFor.f (k : Nat) (l0_0 : List Int) (l0_1 : List Int) (a1_0 : Int) (a1_1 : Int) : Option (Int × Bool) := (impl_IsValidTally.f k l0_0 l0_1).bind fun t103 => (if t103 = true then ((impl_isShare.f k a1_0 a1_1).bind fun t104 => (impl_ClassFor.j0 k (!t104) l0_0 l0_1 a1_0 a1_1)) else (impl_ClassFor.j0 k true l0_0 l0_1 a1_0 a1_1))
theorem impl_ClassFor.calls (k : Nat) (A0_0 : Option Addr) (c0_0 : Nat) (l0_0 : List Int) (A0_1 : Option Addr) (c0_1 : Nat) (l0_1 : List Int) (a1_0 : Int) (a1_1 : Int) (r1 : Int) (r2 : Bool) (w : World) (hr0_0 : Kd.C (Kd.int .i64) w A0_0 l0_0.length l0_0) (hc0_0 : l0_0.length ≤ c0_0) (hr0_1 : Kd.C (Kd.int .i64) w A0_1 l0_1.length l0_1) (hc0_1 : l0_1.length ≤ c0_1) (h : impl_ClassFor.f k l0_0 l0_1 a1_0 a1_1 = some (r1, r2)) :
  Calls Try.prog 17 #[.agg #[.slice A0_0 l0_0.length c0_0, .slice A0_1 l0_1.length c0_1], .agg #[.int .i64 a1_0, .int .i64 a1_1]] w fun e w' => e = .returned (.tuple #[.int .i64 r1, .bool r2]) ∧ Below w.heap.size w w' := by
 have hu26 := Try.underlying26
 have hu33 := Try.underlying33
 have HR0_0 := Aside0.mk hr0_0
 have HC0_0 := Aside0.mk hc0_0
 clear hr0_0 hc0_0
 have HR0_1 := Aside0.mk hr0_1
 have HC0_1 := Aside0.mk hc0_1
 clear hr0_1 hc0_1
 have HB := aK (Below.refl w.heap.size w)
 have H : ((impl_IsValidTally.f k l0_0 l0_1).bind fun t103 => (if t103 = true then ((impl_isShare.f k a1_0 a1_1).bind fun t104 => (impl_ClassFor.j0 k (!t104) l0_0 l0_1 a1_0 a1_1)) else (impl_ClassFor.j0 k true l0_0 l0_1 a1_0 a1_1))) = some (r1, r2) := h
 clear h
 have HC3 := Aside0.mk H
 clear H
 go_enter Try.func17, Try.ntmps17
 go_upto_region 1 with (first | ((with_reducible refine gate_dst (N := 2) rfl ?_); refine bxe (cs := #[.slice A0_0 l0_0.length c0_0, .slice A0_1 l0_1.length c0_1]) (t := 26) ?_; intro gb101 hg w4 hbox hb; have BK101 := aK (hbox); have GW101 := aK (gE hg (pS HB.out)); have GE101 := GW101; replace HB := bS HB hb; clear hb hbox hg) | ((with_reducible refine gate_dst (N := 3) rfl ?_); refine bxe (cs := #[.int .i64 a1_0, .int .i64 a1_1]) (t := 33) ?_; intro gb102 hg w5 hbox hb; have BK102 := aK (hbox); have GW102 := aK (gE hg (pS HB.out)); have GE102 := GW102; obtain ⟨NB101_102, NB102_101⟩ := nb hg (pB BK101.out); replace BK101 := bB BK101 hb; replace HB := bS HB hb; clear hb hbox hg))
 (try simp only [Act.put, List.setIfInBounds_toArray, List.set_cons_zero, List.set_cons_succ])
 go_cut [16] (fun v16 wc => ∃ (kq : Nat) (x16_2 : Bool), v16 = .bool x16_2 ∧ Aside0 (impl_ClassFor.j0 kq x16_2 l0_0 l0_1 a1_0 a1_1 = some (r1, r2)) ∧ Aside0 (kq ≤ k) ∧ Aside0 (wc.heap[gb101]? = some (.cells #[(.slice A0_0 l0_0.length c0_0), (.slice A0_1 l0_1.length c0_1)] 26 (0, 0))) ∧ Aside0 (wc.heap[gb102]? = some (.cells #[.int .i64 a1_0, .int .i64 a1_1] 33 (0, 0))) ∧ Aside0 (Below w.heap.size w wc))
 case first =>
  have H := HC3.out
  clear HC3
  replace H := Option.bind_eq_some_iff.mp H
  obtain ⟨t103, A60, H⟩ := H
  replace H : (if t103 = true then ((impl_isShare.f k a1_0 a1_1).bind fun t104 => (impl_ClassFor.j0 k (!t104) l0_0 l0_1 a1_0 a1_1)) else (impl_ClassFor.j0 k true l0_0 l0_1 a1_0 a1_1)) = some (r1, r2) := H
  have A6 := Aside0.mk A60
  clear A60
  by_cases c7 : t103 = true
  ·
   subst c7
   have H1 : ((impl_isShare.f k a1_0 a1_1).bind fun t104 => (impl_ClassFor.j0 k (!t104) l0_0 l0_1 a1_0 a1_1)) = some (r1, r2) := by rw [if_pos rfl] at H; exact H
   clear H
   have H := H1
   clear H1
   replace H := Option.bind_eq_some_iff.mp H
   obtain ⟨t104, A80, H⟩ := H
   replace H : (impl_ClassFor.j0 k (!t104) l0_0 l0_1 a1_0 a1_1) = some (r1, r2) := H
   have A8 := Aside0.mk A80
   clear A80
   have H' := Aside0.mk H
   clear H
   have hnb9 := NB101_102.out
   have hnc9 := NB102_101.out
   obtain ⟨hcz10_0, hcz10_1, hfz10_0, hfz10_1⟩ := bc2 BK101.out
   go_wp2_with (first | ((with_reducible refine gate_callee (f := 35) rfl ?_); refine gl (some 10) Try.func35 #[.agg #[.slice A0_0 l0_0.length c0_0, .slice A0_1 l0_1.length c0_1]] ?_; (with_reducible refine (impl_IsValidTally.calls k _ _ l0_0 _ _ l0_1 true _ ?side1 ?side2 ?side3 ?side4 A6.out).mono ?_); (case side1 => exact pC (Kd.C_below HR0_0.out HB.out)); (case side2 => exact HC0_0.out); (case side3 => exact pC (Kd.C_below HR0_1.out HB.out)); (case side4 => exact HC0_1.out); rintro e w11 ⟨rfl, hb⟩; refine ⟨_, rfl, ?_⟩; replace BK101 := bB BK101 hb; replace BK102 := bB BK102 hb; replace HB := bS HB hb; (try clear hb); (try clear hb2); (try clear hk); (try clear hi); obtain ⟨hcz12_0, hcz12_1, hfz12_0, hfz12_1⟩ := bc2 BK102.out) | (go_at_call 51; (with_reducible refine (impl_isShare.calls k a1_0 a1_1 t104 _ A8.out).mono ?_); rintro e w13 ⟨rfl, hb⟩; replace BK101 := bB BK101 hb; replace BK102 := bB BK102 hb; replace HB := bS HB hb; (try clear hb); (try clear hb2); (try clear hk); (try clear hi)))
   go_meet
   case rel => exact ⟨_, (!t104), (by first | rfl | (simp; done) | (simp [*]; done)), H', ⟨by first | omega | exact Nat.le_refl _⟩, ⟨by refine bk ?_; exact BK101.out⟩, ⟨by refine bk ?_; exact BK102.out⟩, ⟨pT HB.out⟩⟩
  replace c7 := Bool.eq_false_iff.mpr c7
  subst c7
  have H1 : (impl_ClassFor.j0 k true l0_0 l0_1 a1_0 a1_1) = some (r1, r2) := by rw [if_neg (show ¬ (false = true) by decide)] at H; exact H
  clear H
  have H := H1
  clear H1
  have H' := Aside0.mk H
  clear H
  have hnb14 := NB101_102.out
  have hnc14 := NB102_101.out
  obtain ⟨hcz15_0, hcz15_1, hfz15_0, hfz15_1⟩ := bc2 BK101.out
  go_wp2_with (first | ((with_reducible refine gate_callee (f := 35) rfl ?_); refine gl (some 10) Try.func35 #[.agg #[.slice A0_0 l0_0.length c0_0, .slice A0_1 l0_1.length c0_1]] ?_; (with_reducible refine (impl_IsValidTally.calls k _ _ l0_0 _ _ l0_1 false _ ?side1 ?side2 ?side3 ?side4 A6.out).mono ?_); (case side1 => exact pC (Kd.C_below HR0_0.out HB.out)); (case side2 => exact HC0_0.out); (case side3 => exact pC (Kd.C_below HR0_1.out HB.out)); (case side4 => exact HC0_1.out); rintro e w16 ⟨rfl, hb⟩; refine ⟨_, rfl, ?_⟩; replace BK101 := bB BK101 hb; replace BK102 := bB BK102 hb; replace HB := bS HB hb; (try clear hb); (try clear hb2); (try clear hk); (try clear hi)))
  go_meet
  case rel => exact ⟨_, (true), (by first | rfl | (simp; done) | (simp [*]; done)), H', ⟨by first | omega | exact Nat.le_refl _⟩, ⟨by refine bk ?_; exact BK101.out⟩, ⟨by refine bk ?_; exact BK102.out⟩, ⟨pT HB.out⟩⟩
 case rest =>
  clear HC3
  try clear c1
  try clear p2
  try clear c3
  try clear c7
  try clear c9
  try clear c14
  try clear hcz10_0
  try clear hcz10_1
  try clear hcz12_0
  try clear hcz12_1
  try clear hcz15_0
  try clear hcz15_1
  try clear hfz10_0
  try clear hfz10_1
  try clear hfz12_0
  try clear hfz12_1
  try clear hfz15_0
  try clear hfz15_1
  obtain ⟨kq, x16_2, rfl, HA, HJ2, BK101, BK102, HB⟩ := hcut
  cases kq with
  | zero => exact absurd HA.out (by simp [impl_ClassFor.j0])
  | succ kj2 =>
   have H := HA.out
   clear HA
   simp only [impl_ClassFor.j0] at H
   by_cases c17 : x16_2 = true
   ·
    subst c17
    have H1 : (some (0, false)) = some (r1, r2) := by rw [if_pos rfl] at H; exact H
    clear H
    have H := H1
    clear H1
    simp only [Option.some.injEq, Prod.mk.injEq] at H
    obtain ⟨rfl, rfl⟩ := H
    go_wp2
    go_ret2
    exact ⟨er, pT HB.out⟩
   replace c17 := Bool.eq_false_iff.mpr c17
   subst c17
   have H1 : ((impl_calibrationOf.f kj2 l0_0 l0_1).bind fun bt105 => ((slices_IndexFunc_Share_at_mp_mpGst33_bool.f kj2 (fun z0_ z1_ => impl_ClassFor_1.f z0_ z1_ a1_0 a1_1) bt105.1).bind fun t109 => (if t109 < 0 then (some (0, false)) else (some (t109, true))))) = some (r1, r2) := by rw [if_neg (show ¬ (false = true) by decide)] at H; exact H
   clear H
   have H := H1
   clear H1
   replace H := Option.bind_eq_some_iff.mp H
   obtain ⟨⟨t105, t108⟩, A180, H⟩ := H
   replace H : ((slices_IndexFunc_Share_at_mp_mpGst33_bool.f kj2 (fun z0_ z1_ => impl_ClassFor_1.f z0_ z1_ a1_0 a1_1) t105).bind fun t109 => (if t109 < 0 then (some (0, false)) else (some (t109, true)))) = some (r1, r2) := H
   have A18 := Aside0.mk A180
   clear A180
   replace H := Option.bind_eq_some_iff.mp H
   obtain ⟨t109, A190, H⟩ := H
   replace H : (if t109 < 0 then (some (0, false)) else (some (t109, true))) = some (r1, r2) := H
   have A19 := Aside0.mk A190
   clear A190
   by_cases c20 : t109 < 0
   ·
    rw [if_pos c20] at H
    have c20b0 : decide (t109 < 0) = true := decide_eq_true c20
    clear c20
    simp only [Option.some.injEq, Prod.mk.injEq] at H
    obtain ⟨rfl, rfl⟩ := H
    have hnb21 := NB101_102.out
    have hnc21 := NB102_101.out
    obtain ⟨hcz22_0, hcz22_1, hfz22_0, hfz22_1⟩ := bc2 BK101.out
    go_wp2_with (first | ((with_reducible refine gate_callee (f := 52) rfl ?_); refine gl (some 19) Try.func52 #[.agg #[.slice A0_0 l0_0.length c0_0, .slice A0_1 l0_1.length c0_1]] ?_; (with_reducible refine (impl_calibrationOf.calls kj2 _ _ l0_0 _ _ l0_1 t105 t108 _ ?side1 ?side2 ?side3 ?side4 A18.out).mono ?_); (case side1 => exact pC (Kd.C_below HR0_0.out HB.out)); (case side2 => exact HC0_0.out); (case side3 => exact pC (Kd.C_below HR0_1.out HB.out)); (case side4 => exact HC0_1.out); rintro e w23 ⟨v106, rfl, ho0, hb⟩; refine ⟨_, rfl, ?_⟩; have HO107 := aK (Kd.R_lower (Kd.R_newB ho0 (g := gb102) (o := .cells #[.int .i64 a1_0, .int .i64 a1_1] 33 (0, 0)) (pB BK102.out)) (below_size (pS HB.out))); replace BK101 := bB BK101 hb; replace BK102 := bB BK102 hb; replace HB := bS HB hb; (try clear hb); (try clear hb2); (try clear hk); (try clear hi); (try clear ho0); obtain ⟨Ao24, co24, eo24⟩ := Kd.R_slice HO107.out; subst eo24) | ((with_reducible refine gate_callee (f := 53) rfl ?_); refine gl (some 24) Try.func53 #[.slice Ao24 t105.length co24, .func (.func 54) #[] #[.pointer (some ⟨gb102, 0, none⟩)]] ?_; (with_reducible refine (slices_IndexFunc_Share_at_mp_mpGst33_bool.calls (fun z0_ z1_ => impl_ClassFor_1.f z0_ z1_ a1_0 a1_1) 54 #[.pointer (some ⟨gb102, 0, none⟩)] kj2 _ _ t105  t109 _ ?side1 ?side2 ?side3 ?side4 A19.out).mono ?_); (case side1 => exact fun args_ w_ => enters_ Try.func54 (by kernel_rfl) rfl args_ w_); (case side2 => intro z0_ z1_ r_ W_ hz_ hB_; refine (impl_ClassFor_1.calls z0_ z1_ gb102 a1_0 a1_1 r_ W_ (blk_below (pB BK102.out) hB_) hz_).mono ?_; rintro e_ w_ ⟨rfl, hd_⟩; exact ⟨rfl, hd_⟩); (case side3 => exact pC (Kd.R_reads' HO107.out).2.2); (case side4 => exact (Kd.R_reads' HO107.out).2.1); rintro e w25 ⟨rfl, hb⟩; refine ⟨_, rfl, ?_⟩; have n0_ := aK (Kd.R_below (pR HO107.out) hb); replace BK101 := bB BK101 hb; replace BK102 := bB BK102 hb; replace HB := bS HB hb; clear HO107; have HO107 := n0_; clear n0_; (try clear hb); (try clear hb2); (try clear hk); (try clear hi)))
    go_ret2
    exact ⟨er, pT HB.out⟩
   rw [if_neg c20] at H
   have c20b0 : decide (t109 < 0) = false := decide_eq_false c20
   clear c20
   simp only [Option.some.injEq, Prod.mk.injEq] at H
   obtain ⟨rfl, rfl⟩ := H
   have hnb26 := NB101_102.out
   have hnc26 := NB102_101.out
   obtain ⟨hcz27_0, hcz27_1, hfz27_0, hfz27_1⟩ := bc2 BK101.out
   go_wp2_with (first | ((with_reducible refine gate_callee (f := 52) rfl ?_); refine gl (some 19) Try.func52 #[.agg #[.slice A0_0 l0_0.length c0_0, .slice A0_1 l0_1.length c0_1]] ?_; (with_reducible refine (impl_calibrationOf.calls kj2 _ _ l0_0 _ _ l0_1 t105 t108 _ ?side1 ?side2 ?side3 ?side4 A18.out).mono ?_); (case side1 => exact pC (Kd.C_below HR0_0.out HB.out)); (case side2 => exact HC0_0.out); (case side3 => exact pC (Kd.C_below HR0_1.out HB.out)); (case side4 => exact HC0_1.out); rintro e w28 ⟨v106, rfl, ho0, hb⟩; refine ⟨_, rfl, ?_⟩; have HO107 := aK (Kd.R_lower (Kd.R_newB ho0 (g := gb102) (o := .cells #[.int .i64 a1_0, .int .i64 a1_1] 33 (0, 0)) (pB BK102.out)) (below_size (pS HB.out))); replace BK101 := bB BK101 hb; replace BK102 := bB BK102 hb; replace HB := bS HB hb; (try clear hb); (try clear hb2); (try clear hk); (try clear hi); (try clear ho0); obtain ⟨Ao29, co29, eo29⟩ := Kd.R_slice HO107.out; subst eo29) | ((with_reducible refine gate_callee (f := 53) rfl ?_); refine gl (some 24) Try.func53 #[.slice Ao29 t105.length co29, .func (.func 54) #[] #[.pointer (some ⟨gb102, 0, none⟩)]] ?_; (with_reducible refine (slices_IndexFunc_Share_at_mp_mpGst33_bool.calls (fun z0_ z1_ => impl_ClassFor_1.f z0_ z1_ a1_0 a1_1) 54 #[.pointer (some ⟨gb102, 0, none⟩)] kj2 _ _ t105  t109 _ ?side1 ?side2 ?side3 ?side4 A19.out).mono ?_); (case side1 => exact fun args_ w_ => enters_ Try.func54 (by kernel_rfl) rfl args_ w_); (case side2 => intro z0_ z1_ r_ W_ hz_ hB_; refine (impl_ClassFor_1.calls z0_ z1_ gb102 a1_0 a1_1 r_ W_ (blk_below (pB BK102.out) hB_) hz_).mono ?_; rintro e_ w_ ⟨rfl, hd_⟩; exact ⟨rfl, hd_⟩); (case side3 => exact pC (Kd.R_reads' HO107.out).2.2); (case side4 => exact (Kd.R_reads' HO107.out).2.1); rintro e w30 ⟨rfl, hb⟩; refine ⟨_, rfl, ?_⟩; have n0_ := aK (Kd.R_below (pR HO107.out) hb); replace BK101 := bB BK101 hb; replace BK102 := bB BK102 hb; replace HB := bS HB hb; clear HO107; have HO107 := n0_; clear n0_; (try clear hb); (try clear hb2); (try clear hk); (try clear hi)))
   go_ret2
   exact ⟨er, pT HB.out⟩
end Go.Proofs.Ytjicgmcogadleaa.P
