/- Texts of the claim FnNowcast, merged: part 6 of 13: the program's and the reference's functions as Lean functions, the walks that show it, and plain lemmas; no conditions. -/
import Derived.Test.YtmekfmhnpinjlaaKFnNowcast3
import Derived.Test.YtmekfmhnpinjlaaKFnNowcast5
import Derived.Test.YtmekfmhnpinjlaaKFnNowcast2
import Derived.WalkKit
import Derived.Laws.CopyOwn
import Derived.Deep.RegionLaw
import Derived.Shelf.RegionOpenPlain
import Derived.Deep.OwnRows
import Derived.RangeFuncRecord
import Derived.Deep.DeepMust
import Derived.Shelf.SlSortCmp.NoneTotal
import Derived.Ground.SlsfProg
import Derived.Test.YtmekfmhnpinjlaaProg
open Go.RowKit Go.Proofs.YtmekfmhnpinjlaaW.PrintWords Go.Proofs.YtmekfmhnpinjlaaW.PrintLast Go.Proofs.YtmekfmhnpinjlaaW.PrintMore
set_option linter.unusedVariables false
set_option linter.unusedSimpArgs false
set_option maxHeartbeats 8000000
set_option maxRecDepth 100000
namespace Go.Proofs.Ytmekfmhnpinjlaa.P
attribute [local go_sem] max2_int min2_int max_two min_two max_three min_three max_four min_four
def spec_DrawNowcast.f (k : Nat) (l0 : List Int) : Option (Int × Int × List Int × Int × Int × List Int × Int) := (spec_l1Cur_moved.f k l0 0 0).bind fun bt104 => ((spec_l1Cur_among.f l0 bt104.2.2.2.2.2.2.1 bt104.2.2.2.2.2.2.2 (([1, 2, 3, 6, 7, 0] : List Int))).bind fun bt121 => (some (bt104.1, bt104.2.1, bt104.2.2.1, bt104.2.2.2.1, bt104.2.2.2.2.1, bt104.2.2.2.2.2.1, bt121.1)))
def spec_DrawNowcast.T3 : Bool × List (List Nat × List Nat) := (true, [([], []), ([], []), ([], []), ([], []), ([2, 3], [2, 3]), ([0, 4, 0], [0]), ([1, 5, 0, 1, 5], [1]), ([4, 6, 0, 1, 2, 3, 4, 5, 6], [4])])
def spec_DrawNowcast.B3 : List Nat := [0, 0, 0, 0, 12, 29, 63, 127]
theorem spec_DrawNowcast.tab3 : rtab .any (opsOf Try.f11 3) = spec_DrawNowcast.T3 := by kernel_rfl
theorem spec_DrawNowcast.bits3 : waitsOk spec_DrawNowcast.T3.2 spec_DrawNowcast.B3 = true := by kernel_rfl
theorem spec_DrawNowcast.calls (k : Nat) (A0 : Option Addr) (c0 : Nat) (l0 : List Int) (r1 : Int) (r2 : Int) (r3 : List Int) (r4 : Int) (r5 : Int) (r6 : List Int) (r7 : Int) (w : World) (hr0 : Kd.C (Kd.int .u8) w A0 l0.length l0) (hc0 : l0.length ≤ c0) (h : spec_DrawNowcast.f k l0 = some (r1, r2, r3, r4, r5, r6, r7)) :
  Calls Try.prog 11 #[.slice A0 l0.length c0] w fun e w' => ∃ v2_ v5_ : Value, e = .returned (.tuple #[.agg #[.int .i64 r1, .int .i64 r2, v2_], .agg #[.int .i64 r4, .int .i64 r5, v5_], .int .i64 r7]) ∧ Kd.Q (Kd.int .i64) 3 w' w.heap.size (fun k_ => some k_ ≠ (v5_ : Value).ownBlock) v2_ r3 ∧ Kd.Q (Kd.int .i64) 3 w' w.heap.size (fun k_ => some k_ ≠ (v2_ : Value).ownBlock) v5_ r6 ∧ Below w.heap.size w w' := by
 have hu26 := Try.underlying26
 have hu49 := Try.underlying49
 have HR0 := aK hr0
 have HC0 := aK hc0
 clear hr0 hc0
 have HB := aK (Below.refl w.heap.size w)
 have H : ((spec_l1Cur_moved.f k l0 0 0).bind fun bt104 => ((spec_l1Cur_among.f l0 bt104.2.2.2.2.2.2.1 bt104.2.2.2.2.2.2.2 (([1, 2, 3, 6, 7, 0] : List Int))).bind fun bt121 => (some (bt104.1, bt104.2.1, bt104.2.2.1, bt104.2.2.2.1, bt104.2.2.2.2.1, bt104.2.2.2.2.2.1, bt121.1)))) = some (r1, r2, r3, r4, r5, r6, r7) := h
 clear h
 replace H := oA H
 obtain ⟨⟨t104, t105, t106, t109, t110, t111, t114, t115⟩, A2, H⟩ := H
 replace H : ((spec_l1Cur_among.f l0 t114 t115 (([1, 2, 3, 6, 7, 0] : List Int))).bind fun bt121 => (some (t104, t105, t106, t109, t110, t111, bt121.1))) = some (r1, r2, r3, r4, r5, r6, r7) := H
 obtain ⟨y118, hy118⟩ : ∃ y_ : List Int, y_ = (([1, 2, 3, 6, 7, 0] : List Int)) := ⟨_, rfl⟩
 replace H : ((spec_l1Cur_among.f l0 t114 t115 y118).bind fun bt121 => (some (t104, t105, t106, t109, t110, t111, bt121.1))) = some (r1, r2, r3, r4, r5, r6, r7) := by first | (rw [hy118]; first | with_reducible exact H | with_reducible exact (oS H :)) | with_reducible exact (oS H :) | with_reducible exact H | exact H
 have Ny118 := aK hy118
 clear hy118
 replace H := oA H
 obtain ⟨⟨t121, t122, t123⟩, A3, H⟩ := H
 replace H : (some (t104, t105, t106, t109, t110, t111, t121)) = some (r1, r2, r3, r4, r5, r6, r7) := H
 simp only [Option.some.injEq, Prod.mk.injEq] at H
 obtain ⟨rfl, rfl, rfl, rfl, rfl, rfl, rfl⟩ := H
 go_enter Try.func11, Try.ntmps11
 try go_wp2_with (first | ((with_reducible refine ga 2 rfl ?_); refine bxa #[.int .i64 0, .int .i64 0, .slice none 0 0] 26 ?_; intro g101 hg w4 B101 hb; have GW101 := gA hg HB; replace HB := bS HB hb; clear hb hg) | ((with_reducible refine ga 3 rfl ?_); refine bxa #[.int .i64 0, .int .i64 0, .slice none 0 0] 26 ?_; intro g102 hg w5 B102 hb; have GW102 := gA hg HB; obtain ⟨N101_102, N102_101⟩ := na hg B101; replace B101 := bB B101 hb; replace HB := bS HB hb; clear hb hg) | ((with_reducible refine ga 10 rfl ?_); refine bxe (cs := #[.slice A0 l0.length c0, .int .i64 0, .int .u64 0]) (t := 49) ?_; intro g103 hg w6 hbox hb; have HI103 := aK ((⟨_, _, hbox, (by rw [hg]; exact (below_size (pS HB.out)) : w.heap.size ≤ g103), HR0.out⟩ : IsS49 w w6 g103 l0 0 0)); obtain ⟨N101_103, N103_101⟩ := na hg B101; obtain ⟨N102_103, N103_102⟩ := na hg B102; replace B101 := bB B101 hb; replace B102 := bB B102 hb; replace HB := bS HB hb; clear hb hbox hg) | ((with_reducible refine gc 28 rfl ?_); refine gl (some 13) Try.func28 #[.pointer (some ⟨g103, 0, none⟩)] ?_; (with_reducible refine (spec_l1Cur_moved.calls k g103 l0 0 0 t104 t105 t106 t109 t110 t111 t114 t115 w _ ?side1 ?side2 A2.out).mono ?_); (case side1 => exact pI49 HI103.out); (case side2 => exact pV HB.out (IsS49.ge HI103.out)); rintro e w7 ⟨v107, v112, rfl, ho0, ho1, hi, hb, hk⟩; refine ⟨_, rfl, ?_⟩; replace B101 := kB hk B101 N101_103; replace B102 := kB hk B102 N102_103; have HO108 := aK (Kd.Q_lower ho0 (below_size ((pV HB.out (IsS49.ge HI103.out))))); have HO113 := aK (Kd.Q_lower ho1 (below_size ((pV HB.out (IsS49.ge HI103.out))))); replace HB := aK (hb); replace HI103 := aK (hi); (try clear hb); (try clear hk); (try clear hi); (try clear ho0); (try clear ho1)) | ((with_reducible refine ga 6 rfl ?_); refine bxe (cs := #[.int .i64 0, .int .i64 0, .slice none 0 0]) (t := 26) ?_; intro g116 hg w8 hbox hb; replace HO108 := qb HO108 hb; replace HO113 := qb HO113 hb; have n4_ := aK (IsS49.below (pI49 HI103.out) hb); have n5_ := aK (below_step ((pV HB.out (IsS49.ge HI103.out))) hb); have B116 := aK (hbox); have GW116 := aK (gE hg ((pV HB.out (IsS49.ge HI103.out)))); have GE116 := aK (gE hg ((pV HB.out (IsS49.ge HI103.out)))); obtain ⟨N101_116, N116_101⟩ := na hg B101; obtain ⟨N102_116, N116_102⟩ := na hg B102; have N103_116 := aK ((by rw [hg]; exact Nat.ne_of_lt (IsS49.lt (show IsS49 w _ g103 l0 t114 t115 from pI49 HI103.out)) : g103 ≠ g116)); have N116_103 := aK ((by rw [hg]; exact Nat.ne_of_gt (IsS49.lt (show IsS49 w _ g103 l0 t114 t115 from pI49 HI103.out)) : g116 ≠ g103)); replace B101 := bB B101 hb; replace B102 := bB B102 hb; clear HI103 HB; have HI103 := n4_; have HB := n5_; clear n4_ n5_; clear hb hbox hg) | ((with_reducible refine ga 7 rfl ?_); refine bxe (cs := #[.int .i64 0, .int .i64 0, .slice none 0 0]) (t := 26) ?_; intro g117 hg w9 hbox hb; replace HO108 := qb HO108 hb; replace HO113 := qb HO113 hb; have n4_ := aK (IsS49.below (pI49 HI103.out) hb); have n6_ := aK (below_step ((pV HB.out (IsS49.ge HI103.out))) hb); have B117 := aK (hbox); have GW117 := aK (gE hg ((pV HB.out (IsS49.ge HI103.out)))); have GE117 := aK (gE hg ((pV HB.out (IsS49.ge HI103.out)))); obtain ⟨N101_117, N117_101⟩ := na hg B101; obtain ⟨N102_117, N117_102⟩ := na hg B102; obtain ⟨N116_117, N117_116⟩ := na hg B116; have N103_117 := aK ((by rw [hg]; exact Nat.ne_of_lt (IsS49.lt (show IsS49 w _ g103 l0 t114 t115 from pI49 HI103.out)) : g103 ≠ g117)); have N117_103 := aK ((by rw [hg]; exact Nat.ne_of_gt (IsS49.lt (show IsS49 w _ g103 l0 t114 t115 from pI49 HI103.out)) : g117 ≠ g103)); replace B101 := bB B101 hb; replace B102 := bB B102 hb; replace B116 := bB B116 hb; clear HI103 HB; have HI103 := n4_; have HB := n6_; clear n4_ n6_ hb hbox hg; obtain ⟨_, _⟩ := nB N116_101; obtain ⟨_, _⟩ := nB N116_102; obtain ⟨_, _⟩ := nB N116_117; obtain ⟨_, _⟩ := nB N116_103; obtain ⟨_, _, _, _, _, _⟩ := bc3 B116.out; obtain ⟨Ao15, co15, eo15, _⟩ := Kd.Q_slice HO108.out; subst eo15; obtain ⟨_, _⟩ := nB N117_101; obtain ⟨_, _⟩ := nB N117_102; obtain ⟨_, _⟩ := nB N117_103; obtain ⟨_, _, _, _, _, _⟩ := bc3 B117.out; obtain ⟨Ao20, co20, eo20, _⟩ := Kd.Q_slice HO113.out; subst eo20))
 obtain ⟨w21, e_⟩ : ∃ w_, w_ = (((((w9.setCell ⟨g116, 0, none⟩ (.int .i64 t104)).setCell ⟨g116, 1, none⟩ (.int .i64 t105)).setCell ⟨g116, 2, none⟩ (.slice Ao15 t106.length co15)).setCell ⟨g117, 0, none⟩ (.int .i64 t109)).setCell ⟨g117, 1, none⟩ (.int .i64 t110)).setCell ⟨g117, 2, none⟩ (.slice Ao20 t111.length co20) := ⟨_, rfl⟩
 have n0_ : Aside0 (Kd.Q (Kd.int .i64) 3 w21 w.heap.size (fun k_ => some k_ ≠ (.slice Ao20 t111.length co20 : Value).ownBlock) (.slice Ao15 t106.length co15) t106) := ⟨by rw [e_]; (with_reducible repeat (first | apply Kd.Q_alloc | apply Kd.Q_drewN | apply Kd.Q_drew)); exact Kd.Q_mono (Kd.Q_far (p := ⟨g117, 2, none⟩) (Kd.Q_far (p := ⟨g117, 1, none⟩) (Kd.Q_far (p := ⟨g117, 0, none⟩) (Kd.Q_far (p := ⟨g116, 2, none⟩) (Kd.Q_far (p := ⟨g116, 1, none⟩) (Kd.Q_far (p := ⟨g116, 0, none⟩) (Kd.Q_types (Kd.Q_types HO108.out B116.out (by decide)) B117.out (by decide)) (fun _ hk => hk.1.2) (.int .i64 t104)) (fun _ hk => hk.1.2) (.int .i64 t105)) (fun _ hk => hk.1.2) (.slice Ao15 t106.length co15)) (fun _ hk => hk.2) (.int .i64 t109)) (fun _ hk => hk.2) (.int .i64 t110)) (fun _ hk => hk.2) (.slice Ao20 t111.length co20)) (fun _ hk => hk.1.1)⟩
 have n1_ : Aside0 (Kd.Q (Kd.int .i64) 3 w21 w.heap.size (fun k_ => some k_ ≠ (.slice Ao15 t106.length co15 : Value).ownBlock) (.slice Ao20 t111.length co20) t111) := ⟨by rw [e_]; (with_reducible repeat (first | apply Kd.Q_alloc | apply Kd.Q_drewN | apply Kd.Q_drew)); exact Kd.Q_mono (Kd.Q_far (p := ⟨g117, 2, none⟩) (Kd.Q_far (p := ⟨g117, 1, none⟩) (Kd.Q_far (p := ⟨g117, 0, none⟩) (Kd.Q_far (p := ⟨g116, 2, none⟩) (Kd.Q_far (p := ⟨g116, 1, none⟩) (Kd.Q_far (p := ⟨g116, 0, none⟩) (Kd.Q_types (Kd.Q_types HO113.out B116.out (by decide)) B117.out (by decide)) (fun _ hk => hk.1.2) (.int .i64 t104)) (fun _ hk => hk.1.2) (.int .i64 t105)) (fun _ hk => hk.1.2) (.slice Ao15 t106.length co15)) (fun _ hk => hk.2) (.int .i64 t109)) (fun _ hk => hk.2) (.int .i64 t110)) (fun _ hk => hk.2) (.slice Ao20 t111.length co20)) (fun _ hk => hk.1.1)⟩
 have n2_ : Aside0 (w21.heap[g101]? = some (.cells #[.int .i64 0, .int .i64 0, .slice none 0 0] 26 (0, 0))) := ⟨by rw [e_]; refine bg N101_117 ?_; refine bg N101_117 ?_; refine bg N101_117 ?_; refine bg N101_116 ?_; refine bg N101_116 ?_; refine bg N101_116 ?_; refine bk ?_; exact B101.out⟩
 have n3_ : Aside0 (w21.heap[g102]? = some (.cells #[.int .i64 0, .int .i64 0, .slice none 0 0] 26 (0, 0))) := ⟨by rw [e_]; refine bg N102_117 ?_; refine bg N102_117 ?_; refine bg N102_117 ?_; refine bg N102_116 ?_; refine bg N102_116 ?_; refine bg N102_116 ?_; refine bk ?_; exact B102.out⟩
 have n4_ : Aside0 (w21.heap[g116]? = some (.cells #[.int .i64 t104, .int .i64 t105, .slice Ao15 t106.length co15] 26 (0, 0))) := ⟨by rw [e_]; refine bg N116_117 ?_; refine bg N116_117 ?_; refine bg N116_117 ?_; refine bq #[.int .i64 t104, .int .i64 t105, .slice none 0 0] 2 ?_; refine bq #[.int .i64 t104, .int .i64 0, .slice none 0 0] 1 ?_; refine bq #[.int .i64 0, .int .i64 0, .slice none 0 0] 0 ?_; refine bk ?_; exact B116.out⟩
 have n5_ : Aside0 (w21.heap[g117]? = some (.cells #[.int .i64 t109, .int .i64 t110, .slice Ao20 t111.length co20] 26 (0, 0))) := ⟨by rw [e_]; refine bq #[.int .i64 t109, .int .i64 t110, .slice none 0 0] 2 ?_; refine bq #[.int .i64 t109, .int .i64 0, .slice none 0 0] 1 ?_; refine bq #[.int .i64 0, .int .i64 0, .slice none 0 0] 0 ?_; refine bg N117_116 ?_; refine bg N117_116 ?_; refine bg N117_116 ?_; refine bk ?_; exact B117.out⟩
 have n6_ : Aside0 (IsS49 w w21 g103 l0 t114 t115) := ⟨by rw [e_]; exact pI49 HI103.out⟩
 have n7_ : Aside0 (Below w.heap.size w w21) := ⟨by rw [e_]; exact (pV HB.out (IsS49.ge HI103.out))⟩
 clear HO108 HO113 B101 B102 B116 B117 HI103 HB
 (try rw [← e_]); clear e_
 have HO108 := n0_
 have HO113 := n1_
 have B101 := n2_
 have B102 := n3_
 have B116 := n4_
 have B117 := n5_
 have HI103 := n6_
 have HB := n7_
 clear n0_ n1_ n2_ n3_ n4_ n5_ n6_ n7_
 replace HO108 := qdw HO108
 replace HO113 := qdw HO113
 replace B101 := bD B101
 replace B102 := bD B102
 replace B116 := bD B116
 replace B117 := bD B117
 replace HI103 := aK (IsS49.drew HI103.out)
 replace HB := aK (below_drew1 HB.out)
 refine start_ (n := 8) (S := fun w' => w'.cell? ⟨g116, 0, none⟩ = some (.int .i64 t104) ∧ w'.cell? ⟨g116, 1, none⟩ = some (.int .i64 t105) ∧ w'.cell? ⟨g116, 2, none⟩ = some (.slice Ao15 t106.length co15) ∧ w'.cell? ⟨g117, 0, none⟩ = some (.int .i64 t109) ∧ w'.cell? ⟨g117, 1, none⟩ = some (.int .i64 t110) ∧ w'.cell? ⟨g117, 2, none⟩ = some (.slice Ao20 t111.length co20)) (ds := []) (bz [0, 8]) (by kernel_rfl) rfl rfl (cj3 B116.out (cz3 B117.out)) (fun hHeld => ?_); refine with_tabW spec_DrawNowcast.tab3 spec_DrawNowcast.bits3 (fun HT_ HW_ => ?_)
 generalize w21.drew = w22 at HO108 HO113 B101 B102 B116 B117 HI103 HB hHeld ⊢
 refine pz 2 18 [0, 2, 1, 5] HT_ ?_
 refine tz 0 16 [1, 1, 1, 5] HT_ HW_ rfl (by rintro w' ⟨s0, s1, s2, s3, s4, s5⟩; go_simp; with_reducible rfl) hHeld ?_
 refine tz 1 17 [3, 5] HT_ HW_ rfl (by rintro w' ⟨s0, s1, s2, s3, s4, s5⟩; go_simp; with_reducible rfl) hHeld ?_
 refine oz 3 19 [4, 4] HT_ fun K hK => ?_
 refine Kd.R_lit_step (Kd.int .i64) _ 3 ?hg (N := 19) ?hd (xs := ([1, 2, 3, 6, 7, 0] : List Int)) (inner := [.int .i64 1, .int .i64 2, .int .i64 3, .int .i64 6, .int .i64 7, .int .i64 0]) (ok := fun _ => True) (okp := fun _ => True) ?hr ?hp (fun _ hk => hk) trivial (Below.refl _ _) (Nat.le_refl _) (by simp) ?_; (case hd => rfl); (case hg => rfl); (case hr => first | (go_simp; done) | (go_simp; rfl)); (case hp => exact (Reps.one (show Kd.M (Kd.int .i64) _ _ _ 1 [.int .i64 1] from rfl) (Reps.one (show Kd.M (Kd.int .i64) _ _ _ 2 [.int .i64 2] from rfl) (Reps.one (show Kd.M (Kd.int .i64) _ _ _ 3 [.int .i64 3] from rfl) (Reps.one (show Kd.M (Kd.int .i64) _ _ _ 6 [.int .i64 6] from rfl) (Reps.one (show Kd.M (Kd.int .i64) _ _ _ 7 [.int .i64 7] from rfl) (Reps.one (show Kd.M (Kd.int .i64) _ _ _ 0 [.int .i64 0] from rfl) (Reps.none _ _))))))))
 intro v119 w23 ho24 hb hg_ hnew_
 clear hg_ hnew_
 (first | rw [← Ny118.out] at ho24 | (simp only [Int.reduceToNat] at ho24; rw [← Ny118.out] at ho24))
 have n0_ := aK (Kd.Q_elder' (pQ HO108.out) (Kd.R_base ho24) hb)
 have n1_ := aK (Kd.Q_elder' (pQ HO113.out) (Kd.R_base ho24) hb)
 have HO120 := aK (Kd.R_lower (Kd.R_new' (Kd.R_new' ho24 (Kd.Q_lt (pQ HO108.out))) (Kd.Q_lt (pQ HO113.out))) (below_size ((pV HB.out (IsS49.ge HI103.out)))))
 have n5_ := aK (IsS49.below (pI49 HI103.out) hb)
 replace HB := aK (below_step ((pV HB.out (IsS49.ge HI103.out))) hb)
 replace B101 := bB B101 hb
 replace B102 := bB B102 hb
 replace B116 := bB B116 hb
 replace B117 := bB B117 hb
 clear HO108 HO113 HI103
 have HO108 := n0_
 have HO113 := n1_
 have HI103 := n5_
 clear n0_ n1_ n5_ hb ho24
 obtain ⟨Ao25, co25, eo25⟩ := Kd.R_slice HO120.out
 (first | subst eo25 | (obtain ⟨f4_, f5_⟩ := sI eo25; subst f4_; subst f5_))
 refine hK.out _ _ (cj3 B116.out (cz3 B117.out)) (fun hHeld => ?_)
 clear hK K
 refine nm 19 ?_
 refine oz 4 20 [5, 3] HT_ fun K hK => ?_
 refine gs Try.func29 #[.pointer (some ⟨g103, 0, none⟩), .slice Ao25 y118.length co25] ?_
 with_reducible refine (spec_l1Cur_among.calls g103 l0 t114 t115 _ _ y118 t121 t122 t123 w _ ?side1 ?side2 ?side3 ?side4 ?side5 A3.out).mono ?_
 (case side1 => exact pI49 HI103.out)
 (case side2 => exact pV HB.out (IsS49.ge HI103.out))
 (case side3 => exact pC (Kd.R_reads' HO120.out).2.2)
 (case side4 => exact (Kd.R_reads' HO120.out).2.1)
 (case side5 => exact far_slice (IsS49.own_ne HI103.out HO120.out (by decide)))
 rintro e w26 ⟨rfl, hi, hb, hk⟩
 refine ⟨_, rfl, ?_⟩
 replace B101 := kB hk B101 N101_103
 replace B102 := kB hk B102 N102_103
 replace HO108 := aK (Kd.Q_mono (Kd.Q_keep (IsS49.apartQ (show IsS49 w _ g103 l0 t114 t115 from pI49 HI103.out) (pQ HO108.out) (by decide)) hk (fun _ h => h.2)) (fun _ h => h.1))
 replace HO113 := aK (Kd.Q_mono (Kd.Q_keep (IsS49.apartQ (show IsS49 w _ g103 l0 t114 t115 from pI49 HI103.out) (pQ HO113.out) (by decide)) hk (fun _ h => h.2)) (fun _ h => h.1))
 replace B116 := kB hk B116 N116_103
 replace B117 := kB hk B117 N117_103
 replace HO120 := aK (Kd.R_mono (Kd.R_keep (IsS49.apart (show IsS49 w _ g103 l0 t114 t115 from pI49 HI103.out) (pR HO120.out) (by decide)) hk (fun _ h => h.2)) (fun _ h => h.1))
 replace HB := aK (hb)
 replace HI103 := aK (hi)
 clear hb hk hi
 refine hK.out _ _ (cj3 B116.out (cz3 B117.out)) (fun hHeld => ?_)
 clear hK K
 refine nm 20 ?_
 refine one_ (i := 5) (N := none) (bz [6, 2]) rfl rfl (one_of HT_.out (by kernel_rfl)) (by decide) (fun K hK => ?_)
 have hs27 : w26.cell? ⟨g101, 0, none⟩ = some (.int .i64 0) := (blk_cell B101.out 0).trans rfl
 have hfs27 := blk_frozen B101.out 0
 have hns27_1 := N102_101.out
 have hns27_2 := N116_101.out
 have hns27_3 := N117_101.out
 have hms27_1 := N101_102.out
 have hms27_2 := N101_116.out
 have hms27_3 := N101_117.out
 have hs28 : w26.cell? ⟨g101, 1, none⟩ = some (.int .i64 0) := (blk_cell B101.out 1).trans rfl
 have hfs28 := blk_frozen B101.out 1
 have hns28_1 := N102_101.out
 have hns28_2 := N116_101.out
 have hns28_3 := N117_101.out
 have hms28_1 := N101_102.out
 have hms28_2 := N101_116.out
 have hms28_3 := N101_117.out
 have hs29 : w26.cell? ⟨g101, 2, none⟩ = some (.slice none 0 0) := (blk_cell B101.out 2).trans rfl
 have hfs29 := blk_frozen B101.out 2
 have hns29_1 := N102_101.out
 have hns29_2 := N116_101.out
 have hns29_3 := N117_101.out
 have hms29_1 := N101_102.out
 have hms29_2 := N101_116.out
 have hms29_3 := N101_117.out
 refine skip_ (w1 := ?_) (by rfl) rfl ?_ ?_
 rotate_left
 ·
  go_simp
  rfl
 refine hK.out _ _ ⟨(cf3 N116_101 hHeld.1), (cf3 N116_101 hHeld.2.1), (cf3 N116_101 hHeld.2.2.1), (cf3 N117_101 hHeld.2.2.2.1), (cf3 N117_101 hHeld.2.2.2.2.1), (cf3 N117_101 hHeld.2.2.2.2.2)⟩ (fun hHeld => ?_)
 clear hK K
 refine one_ (i := 6) (N := none) (bz [7, 1]) rfl rfl (one_of HT_.out (by kernel_rfl)) (by decide) (fun K hK => ?_)
 have hs30 : w26.cell? ⟨g102, 0, none⟩ = some (.int .i64 0) := (blk_cell B102.out 0).trans rfl
 have hfs30 := blk_frozen B102.out 0
 have hns30_0 := N101_102.out
 have hns30_2 := N116_102.out
 have hns30_3 := N117_102.out
 have hms30_0 := N102_101.out
 have hms30_2 := N102_116.out
 have hms30_3 := N102_117.out
 have hs31 : w26.cell? ⟨g102, 1, none⟩ = some (.int .i64 0) := (blk_cell B102.out 1).trans rfl
 have hfs31 := blk_frozen B102.out 1
 have hns31_0 := N101_102.out
 have hns31_2 := N116_102.out
 have hns31_3 := N117_102.out
 have hms31_0 := N102_101.out
 have hms31_2 := N102_116.out
 have hms31_3 := N102_117.out
 have hs32 : w26.cell? ⟨g102, 2, none⟩ = some (.slice none 0 0) := (blk_cell B102.out 2).trans rfl
 have hfs32 := blk_frozen B102.out 2
 have hns32_0 := N101_102.out
 have hns32_2 := N116_102.out
 have hns32_3 := N117_102.out
 have hms32_0 := N102_101.out
 have hms32_2 := N102_116.out
 have hms32_3 := N102_117.out
 refine skip_ (w1 := ?_) (by rfl) rfl ?_ ?_
 rotate_left
 ·
  go_simp
  rfl
 refine hK.out _ _ ⟨(cf3 N116_102 hHeld.1), (cf3 N116_102 hHeld.2.1), (cf3 N116_102 hHeld.2.2.1), (cf3 N117_102 hHeld.2.2.2.1), (cf3 N117_102 hHeld.2.2.2.2.1), (cf3 N117_102 hHeld.2.2.2.2.2)⟩ (fun hHeld => ?_)
 clear hK K
 refine pz 7 4 [8, 0] HT_ ?_
 refine done_ (done_of HT_.out (by kernel_rfl)) ?_
 try go_wp2
 refine bodyPost_ret (results_list (rs := [.cell 2 26, .cell 3 26, .tmp 4]) rfl (by simp) (.cell g101 26 #[.int .i64 t104, .int .i64 t105, .slice Ao15 t106.length co15] (0, 0) _ rfl (by refine bg N101_102 ?_; refine bg N101_102 ?_; refine bg N101_102 ?_; refine bq #[.int .i64 t104, .int .i64 t105, .slice none 0 0] 2 ?_; refine bq #[.int .i64 t104, .int .i64 0, .slice none 0 0] 1 ?_; refine bq #[.int .i64 0, .int .i64 0, .slice none 0 0] 0 ?_; refine bk ?_; exact B101.out) Try.underlying26 rfl (by kernel_rfl) (.cell g102 26 #[.int .i64 t109, .int .i64 t110, .slice Ao20 t111.length co20] (0, 0) _ rfl (by refine bq #[.int .i64 t109, .int .i64 t110, .slice none 0 0] 2 ?_; refine bq #[.int .i64 t109, .int .i64 0, .slice none 0 0] 1 ?_; refine bq #[.int .i64 0, .int .i64 0, .slice none 0 0] 0 ?_; refine bg N102_101 ?_; refine bg N102_101 ?_; refine bg N102_101 ?_; refine bk ?_; exact B102.out) Try.underlying26 rfl (by kernel_rfl) (.tmp .nil)))) rfl ?_
 exact ⟨_, _, er, by (with_reducible repeat (first | apply Kd.Q_alloc | apply Kd.Q_drewN | apply Kd.Q_drew)); exact Kd.Q_mono (Kd.Q_far (p := ⟨g102, 2, none⟩) (Kd.Q_far (p := ⟨g102, 1, none⟩) (Kd.Q_far (p := ⟨g102, 0, none⟩) (Kd.Q_far (p := ⟨g101, 2, none⟩) (Kd.Q_far (p := ⟨g101, 1, none⟩) (Kd.Q_far (p := ⟨g101, 0, none⟩) (Kd.Q_types (Kd.Q_types HO108.out B101.out (by decide)) B102.out (by decide)) (fun _ hk => hk.1.2) (.int .i64 t104)) (fun _ hk => hk.1.2) (.int .i64 t105)) (fun _ hk => hk.1.2) (.slice Ao15 t106.length co15)) (fun _ hk => hk.2) (.int .i64 t109)) (fun _ hk => hk.2) (.int .i64 t110)) (fun _ hk => hk.2) (.slice Ao20 t111.length co20)) (fun _ hk => hk.1.1.1), by (with_reducible repeat (first | apply Kd.Q_alloc | apply Kd.Q_drewN | apply Kd.Q_drew)); exact Kd.Q_mono (Kd.Q_far (p := ⟨g102, 2, none⟩) (Kd.Q_far (p := ⟨g102, 1, none⟩) (Kd.Q_far (p := ⟨g102, 0, none⟩) (Kd.Q_far (p := ⟨g101, 2, none⟩) (Kd.Q_far (p := ⟨g101, 1, none⟩) (Kd.Q_far (p := ⟨g101, 0, none⟩) (Kd.Q_types (Kd.Q_types HO113.out B101.out (by decide)) B102.out (by decide)) (fun _ hk => hk.1.2) (.int .i64 t104)) (fun _ hk => hk.1.2) (.int .i64 t105)) (fun _ hk => hk.1.2) (.slice Ao15 t106.length co15)) (fun _ hk => hk.2) (.int .i64 t109)) (fun _ hk => hk.2) (.int .i64 t110)) (fun _ hk => hk.2) (.slice Ao20 t111.length co20)) (fun _ hk => hk.1.1.1), (pV HB.out (IsS49.ge HI103.out))⟩
def impl_sameShape.f (a0_0 : Int) (a0_1 : Int) (l0_2 : List Int) (a1_0 : Int) (a1_1 : Int) (l1_2 : List Int) : Option (Bool) := if a0_0 = a1_0 then (some (a0_1 == a1_1)) else (some false)
theorem impl_sameShape.calls (a0_0 : Int) (a0_1 : Int) (A0_2 : Option Addr) (c0_2 : Nat) (l0_2 : List Int) (a1_0 : Int) (a1_1 : Int) (A1_2 : Option Addr) (c1_2 : Nat) (l1_2 : List Int) (r : Bool) (w : World) (hr0_2 : Kd.C (Kd.int .i64) w A0_2 l0_2.length l0_2) (hc0_2 : l0_2.length ≤ c0_2) (hr1_2 : Kd.C (Kd.int .i64) w A1_2 l1_2.length l1_2) (hc1_2 : l1_2.length ≤ c1_2) (h : impl_sameShape.f a0_0 a0_1 l0_2 a1_0 a1_1 l1_2 = some r) :
  Calls Try.prog 49 #[.agg #[.int .i64 a0_0, .int .i64 a0_1, .slice A0_2 l0_2.length c0_2], .agg #[.int .i64 a1_0, .int .i64 a1_1, .slice A1_2 l1_2.length c1_2]] w fun e w' => e = .returned (.bool r) ∧ Below w.heap.size w w' := by
 have hu26 := Try.underlying26
 have HR0_2 := aK hr0_2
 have HC0_2 := aK hc0_2
 clear hr0_2 hc0_2
 have HR1_2 := aK hr1_2
 have HC1_2 := aK hc1_2
 clear hr1_2 hc1_2
 have HB := aK (Below.refl w.heap.size w)
 have H : (if a0_0 = a1_0 then (some (a0_1 == a1_1)) else (some false)) = some r := h
 clear h
 by_cases c3 : a0_0 = a1_0
 ·
  rw [if_pos c3] at H
  have c3b0 : (a0_0 == a1_0) = true := beq_iff_eq.mpr c3
  have c3b1 : (a0_0 != a1_0) = false := bne_eq_false_iff_eq.mpr c3
  clear c3
  obtain rfl := Option.some.inj H
  go_enter Try.func49, Try.ntmps49
  go_wp2_with (first | ((with_reducible refine ga 2 rfl ?_); refine bxa #[.int .i64 a0_0, .int .i64 a0_1, .slice A0_2 l0_2.length c0_2] 26 ?_; intro g101 hg w4 B101 hb; have GW101 := gA hg HB; replace HB := bS HB hb; clear hb hg) | ((with_reducible refine ga 3 rfl ?_); refine bxa #[.int .i64 a1_0, .int .i64 a1_1, .slice A1_2 l1_2.length c1_2] 26 ?_; intro g102 hg w5 B102 hb; have GW102 := gA hg HB; obtain ⟨N101_102, N102_101⟩ := na hg B101; replace B101 := bB B101 hb; replace HB := bS HB hb; clear hb hg; obtain ⟨_, _⟩ := nB N101_102; obtain ⟨_, _, _, _, _, _⟩ := bc3 B101.out; obtain ⟨_, _, _, _, _, _⟩ := bc3 B102.out))
  go_ret
  exact ⟨er, pT HB.out⟩
 rw [if_neg c3] at H
 have c3b0 : (a0_0 == a1_0) = false := beq_eq_false_iff_ne.mpr c3
 have c3b1 : (a0_0 != a1_0) = true := bne_iff_ne.mpr c3
 obtain rfl := Option.some.inj H
 go_enter Try.func49, Try.ntmps49
 go_wp2_with (first | ((with_reducible refine ga 2 rfl ?_); refine bxa #[.int .i64 a0_0, .int .i64 a0_1, .slice A0_2 l0_2.length c0_2] 26 ?_; intro g101 hg w9 B101 hb; have GW101 := gA hg HB; replace HB := bS HB hb; clear hb hg) | ((with_reducible refine ga 3 rfl ?_); refine bxa #[.int .i64 a1_0, .int .i64 a1_1, .slice A1_2 l1_2.length c1_2] 26 ?_; intro g102 hg w10 B102 hb; have GW102 := gA hg HB; obtain ⟨N101_102, N102_101⟩ := na hg B101; replace B101 := bB B101 hb; replace HB := bS HB hb; clear hb hg; obtain ⟨_, _⟩ := nB N101_102; obtain ⟨_, _, _, _, _, _⟩ := bc3 B101.out; obtain ⟨_, _, _, _, _, _⟩ := bc3 B102.out))
 go_ret
 exact ⟨er, pT HB.out⟩
def impl_areAlike.l0 : Nat → List (S26) → List (S26) → Int → Int → Option (Bool)
 | 0, _, _, _, _ => none
 | k + 1, x0, x5, x6, x7 => if x7 < x6 then (if 0 ≤ x7 then (if x7 < (x5.length : Int) then ((impl_IsValidField.f ((rd_T26 x5 x7).f0) ((rd_T26 x5 x7).f1) ((rd_T26 x5 x7).f2)).bind fun t103 => (if t103 = true then (if 0 < (x0.length : Int) then ((impl_sameShape.f ((rd_T26 x5 x7).f0) ((rd_T26 x5 x7).f1) ((rd_T26 x5 x7).f2) ((rd_T26 x0 0).f0) ((rd_T26 x0 0).f1) ((rd_T26 x0 0).f2)).bind fun t105 => (if t105 = true then (impl_areAlike.l0 k x0 x5 x6 (wrap64 (x7 + 1))) else (some false))) else (none)) else (some false))) else (none)) else (none)) else (some true)
def impl_areAlike.f (k : Nat) (l0 : List (S26)) : Option (Bool) := impl_areAlike.l0 k l0 l0 (l0.length : Int) 0
def impl_areAlike.T4 : Bool × List (List Nat × List Nat) := (true, [([], []), ([0], [0]), ([1], [1]), ([2, 1], [2]), ([3], [3]), ([3], [3]), ([5, 3], [3, 5]), ([6, 3], [3, 6]), ([4, 7, 3, 3], [3, 4, 7]), ([8, 3], [3, 8]), ([3, 9], [3, 9])])
def impl_areAlike.B4 : List Nat := [0, 1, 3, 7, 15, 15, 47, 111, 255, 511, 1023]
theorem impl_areAlike.tab4 : rtab .any (opsOf Try.f25 4) = impl_areAlike.T4 := by kernel_rfl
theorem impl_areAlike.bits4 : waitsOk impl_areAlike.T4.2 impl_areAlike.B4 = true := by kernel_rfl
theorem impl_areAlike.calls (k : Nat) (A0 : Option Addr) (c0 : Nat) (l0 : List (S26)) (r : Bool) (w : World) (hr0 : Kd.C k26 w A0 l0.length l0) (hc0 : l0.length ≤ c0) (h : impl_areAlike.f k l0 = some r) :
  Calls Try.prog 25 #[.slice A0 l0.length c0] w fun e w' => e = .returned (.bool r) ∧ Below w.heap.size w w' := by
 have hu26 := Try.underlying26
 have HR0 := aK hr0
 have HC0 := aK hc0
 clear hr0 hc0
 have HB := aK (Below.refl w.heap.size w)
 have H : (impl_areAlike.l0 k l0 l0 (l0.length : Int) 0) = some r := h
 clear h
 have H' := aK H
 clear H
 go_enter Try.func25, Try.ntmps25
 go_wp2
 go_loopg [7] k (fun kq v7 w' => ∃ (x7_1 : Int), v7 = .int .i64 x7_1 ∧ Aside0 (impl_areAlike.l0 kq l0 l0 (l0.length : Int) x7_1 = some r) ∧ Aside0 (kq ≤ k) ∧ Aside0 (Below w.heap.size w w'))
 case atStart => exact ⟨(0), (by first | rfl | (simp; done) | (simp [*]; done)), H', ⟨Nat.le_refl _⟩, ⟨pT HB.out⟩⟩
 case round =>
 clear H'
 obtain ⟨x7_1, rfl, HA, HK1, HB⟩ := hrel
 cases gk with
 | zero => exact absurd HA.out (by simp [impl_areAlike.l0])
 | succ k1 =>
 have H := HA.out
 clear HA
 simp only [impl_areAlike.l0] at H
 by_cases c2 : x7_1 < (l0.length : Int)
 rotate_left
 ·
  rw [if_neg c2] at H
  have c2b0 : decide (x7_1 < (l0.length : Int)) = false := decide_eq_false c2
  clear c2
  obtain rfl := Option.some.inj H
  go_wp2
  go_ret
  exact ⟨er, pT HB.out⟩
 rw [if_pos c2] at H
 have c2b0 : decide (x7_1 < (l0.length : Int)) = true := decide_eq_true c2
 clear c2
 by_cases c3 : 0 ≤ x7_1
 rotate_left
 ·
  rw [if_neg c3] at H
  exact absurd H (by simp)
 rw [if_pos c3] at H
 have c3b0 : decide (0 ≤ x7_1) = true := decide_eq_true c3
 clear c3
 by_cases c4 : x7_1 < (l0.length : Int)
 rotate_left
 ·
  rw [if_neg c4] at H
  exact absurd H (by simp)
 rw [if_pos c4] at H
 have c4b0 : decide (x7_1 < (l0.length : Int)) = true := decide_eq_true c4
 clear c4
 replace H := oA H
 obtain ⟨t103, A5, H⟩ := H
 replace H : (if t103 = true then (if 0 < (l0.length : Int) then ((impl_sameShape.f ((rd_T26 l0 x7_1).f0) ((rd_T26 l0 x7_1).f1) ((rd_T26 l0 x7_1).f2) ((rd_T26 l0 0).f0) ((rd_T26 l0 0).f1) ((rd_T26 l0 0).f2)).bind fun t105 => (if t105 = true then (impl_areAlike.l0 k1 l0 l0 (l0.length : Int) (wrap64 (x7_1 + 1))) else (some false))) else (none)) else (some false)) = some r := H
 by_cases c6 : t103 = true
 rotate_left
 ·
  replace c6 := Bool.eq_false_iff.mpr c6; subst c6
  have H1 : (some false) = some r := by rw [if_neg (show ¬ (false = true) by decide)] at H; exact H
  clear H; have H := H1; clear H1
  obtain rfl := Option.some.inj H
  have p101 : 0 ≤ (x7_1 : Int) := dA
  have q101 : x7_1 < (l0.length : Int) := dA
  obtain ⟨ad101, A101_2, c101_2, e101, hx101_0, hx101_1, hx101_2, hl101_2, hi101_2⟩ := at_T26 HR0.out x7_1 p101 q101; cases e101; replace hx101_0 := (HB.out.cell (World.block_lt_of_cell? w _ hx101_0)).trans hx101_0; replace hx101_1 := (HB.out.cell (World.block_lt_of_cell? w _ hx101_1)).trans hx101_1; replace hx101_2 := (HB.out.cell (World.block_lt_of_cell? w _ hx101_2)).trans hx101_2; have HR101_2 := aK hi101_2; have HC101_2 := aK hl101_2; clear hi101_2 hl101_2; replace p101 := eq_true p101; replace q101 := eq_true q101
  try go_wp2_with (first | ((with_reducible refine ga 4 rfl ?_); refine bxa #[.int .i64 0, .int .i64 0, .slice none 0 0] 26 ?_; intro g102 hg w22 B102 hb; have GW102 := gA hg HB; replace HB := bS HB hb; clear hb hg; obtain ⟨_, _, _, _, _, _⟩ := bc3 B102.out))
  obtain ⟨w24, e_⟩ : ∃ w_, w_ = ((w22.setCell ⟨g102, 0, none⟩ (.int .i64 ((rd_T26 l0 x7_1).f0))).setCell ⟨g102, 1, none⟩ (.int .i64 ((rd_T26 l0 x7_1).f1))).setCell ⟨g102, 2, none⟩ (.slice A101_2 ((rd_T26 l0 x7_1).f2).length c101_2) := ⟨_, rfl⟩
  have n0_ : Aside0 (w24.heap[g102]? = some (.cells #[.int .i64 ((rd_T26 l0 x7_1).f0), .int .i64 ((rd_T26 l0 x7_1).f1), .slice A101_2 ((rd_T26 l0 x7_1).f2).length c101_2] 26 (0, 0))) := ⟨by rw [e_]; refine bq #[.int .i64 ((rd_T26 l0 x7_1).f0), .int .i64 ((rd_T26 l0 x7_1).f1), .slice none 0 0] 2 ?_; refine bq #[.int .i64 ((rd_T26 l0 x7_1).f0), .int .i64 0, .slice none 0 0] 1 ?_; refine bq #[.int .i64 0, .int .i64 0, .slice none 0 0] 0 ?_; refine bk ?_; exact B102.out⟩
  have n1_ : Aside0 (Below w.heap.size w w24) := ⟨by rw [e_]; exact pT HB.out⟩
  clear B102 HB
  (try rw [← e_]); clear e_
  have B102 := n0_; have HB := n1_; clear n0_ n1_; replace B102 := bD B102; replace HB := aK (below_drew1 HB.out)
  refine start_ (n := 11) (S := fun w' => w'.cell? ⟨g102, 0, none⟩ = some (.int .i64 ((rd_T26 l0 x7_1).f0)) ∧ w'.cell? ⟨g102, 1, none⟩ = some (.int .i64 ((rd_T26 l0 x7_1).f1)) ∧ w'.cell? ⟨g102, 2, none⟩ = some (.slice A101_2 ((rd_T26 l0 x7_1).f2).length c101_2)) (ds := []) (bz [0, 11]) (by kernel_rfl) rfl rfl (cz3 B102.out) (fun hHeld => ?_); refine with_tabW impl_areAlike.tab4 impl_areAlike.bits4 (fun HT_ HW_ => ?_)
  generalize w24.drew = w25 at B102 HB hHeld ⊢
  refine tz 0 11 [1, 10] HT_ HW_ rfl (by rintro w' ⟨s0, s1, s2⟩; go_simp; with_reducible rfl) hHeld ?_
  refine oz 1 12 [2, 9] HT_ fun K hK => ?_
  refine gs Try.func18 #[.agg #[.int .i64 ((rd_T26 l0 x7_1).f0), .int .i64 ((rd_T26 l0 x7_1).f1), .slice A101_2 ((rd_T26 l0 x7_1).f2).length c101_2]] ?_
  with_reducible refine (impl_IsValidField.calls ((rd_T26 l0 x7_1).f0) ((rd_T26 l0 x7_1).f1) _ _ ((rd_T26 l0 x7_1).f2) false _ ?side1 ?side2 A5.out).mono ?_
  (case side1 => exact cB HR101_2 HB)
  (case side2 => exact HC101_2.out)
  rintro e w26 ⟨rfl, hb⟩
  refine ⟨_, rfl, ?_⟩
  replace B102 := bB B102 hb; replace HB := bS HB hb; clear hb
  refine hK.out _ _ (cz3 B102.out) (fun hHeld => ?_)
  clear hK K
  refine nm 12 ?_
  refine pz 2 13 [3, 8] HT_ ?_
  refine pz 3 14 [4, 7] HT_ ?_
  refine pd 4 15 [5, 6] HT_ ?_
  refine pd 5 16 [6, 5] HT_ ?_
  refine pd 6 17 [7, 4] HT_ ?_
  refine pd 7 18 [8, 3] HT_ ?_
  refine pd 8 19 [9, 2] HT_ ?_
  refine pd 9 20 [10, 1] HT_ ?_
  refine pz 10 21 [11, 0] HT_ ?_
  refine done_ (done_of HT_.out (by kernel_rfl)) ?_
  try go_wp2
  go_ret
  exact ⟨er, pT HB.out⟩
 subst c6
 have H1 : (if 0 < (l0.length : Int) then ((impl_sameShape.f ((rd_T26 l0 x7_1).f0) ((rd_T26 l0 x7_1).f1) ((rd_T26 l0 x7_1).f2) ((rd_T26 l0 0).f0) ((rd_T26 l0 0).f1) ((rd_T26 l0 0).f2)).bind fun t105 => (if t105 = true then (impl_areAlike.l0 k1 l0 l0 (l0.length : Int) (wrap64 (x7_1 + 1))) else (some false))) else (none)) = some r := by rw [if_pos rfl] at H; exact H
 clear H
 have H := H1
 clear H1
 by_cases c7 : 0 < (l0.length : Int)
 rotate_left
 ·
  rw [if_neg c7] at H
  exact absurd H (by simp)
 rw [if_pos c7] at H
 have c7b0 : decide (0 < (l0.length : Int)) = true := decide_eq_true c7
 have c7b1 : decide (0 < l0.length) = true := decide_eq_true (by omega)
 clear c7
 replace H := oA H
 obtain ⟨t105, A8, H⟩ := H
 replace H : (if t105 = true then (impl_areAlike.l0 k1 l0 l0 (l0.length : Int) (wrap64 (x7_1 + 1))) else (some false)) = some r := H
 by_cases c9 : t105 = true
 ·
  subst c9
  have H1 : (impl_areAlike.l0 k1 l0 l0 (l0.length : Int) (wrap64 (x7_1 + 1))) = some r := by rw [if_pos rfl] at H; exact H
  clear H; have H := H1; clear H1; have H' := aK H; clear H
  have p101 : 0 ≤ (x7_1 : Int) := dA
  have q101 : x7_1 < (l0.length : Int) := dA
  obtain ⟨ad101, A101_2, c101_2, e101, hx101_0, hx101_1, hx101_2, hl101_2, hi101_2⟩ := at_T26 HR0.out x7_1 p101 q101; cases e101; replace hx101_0 := (HB.out.cell (World.block_lt_of_cell? w _ hx101_0)).trans hx101_0; replace hx101_1 := (HB.out.cell (World.block_lt_of_cell? w _ hx101_1)).trans hx101_1; replace hx101_2 := (HB.out.cell (World.block_lt_of_cell? w _ hx101_2)).trans hx101_2; have HR101_2 := aK hi101_2; have HC101_2 := aK hl101_2; clear hi101_2 hl101_2; replace p101 := eq_true p101; replace q101 := eq_true q101
  try go_wp2_with (first | ((with_reducible refine ga 4 rfl ?_); refine bxa #[.int .i64 0, .int .i64 0, .slice none 0 0] 26 ?_; intro g102 hg w10 B102 hb; have GW102 := gA hg HB; replace HB := bS HB hb; clear hb hg; obtain ⟨_, _, _, _, _, _⟩ := bc3 B102.out))
  obtain ⟨w12, e_⟩ : ∃ w_, w_ = ((w10.setCell ⟨g102, 0, none⟩ (.int .i64 ((rd_T26 l0 x7_1).f0))).setCell ⟨g102, 1, none⟩ (.int .i64 ((rd_T26 l0 x7_1).f1))).setCell ⟨g102, 2, none⟩ (.slice A101_2 ((rd_T26 l0 x7_1).f2).length c101_2) := ⟨_, rfl⟩
  have n0_ : Aside0 (w12.heap[g102]? = some (.cells #[.int .i64 ((rd_T26 l0 x7_1).f0), .int .i64 ((rd_T26 l0 x7_1).f1), .slice A101_2 ((rd_T26 l0 x7_1).f2).length c101_2] 26 (0, 0))) := ⟨by rw [e_]; refine bq #[.int .i64 ((rd_T26 l0 x7_1).f0), .int .i64 ((rd_T26 l0 x7_1).f1), .slice none 0 0] 2 ?_; refine bq #[.int .i64 ((rd_T26 l0 x7_1).f0), .int .i64 0, .slice none 0 0] 1 ?_; refine bq #[.int .i64 0, .int .i64 0, .slice none 0 0] 0 ?_; refine bk ?_; exact B102.out⟩
  have n1_ : Aside0 (Below w.heap.size w w12) := ⟨by rw [e_]; exact pT HB.out⟩
  clear B102 HB
  (try rw [← e_]); clear e_
  have B102 := n0_; have HB := n1_; clear n0_ n1_; replace B102 := bD B102; replace HB := aK (below_drew1 HB.out)
  have p104 : 0 ≤ (0 : Int) := (by omega)
  have q104 : 0 < (l0.length : Int) := dA
  obtain ⟨ad104, A104_2, c104_2, e104, hx104_0, hx104_1, hx104_2, hl104_2, hi104_2⟩ := at_T26 HR0.out 0 p104 q104; have hw104_2 := hx104_2
  (try rw [show ((0 : Int)).toNat = 0 from rfl] at hw104_2)
  (try rw [show 0 * 3 = 0 from rfl] at hw104_2)
  (try rw [Addr.add_zero'] at hw104_2)
  have hw104_1 := hx104_1
  (try rw [show ((0 : Int)).toNat = 0 from rfl] at hw104_1)
  (try rw [show 0 * 3 = 0 from rfl] at hw104_1)
  (try rw [Addr.add_zero'] at hw104_1)
  have hw104_0 := hx104_0
  (try rw [show ((0 : Int)).toNat = 0 from rfl] at hw104_0)
  (try rw [show 0 * 3 = 0 from rfl] at hw104_0)
  (try rw [Addr.add_zero'] at hw104_0)
  obtain rfl : ad101 = ad104 := (by injection e104)
  have qi104 : (0 < l0.length) = True := eq_true (by omega)
  (try rw [show ((0 : Int)).toNat = 0 from rfl] at hx104_0)
  (try rw [show 0 * 3 = 0 from rfl] at hx104_0)
  (try rw [Addr.add_zero'] at hx104_0)
  (try rw [show ((0 : Int)).toNat = 0 from rfl] at hx104_1)
  (try rw [show 0 * 3 = 0 from rfl] at hx104_1)
  (try rw [Addr.add_zero'] at hx104_1)
  (try rw [show ((0 : Int)).toNat = 0 from rfl] at hx104_2)
  (try rw [show 0 * 3 = 0 from rfl] at hx104_2)
  (try rw [Addr.add_zero'] at hx104_2)
  replace hx104_0 := (HB.out.cell (World.block_lt_of_cell? w _ hx104_0)).trans hx104_0; replace hx104_1 := (HB.out.cell (World.block_lt_of_cell? w _ hx104_1)).trans hx104_1; replace hx104_2 := (HB.out.cell (World.block_lt_of_cell? w _ hx104_2)).trans hx104_2; have HR104_2 := aK hi104_2; have HC104_2 := aK hl104_2; clear hi104_2 hl104_2; replace p104 := eq_true p104; replace q104 := eq_true q104
  refine start_ (n := 11) (S := fun w' => w'.cell? ⟨g102, 0, none⟩ = some (.int .i64 ((rd_T26 l0 x7_1).f0)) ∧ w'.cell? ⟨g102, 1, none⟩ = some (.int .i64 ((rd_T26 l0 x7_1).f1)) ∧ w'.cell? ⟨g102, 2, none⟩ = some (.slice A101_2 ((rd_T26 l0 x7_1).f2).length c101_2) ∧ w'.cell? ad101 = some (.int .i64 ((rd_T26 l0 0).f0)) ∧ w'.cell? ⟨ad101.block, ad101.off + 1, none⟩ = some (.int .i64 ((rd_T26 l0 0).f1)) ∧ w'.cell? ⟨ad101.block, ad101.off + 2, none⟩ = some (.slice A104_2 ((rd_T26 l0 0).f2).length c104_2)) (ds := []) (bz [0, 11]) (by kernel_rfl) rfl rfl (cj3 B102.out ⟨((HB.out.cell (World.block_lt_of_cell? w _ hw104_0)).trans hw104_0), ((HB.out.cell (World.block_lt_of_cell? w _ hw104_1)).trans hw104_1), ((HB.out.cell (World.block_lt_of_cell? w _ hw104_2)).trans hw104_2)⟩) (fun hHeld => ?_); refine with_tabW impl_areAlike.tab4 impl_areAlike.bits4 (fun HT_ HW_ => ?_)
  generalize w12.drew = w13 at B102 HB HR104_2 hx104_0 hx104_1 hx104_2 hHeld ⊢
  refine tz 0 11 [1, 10] HT_ HW_ rfl (by rintro w' ⟨s0, s1, s2, s3, s4, s5⟩; go_simp; with_reducible rfl) hHeld ?_
  refine oz 1 12 [2, 9] HT_ fun K hK => ?_
  refine gs Try.func18 #[.agg #[.int .i64 ((rd_T26 l0 x7_1).f0), .int .i64 ((rd_T26 l0 x7_1).f1), .slice A101_2 ((rd_T26 l0 x7_1).f2).length c101_2]] ?_
  with_reducible refine (impl_IsValidField.calls ((rd_T26 l0 x7_1).f0) ((rd_T26 l0 x7_1).f1) _ _ ((rd_T26 l0 x7_1).f2) true _ ?side1 ?side2 A5.out).mono ?_
  (case side1 => exact cB HR101_2 HB)
  (case side2 => exact HC101_2.out)
  rintro e w14 ⟨rfl, hb⟩
  refine ⟨_, rfl, ?_⟩
  replace B102 := bB B102 hb; replace HB := bS HB hb; clear hb
  refine hK.out _ _ (cj3 B102.out ⟨((HB.out.cell (World.block_lt_of_cell? w _ hw104_0)).trans hw104_0), ((HB.out.cell (World.block_lt_of_cell? w _ hw104_1)).trans hw104_1), ((HB.out.cell (World.block_lt_of_cell? w _ hw104_2)).trans hw104_2)⟩) (fun hHeld => ?_)
  clear hK K
  refine nm 12 ?_
  refine pz 2 13 [3, 8] HT_ ?_
  refine pz 3 14 [4, 7] HT_ ?_
  refine pz 5 16 [4, 1, 1, 5] HT_ ?_
  refine pz 6 17 [4, 1, 2, 4] HT_ ?_
  refine tz 4 15 [7, 4] HT_ HW_ rfl (by rintro w' ⟨s0, s1, s2, s3, s4, s5⟩; go_simp; with_reducible rfl) hHeld ?_
  refine tz 7 18 [8, 3] HT_ HW_ rfl (by rintro w' ⟨s0, s1, s2, s3, s4, s5⟩; go_simp; with_reducible rfl) hHeld ?_
  refine oz 8 19 [9, 2] HT_ fun K hK => ?_
  refine gs Try.func49 #[.agg #[.int .i64 ((rd_T26 l0 x7_1).f0), .int .i64 ((rd_T26 l0 x7_1).f1), .slice A101_2 ((rd_T26 l0 x7_1).f2).length c101_2], .agg #[.int .i64 ((rd_T26 l0 0).f0), .int .i64 ((rd_T26 l0 0).f1), .slice A104_2 ((rd_T26 l0 0).f2).length c104_2]] ?_
  with_reducible refine (impl_sameShape.calls ((rd_T26 l0 x7_1).f0) ((rd_T26 l0 x7_1).f1) _ _ ((rd_T26 l0 x7_1).f2) ((rd_T26 l0 0).f0) ((rd_T26 l0 0).f1) _ _ ((rd_T26 l0 0).f2) true _ ?side1 ?side2 ?side3 ?side4 A8.out).mono ?_
  (case side1 => exact cB HR101_2 HB)
  (case side2 => exact HC101_2.out)
  (case side3 => exact cB HR104_2 HB)
  (case side4 => exact HC104_2.out)
  rintro e w15 ⟨rfl, hb⟩
  refine ⟨_, rfl, ?_⟩
  replace B102 := bB B102 hb; replace HB := bS HB hb; clear hb
  refine hK.out _ _ (cj3 B102.out ⟨((HB.out.cell (World.block_lt_of_cell? w _ hw104_0)).trans hw104_0), ((HB.out.cell (World.block_lt_of_cell? w _ hw104_1)).trans hw104_1), ((HB.out.cell (World.block_lt_of_cell? w _ hw104_2)).trans hw104_2)⟩) (fun hHeld => ?_)
  clear hK K
  refine nm 19 ?_
  refine pz 9 20 [10, 1] HT_ ?_
  refine pz 10 21 [11, 0] HT_ ?_
  refine done_ (done_of HT_.out (by kernel_rfl)) ?_
  try go_wp2
  go_roundg k1
  case measure => have := HK1.out; omega
  case rel => exact ⟨(wrap64 (x7_1 + 1)), (by first | rfl | (simp; done) | (simp [*]; done)), H', ⟨by have := HK1.out; omega⟩, ⟨pT HB.out⟩⟩
 replace c9 := Bool.eq_false_iff.mpr c9
 subst c9
 have H1 : (some false) = some r := by rw [if_neg (show ¬ (false = true) by decide)] at H; exact H
 clear H
 have H := H1
 clear H1
 obtain rfl := Option.some.inj H
 have p101 : 0 ≤ (x7_1 : Int) := dA
 have q101 : x7_1 < (l0.length : Int) := dA
 obtain ⟨ad101, A101_2, c101_2, e101, hx101_0, hx101_1, hx101_2, hl101_2, hi101_2⟩ := at_T26 HR0.out x7_1 p101 q101
 cases e101
 replace hx101_0 := (HB.out.cell (World.block_lt_of_cell? w _ hx101_0)).trans hx101_0
 replace hx101_1 := (HB.out.cell (World.block_lt_of_cell? w _ hx101_1)).trans hx101_1
 replace hx101_2 := (HB.out.cell (World.block_lt_of_cell? w _ hx101_2)).trans hx101_2
 have HR101_2 := aK hi101_2
 have HC101_2 := aK hl101_2
 clear hi101_2 hl101_2
 replace p101 := eq_true p101
 replace q101 := eq_true q101
 try go_wp2_with (first | ((with_reducible refine ga 4 rfl ?_); refine bxa #[.int .i64 0, .int .i64 0, .slice none 0 0] 26 ?_; intro g102 hg w16 B102 hb; have GW102 := gA hg HB; replace HB := bS HB hb; clear hb hg; obtain ⟨_, _, _, _, _, _⟩ := bc3 B102.out))
 obtain ⟨w18, e_⟩ : ∃ w_, w_ = ((w16.setCell ⟨g102, 0, none⟩ (.int .i64 ((rd_T26 l0 x7_1).f0))).setCell ⟨g102, 1, none⟩ (.int .i64 ((rd_T26 l0 x7_1).f1))).setCell ⟨g102, 2, none⟩ (.slice A101_2 ((rd_T26 l0 x7_1).f2).length c101_2) := ⟨_, rfl⟩
 have n0_ : Aside0 (w18.heap[g102]? = some (.cells #[.int .i64 ((rd_T26 l0 x7_1).f0), .int .i64 ((rd_T26 l0 x7_1).f1), .slice A101_2 ((rd_T26 l0 x7_1).f2).length c101_2] 26 (0, 0))) := ⟨by rw [e_]; refine bq #[.int .i64 ((rd_T26 l0 x7_1).f0), .int .i64 ((rd_T26 l0 x7_1).f1), .slice none 0 0] 2 ?_; refine bq #[.int .i64 ((rd_T26 l0 x7_1).f0), .int .i64 0, .slice none 0 0] 1 ?_; refine bq #[.int .i64 0, .int .i64 0, .slice none 0 0] 0 ?_; refine bk ?_; exact B102.out⟩
 have n1_ : Aside0 (Below w.heap.size w w18) := ⟨by rw [e_]; exact pT HB.out⟩
 clear B102 HB
 (try rw [← e_]); clear e_
 have B102 := n0_
 have HB := n1_
 clear n0_ n1_
 replace B102 := bD B102
 replace HB := aK (below_drew1 HB.out)
 have p104 : 0 ≤ (0 : Int) := (by omega)
 have q104 : 0 < (l0.length : Int) := dA
 obtain ⟨ad104, A104_2, c104_2, e104, hx104_0, hx104_1, hx104_2, hl104_2, hi104_2⟩ := at_T26 HR0.out 0 p104 q104
 have hw104_2 := hx104_2
 (try rw [show ((0 : Int)).toNat = 0 from rfl] at hw104_2)
 (try rw [show 0 * 3 = 0 from rfl] at hw104_2)
 (try rw [Addr.add_zero'] at hw104_2)
 have hw104_1 := hx104_1
 (try rw [show ((0 : Int)).toNat = 0 from rfl] at hw104_1)
 (try rw [show 0 * 3 = 0 from rfl] at hw104_1)
 (try rw [Addr.add_zero'] at hw104_1)
 have hw104_0 := hx104_0
 (try rw [show ((0 : Int)).toNat = 0 from rfl] at hw104_0)
 (try rw [show 0 * 3 = 0 from rfl] at hw104_0)
 (try rw [Addr.add_zero'] at hw104_0)
 obtain rfl : ad101 = ad104 := (by injection e104)
 have qi104 : (0 < l0.length) = True := eq_true (by omega)
 (try rw [show ((0 : Int)).toNat = 0 from rfl] at hx104_0)
 (try rw [show 0 * 3 = 0 from rfl] at hx104_0)
 (try rw [Addr.add_zero'] at hx104_0)
 (try rw [show ((0 : Int)).toNat = 0 from rfl] at hx104_1)
 (try rw [show 0 * 3 = 0 from rfl] at hx104_1)
 (try rw [Addr.add_zero'] at hx104_1)
 (try rw [show ((0 : Int)).toNat = 0 from rfl] at hx104_2)
 (try rw [show 0 * 3 = 0 from rfl] at hx104_2)
 (try rw [Addr.add_zero'] at hx104_2)
 replace hx104_0 := (HB.out.cell (World.block_lt_of_cell? w _ hx104_0)).trans hx104_0
 replace hx104_1 := (HB.out.cell (World.block_lt_of_cell? w _ hx104_1)).trans hx104_1
 replace hx104_2 := (HB.out.cell (World.block_lt_of_cell? w _ hx104_2)).trans hx104_2
 have HR104_2 := aK hi104_2
 have HC104_2 := aK hl104_2
 clear hi104_2 hl104_2
 replace p104 := eq_true p104
 replace q104 := eq_true q104
 refine start_ (n := 11) (S := fun w' => w'.cell? ⟨g102, 0, none⟩ = some (.int .i64 ((rd_T26 l0 x7_1).f0)) ∧ w'.cell? ⟨g102, 1, none⟩ = some (.int .i64 ((rd_T26 l0 x7_1).f1)) ∧ w'.cell? ⟨g102, 2, none⟩ = some (.slice A101_2 ((rd_T26 l0 x7_1).f2).length c101_2) ∧ w'.cell? ad101 = some (.int .i64 ((rd_T26 l0 0).f0)) ∧ w'.cell? ⟨ad101.block, ad101.off + 1, none⟩ = some (.int .i64 ((rd_T26 l0 0).f1)) ∧ w'.cell? ⟨ad101.block, ad101.off + 2, none⟩ = some (.slice A104_2 ((rd_T26 l0 0).f2).length c104_2)) (ds := []) (bz [0, 11]) (by kernel_rfl) rfl rfl (cj3 B102.out ⟨((HB.out.cell (World.block_lt_of_cell? w _ hw104_0)).trans hw104_0), ((HB.out.cell (World.block_lt_of_cell? w _ hw104_1)).trans hw104_1), ((HB.out.cell (World.block_lt_of_cell? w _ hw104_2)).trans hw104_2)⟩) (fun hHeld => ?_); refine with_tabW impl_areAlike.tab4 impl_areAlike.bits4 (fun HT_ HW_ => ?_)
 generalize w18.drew = w19 at B102 HB HR104_2 hx104_0 hx104_1 hx104_2 hHeld ⊢
 refine tz 0 11 [1, 10] HT_ HW_ rfl (by rintro w' ⟨s0, s1, s2, s3, s4, s5⟩; go_simp; with_reducible rfl) hHeld ?_
 refine oz 1 12 [2, 9] HT_ fun K hK => ?_
 refine gs Try.func18 #[.agg #[.int .i64 ((rd_T26 l0 x7_1).f0), .int .i64 ((rd_T26 l0 x7_1).f1), .slice A101_2 ((rd_T26 l0 x7_1).f2).length c101_2]] ?_
 with_reducible refine (impl_IsValidField.calls ((rd_T26 l0 x7_1).f0) ((rd_T26 l0 x7_1).f1) _ _ ((rd_T26 l0 x7_1).f2) true _ ?side1 ?side2 A5.out).mono ?_
 (case side1 => exact cB HR101_2 HB)
 (case side2 => exact HC101_2.out)
 rintro e w20 ⟨rfl, hb⟩
 refine ⟨_, rfl, ?_⟩
 replace B102 := bB B102 hb
 replace HB := bS HB hb
 clear hb
 refine hK.out _ _ (cj3 B102.out ⟨((HB.out.cell (World.block_lt_of_cell? w _ hw104_0)).trans hw104_0), ((HB.out.cell (World.block_lt_of_cell? w _ hw104_1)).trans hw104_1), ((HB.out.cell (World.block_lt_of_cell? w _ hw104_2)).trans hw104_2)⟩) (fun hHeld => ?_)
 clear hK K
 refine nm 12 ?_
 refine pz 2 13 [3, 8] HT_ ?_
 refine pz 3 14 [4, 7] HT_ ?_
 refine pz 5 16 [4, 1, 1, 5] HT_ ?_
 refine pz 6 17 [4, 1, 2, 4] HT_ ?_
 refine tz 4 15 [7, 4] HT_ HW_ rfl (by rintro w' ⟨s0, s1, s2, s3, s4, s5⟩; go_simp; with_reducible rfl) hHeld ?_
 refine tz 7 18 [8, 3] HT_ HW_ rfl (by rintro w' ⟨s0, s1, s2, s3, s4, s5⟩; go_simp; with_reducible rfl) hHeld ?_
 refine oz 8 19 [9, 2] HT_ fun K hK => ?_
 refine gs Try.func49 #[.agg #[.int .i64 ((rd_T26 l0 x7_1).f0), .int .i64 ((rd_T26 l0 x7_1).f1), .slice A101_2 ((rd_T26 l0 x7_1).f2).length c101_2], .agg #[.int .i64 ((rd_T26 l0 0).f0), .int .i64 ((rd_T26 l0 0).f1), .slice A104_2 ((rd_T26 l0 0).f2).length c104_2]] ?_
 with_reducible refine (impl_sameShape.calls ((rd_T26 l0 x7_1).f0) ((rd_T26 l0 x7_1).f1) _ _ ((rd_T26 l0 x7_1).f2) ((rd_T26 l0 0).f0) ((rd_T26 l0 0).f1) _ _ ((rd_T26 l0 0).f2) false _ ?side1 ?side2 ?side3 ?side4 A8.out).mono ?_
 (case side1 => exact cB HR101_2 HB)
 (case side2 => exact HC101_2.out)
 (case side3 => exact cB HR104_2 HB)
 (case side4 => exact HC104_2.out)
 rintro e w21 ⟨rfl, hb⟩
 refine ⟨_, rfl, ?_⟩
 replace B102 := bB B102 hb
 replace HB := bS HB hb
 clear hb
 refine hK.out _ _ (cj3 B102.out ⟨((HB.out.cell (World.block_lt_of_cell? w _ hw104_0)).trans hw104_0), ((HB.out.cell (World.block_lt_of_cell? w _ hw104_1)).trans hw104_1), ((HB.out.cell (World.block_lt_of_cell? w _ hw104_2)).trans hw104_2)⟩) (fun hHeld => ?_)
 clear hK K
 refine nm 19 ?_
 refine pz 9 20 [10, 1] HT_ ?_
 refine pz 10 21 [11, 0] HT_ ?_
 refine done_ (done_of HT_.out (by kernel_rfl)) ?_
 try go_wp2
 go_ret
 exact ⟨er, pT HB.out⟩
end Go.Proofs.Ytmekfmhnpinjlaa.P
namespace Go.Proofs.Ytmekfmhnpinjlaa.P
theorem mp_goesA {P : Program} {ops : Array Oper} {Q : Exit → Act → World → Prop} {oi : Oper} {N : Option Tmp} {a : Act} {w : World} {K : Act → World → Prop} {g : FuncId} {lb : Array Value} {c : Operand} {aa : Array Operand} {ts : Array TypeId}
    (eg : ∀ args w, (callFunc g args).run P w = .ok (.enter g args) w) (args : Array Value) (hw : Region.wanted oi (yielded ops a.tmps) = true) (hN : oi.dst = N) (hop : oi.op = .call { callee := .value c, args := aa, argTypes := ts })
    (hc : a.eval c = .func (.func g) #[] lb) (hargs : aa.map a.eval = args) (h : Calls P g (args ++ lb) w fun e w' => ∃ v, e = .returned v ∧ K (a.put N v) w') : if Region.wanted oi (yielded ops a.tmps) = true then Oper.wp P oi a w K Q else K (a.put N undef) w := by
  refine call_ g (args ++ lb) hw hN ?_ h
  unfold execOp
  simp [hop, hc, resolve, Deferred.ofValue, invoke, hargs, eg]
end Go.Proofs.Ytmekfmhnpinjlaa.P
namespace Go.Proofs.Ytmekfmhnpinjlaa.P
attribute [local go_sem] max2_int min2_int max_two min_two max_three min_three max_four min_four
def bits_Mul64.f (a0 : Int) (a1 : Int) : Option (Int × Int) := some (IntKind.u64.wrap ((IntKind.u64.wrap ((IntKind.u64.wrap ((a0 / 4294967296) * (a1 / 4294967296))) + ((IntKind.u64.wrap ((IntKind.u64.wrap ((a0 / 4294967296) * (Go.bits .and .u64 a1 4294967295))) + ((IntKind.u64.wrap ((Go.bits .and .u64 a0 4294967295) * (Go.bits .and .u64 a1 4294967295))) / 4294967296))) / 4294967296))) + ((IntKind.u64.wrap ((Go.bits .and .u64 (IntKind.u64.wrap ((IntKind.u64.wrap ((a0 / 4294967296) * (Go.bits .and .u64 a1 4294967295))) + ((IntKind.u64.wrap ((Go.bits .and .u64 a0 4294967295) * (Go.bits .and .u64 a1 4294967295))) / 4294967296))) 4294967295) + (IntKind.u64.wrap ((Go.bits .and .u64 a0 4294967295) * (a1 / 4294967296))))) / 4294967296)), IntKind.u64.wrap (a0 * a1))
theorem bits_Mul64.calls (a0 : Int) (a1 : Int) (r1 : Int) (r2 : Int) (w : World) (h : bits_Mul64.f a0 a1 = some (r1, r2)) :
  Calls Try.prog 92 #[.int .u64 a0, .int .u64 a1] w fun e w' => e = .returned (.tuple #[.int .u64 r1, .int .u64 r2]) ∧ Drawn0 w w' := by
 have H : (some (IntKind.u64.wrap ((IntKind.u64.wrap ((IntKind.u64.wrap ((a0 / 4294967296) * (a1 / 4294967296))) + ((IntKind.u64.wrap ((IntKind.u64.wrap ((a0 / 4294967296) * (Go.bits .and .u64 a1 4294967295))) + ((IntKind.u64.wrap ((Go.bits .and .u64 a0 4294967295) * (Go.bits .and .u64 a1 4294967295))) / 4294967296))) / 4294967296))) + ((IntKind.u64.wrap ((Go.bits .and .u64 (IntKind.u64.wrap ((IntKind.u64.wrap ((a0 / 4294967296) * (Go.bits .and .u64 a1 4294967295))) + ((IntKind.u64.wrap ((Go.bits .and .u64 a0 4294967295) * (Go.bits .and .u64 a1 4294967295))) / 4294967296))) 4294967295) + (IntKind.u64.wrap ((Go.bits .and .u64 a0 4294967295) * (a1 / 4294967296))))) / 4294967296)), IntKind.u64.wrap (a0 * a1))) = some (r1, r2) := h
 clear h
 simp only [Option.some.injEq, Prod.mk.injEq] at H
 obtain ⟨rfl, rfl⟩ := H
 go_enter Try.func92, Try.ntmps92
 go_wp2
 go_ret2
 exact ⟨by first | rfl | (simp; done) | (simp [*]; done), by repeat (first | exact Drawn0.refl _ | apply Drawn0.step)⟩
def bits_Mul.f (a0 : Int) (a1 : Int) : Option (Int × Int) := (bits_Mul64.f a0 a1).bind fun bt101 => (some (bt101.1, bt101.2))
theorem bits_Mul.calls (a0 : Int) (a1 : Int) (r1 : Int) (r2 : Int) (w : World) (h : bits_Mul.f a0 a1 = some (r1, r2)) :
  Calls Try.prog 84 #[.int .u64 a0, .int .u64 a1] w fun e w' => e = .returned (.tuple #[.int .u64 r1, .int .u64 r2]) ∧ Drawn0 w w' := by
 have H : ((bits_Mul64.f a0 a1).bind fun bt101 => (some (bt101.1, bt101.2))) = some (r1, r2) := h
 clear h
 replace H := oA H
 obtain ⟨⟨t101, t102⟩, A3, H⟩ := H
 replace H : (some (t101, t102)) = some (r1, r2) := H
 simp only [Option.some.injEq, Prod.mk.injEq] at H
 obtain ⟨rfl, rfl⟩ := H
 go_enter Try.func84, Try.ntmps84
 go_wp2_with (first | ((with_reducible refine gc 92 rfl ?_); refine gl (some 25) Try.func92 #[.int .u64 a0, .int .u64 a1] ?_; (with_reducible refine (bits_Mul64.calls a0 a1 t101 t102 _ A3.out).mono ?_); rintro e w' ⟨rfl, ⟨nd, rfl⟩⟩; refine ⟨_, rfl, ?_⟩))
 go_ret2
 exact ⟨by first | rfl | (simp; done) | (simp [*]; done), by repeat (first | exact Drawn0.refl _ | apply Drawn0.step)⟩
def slices_Repeat_int_int.f (l0 : List Int) (a1 : Int) : Option (List Int) := if l0.length = 1 ∧ 0 ≤ a1 ∧ a1 ≤ 64 then some (List.replicate a1.toNat (rd l0 0)) else none
theorem repeat_mul : ∀ N : Fin 65, bits_Mul.f 1 (IntKind.u64.wrap ((N.val : Nat) : Int)) = some (0, ((N.val : Nat) : Int)) := by decide +kernel
def repRow (N m : Nat) (x : Int) : List Value := List.replicate m (.int .i64 x) ++ List.replicate (N - m) (.int .i64 0)
theorem repeat_first (N : Nat) (x : Int) : splice (List.replicate N (Value.int .i64 0)) 0 (List.replicate (min 1 N) (.int .i64 x)) = repRow N (min 1 N) x := by
 unfold splice repRow
 simp
theorem repeat_made (w : World) (N : Nat) : (w.alloc (.cells (madeCells #[Value.int .i64 0] N) 3)).heap[w.heap.size]? = some (.cells (List.replicate N (Value.int .i64 0)).toArray 3 (0, 0)) := by
 have e : madeCells #[Value.int .i64 0] N = (List.replicate N (Value.int .i64 0)).toArray := by
  apply Array.ext
  ·
   simp [madeCells]
  intro i h1 h2
  simp [madeCells, Nat.mod_one]
 rw [e]
 exact World.alloc_heap_new w _
theorem repeat_pos (w w1 : World) (N : Nat) (x : Int) (ad : Addr) (h : Kd.C (Kd.int .i64) w (some ad) 1 [x]) (hb : Below w.heap.size w w1) : 0 < (List.replicate (min 1 N) (Value.int .i64 x)).length →
    some (⟨w1.heap.size, 0, none⟩ : Addr) = some ⟨w1.heap.size, 0, none⟩ ∧ ∃ a, some ad = some a ∧ ∀ j v, (List.replicate (min 1 N) (Value.int .i64 x))[j]? = some v → (w1.alloc (.cells (madeCells #[Value.int .i64 0] N) 3)).cell? (a.add j) = some v := by
  intro _
  refine ⟨rfl, ad, rfl, fun j v hv => ?_⟩
  obtain ⟨hj, rfl⟩ := List.getElem?_eq_some_iff.1 hv
  have : j = 0 := by simp at hj; omega
  subst this
  rw [List.getElem_replicate]
  obtain ⟨ad2, e2, hcell⟩ := Kd.at_int (Kd.C_alloc (Kd.C_below h hb) (.cells (madeCells #[Value.int .i64 0] N) 3)) 0 (by omega) (by omega)
  cases e2
  exact hcell
theorem repeat_fit (N m : Nat) (x : Int) : m + (List.replicate (min m (N - m)) (Value.int .i64 x)).length ≤ (repRow N m x).length := by
 simp [repRow]; omega
theorem repeat_next (N m : Nat) (x : Int) (h : m < N) : splice (repRow N m x) m (List.replicate (min m (N - m)) (.int .i64 x)) = repRow N (m + min m (N - m)) x := by
 unfold splice repRow
 apply List.ext_getElem
 ·
  simp; omega
 intro i h1 h2
 simp [List.getElem_append, List.getElem_take, List.getElem_drop]
 split <;> split <;> (try split) <;> (try split) <;> first | rfl | omega
theorem repeat_pos2 (W : World) (g N m : Nat) (x : Int) (h : W.heap[g]? = some (.cells (repRow N m x).toArray 3 (0, 0))) : 0 < (List.replicate (min m (N - m)) (Value.int .i64 x)).length →
    some (⟨g, m, none⟩ : Addr) = some ⟨g, m, none⟩ ∧ ∃ a, some (⟨g, 0, none⟩ : Addr) = some a ∧ ∀ j v, (List.replicate (min m (N - m)) (Value.int .i64 x))[j]? = some v → W.cell? (a.add j) = some v := by
  intro _
  refine ⟨rfl, _, rfl, fun j v hv => ?_⟩
  obtain ⟨hj, rfl⟩ := List.getElem?_eq_some_iff.1 hv
  rw [List.getElem_replicate]
  have hjm : j < m := by simp at hj; omega
  have e : (⟨g, 0, none⟩ : Addr).add j = ⟨g, j, none⟩ := by rw [add_plain]
  rw [e, World.cell?, h]
  simp [repRow, List.getElem?_append, hjm]
theorem repeat_row (w wr : World) (g N : Nat) (x : Int) (h : wr.heap[g]? = some (.cells (repRow N N x).toArray 3 (0, 0))) (hs : w.heap.size ≤ g) (hN : N ≤ 64) :
    Kd.R (Kd.int .i64) 3 wr w.heap.size (fun _ => True) (.slice (some ⟨g, 0, none⟩) N N) (List.replicate N (rd [x] 0)) := by
  have e : rd [x] 0 = x := rfl
  rw [e]
  have es : (Kd.int .i64).sz = 1 := rfl
  refine ⟨fun _ _ => trivial, encs (Value.int .i64) (List.replicate N x), ⟨by rw [es]; simp [encs], .inr ⟨g, N, (repRow N N x).toArray, by rw [List.length_replicate], hs, h, by simp, by unfold maxLen; omega, by rw [es]; simp [repRow], by rw [es]; simp [repRow, encs]⟩⟩, Kd.reps_scalar _⟩
set_option maxHeartbeats 2000000 in
set_option maxRecDepth 100000 in
theorem slices_Repeat_int_int.calls (A0 : Option Addr) (c0 : Nat) (l0 : List Int) (a1 : Int) (r : List Int) (w : World) (hr0 : Kd.C (Kd.int .i64) w A0 l0.length l0) (hc0 : l0.length ≤ c0) (h : slices_Repeat_int_int.f l0 a1 = some r) :
    Calls Try.prog 71 #[.slice A0 l0.length c0, .int .i64 a1] w fun e w' => ∃ v0_ : Value, e = .returned (v0_) ∧ Kd.R (Kd.int .i64) 3 w' w.heap.size (fun _ => True) v0_ r ∧ Below w.heap.size w w' := by
 unfold slices_Repeat_int_int.f at h
 by_cases hg : l0.length = 1 ∧ 0 ≤ a1 ∧ a1 ≤ 64
 case neg => rw [if_neg hg] at h; exact absurd h (by simp)
 rw [if_pos hg] at h
 obtain rfl := Option.some.inj h
 obtain ⟨h1, h2, h3⟩ := hg
 obtain ⟨N, rfl⟩ := Int.eq_ofNat_of_zero_le h2
 obtain ⟨x, rfl⟩ : ∃ x, l0 = [x] := List.length_eq_one_iff.1 h1
 have hN : N ≤ 64 := by omega
 obtain ⟨ad, e0, hcell⟩ := Kd.at_int hr0 0 (by omega) (by simp)
 cases e0
 have HM : Aside0 (bits_Mul.f 1 (IntKind.u64.wrap (N : Int)) = some (0, (N : Int))) := ⟨repeat_mul ⟨N, by omega⟩⟩
 have HN := aK hN
 have HC : Aside0 (Kd.C (Kd.int .i64) w (some ad) 1 [x]) := ⟨hr0⟩
 have HB := aK (Below.refl w.heap.size w)
 obtain ⟨i0, hi0, hz0, hsz0, hb0⟩ := info_parts info3
 have t2 : decide (9223372036854775807 < (N : Int)) = false := decide_eq_false (by omega)
 have HW : Aside0 (wrap64 (N : Int) = (N : Int)) := ⟨by unfold wrap64; omega⟩
 have hszm : (Try.prog.info? 3).map (·.size) = some 1 := by rw [hi0]; simp [hsz0]
 have mixed : Try.prog.follows .mixedOrders = true := by kernel_rfl
 have t1 : decide ((N : Int) < 0) = false := by simp
 clear hr0 h1 h2 h3 h hcell hN
 go_enter Try.func71, Try.ntmps71
 go_wp2_with (first
  | (go_at_call 84; refine (bits_Mul.calls 1 (IntKind.u64.wrap (N : Int)) 0 (N : Int) _ HM.out).mono ?_; rintro e w1 ⟨rfl, hd⟩; have HD := aK hd.below; clear hd)
  | ((with_reducible refine ga 30 rfl ?_); go_must (refine wpList_make_row _ rfl (.tmp 29) (.tmp 29) 24 rfl 3 i0 (.int .i64 0) Try.underlying24 hi0 hz0 hsz0 rfl .i64 .i64 N (congrArg (Value.int .i64) HW.out) (congrArg (Value.int .i64) HW.out) (by have := HN.out; rw [hb0]; omega) (by have := HN.out; omega) ?_))
  | ((with_reducible refine gate_builtin (b := .copy) (xs := #[.tmp 31, .tmp 32]) rfl ?_); go_must (refine wpList_copy_splice rfl (.tmp 31) (.tmp 32) 24 24 rfl 3 Try.underlying24 hszm (some ⟨w1.heap.size, 0, none⟩) (some ad) N N 1 c0 rfl rfl w1.heap.size 0 (List.replicate N (.int .i64 0)) 3 (repeat_made w1 N) (List.replicate (min 1 N) (.int .i64 x)) ?hn ?hpos ?hfit ?h1 w.heap.size w ?hb HD.out.size ?_; (case hn => simp); (case hfit => simp; omega); (case h1 => intro v hv; rw [List.eq_of_mem_replicate hv]; rfl); (case hb => exact below_alloc HD.out _); (case hpos => exact repeat_pos w w1 N x ad HC.out HD.out)); intro w3 hg3 hb3; rw [repeat_first] at hg3; have HG := aK hg3; have HB3 := aK hb3; clear hg3 hb3))
 have HS : Aside0 (w.heap.size ≤ w1.heap.size) := ⟨HD.out.size⟩
 generalize w1.heap.size = g at *
 go_loopg [8] N (fun gg s8 wr => ∃ m : Nat, s8 = .int .i64 (m : Int) ∧ Aside0 (min 1 N ≤ m ∧ m ≤ N ∧ N - m ≤ gg) ∧ Aside0 (wr.heap[g]? = some (.cells (repRow N m x).toArray 3 (0, 0))) ∧ Below w.heap.size w wr)
 case atStart => exact ⟨min 1 N, rfl, ⟨Nat.le_refl _, Nat.min_le_right _ _, by omega⟩, ⟨HG.out⟩, HB3.out⟩
 case round =>
 obtain ⟨m, rfl, AA, HG2, hb⟩ := hrel
 have HB := aK hb
 clear hb
 by_cases hlt : (m : Int) < (N : Int)
 rotate_left
 ·
  have c4b0 : (m < N) = False := eq_false (by omega)
  have HE : Aside0 (m = N) := ⟨by have := AA.out; omega⟩
  clear hlt
  go_wp2_with fail
  go_ret
  refine ⟨_, rfl, ?_, HB.out⟩
  obtain rfl := HE.out
  exact repeat_row _ _ _ _ _ HG2.out HS.out HN.out
 have c4b0 : (m < N) = True := eq_true (by omega)
 have hm := AA.out
 have hmN : m < N := by omega
 have hcut1 : ∀ W : World, (Instr.slice 24 (.slice (some ⟨g, 0, none⟩) N N) (some (.int .i64 (m : Int))) none none).run Try.prog W = .ok (.slice (some ⟨g, m, none⟩) (N - m) (N - m)) W := by
  intro W
  have h := cut_from (P := Try.prog) 24 3 .i64 Try.underlying24 hi0 1 hsz0 (some ⟨g, 0, none⟩) N N (m : Int) (by omega) (by omega) W
  rw [Int.toNat_natCast, if_neg (by omega)] at h
  have ea : (⟨g, 0, none⟩ : Addr).add (m * 1) = ⟨g, m, none⟩ := by rw [add_plain]; simp
  rw [Option.map_some, ea] at h
  exact h
 have hcut2 : ∀ W : World, (Instr.slice 24 (.slice (some ⟨g, 0, none⟩) N N) none (some (.int .i64 (m : Int))) none).run Try.prog W = .ok (.slice (some ⟨g, 0, none⟩) m N) W := by
  intro W
  have h := cut_to (P := Try.prog) 24 3 .i64 Try.underlying24 hi0 (some ⟨g, 0, none⟩) N N (m : Int) (by omega) (by omega) (Nat.le_refl _) W
  rw [Int.toNat_natCast] at h
  exact h
 have HMN := aK hmN
 clear hm hmN hlt
 go_wp2_with fail
 go_region_law_o (refine step_copy_splice rfl (.tmp 41) (.tmp 44) 24 24 rfl 3 Try.underlying24 hszm (some ⟨g, m, none⟩) (some ⟨g, 0, none⟩) (N - m) (N - m) m N (by simp [Act.eval, Act.put]) (by simp [Act.eval, Act.put]) g m (repRow N m x) 3 HG2.out (List.replicate (min m (N - m)) (.int .i64 x)) ?hn ?hpos ?hfit ?h1 w.heap.size w ?hb HS.out ?_; (case hn => simp; done); (case hfit => exact repeat_fit N m x); (case h1 => intro v hv; rw [List.eq_of_mem_replicate hv]; rfl); (case hb => exact below_drew1 HB.out); (case hpos => exact repeat_pos2 _ g N m x HG2.out); intro w4 hg4 hb4; rw [repeat_next N m x HMN.out] at hg4; have HG4 := aK hg4; have HB4 := aK hb4; clear hg4 hb4)
 go_wp2_with fail
 go_roundg (N - (m + min m (N - m)))
 case measure => have h1 := AA.out; have h2 := HMN.out; omega
 case rel =>
 have h1 := AA.out
 have h2 := HMN.out
 have h3 := HN.out
 refine ⟨m + min m (N - m), ?_, ⟨by omega, by omega, by omega⟩, ⟨HG4.out⟩, HB4.out⟩
 rw [show ((m : Int) + ((min m (N - m) : Nat) : Int)) = ((m + min m (N - m) : Nat) : Int) by omega, IntWalk.i64_in _ ⟨by omega, by omega⟩]
def impl_filled.f (a0 : Int) (a1 : Int) (a2 : Int) : Option (Int × Int × List Int) := (slices_Repeat_int_int.f (([a2] : List Int)) (wrap64 (a0 * a1))).bind fun t105 => (some (a0, a1, t105))
theorem impl_filled.calls (a0 : Int) (a1 : Int) (a2 : Int) (r1 : Int) (r2 : Int) (r3 : List Int) (w : World) (h : impl_filled.f a0 a1 a2 = some (r1, r2, r3)) :
  Calls Try.prog 64 #[.int .i64 a0, .int .i64 a1, .int .i64 a2] w fun e w' => ∃ v2_ : Value, e = .returned (.agg #[.int .i64 r1, .int .i64 r2, v2_]) ∧ Kd.R (Kd.int .i64) 3 w' w.heap.size (fun _ => True) v2_ r3 ∧ Below w.heap.size w w' := by
 have hu26 := Try.underlying26
 have HB := aK (Below.refl w.heap.size w)
 have H : ((slices_Repeat_int_int.f (([a2] : List Int)) (wrap64 (a0 * a1))).bind fun t105 => (some (a0, a1, t105))) = some (r1, r2, r3) := h
 clear h
 obtain ⟨y102, hy102⟩ : ∃ y_ : List Int, y_ = (([a2] : List Int)) := ⟨_, rfl⟩
 replace H : ((slices_Repeat_int_int.f y102 (wrap64 (a0 * a1))).bind fun t105 => (some (a0, a1, t105))) = some (r1, r2, r3) := by first | (rw [hy102]; first | with_reducible exact H | with_reducible exact (oS H :)) | with_reducible exact (oS H :) | with_reducible exact H | exact H
 have Ny102 := aK hy102
 clear hy102
 replace H := oA H
 obtain ⟨t105, A4, H⟩ := H
 replace H : (some (a0, a1, t105)) = some (r1, r2, r3) := H
 simp only [Option.some.injEq, Prod.mk.injEq] at H
 obtain ⟨rfl, rfl, rfl⟩ := H
 go_enter Try.func64, Try.ntmps64
 go_wp2_with (first | ((with_reducible refine ga 6 rfl ?_); refine bxa #[.int .i64 0, .int .i64 0, .slice none 0 0] 26 ?_; intro g101 hg w5 B101 hb; have GW101 := gA hg HB; replace HB := bS HB hb; clear hb hg) | ((with_reducible refine ga 10 rfl ?_); refine Kd.R_lit (Kd.int .i64) _ 3 ?hg (N := 10) ?hd (xs := ([a2] : List Int)) (inner := [.int .i64 a2]) (ok := fun _ => True) (okp := fun _ => True) ?hr ?hp (fun _ hk => hk) trivial (Below.refl _ _) (Nat.le_refl _) (by simp) ?_; (case hd => rfl); (case hg => rfl); (case hr => first | (go_simp; done) | (go_simp; rfl)); (case hp => exact (Reps.one (show Kd.M (Kd.int .i64) _ _ _ a2 [.int .i64 a2] from rfl) (Reps.none _ _))); intro v103 w6 ho7 hb hg_ hnew_; clear hg_ hnew_; (first | rw [← Ny102.out] at ho7 | (simp only [Int.reduceToNat] at ho7; rw [← Ny102.out] at ho7)); have HO104 := aK (Kd.R_lower ho7 (below_size (pS HB.out))); replace B101 := bB B101 hb; replace HB := bS HB hb; clear hb ho7; obtain ⟨Ao8, co8, eo8⟩ := Kd.R_slice HO104.out; subst eo8) | ((with_reducible refine gc 71 rfl ?_); refine gl (some 14) Try.func71 #[.slice Ao8 y102.length co8, .int .i64 (wrap64 (a0 * a1))] ?_; (with_reducible refine (slices_Repeat_int_int.calls _ _ y102 (wrap64 (a0 * a1)) t105 _ ?side1 ?side2 A4.out).mono ?_); (case side1 => exact pC (Kd.R_reads' HO104.out).2.2); (case side2 => exact (Kd.R_reads' HO104.out).2.1); rintro e w9 ⟨v106, rfl, ho0, hb⟩; refine ⟨_, rfl, ?_⟩; have n0_ := aK (Kd.R_elder' (pR HO104.out) (Kd.R_base ho0) hb); have HO107 := aK (Kd.R_lower (nw1 ho0 (pR HO104.out)) (below_size (pS HB.out))); replace B101 := bB B101 hb; replace HB := bS HB hb; clear HO104; have HO104 := n0_; clear n0_; (try clear hb); (try clear hb2); (try clear hk); (try clear hi); (try clear ho0); obtain ⟨Ao10, co10, eo10⟩ := Kd.R_slice HO107.out; subst eo10; obtain ⟨_, _, _, _, _, _⟩ := bc3 B101.out))
 refine bodyPost_ret (results_cell_row rfl _ _ g101 26 #[.int .i64 a0, .int .i64 a1, .slice Ao10 t105.length co10] (0, 0) _ rfl (by refine bq #[.int .i64 a0, .int .i64 a1, .slice none 0 0] 2 ?_; refine bq #[.int .i64 a0, .int .i64 0, .slice none 0 0] 1 ?_; refine bq #[.int .i64 0, .int .i64 0, .slice none 0 0] 0 ?_; refine bk ?_; exact B101.out) Try.underlying26 rfl (by kernel_rfl)) rfl ?_
 exact ⟨_, er, by (with_reducible repeat (first | apply Kd.R_alloc | apply Kd.R_drewN | apply Kd.R_drew)); exact Kd.R_mono (rF3 HO107.out B101.out (.int .i64 a0) (.int .i64 a1) (.slice Ao10 t105.length co10)) (fun _ h => trivial), pT HB.out⟩
def impl_fieldBy_at_mp_mpGi64_i64_i64.l0 (p : Int → Int → Option (Int)) : Nat → Int → Int → Int → Int → Int → List Int → Option (Int × Int × List Int)
 | 0, _, _, _, _, _, _ => none
 | k + 1, x0, x14, x15, x108000, x108001, x108002 => if x15 < x14 then (if x0 = 0 then (none) else ((p (Int.tmod x15 x0) (wrap64 (Int.tdiv x15 x0))).bind fun t108 => (if 0 ≤ x15 then (if x15 < (x108002.length : Int) then (impl_fieldBy_at_mp_mpGi64_i64_i64.l0 p k x0 x14 (wrap64 (x15 + 1)) x108000 x108001 (x108002.set (x15 : Int).toNat t108)) else (none)) else (none)))) else (some (x108000, x108001, x108002))
def impl_fieldBy_at_mp_mpGi64_i64_i64.f (k : Nat) (p : Int → Int → Option (Int)) (a0 : Int) (a1 : Int)  : Option (Int × Int × List Int) := (impl_filled.f a0 a1 0).bind fun bt102 => (impl_fieldBy_at_mp_mpGi64_i64_i64.l0 p k a0 (bt102.2.2.length : Int) 0 bt102.1 bt102.2.1 bt102.2.2)
def impl_fieldBy_at_mp_mpGi64_i64_i64.T5 : Bool × List (List Nat × List Nat) := (true, [([], []), ([0], [0]), ([], []), ([], []), ([], []), ([], []), ([4, 5], [4, 5]), ([], []), ([], []), ([7, 8], [7, 8]), ([3, 6, 9], [3, 6, 9]), ([1, 2, 0, 1, 2, 3, 4, 5, 6, 7, 8, 9, 10], [1, 2]), ([11, 10, 10, 0, 1, 2, 3, 4, 5, 6, 7, 8, 9, 10], [10, 11])])
def impl_fieldBy_at_mp_mpGi64_i64_i64.B5 : List Nat := [0, 1, 0, 0, 0, 0, 48, 0, 0, 384, 1016, 2047, 4095]
theorem impl_fieldBy_at_mp_mpGi64_i64_i64.tab5 : rtab .any (opsOf Try.f41 5) = impl_fieldBy_at_mp_mpGi64_i64_i64.T5 := by kernel_rfl
theorem impl_fieldBy_at_mp_mpGi64_i64_i64.bits5 : waitsOk impl_fieldBy_at_mp_mpGi64_i64_i64.T5.2 impl_fieldBy_at_mp_mpGi64_i64_i64.B5 = true := by kernel_rfl
theorem impl_fieldBy_at_mp_mpGi64_i64_i64.calls (p : Int → Int → Option (Int)) (g : Nat) (lb : Array Value) (k : Nat) (a0 : Int) (a1 : Int)  (r1 : Int) (r2 : Int) (r3 : List Int) (w : World) (eg : ∀ args w, (callFunc g args).run Try.prog w = .ok (.enter g args) w) (hp : ∀ (a0 : Int) (a1 : Int) (r : Int) (W : World), p a0 a1 = some r → Below w.heap.size w W → Calls Try.prog g (#[.int .i64 a0, .int .i64 a1] ++ lb) W fun e W' => e = .returned (.int .i64 r) ∧ Below W.heap.size W W') (h : impl_fieldBy_at_mp_mpGi64_i64_i64.f k p a0 a1 = some (r1, r2, r3)) :
  Calls Try.prog 41 #[.int .i64 a0, .int .i64 a1, .func (.func g) #[] lb] w fun e w' => ∃ v2_ : Value, e = .returned (.agg #[.int .i64 r1, .int .i64 r2, v2_]) ∧ Kd.R (Kd.int .i64) 3 w' w.heap.size (fun _ => True) v2_ r3 ∧ Below w.heap.size w w' := by
 have hu26 := Try.underlying26
 have HB := aK (Below.refl w.heap.size w)
 have H : ((impl_filled.f a0 a1 0).bind fun bt102 => (impl_fieldBy_at_mp_mpGi64_i64_i64.l0 p k a0 (bt102.2.2.length : Int) 0 bt102.1 bt102.2.1 bt102.2.2)) = some (r1, r2, r3) := h
 clear h
 replace H := oA H
 obtain ⟨⟨t102, t103, t104⟩, A4, H⟩ := H
 replace H : (impl_fieldBy_at_mp_mpGi64_i64_i64.l0 p k a0 (t104.length : Int) 0 t102 t103 t104) = some (r1, r2, r3) := H
 have H' := aK H
 clear H
 go_enter Try.func41, Try.ntmps41
 go_wp2_with (first | ((with_reducible refine ga 6 rfl ?_); refine bxa #[.int .i64 0, .int .i64 0, .slice none 0 0] 26 ?_; intro g101 hg w5 B101 hb; have GW101 := gA hg HB; replace HB := bS HB hb; clear hb hg) | ((with_reducible refine gc 64 rfl ?_); refine gl (some 11) Try.func64 #[.int .i64 a0, .int .i64 a1, .int .i64 0] ?_; (with_reducible refine (impl_filled.calls a0 a1 0 t102 t103 t104 _ A4.out).mono ?_); rintro e w6 ⟨v105, rfl, ho0, hb⟩; refine ⟨_, rfl, ?_⟩; have HO106 := aK (Kd.R_lower ho0 (below_size (pS HB.out))); replace B101 := bB B101 hb; replace HB := bS HB hb; (try clear hb); (try clear hb2); (try clear hk); (try clear hi); (try clear ho0)) | ((with_reducible refine ga 7 rfl ?_); refine bxa #[.int .i64 0, .int .i64 0, .slice none 0 0] 26 ?_; intro g107 hg w7 B107 hb; replace HO106 := rb HO106 hb; have GW107 := gA hg HB; obtain ⟨N101_107, N107_101⟩ := na hg B101; replace B101 := bB B101 hb; replace HB := bS HB hb; clear hb hg; obtain ⟨_, _⟩ := nB N107_101; obtain ⟨z9_0, z9_1, z9_2, y9_0, y9_1, y9_2⟩ := bc3 B107.out; obtain ⟨Ao10, co10, eo10⟩ := Kd.R_slice HO106.out; subst eo10))
 go_loopg [15] k (fun kq v15 w' => ∃ (x15_1 : Int) (x108002_1 : List Int) (u108002 : Value), v15 = .int .i64 x15_1 ∧ Aside0 (impl_fieldBy_at_mp_mpGi64_i64_i64.l0 p kq a0 (t104.length : Int) x15_1 t102 t103 x108002_1 = some (r1, r2, r3)) ∧ Aside0 (kq ≤ k) ∧ Aside0 (Kd.R (Kd.int .i64) 3 w' w.heap.size (fun _ => True) u108002 x108002_1) ∧ Aside0 (w'.heap[g101]? = some (.cells #[.int .i64 0, .int .i64 0, (.slice none 0 0)] 26 (0, 0))) ∧ Aside0 (w'.heap[g107]? = some (.cells #[.int .i64 t102, .int .i64 t103, u108002] 26 (0, 0))) ∧ Aside0 (Below w.heap.size w w'))
 case atStart => exact ⟨(0), (t104), (.slice Ao10 t104.length co10), (by first | rfl | (simp; done) | (simp [*]; done)), H', ⟨Nat.le_refl _⟩, ⟨pR (Kd.R_mono (rF3 HO106.out B107.out (.int .i64 t102) (.int .i64 t103) (.slice Ao10 t104.length co10)) (fun _ h => trivial))⟩, ⟨by refine bg N101_107 ?_; refine bg N101_107 ?_; refine bg N101_107 ?_; refine bk ?_; exact B101.out⟩, ⟨by refine bq #[.int .i64 t102, .int .i64 t103, .slice none 0 0] 2 ?_; refine bq #[.int .i64 t102, .int .i64 0, .slice none 0 0] 1 ?_; refine bq #[.int .i64 0, .int .i64 0, .slice none 0 0] 0 ?_; refine bk ?_; exact B107.out⟩, ⟨pT HB.out⟩⟩
 case round =>
 clear H'
 try clear p2
 try clear c6
 try clear c8
 try clear c9
 try clear z9_0
 try clear z9_1
 try clear z9_2
 try clear y9_0
 try clear y9_1
 try clear y9_2
 obtain ⟨x15_1, x108002_1, u108002, rfl, HA, HK1, O0, B101, B107, HB⟩ := hrel
 cases gk with
 | zero => exact absurd HA.out (by simp [impl_fieldBy_at_mp_mpGi64_i64_i64.l0])
 | succ k1 =>
 have H := HA.out
 clear HA
 simp only [impl_fieldBy_at_mp_mpGi64_i64_i64.l0] at H
 by_cases c11 : x15_1 < (t104.length : Int)
 rotate_left
 ·
  rw [if_neg c11] at H
  have c11b0 : decide (x15_1 < (t104.length : Int)) = false := decide_eq_false c11
  clear c11
  simp only [Option.some.injEq, Prod.mk.injEq] at H
  obtain ⟨rfl, rfl, rfl⟩ := H; obtain ⟨_, _⟩ := nB N107_101; obtain ⟨_, _, _, _, _, _⟩ := bc3 B107.out; obtain ⟨_, _, _, _, _, _⟩ := bc3 B101.out; obtain ⟨Ao23, co23, eo23⟩ := Kd.R_slice O0.out; subst eo23
  go_wp2
  refine bodyPost_ret (results_cell_row rfl _ _ g101 26 #[.int .i64 t102, .int .i64 t103, .slice Ao23 x108002_1.length co23] (0, 0) _ rfl (by refine bq #[.int .i64 t102, .int .i64 t103, .slice none 0 0] 2 ?_; refine bq #[.int .i64 t102, .int .i64 0, .slice none 0 0] 1 ?_; refine bq #[.int .i64 0, .int .i64 0, .slice none 0 0] 0 ?_; refine bk ?_; exact B101.out) Try.underlying26 rfl (by kernel_rfl)) rfl ?_
  exact ⟨_, er, by (with_reducible repeat (first | apply Kd.R_alloc | apply Kd.R_drewN | apply Kd.R_drew)); exact Kd.R_mono (rF3 O0.out B101.out (.int .i64 t102) (.int .i64 t103) (.slice Ao23 x108002_1.length co23)) (fun _ h => trivial), pT HB.out⟩
 rw [if_pos c11] at H
 have c11b0 : decide (x15_1 < (t104.length : Int)) = true := decide_eq_true c11
 clear c11
 by_cases c12 : a0 = 0
 ·
  rw [if_pos c12] at H
  exact absurd H (by simp)
 rw [if_neg c12] at H
 have c12b0 : (a0 == 0) = false := beq_eq_false_iff_ne.mpr c12
 have c12b1 : (a0 != 0) = true := bne_iff_ne.mpr c12
 replace H := oA H
 obtain ⟨t108, A13, H⟩ := H
 replace H : (if 0 ≤ x15_1 then (if x15_1 < (x108002_1.length : Int) then (impl_fieldBy_at_mp_mpGi64_i64_i64.l0 p k1 a0 (t104.length : Int) (wrap64 (x15_1 + 1)) t102 t103 (x108002_1.set (x15_1 : Int).toNat t108)) else (none)) else (none)) = some (r1, r2, r3) := H
 by_cases c14 : 0 ≤ x15_1
 rotate_left
 ·
  rw [if_neg c14] at H
  exact absurd H (by simp)
 rw [if_pos c14] at H
 have c14b0 : decide (0 ≤ x15_1) = true := decide_eq_true c14
 clear c14
 by_cases c15 : x15_1 < (x108002_1.length : Int)
 rotate_left
 ·
  rw [if_neg c15] at H
  exact absurd H (by simp)
 rw [if_pos c15] at H
 have c15b0 : decide (x15_1 < (x108002_1.length : Int)) = true := decide_eq_true c15
 clear c15
 obtain ⟨y109, hy109⟩ : ∃ y_ : List Int, y_ = (x108002_1.set (x15_1 : Int).toNat t108) := ⟨_, rfl⟩
 replace H : (impl_fieldBy_at_mp_mpGi64_i64_i64.l0 p k1 a0 (t104.length : Int) (wrap64 (x15_1 + 1)) t102 t103 y109) = some (r1, r2, r3) := by first | (rw [hy109]; first | with_reducible exact H | with_reducible exact (oS H :)) | with_reducible exact (oS H :) | with_reducible exact H | exact H
 have Ny109 := aK hy109
 clear hy109
 have H' := aK H
 clear H
 try go_wp2
 replace O0 := rdw O0
 replace B101 := bD B101
 replace B107 := bD B107
 replace HB := aK (below_drew1 HB.out)
 refine start_ (n := 13) (S := fun w' => w'.cell? ⟨g107, 0, none⟩ = some (.int .i64 t102) ∧ w'.cell? ⟨g107, 1, none⟩ = some (.int .i64 t103) ∧ w'.cell? ⟨g107, 2, none⟩ = some (u108002)) (ds := [12]) (bz [0, 13]) (by kernel_rfl) rfl rfl (cz3 B107.out) (fun hHeld => ?_); refine with_tabW impl_fieldBy_at_mp_mpGi64_i64_i64.tab5 impl_fieldBy_at_mp_mpGi64_i64_i64.bits5 (fun HT_ HW_ => ?_)
 generalize wr.drew = w17 at O0 B101 B107 HB hHeld ⊢
 refine pz 0 18 [1, 12] HT_ ?_
 refine pz 2 20 [1, 1, 1, 10] HT_ ?_
 refine pz 3 21 [1, 1, 2, 9] HT_ ?_
 refine pz 4 22 [1, 1, 3, 8] HT_ ?_
 refine pz 5 23 [1, 1, 4, 7] HT_ ?_
 refine pz 6 24 [1, 1, 5, 6] HT_ ?_
 refine pz 7 25 [1, 1, 6, 5] HT_ ?_
 refine pz 8 26 [1, 1, 7, 4] HT_ ?_
 refine pz 9 27 [1, 1, 8, 3] HT_ ?_
 refine tz 1 19 [10, 3] HT_ HW_ rfl (by rintro w' ⟨s0, s1, s2⟩; go_simp; with_reducible rfl) hHeld ?_
 refine oz 10 28 [11, 2] HT_ fun K hK => ?_
 refine mp_goesA (lb := lb) eg #[.int .i64 (Int.tmod x15_1 a0), .int .i64 (wrap64 (Int.tdiv x15_1 a0))] (by rfl) rfl rfl rfl (by (try simp only [List.map_toArray, List.map_cons, List.map_nil]); first | done | rfl | (simp only [List.length_drop, List.length_take]; rfl)) ?_
 refine (hp (Int.tmod x15_1 a0) (wrap64 (Int.tdiv x15_1 a0)) t108 _ A13.out (pS HB.out)).mono ?_
 rintro e w18 ⟨rfl, hb⟩
 refine ⟨_, rfl, ?_⟩
 replace O0 := rb O0 hb
 replace B101 := bB B101 hb
 replace B107 := bB B107 hb
 replace HB := bS HB hb
 (try clear hb)
 (try clear hb2)
 (try clear hk)
 (try clear hi)
 have p16 : 0 ≤ (x15_1 : Int) := dA
 have q16 : (x15_1 : Int) < ((x108002_1.length : Int) : Int) := dA
 obtain ⟨go16, co16, eo16, g16, gl16, cl16, HG16⟩ := Kd.R_form O0.out (by omega)
 (first | cases eo16 | (injection eo16 with ea_ en_ ec_; (first | subst ea_ | (injection ea_ with ea_; subst ea_)); subst ec_; clear en_))
 have GB16 := aK g16
 have GG16 := aK HG16
 clear g16 gl16 HG16
 obtain ⟨hx16_0, hf16_0⟩ := Kd.R_celln 0 O0.out (x15_1 : Int) p16 q16
 replace p16 := eq_true p16
 replace q16 := eq_true q16
 have HP19 := Kd.R_putn O0.out (x15_1 : Int) t108
 rw [← Ny109.out] at HP19
 have HQ19 := aK HP19
 clear HP19
 refine hK.out _ _ (cz3 B107.out) (fun hHeld => ?_)
 clear hK K
 refine nm 28 ?_
 refine pz 11 29 [12, 1] HT_ ?_
 refine last_ (i := 12) (N := none) (bz [13, 0]) rfl rfl (one_of HT_.out (by kernel_rfl)) (by decide) (fun K hK => ?_)
 refine skip_ (w1 := ?_) (by rfl) rfl ?_ ?_
 rotate_left
 ·
  go_simp
  rfl
 refine hK.out _ _ ?_
 clear hK K
 refine done_ (done_of HT_.out (by kernel_rfl)) ?_
 try go_wp2
 go_roundg k1
 case measure => have := HK1.out; omega
 case rel => exact ⟨(wrap64 (x15_1 + 1)), (y109), (.slice (some ⟨go16, 0, none⟩) x108002_1.length co16), (by first | rfl | (simp; done) | (simp [*]; done)), H', ⟨by have := HK1.out; omega⟩, ⟨pR HQ19.out⟩, ⟨by refine bk ?_; refine blk_far ?_ (by have h_ := Kd.R_ne O0.out B101.out (by decide); intro e_; exact h_ (by rw [e_]; rfl)) _; refine bk ?_; exact B101.out⟩, ⟨by refine bk ?_; refine blk_far ?_ (by have h_ := Kd.R_ne O0.out B107.out (by decide); intro e_; exact h_ (by rw [e_]; rfl)) _; refine bk ?_; exact B107.out⟩, ⟨by repeat (first | (with_reducible first | exact HB.out | apply below_alloc | apply pw_below_drewN | apply below_drew1 | refine below_set ?_ GB16.out | refine below_set ?_ GW101.out | refine below_set ?_ GW107.out) | exact HB.out)⟩⟩
def impl_hasCell.f (a0_0 : Int) (a0_1 : Int) (l0_2 : List Int) (a1 : Int) (a2 : Int) : Option (Bool) := (impl_within.f a1 0 (wrap64 (a0_0 - 1))).bind fun t102 => (if t102 = true then ((impl_within.f a2 0 (wrap64 (a0_1 - 1))).bind fun t103 => (some t103)) else (some false))
theorem impl_hasCell.calls (a0_0 : Int) (a0_1 : Int) (A0_2 : Option Addr) (c0_2 : Nat) (l0_2 : List Int) (a1 : Int) (a2 : Int) (r : Bool) (w : World) (hr0_2 : Kd.C (Kd.int .i64) w A0_2 l0_2.length l0_2) (hc0_2 : l0_2.length ≤ c0_2) (h : impl_hasCell.f a0_0 a0_1 l0_2 a1 a2 = some r) :
  Calls Try.prog 43 #[.agg #[.int .i64 a0_0, .int .i64 a0_1, .slice A0_2 l0_2.length c0_2], .int .i64 a1, .int .i64 a2] w fun e w' => e = .returned (.bool r) ∧ Below w.heap.size w w' := by
 have hu26 := Try.underlying26
 have HR0_2 := aK hr0_2
 have HC0_2 := aK hc0_2
 clear hr0_2 hc0_2
 have HB := aK (Below.refl w.heap.size w)
 have H : ((impl_within.f a1 0 (wrap64 (a0_0 - 1))).bind fun t102 => (if t102 = true then ((impl_within.f a2 0 (wrap64 (a0_1 - 1))).bind fun t103 => (some t103)) else (some false))) = some r := h
 clear h
 replace H := oA H
 obtain ⟨t102, A4, H⟩ := H
 replace H : (if t102 = true then ((impl_within.f a2 0 (wrap64 (a0_1 - 1))).bind fun t103 => (some t103)) else (some false)) = some r := H
 by_cases c5 : t102 = true
 ·
  subst c5
  have H1 : ((impl_within.f a2 0 (wrap64 (a0_1 - 1))).bind fun t103 => (some t103)) = some r := by rw [if_pos rfl] at H; exact H
  clear H; have H := H1; clear H1; replace H := oA H; obtain ⟨t103, A6, H⟩ := H
  replace H : (some t103) = some r := H
  obtain rfl := Option.some.inj H
  go_enter Try.func43, Try.ntmps43
  go_wp2_with (first | ((with_reducible refine ga 3 rfl ?_); refine bxa #[.int .i64 a0_0, .int .i64 a0_1, .slice A0_2 l0_2.length c0_2] 26 ?_; intro g101 hg w7 B101 hb; have GW101 := gA hg HB; replace HB := bS HB hb; clear hb hg; obtain ⟨_, _, _, _, _, _⟩ := bc3 B101.out) | ((with_reducible refine gc 30 rfl ?_); refine gl (some 11) Try.func30 #[.int .i64 a1, .int .i64 0, .int .i64 (wrap64 (a0_0 - 1))] ?_; (with_reducible refine (impl_within.calls a1 0 (wrap64 (a0_0 - 1)) true _ A4.out).mono ?_); rintro e w' ⟨rfl, ⟨nd, rfl⟩⟩; refine ⟨_, rfl, ?_⟩) | (go_at_call 30; (with_reducible refine (impl_within.calls a2 0 (wrap64 (a0_1 - 1)) t103 _ A6.out).mono ?_); rintro e w' ⟨rfl, ⟨nd, rfl⟩⟩))
  go_ret
  exact ⟨er, pT HB.out⟩
 replace c5 := Bool.eq_false_iff.mpr c5
 subst c5
 have H1 : (some false) = some r := by rw [if_neg (show ¬ (false = true) by decide)] at H; exact H
 clear H
 have H := H1
 clear H1
 obtain rfl := Option.some.inj H
 go_enter Try.func43, Try.ntmps43
 go_wp2_with (first | ((with_reducible refine ga 3 rfl ?_); refine bxa #[.int .i64 a0_0, .int .i64 a0_1, .slice A0_2 l0_2.length c0_2] 26 ?_; intro g101 hg w9 B101 hb; have GW101 := gA hg HB; replace HB := bS HB hb; clear hb hg; obtain ⟨_, _, _, _, _, _⟩ := bc3 B101.out) | ((with_reducible refine gc 30 rfl ?_); refine gl (some 11) Try.func30 #[.int .i64 a1, .int .i64 0, .int .i64 (wrap64 (a0_0 - 1))] ?_; (with_reducible refine (impl_within.calls a1 0 (wrap64 (a0_0 - 1)) false _ A4.out).mono ?_); rintro e w' ⟨rfl, ⟨nd, rfl⟩⟩; refine ⟨_, rfl, ?_⟩))
 go_ret
 exact ⟨er, pT HB.out⟩
def impl_moveField_1.f (a0 : Int) (a1 : Int) (a2_0 : Int) (a2_1 : Int) (l2_2 : List Int) (a3_0 : Int) (a3_1 : Int) : Option (Int) := (impl_hasCell.f a2_0 a2_1 l2_2 (wrap64 (a0 - a3_0)) (wrap64 (a1 - a3_1))).bind fun t103 => (if t103 = true then (if 0 ≤ (wrap64 ((wrap64 ((wrap64 ((wrap64 (a1 - a3_1)) * a2_0)) + a0)) - a3_0)) then (if (wrap64 ((wrap64 ((wrap64 ((wrap64 (a1 - a3_1)) * a2_0)) + a0)) - a3_0)) < (l2_2.length : Int) then (some (rd l2_2 (wrap64 ((wrap64 ((wrap64 ((wrap64 (a1 - a3_1)) * a2_0)) + a0)) - a3_0)))) else (none)) else (none)) else (some (-9999)))
theorem impl_moveField_1.calls (a0 : Int) (a1 : Int) (cb2 : Nat) (a2_0 : Int) (a2_1 : Int) (A2_2 : Option Addr) (c2_2 : Nat) (l2_2 : List Int) (cb3 : Nat) (a3_0 : Int) (a3_1 : Int) (r : Int) (w : World) (hk2 : w.heap[cb2]? = some (.cells #[.int .i64 a2_0, .int .i64 a2_1, .slice A2_2 l2_2.length c2_2] 26 (0, 0))) (hr2_2 : Kd.C (Kd.int .i64) w A2_2 l2_2.length l2_2) (hc2_2 : l2_2.length ≤ c2_2) (hk3 : w.heap[cb3]? = some (.cells #[.int .i64 a3_0, .int .i64 a3_1] 28 (0, 0))) (hn2_3 : cb2 ≠ cb3) (h : impl_moveField_1.f a0 a1 a2_0 a2_1 l2_2 a3_0 a3_1 = some r) :
  Calls Try.prog 42 #[.int .i64 a0, .int .i64 a1, .pointer (some ⟨cb2, 0, none⟩), .pointer (some ⟨cb3, 0, none⟩)] w fun e w' => e = .returned (.int .i64 r) ∧ Below w.heap.size w w' := by
 have hu26 := Try.underlying26
 have HR2_2 := aK hr2_2
 have HC2_2 := aK hc2_2
 clear hr2_2 hc2_2
 have B101 := aK hk2
 clear hk2
 have B102 := aK hk3
 clear hk3
 have N101_102 := aK hn2_3
 have N102_101 := aK (Ne.symm hn2_3)
 clear hn2_3
 have HB := aK (Below.refl w.heap.size w)
 have H : ((impl_hasCell.f a2_0 a2_1 l2_2 (wrap64 (a0 - a3_0)) (wrap64 (a1 - a3_1))).bind fun t103 => (if t103 = true then (if 0 ≤ (wrap64 ((wrap64 ((wrap64 ((wrap64 (a1 - a3_1)) * a2_0)) + a0)) - a3_0)) then (if (wrap64 ((wrap64 ((wrap64 ((wrap64 (a1 - a3_1)) * a2_0)) + a0)) - a3_0)) < (l2_2.length : Int) then (some (rd l2_2 (wrap64 ((wrap64 ((wrap64 ((wrap64 (a1 - a3_1)) * a2_0)) + a0)) - a3_0)))) else (none)) else (none)) else (some (-9999)))) = some r := h
 clear h
 replace H := oA H
 obtain ⟨t103, A5, H⟩ := H
 replace H : (if t103 = true then (if 0 ≤ (wrap64 ((wrap64 ((wrap64 ((wrap64 (a1 - a3_1)) * a2_0)) + a0)) - a3_0)) then (if (wrap64 ((wrap64 ((wrap64 ((wrap64 (a1 - a3_1)) * a2_0)) + a0)) - a3_0)) < (l2_2.length : Int) then (some (rd l2_2 (wrap64 ((wrap64 ((wrap64 ((wrap64 (a1 - a3_1)) * a2_0)) + a0)) - a3_0)))) else (none)) else (none)) else (some (-9999))) = some r := H
 by_cases c6 : t103 = true
 rotate_left
 ·
  replace c6 := Bool.eq_false_iff.mpr c6; subst c6
  have H1 : (some (-9999)) = some r := by rw [if_neg (show ¬ (false = true) by decide)] at H; exact H
  clear H; have H := H1; clear H1
  obtain rfl := Option.some.inj H
  obtain ⟨_, _⟩ := nB N101_102; obtain ⟨_, _, _, _, _, _⟩ := bc3 B101.out; obtain ⟨_, _, _, _⟩ := bc2 B102.out
  go_enter Try.func42, Try.ntmps42
  go_wp2_with (first | ((with_reducible refine gc 43 rfl ?_); refine gl (some 16) Try.func43 #[.agg #[.int .i64 a2_0, .int .i64 a2_1, .slice A2_2 l2_2.length c2_2], .int .i64 (wrap64 (a0 - a3_0)), .int .i64 (wrap64 (a1 - a3_1))] ?_; (with_reducible refine (impl_hasCell.calls a2_0 a2_1 _ _ l2_2 (wrap64 (a0 - a3_0)) (wrap64 (a1 - a3_1)) false _ ?side1 ?side2 A5.out).mono ?_); (case side1 => exact pC HR2_2.out); (case side2 => exact HC2_2.out); rintro e w19 ⟨rfl, hb⟩; refine ⟨_, rfl, ?_⟩; replace B101 := bB B101 hb; replace B102 := bB B102 hb; replace HB := bS HB hb; (try clear hb); (try clear hb2); (try clear hk); (try clear hi)))
  go_ret
  exact ⟨er, pT HB.out⟩
 subst c6
 have H1 : (if 0 ≤ (wrap64 ((wrap64 ((wrap64 ((wrap64 (a1 - a3_1)) * a2_0)) + a0)) - a3_0)) then (if (wrap64 ((wrap64 ((wrap64 ((wrap64 (a1 - a3_1)) * a2_0)) + a0)) - a3_0)) < (l2_2.length : Int) then (some (rd l2_2 (wrap64 ((wrap64 ((wrap64 ((wrap64 (a1 - a3_1)) * a2_0)) + a0)) - a3_0)))) else (none)) else (none)) = some r := by rw [if_pos rfl] at H; exact H
 clear H
 have H := H1
 clear H1
 obtain ⟨ji7, hji7⟩ : ∃ j_ : Int, (wrap64 ((wrap64 ((wrap64 ((wrap64 (a1 - a3_1)) * a2_0)) + a0)) - a3_0)) = j_ := ⟨_, rfl⟩
 replace H : (if 0 ≤ (ji7) then (if (ji7) < (l2_2.length : Int) then (some (rd l2_2 (ji7))) else (none)) else (none)) = some r := by first | (rw [hji7] at H; exact H) | (simp only [hji7] at H ⊢; exact H)
 (try rw [hji7] at A5)
 have hji7v : (IntKind.i64.wrap ((IntKind.i64.wrap ((IntKind.i64.wrap ((IntKind.i64.wrap (a1 - a3_1)) * a2_0)) + a0)) - a3_0)) = ji7 := by simp only [i64_w]; exact hji7
 have hji7w : (IntKind.i64.wrap ((wrap64 ((wrap64 ((wrap64 (a1 - a3_1)) * a2_0)) + a0)) - a3_0)) = ji7 := (i64_w _).trans hji7
 by_cases c8 : 0 ≤ (ji7)
 rotate_left
 ·
  rw [if_neg c8] at H
  exact absurd H (by simp)
 rw [if_pos c8] at H
 have c8b0 : decide (0 ≤ (ji7)) = true := decide_eq_true c8
 clear c8
 by_cases c9 : (ji7) < (l2_2.length : Int)
 rotate_left
 ·
  rw [if_neg c9] at H
  exact absurd H (by simp)
 rw [if_pos c9] at H
 have c9b0 : decide ((ji7) < (l2_2.length : Int)) = true := decide_eq_true c9
 clear c9
 obtain rfl := Option.some.inj H
 obtain ⟨_, _⟩ := nB N101_102
 obtain ⟨_, _, _, _, _, _⟩ := bc3 B101.out
 obtain ⟨_, _, _, _⟩ := bc2 B102.out
 go_enter Try.func42, Try.ntmps42
 go_wp2_with (first | ((with_reducible refine gc 43 rfl ?_); refine gl (some 16) Try.func43 #[.agg #[.int .i64 a2_0, .int .i64 a2_1, .slice A2_2 l2_2.length c2_2], .int .i64 (wrap64 (a0 - a3_0)), .int .i64 (wrap64 (a1 - a3_1))] ?_; (with_reducible refine (impl_hasCell.calls a2_0 a2_1 _ _ l2_2 (wrap64 (a0 - a3_0)) (wrap64 (a1 - a3_1)) true _ ?side1 ?side2 A5.out).mono ?_); (case side1 => exact pC HR2_2.out); (case side2 => exact HC2_2.out); rintro e w13 ⟨rfl, hb⟩; refine ⟨_, rfl, ?_⟩; replace B101 := bB B101 hb; replace B102 := bB B102 hb; replace HB := bS HB hb; (try clear hb); (try clear hb2); (try clear hk); (try clear hi); obtain ⟨_, _, _, _, _, _⟩ := bc3 B101.out; obtain ⟨_, _, _, _⟩ := bc2 B102.out; have p104 : 0 ≤ ((ji7) : Int) := dA; have q104 : (ji7) < (l2_2.length : Int) := dA; obtain ⟨ad104, e104, hx104_0⟩ := Kd.at_int HR2_2.out (ji7) p104 q104; cases e104; replace hx104_0 := (HB.out.cell (World.block_lt_of_cell? w _ hx104_0)).trans hx104_0; replace p104 := eq_true p104; replace q104 := eq_true q104))
 go_ret
 exact ⟨by first | rfl | (simp [errW_none, errW_some] <;> rfl) | (simp only [← hji7]; first | rfl | (simp [errW_none, errW_some] <;> rfl)) | (simp [*, errW_none, errW_some] <;> rfl), pT HB.out⟩
def impl_moveField.f (k : Nat) (a0_0 : Int) (a0_1 : Int) (l0_2 : List Int) (a1_0 : Int) (a1_1 : Int) : Option (Int × Int × List Int) := (impl_fieldBy_at_mp_mpGi64_i64_i64.f k (fun z0_ z1_ => impl_moveField_1.f z0_ z1_ a0_0 a0_1 l0_2 a1_0 a1_1) a0_0 a0_1).bind fun bt104 => (some (bt104.1, bt104.2.1, bt104.2.2))
theorem impl_moveField.calls (k : Nat) (a0_0 : Int) (a0_1 : Int) (A0_2 : Option Addr) (c0_2 : Nat) (l0_2 : List Int) (a1_0 : Int) (a1_1 : Int) (r1 : Int) (r2 : Int) (r3 : List Int) (w : World) (hr0_2 : Kd.C (Kd.int .i64) w A0_2 l0_2.length l0_2) (hc0_2 : l0_2.length ≤ c0_2) (h : impl_moveField.f k a0_0 a0_1 l0_2 a1_0 a1_1 = some (r1, r2, r3)) :
  Calls Try.prog 20 #[.agg #[.int .i64 a0_0, .int .i64 a0_1, .slice A0_2 l0_2.length c0_2], .agg #[.int .i64 a1_0, .int .i64 a1_1]] w fun e w' => ∃ v2_ : Value, e = .returned (.agg #[.int .i64 r1, .int .i64 r2, v2_]) ∧ Kd.R (Kd.int .i64) 3 w' w.heap.size (fun _ => True) v2_ r3 ∧ Below w.heap.size w w' := by
 have hu26 := Try.underlying26
 have hu28 := Try.underlying28
 have HR0_2 := aK hr0_2
 have HC0_2 := aK hc0_2
 clear hr0_2 hc0_2
 have HB := aK (Below.refl w.heap.size w)
 have H : ((impl_fieldBy_at_mp_mpGi64_i64_i64.f k (fun z0_ z1_ => impl_moveField_1.f z0_ z1_ a0_0 a0_1 l0_2 a1_0 a1_1) a0_0 a0_1).bind fun bt104 => (some (bt104.1, bt104.2.1, bt104.2.2))) = some (r1, r2, r3) := h
 clear h
 replace H := oA H
 obtain ⟨⟨t104, t105, t106⟩, A3, H⟩ := H
 replace H : (some (t104, t105, t106)) = some (r1, r2, r3) := H
 simp only [Option.some.injEq, Prod.mk.injEq] at H
 obtain ⟨rfl, rfl, rfl⟩ := H
 go_enter Try.func20, Try.ntmps20
 go_wp2_with (first | ((with_reducible refine ga 2 rfl ?_); refine bxa #[.int .i64 a0_0, .int .i64 a0_1, .slice A0_2 l0_2.length c0_2] 26 ?_; intro g101 hg w4 B101 hb; have GW101 := gA hg HB; replace HB := bS HB hb; clear hb hg) | ((with_reducible refine ga 3 rfl ?_); refine bxa #[.int .i64 a1_0, .int .i64 a1_1] 28 ?_; intro g102 hg w5 B102 hb; have GW102 := gA hg HB; obtain ⟨N101_102, N102_101⟩ := na hg B101; replace B101 := bB B101 hb; replace HB := bS HB hb; clear hb hg) | ((with_reducible refine ga 4 rfl ?_); refine bxa #[.int .i64 0, .int .i64 0, .slice none 0 0] 26 ?_; intro g103 hg w6 B103 hb; have GW103 := gA hg HB; obtain ⟨N101_103, N103_101⟩ := na hg B101; obtain ⟨N102_103, N103_102⟩ := na hg B102; replace B101 := bB B101 hb; replace B102 := bB B102 hb; replace HB := bS HB hb; clear hb hg; obtain ⟨_, _⟩ := nB N101_102; obtain ⟨_, _⟩ := nB N101_103; obtain ⟨_, _, _, _, _, _⟩ := bc3 B101.out) | ((with_reducible refine gc 41 rfl ?_); refine gl (some 10) Try.func41 #[.int .i64 a0_0, .int .i64 a0_1, .func (.func 42) #[] #[.pointer (some ⟨g101, 0, none⟩), .pointer (some ⟨g102, 0, none⟩)]] ?_; (with_reducible refine (impl_fieldBy_at_mp_mpGi64_i64_i64.calls (fun z0_ z1_ => impl_moveField_1.f z0_ z1_ a0_0 a0_1 l0_2 a1_0 a1_1) 42 #[.pointer (some ⟨g101, 0, none⟩), .pointer (some ⟨g102, 0, none⟩)] k a0_0 a0_1  t104 t105 t106 _ ?side1 ?side2 A3.out).mono ?_); (case side1 => exact fun args_ w_ => enters_ Try.func42 (by kernel_rfl) rfl args_ w_); (case side2 => intro z0_ z1_ r_ W_ hz_ hB_; refine (impl_moveField_1.calls z0_ z1_ g101 a0_0 a0_1 _ _ l0_2 g102 a1_0 a1_1 r_ W_ (blk_below (pB B101.out) hB_) (Kd.C_below (by exact pC (Kd.C_below HR0_2.out HB.out)) hB_) (by exact HC0_2.out) (blk_below (pB B102.out) hB_) N101_102.out hz_).mono ?_; rintro e_ w_ ⟨rfl, hd_⟩; exact ⟨rfl, hd_⟩); rintro e w10 ⟨v107, rfl, ho0, hb⟩; refine ⟨_, rfl, ?_⟩; have HO108 := aK (Kd.R_lower ho0 (below_size (pS HB.out))); replace B101 := bB B101 hb; replace B102 := bB B102 hb; replace B103 := bB B103 hb; replace HB := bS HB hb; (try clear hb); (try clear hb2); (try clear hk); (try clear hi); (try clear ho0); obtain ⟨_, _⟩ := nB N103_102; obtain ⟨_, _, _, _, _, _⟩ := bc3 B103.out; obtain ⟨Ao13, co13, eo13⟩ := Kd.R_slice HO108.out; subst eo13))
 refine bodyPost_ret (results_cell_row rfl _ _ g103 26 #[.int .i64 t104, .int .i64 t105, .slice Ao13 t106.length co13] (0, 0) _ rfl (by refine bq #[.int .i64 t104, .int .i64 t105, .slice none 0 0] 2 ?_; refine bq #[.int .i64 t104, .int .i64 0, .slice none 0 0] 1 ?_; refine bq #[.int .i64 0, .int .i64 0, .slice none 0 0] 0 ?_; refine bk ?_; exact B103.out) Try.underlying26 rfl (by kernel_rfl)) rfl ?_
 exact ⟨_, er, by (with_reducible repeat (first | apply Kd.R_alloc | apply Kd.R_drewN | apply Kd.R_drew)); exact Kd.R_mono (rF3 HO108.out B103.out (.int .i64 t104) (.int .i64 t105) (.slice Ao13 t106.length co13)) (fun _ h => trivial), pT HB.out⟩
def impl_absOf.f (a0 : Int) : Option (Int) := if a0 < 0 then (some (wrap64 (-a0))) else (some a0)
theorem impl_absOf.calls (a0 : Int) (r : Int) (w : World) (h : impl_absOf.f a0 = some r) :
  Calls Try.prog 60 #[.int .i64 a0] w fun e w' => e = .returned (.int .i64 r) ∧ Drawn0 w w' := by
 have H : (if a0 < 0 then (some (wrap64 (-a0))) else (some a0)) = some r := h
 clear h
 by_cases c2 : a0 < 0
 ·
  rw [if_pos c2] at H
  have c2b0 : decide (a0 < 0) = true := decide_eq_true c2
  clear c2
  obtain rfl := Option.some.inj H
  go_enter Try.func60, Try.ntmps60
  go_wp2
  go_ret
  exact ⟨by first | rfl | (simp; done) | (simp [*]; done), by repeat (first | exact Drawn0.refl _ | apply Drawn0.step)⟩
 rw [if_neg c2] at H
 have c2b0 : decide (a0 < 0) = false := decide_eq_false c2
 clear c2
 obtain rfl := Option.some.inj H
 go_enter Try.func60, Try.ntmps60
 go_wp2
 go_ret
 exact ⟨by first | rfl | (simp; done) | (simp [*]; done), by repeat (first | exact Drawn0.refl _ | apply Drawn0.step)⟩
def impl_differences.l0 : Nat → Int → Int → List Int → Int → Int → Int → Int → List Int → Option (Int × Int)
 | 0, _, _, _, _, _, _, _, _ => none
 | k + 1, x6, x7, x12, x13, x14, x103000, x103001, x103002 => if x14 < x13 then (if 0 ≤ x14 then (if x14 < (x12.length : Int) then (if x14 < (x103002.length : Int) then (if (rd x12 x14) = (-9999) then (impl_differences.l0 k x6 x7 x12 x13 (wrap64 (x14 + 1)) x103000 x103001 x103002) else (if (rd x103002 x14) = (-9999) then (impl_differences.l0 k x6 x7 x12 x13 (wrap64 (x14 + 1)) x103000 x103001 x103002) else ((impl_absOf.f (wrap64 ((rd x12 x14) - (rd x103002 x14)))).bind fun t105 => (impl_differences.l0 k (wrap64 (x6 + t105)) (wrap64 (x7 + 1)) x12 x13 (wrap64 (x14 + 1)) x103000 x103001 x103002)))) else (none)) else (none)) else (none)) else (some (x6, x7))
def impl_differences.f (k : Nat) (a0_0 : Int) (a0_1 : Int) (l0_2 : List Int) (a1_0 : Int) (a1_1 : Int) (l1_2 : List Int) : Option (Int × Int) := impl_differences.l0 k 0 0 l0_2 (l0_2.length : Int) 0 a1_0 a1_1 l1_2
theorem impl_differences.calls (k : Nat) (a0_0 : Int) (a0_1 : Int) (A0_2 : Option Addr) (c0_2 : Nat) (l0_2 : List Int) (a1_0 : Int) (a1_1 : Int) (A1_2 : Option Addr) (c1_2 : Nat) (l1_2 : List Int) (r1 : Int) (r2 : Int) (w : World) (hr0_2 : Kd.C (Kd.int .i64) w A0_2 l0_2.length l0_2) (hc0_2 : l0_2.length ≤ c0_2) (hr1_2 : Kd.C (Kd.int .i64) w A1_2 l1_2.length l1_2) (hc1_2 : l1_2.length ≤ c1_2) (h : impl_differences.f k a0_0 a0_1 l0_2 a1_0 a1_1 l1_2 = some (r1, r2)) :
  Calls Try.prog 34 #[.agg #[.int .i64 a0_0, .int .i64 a0_1, .slice A0_2 l0_2.length c0_2], .agg #[.int .i64 a1_0, .int .i64 a1_1, .slice A1_2 l1_2.length c1_2]] w fun e w' => e = .returned (.tuple #[.int .i64 r1, .int .i64 r2]) ∧ Below w.heap.size w w' := by
 have hu26 := Try.underlying26
 have HR0_2 := aK hr0_2
 have HC0_2 := aK hc0_2
 clear hr0_2 hc0_2
 have HR1_2 := aK hr1_2
 have HC1_2 := aK hc1_2
 clear hr1_2 hc1_2
 have HB := aK (Below.refl w.heap.size w)
 have H : (impl_differences.l0 k 0 0 l0_2 (l0_2.length : Int) 0 a1_0 a1_1 l1_2) = some (r1, r2) := h
 clear h
 have H' := aK H
 clear H
 go_enter Try.func34, Try.ntmps34
 go_wp2_with (first | ((with_reducible refine ga 2 rfl ?_); refine bxa #[.int .i64 a0_0, .int .i64 a0_1, .slice A0_2 l0_2.length c0_2] 26 ?_; intro g101 hg w3 B101 hb; have GW101 := gA hg HB; replace HB := bS HB hb; clear hb hg) | ((with_reducible refine ga 3 rfl ?_); refine bxa #[.int .i64 a1_0, .int .i64 a1_1, .slice A1_2 l1_2.length c1_2] 26 ?_; intro g102 hg w4 B102 hb; have GW102 := gA hg HB; obtain ⟨N101_102, N102_101⟩ := na hg B101; replace B101 := bB B101 hb; replace HB := bS HB hb; clear hb hg; obtain ⟨_, _⟩ := nB N101_102; obtain ⟨z6_0, z6_1, z6_2, y6_0, y6_1, y6_2⟩ := bc3 B101.out))
 go_loopg [6, 7, 14] k (fun kq v6 v7 v14 w' => ∃ (x6_1 : Int) (x7_1 : Int) (x14_1 : Int), v6 = .int .i64 x6_1 ∧ v7 = .int .i64 x7_1 ∧ v14 = .int .i64 x14_1 ∧ Aside0 (impl_differences.l0 kq x6_1 x7_1 l0_2 (l0_2.length : Int) x14_1 a1_0 a1_1 l1_2 = some (r1, r2)) ∧ Aside0 (kq ≤ k) ∧ Aside0 (w'.heap[g101]? = some (.cells #[.int .i64 a0_0, .int .i64 a0_1, (.slice A0_2 l0_2.length c0_2)] 26 (0, 0))) ∧ Aside0 (w'.heap[g102]? = some (.cells #[.int .i64 a1_0, .int .i64 a1_1, (.slice A1_2 l1_2.length c1_2)] 26 (0, 0))) ∧ Aside0 (Below w.heap.size w w'))
 case atStart => exact ⟨(0), (0), (0), (by first | rfl | (simp; done) | (simp [*]; done)), (by first | rfl | (simp; done) | (simp [*]; done)), (by first | rfl | (simp; done) | (simp [*]; done)), H', ⟨Nat.le_refl _⟩, ⟨by refine bk ?_; exact B101.out⟩, ⟨by refine bk ?_; exact B102.out⟩, ⟨pT HB.out⟩⟩
 case round =>
 clear H'
 clear z6_0 z6_1 z6_2 y6_0 y6_1 y6_2
 obtain ⟨x6_1, x7_1, x14_1, rfl, rfl, rfl, HA, HK1, B101, B102, HB⟩ := hrel
 cases gk with
 | zero => exact absurd HA.out (by simp [impl_differences.l0])
 | succ k1 =>
 have H := HA.out
 clear HA
 simp only [impl_differences.l0] at H
 by_cases c7 : x14_1 < (l0_2.length : Int)
 rotate_left
 ·
  rw [if_neg c7] at H
  have c7b0 : decide (x14_1 < (l0_2.length : Int)) = false := decide_eq_false c7
  clear c7
  simp only [Option.some.injEq, Prod.mk.injEq] at H
  obtain ⟨rfl, rfl⟩ := H
  go_wp2
  go_ret2
  exact ⟨er, pT HB.out⟩
 rw [if_pos c7] at H
 have c7b0 : decide (x14_1 < (l0_2.length : Int)) = true := decide_eq_true c7
 clear c7
 by_cases c8 : 0 ≤ x14_1
 rotate_left
 ·
  rw [if_neg c8] at H
  exact absurd H (by simp)
 rw [if_pos c8] at H
 have c8b0 : decide (0 ≤ x14_1) = true := decide_eq_true c8
 clear c8
 by_cases c9 : x14_1 < (l0_2.length : Int)
 rotate_left
 ·
  rw [if_neg c9] at H
  exact absurd H (by simp)
 rw [if_pos c9] at H
 have c9b0 : decide (x14_1 < (l0_2.length : Int)) = true := decide_eq_true c9
 clear c9
 by_cases c10 : x14_1 < (l1_2.length : Int)
 rotate_left
 ·
  rw [if_neg c10] at H
  exact absurd H (by simp)
 rw [if_pos c10] at H
 have c10b0 : decide (x14_1 < (l1_2.length : Int)) = true := decide_eq_true c10
 clear c10
 by_cases c11 : (rd l0_2 x14_1) = (-9999)
 ·
  rw [if_pos c11] at H
  have c11b0 : ((rd l0_2 x14_1) == (-9999)) = true := beq_iff_eq.mpr c11
  have c11b1 : ((rd l0_2 x14_1) != (-9999)) = false := bne_eq_false_iff_eq.mpr c11
  clear c11; have H' := aK H; clear H
  have p103 : 0 ≤ (x14_1 : Int) := dA
  have q103 : x14_1 < (l0_2.length : Int) := dA
  obtain ⟨ad103, e103, hx103_0⟩ := Kd.at_int HR0_2.out x14_1 p103 q103; cases e103; replace hx103_0 := (HB.out.cell (World.block_lt_of_cell? w _ hx103_0)).trans hx103_0; replace p103 := eq_true p103; replace q103 := eq_true q103; obtain ⟨_, _⟩ := nB N102_101; obtain ⟨_, _, _, _, _, _⟩ := bc3 B102.out
  have p104 : 0 ≤ (x14_1 : Int) := dA
  have q104 : x14_1 < (l1_2.length : Int) := dA
  obtain ⟨ad104, e104, hx104_0⟩ := Kd.at_int HR1_2.out x14_1 p104 q104; cases e104; replace hx104_0 := (HB.out.cell (World.block_lt_of_cell? w _ hx104_0)).trans hx104_0; replace p104 := eq_true p104; replace q104 := eq_true q104
  go_wp2
  go_roundg k1
  case measure => have := HK1.out; omega
  case rel => exact ⟨(x6_1), (x7_1), (wrap64 (x14_1 + 1)), (by first | rfl | (simp; done) | (simp [*]; done)), (by first | rfl | (simp; done) | (simp [*]; done)), (by first | rfl | (simp; done) | (simp [*]; done)), H', ⟨by have := HK1.out; omega⟩, ⟨by refine bk ?_; exact B101.out⟩, ⟨by refine bk ?_; exact B102.out⟩, ⟨pT HB.out⟩⟩
 rw [if_neg c11] at H
 have c11b0 : ((rd l0_2 x14_1) == (-9999)) = false := beq_eq_false_iff_ne.mpr c11
 have c11b1 : ((rd l0_2 x14_1) != (-9999)) = true := bne_iff_ne.mpr c11
 by_cases c14 : (rd l1_2 x14_1) = (-9999)
 ·
  rw [if_pos c14] at H
  have c14b0 : ((rd l1_2 x14_1) == (-9999)) = true := beq_iff_eq.mpr c14
  have c14b1 : ((rd l1_2 x14_1) != (-9999)) = false := bne_eq_false_iff_eq.mpr c14
  clear c14; have H' := aK H; clear H
  have p103 : 0 ≤ (x14_1 : Int) := dA
  have q103 : x14_1 < (l0_2.length : Int) := dA
  obtain ⟨ad103, e103, hx103_0⟩ := Kd.at_int HR0_2.out x14_1 p103 q103; cases e103; replace hx103_0 := (HB.out.cell (World.block_lt_of_cell? w _ hx103_0)).trans hx103_0; replace p103 := eq_true p103; replace q103 := eq_true q103; obtain ⟨_, _⟩ := nB N102_101; obtain ⟨_, _, _, _, _, _⟩ := bc3 B102.out
  have p104 : 0 ≤ (x14_1 : Int) := dA
  have q104 : x14_1 < (l1_2.length : Int) := dA
  obtain ⟨ad104, e104, hx104_0⟩ := Kd.at_int HR1_2.out x14_1 p104 q104; cases e104; replace hx104_0 := (HB.out.cell (World.block_lt_of_cell? w _ hx104_0)).trans hx104_0; replace p104 := eq_true p104; replace q104 := eq_true q104
  go_wp2
  go_roundg k1
  case measure => have := HK1.out; omega
  case rel => exact ⟨(x6_1), (x7_1), (wrap64 (x14_1 + 1)), (by first | rfl | (simp; done) | (simp [*]; done)), (by first | rfl | (simp; done) | (simp [*]; done)), (by first | rfl | (simp; done) | (simp [*]; done)), H', ⟨by have := HK1.out; omega⟩, ⟨by refine bk ?_; exact B101.out⟩, ⟨by refine bk ?_; exact B102.out⟩, ⟨pT HB.out⟩⟩
 rw [if_neg c14] at H
 have c14b0 : ((rd l1_2 x14_1) == (-9999)) = false := beq_eq_false_iff_ne.mpr c14
 have c14b1 : ((rd l1_2 x14_1) != (-9999)) = true := bne_iff_ne.mpr c14
 replace H := oA H
 obtain ⟨t105, A17, H⟩ := H
 replace H : (impl_differences.l0 k1 (wrap64 (x6_1 + t105)) (wrap64 (x7_1 + 1)) l0_2 (l0_2.length : Int) (wrap64 (x14_1 + 1)) a1_0 a1_1 l1_2) = some (r1, r2) := H
 have H' := aK H
 clear H
 have p103 : 0 ≤ (x14_1 : Int) := dA
 have q103 : x14_1 < (l0_2.length : Int) := dA
 obtain ⟨ad103, e103, hx103_0⟩ := Kd.at_int HR0_2.out x14_1 p103 q103
 cases e103
 replace hx103_0 := (HB.out.cell (World.block_lt_of_cell? w _ hx103_0)).trans hx103_0
 replace p103 := eq_true p103
 replace q103 := eq_true q103
 obtain ⟨_, _⟩ := nB N102_101
 obtain ⟨_, _, _, _, _, _⟩ := bc3 B102.out
 have p104 : 0 ≤ (x14_1 : Int) := dA
 have q104 : x14_1 < (l1_2.length : Int) := dA
 obtain ⟨ad104, e104, hx104_0⟩ := Kd.at_int HR1_2.out x14_1 p104 q104
 cases e104
 replace hx104_0 := (HB.out.cell (World.block_lt_of_cell? w _ hx104_0)).trans hx104_0
 replace p104 := eq_true p104
 replace q104 := eq_true q104
 go_wp2_with (first | ((with_reducible refine gc 60 rfl ?_); refine gl (some 34) Try.func60 #[.int .i64 (wrap64 ((rd l0_2 x14_1) - (rd l1_2 x14_1)))] ?_; (with_reducible refine (impl_absOf.calls (wrap64 ((rd l0_2 x14_1) - (rd l1_2 x14_1))) t105 _ A17.out).mono ?_); rintro e w' ⟨rfl, ⟨nd, rfl⟩⟩; refine ⟨_, rfl, ?_⟩))
 go_roundg k1
 case measure => have := HK1.out; omega
 case rel => exact ⟨(wrap64 (x6_1 + t105)), (wrap64 (x7_1 + 1)), (wrap64 (x14_1 + 1)), (by first | rfl | (simp; done) | (simp [*]; done)), (by first | rfl | (simp; done) | (simp [*]; done)), (by first | rfl | (simp; done) | (simp [*]; done)), H', ⟨by have := HK1.out; omega⟩, ⟨by refine bk ?_; exact B101.out⟩, ⟨by refine bk ?_; exact B102.out⟩, ⟨pT HB.out⟩⟩
def impl_matchOf.f (k : Nat) (a0_0 : Int) (a0_1 : Int) (l0_2 : List Int) (a1_0 : Int) (a1_1 : Int) (l1_2 : List Int) (a2_0 : Int) (a2_1 : Int) : Option (Int × Int) := (impl_moveField.f k a0_0 a0_1 l0_2 a2_0 a2_1).bind fun bt104 => ((impl_differences.f k bt104.1 bt104.2.1 bt104.2.2 a1_0 a1_1 l1_2).bind fun bt109 => (some (bt109.1, bt109.2)))
def impl_matchOf.T1 : Bool × List (List Nat × List Nat) := (true, [([], []), ([], []), ([0, 1], [0, 1]), ([], []), ([2, 3, 2], [2, 3]), ([4], [4]), ([4], [4]), ([5, 4, 0, 1, 2, 3, 4, 5, 6], [5]), ([6, 7, 0, 1, 2, 3, 4, 5, 6, 7], [6])])
def impl_matchOf.B1 : List Nat := [0, 0, 3, 0, 15, 31, 31, 127, 255]
theorem impl_matchOf.tab1 : rtab .any (opsOf Try.f26 1) = impl_matchOf.T1 := by kernel_rfl
theorem impl_matchOf.bits1 : waitsOk impl_matchOf.T1.2 impl_matchOf.B1 = true := by kernel_rfl
theorem impl_matchOf.calls (k : Nat) (a0_0 : Int) (a0_1 : Int) (A0_2 : Option Addr) (c0_2 : Nat) (l0_2 : List Int) (a1_0 : Int) (a1_1 : Int) (A1_2 : Option Addr) (c1_2 : Nat) (l1_2 : List Int) (a2_0 : Int) (a2_1 : Int) (r1 : Int) (r2 : Int) (w : World) (hr0_2 : Kd.C (Kd.int .i64) w A0_2 l0_2.length l0_2) (hc0_2 : l0_2.length ≤ c0_2) (hr1_2 : Kd.C (Kd.int .i64) w A1_2 l1_2.length l1_2) (hc1_2 : l1_2.length ≤ c1_2) (h : impl_matchOf.f k a0_0 a0_1 l0_2 a1_0 a1_1 l1_2 a2_0 a2_1 = some (r1, r2)) :
  Calls Try.prog 26 #[.agg #[.int .i64 a0_0, .int .i64 a0_1, .slice A0_2 l0_2.length c0_2], .agg #[.int .i64 a1_0, .int .i64 a1_1, .slice A1_2 l1_2.length c1_2], .agg #[.int .i64 a2_0, .int .i64 a2_1]] w fun e w' => e = .returned (.tuple #[.int .i64 r1, .int .i64 r2]) ∧ Below w.heap.size w w' := by
 have hu26 := Try.underlying26
 have hu28 := Try.underlying28
 have HR0_2 := aK hr0_2
 have HC0_2 := aK hc0_2
 clear hr0_2 hc0_2
 have HR1_2 := aK hr1_2
 have HC1_2 := aK hc1_2
 clear hr1_2 hc1_2
 have HB := aK (Below.refl w.heap.size w)
 have H : ((impl_moveField.f k a0_0 a0_1 l0_2 a2_0 a2_1).bind fun bt104 => ((impl_differences.f k bt104.1 bt104.2.1 bt104.2.2 a1_0 a1_1 l1_2).bind fun bt109 => (some (bt109.1, bt109.2)))) = some (r1, r2) := h
 clear h
 replace H := oA H
 obtain ⟨⟨t104, t105, t106⟩, A4, H⟩ := H
 replace H : ((impl_differences.f k t104 t105 t106 a1_0 a1_1 l1_2).bind fun bt109 => (some (bt109.1, bt109.2))) = some (r1, r2) := H
 replace H := oA H
 obtain ⟨⟨t109, t110⟩, A5, H⟩ := H
 replace H : (some (t109, t110)) = some (r1, r2) := H
 simp only [Option.some.injEq, Prod.mk.injEq] at H
 obtain ⟨rfl, rfl⟩ := H
 go_enter Try.func26, Try.ntmps26
 try go_wp2_with (first | ((with_reducible refine ga 3 rfl ?_); refine bxa #[.int .i64 a0_0, .int .i64 a0_1, .slice A0_2 l0_2.length c0_2] 26 ?_; intro g101 hg w6 B101 hb; have GW101 := gA hg HB; replace HB := bS HB hb; clear hb hg) | ((with_reducible refine ga 4 rfl ?_); refine bxa #[.int .i64 a1_0, .int .i64 a1_1, .slice A1_2 l1_2.length c1_2] 26 ?_; intro g102 hg w7 B102 hb; have GW102 := gA hg HB; obtain ⟨N101_102, N102_101⟩ := na hg B101; replace B101 := bB B101 hb; replace HB := bS HB hb; clear hb hg) | ((with_reducible refine ga 5 rfl ?_); refine bxa #[.int .i64 a2_0, .int .i64 a2_1] 28 ?_; intro g103 hg w8 B103 hb; have GW103 := gA hg HB; obtain ⟨N101_103, N103_101⟩ := na hg B101; obtain ⟨N102_103, N103_102⟩ := na hg B102; replace B101 := bB B101 hb; replace B102 := bB B102 hb; replace HB := bS HB hb; clear hb hg))
 replace B101 := bD B101
 replace B102 := bD B102
 replace B103 := bD B103
 replace HB := aK (below_drew1 HB.out)
 refine start_ (n := 9) (S := fun w' => w'.cell? ⟨g101, 0, none⟩ = some (.int .i64 a0_0) ∧ w'.cell? ⟨g101, 1, none⟩ = some (.int .i64 a0_1) ∧ w'.cell? ⟨g101, 2, none⟩ = some (.slice A0_2 l0_2.length c0_2) ∧ w'.cell? ⟨g103, 0, none⟩ = some (.int .i64 a2_0) ∧ w'.cell? ⟨g103, 1, none⟩ = some (.int .i64 a2_1) ∧ w'.cell? ⟨g102, 0, none⟩ = some (.int .i64 a1_0) ∧ w'.cell? ⟨g102, 1, none⟩ = some (.int .i64 a1_1) ∧ w'.cell? ⟨g102, 2, none⟩ = some (.slice A1_2 l1_2.length c1_2)) (ds := []) (bz [0, 9]) (by kernel_rfl) rfl rfl (cj3 B101.out (cj2 B103.out (cz3 B102.out))) (fun hHeld => ?_); refine with_tabW impl_matchOf.tab1 impl_matchOf.bits1 (fun HT_ HW_ => ?_)
 generalize w8.drew = w9 at B101 B102 B103 HB hHeld ⊢
 refine tz 0 8 [1, 8] HT_ HW_ rfl (by rintro w' ⟨s0, s1, s2, s3, s4, s5, s6, s7⟩; go_simp; with_reducible rfl) hHeld ?_
 refine tz 1 9 [2, 7] HT_ HW_ rfl (by rintro w' ⟨s0, s1, s2, s3, s4, s5, s6, s7⟩; go_simp; with_reducible rfl) hHeld ?_
 refine tz 3 11 [2, 1, 1, 5] HT_ HW_ rfl (by rintro w' ⟨s0, s1, s2, s3, s4, s5, s6, s7⟩; go_simp; with_reducible rfl) hHeld ?_
 refine oz 2 10 [4, 5] HT_ fun K hK => ?_
 refine gs Try.func20 #[.agg #[.int .i64 a0_0, .int .i64 a0_1, .slice A0_2 l0_2.length c0_2], .agg #[.int .i64 a2_0, .int .i64 a2_1]] ?_
 with_reducible refine (impl_moveField.calls k a0_0 a0_1 _ _ l0_2 a2_0 a2_1 t104 t105 t106 _ ?side1 ?side2 A4.out).mono ?_
 (case side1 => exact cB HR0_2 HB)
 (case side2 => exact HC0_2.out)
 rintro e w10 ⟨v107, rfl, ho0, hb⟩
 refine ⟨_, rfl, ?_⟩
 have HO108 := aK (Kd.R_lower ho0 (below_size (pS HB.out)))
 replace B101 := bB B101 hb
 replace B102 := bB B102 hb
 replace B103 := bB B103 hb
 replace HB := bS HB hb
 clear hb ho0
 obtain ⟨Ao11, co11, eo11⟩ := Kd.R_slice HO108.out
 (first | subst eo11 | (obtain ⟨f4_, f5_⟩ := sI eo11; subst f4_; subst f5_))
 refine hK.out _ _ (cj3 B101.out (cj2 B103.out (cz3 B102.out))) (fun hHeld => ?_)
 clear hK K
 refine nm 10 ?_
 refine oz 4 12 [5, 4] HT_ fun K hK => ?_
 refine gs Try.func34 #[.agg #[.int .i64 t104, .int .i64 t105, .slice Ao11 t106.length co11], .agg #[.int .i64 a1_0, .int .i64 a1_1, .slice A1_2 l1_2.length c1_2]] ?_
 with_reducible refine (impl_differences.calls k t104 t105 _ _ t106 a1_0 a1_1 _ _ l1_2 t109 t110 _ ?side1 ?side2 ?side3 ?side4 A5.out).mono ?_
 (case side1 => exact pC (Kd.R_reads' HO108.out).2.2)
 (case side2 => exact (Kd.R_reads' HO108.out).2.1)
 (case side3 => exact cB HR1_2 HB)
 (case side4 => exact HC1_2.out)
 rintro e w12 ⟨rfl, hb⟩
 refine ⟨_, rfl, ?_⟩
 replace HO108 := rb HO108 hb
 replace B101 := bB B101 hb
 replace B102 := bB B102 hb
 replace B103 := bB B103 hb
 replace HB := bS HB hb
 clear hb
 refine hK.out _ _ (cj3 B101.out (cj2 B103.out (cz3 B102.out))) (fun hHeld => ?_)
 clear hK K
 refine nm 12 ?_
 refine pz 5 13 [6, 3] HT_ ?_
 refine pz 6 14 [7, 2] HT_ ?_
 refine pz 7 6 [8, 1] HT_ ?_
 refine pz 8 7 [9, 0] HT_ ?_
 refine done_ (done_of HT_.out (by kernel_rfl)) ?_
 try go_wp2
 go_ret2
 exact ⟨er, pT HB.out⟩
end Go.Proofs.Ytmekfmhnpinjlaa.P
namespace Go.Proofs
open Go.Shelf
def Try.sortf6_ren : Go.Shelf.Ren := ⟨fun | 6 => 56 | 15 => 69 | 14 => 68 | 28 => 82 | 29 => 83 | 20 => 74 | 21 => 75 | 22 => 76 | 23 => 77 | 24 => 78 | 25 => 79 | 26 => 80 | 27 => 81 | 46 => 86 | 47 => 87 | 48 => 88 | 49 => 89 | 50 => 90 | 57 => 93 | n => n, fun | 22 => 80 | 24 => 82 | 25 => 85 | 3 => 3 | 39 => 93 | 0 => 0 | 53 => 103 | 55 => 47 | 4 => 4 | 46 => 97 | 45 => 96 | 50 => 36 | 5 => 5 | 9 => 9 | 66 => 107 | 70 => 111 | 76 => 117 | 77 => 57 | n => n, fun | n => n⟩
theorem Try.sortf6 : Go.Proofs.SlLaysF0.n6 Try.prog Try.sortf6_ren := {
  mixed := by kernel_rfl
  f6 := ⟨Try.f56.name, by decide, Try.func56.trans (congrArg some (by kernel_rfl))⟩
  f14 := ⟨Try.f68.name, by decide, Try.func68.trans (congrArg some (by kernel_rfl))⟩
  f15 := Try.func69.trans (congrArg some (by kernel_rfl))
  f20 := ⟨Try.f74.name, by decide, Try.func74.trans (congrArg some (by kernel_rfl))⟩
  f21 := ⟨Try.f75.name, by decide, Try.func75.trans (congrArg some (by kernel_rfl))⟩
  f22 := ⟨Try.f76.name, by decide, Try.func76.trans (congrArg some (by kernel_rfl))⟩
  f23 := ⟨Try.f77.name, by decide, Try.func77.trans (congrArg some (by kernel_rfl))⟩
  f24 := ⟨Try.f78.name, by decide, Try.func78.trans (congrArg some (by kernel_rfl))⟩
  f25 := ⟨Try.f79.name, by decide, Try.func79.trans (congrArg some (by kernel_rfl))⟩
  f26 := ⟨Try.f80.name, by decide, Try.func80.trans (congrArg some (by kernel_rfl))⟩
  f27 := ⟨Try.f81.name, by decide, Try.func81.trans (congrArg some (by kernel_rfl))⟩
  f28 := Try.func82.trans (congrArg some (by kernel_rfl))
  f29 := Try.func83.trans (congrArg some (by kernel_rfl))
  f46 := ⟨Try.f86.name, by decide, Try.func86.trans (congrArg some (by kernel_rfl))⟩
  f47 := Try.func87.trans (congrArg some (by kernel_rfl))
  f48 := Try.func88.trans (congrArg some (by kernel_rfl))
  f49 := ⟨Try.f89.name, by decide, Try.func89.trans (congrArg some (by kernel_rfl))⟩
  f50 := ⟨Try.f90.name, by decide, Try.func90.trans (congrArg some (by kernel_rfl))⟩
  f57 := ⟨Try.f93.name, by decide, Try.func93.trans (congrArg some (by kernel_rfl))⟩
  t0 := Try.underlying0
  a0 := Try.isAgg0
  z0 := Try.sizeOf0
  v0 := Try.zeroValue0
  t3 := Try.underlying3
  a3 := Try.isAgg3
  z3 := Try.sizeOf3
  v3 := Try.zeroValue3
  t4 := Try.underlying4
  a4 := Try.isAgg4
  z4 := Try.sizeOf4
  v4 := Try.zeroValue4
  t5 := Try.underlying5
  a5 := Try.isAgg5
  z5 := Try.sizeOf5
  v5 := Try.zeroValue5
  t9 := Try.underlying9
  a9 := Try.isAgg9
  z9 := Try.sizeOf9
  v9 := Try.zeroValue9
  t22 := Try.underlying80
  a22 := Try.isAgg80
  z22 := Try.sizeOf80
  v22 := Try.zeroValue80
  t25 := Try.underlying85
  a25 := Try.isAgg85
  z25 := Try.sizeOf85
  v25 := Try.zeroValue85
  t39 := Try.underlying93
  a39 := Try.isAgg93
  z39 := Try.sizeOf93
  v39 := Try.zeroValue93
  t45 := Try.underlying96
  a45 := Try.isAgg96
  z45 := Try.sizeOf96
  v45 := Try.zeroValue96
  t46 := Try.underlying97
  a46 := Try.isAgg97
  z46 := Try.sizeOf97
  v46 := Try.zeroValue97
  t50 := Try.underlying36
  a50 := Try.isAgg36
  z50 := Try.sizeOf36
  v50 := Try.zeroValue36
  t53 := Try.underlying103
  a53 := Try.isAgg103
  z53 := Try.sizeOf103
  v53 := Try.zeroValue103
  t55 := Try.underlying47
  a55 := Try.isAgg47
  z55 := Try.sizeOf47
  v55 := Try.zeroValue47
  t66 := Try.underlying107
  a66 := Try.isAgg107
  z66 := Try.sizeOf107
  v66 := Try.zeroValue107
  t70 := Try.underlying111
  a70 := Try.isAgg111
  z70 := Try.sizeOf111
  v70 := Try.zeroValue111
  t76 := Try.underlying117
  a76 := Try.isAgg117
  z76 := Try.sizeOf117
  v76 := Try.zeroValue117
  t77 := Try.underlying57
  a77 := Try.isAgg57
  z77 := Try.sizeOf57
  v77 := Try.zeroValue57 }
open Go.Sort Go.RowKit Go.Lib in
theorem Try.slices_SortFunc_rk {α : Type} [Inhabited α] (enc : α → List Value) (hk : ∀ x, (enc x).length = 4) (h1 : ∀ x, ∀ v ∈ enc x, v.oneCell' = true) (cf : α → α → Int) (hO : SWO (ltOf cf)) (g : Nat) (cb : Array Value) (blk off cap : Nat) (d : Array α) (w : World)
    (eg : ∀ args w, (callFunc g args).run Try.prog w = .ok (.enter g args) w) (hcmp : CmpLays Try.prog g cb enc 4 cf blk off d.size w) (hH : HoldsK enc 4 w blk off d) (hblk : blk < w.heap.size) (hsz : d.size < 4611686018427387904) :
    Calls Try.prog 56 #[.slice (some ⟨blk, off, none⟩) d.size cap, .func (.func g) #[] cb] w fun e w' =>
      e = .returned (.tuple #[]) ∧ ∃ n os, w' = sortWorldK enc 4 w blk off n (pdq (ltOf cf) d 0 d.size (Lib.bitLen d.size) true true) os := AnyQ.slices_SortFunc_eq Try.sortf6 4 Try.isAgg82 Try.sizeOf82 enc hk h1 cf hO g cb blk off cap d w eg hcmp hH hblk hsz
open Go.Sort Go.RowKit Go.Lib in
theorem Try.slices_SortFunc_none (p : Option Addr) (cap : Nat) (fv : Value) (w : World) :
    Calls Try.prog 56 #[.slice p 0 cap, fv] w fun e w' => e = .returned (.tuple #[]) ∧ w' = w := AnyF.slices_SortFunc_none Try.sortf6 p cap fv w
end Go.Proofs
namespace Go.Proofs.Ytmekfmhnpinjlaa.P
attribute [local go_sem] max2_int min2_int max_two min_two max_three min_three max_four min_four
def cmp_Or_int.l0 : Nat → Int → List Int → Int → Int → Option (Int)
 | 0, _, _, _, _ => none
 | k + 1, x3, x6, x7, x8 => if x8 < x7 then (if 0 ≤ x8 then (if x8 < (x6.length : Int) then (if (rd x6 x8) = x3 then (cmp_Or_int.l0 k x3 x6 x7 (wrap64 (x8 + 1))) else (some (rd x6 x8))) else (none)) else (none)) else (some x3)
def cmp_Or_int.f (k : Nat) (l0 : List Int) : Option (Int) := cmp_Or_int.l0 k 0 l0 (l0.length : Int) 0
theorem cmp_Or_int.calls (k : Nat) (A0 : Option Addr) (c0 : Nat) (l0 : List Int) (r : Int) (w : World) (hr0 : Kd.C (Kd.int .i64) w A0 l0.length l0) (hc0 : l0.length ≤ c0) (h : cmp_Or_int.f k l0 = some r) :
  Calls Try.prog 58 #[.slice A0 l0.length c0] w fun e w' => e = .returned (.int .i64 r) ∧ Drawn0 w w' := by
 have HR0 := aK hr0
 have HC0 := aK hc0
 clear hr0 hc0
 have H : (cmp_Or_int.l0 k 0 l0 (l0.length : Int) 0) = some r := h
 clear h
 have H' := aK H
 clear H
 go_enter Try.func58, Try.ntmps58
 go_wp2
 go_loopg [8] k (fun kq v8 w' => ∃ (x8_1 : Int), v8 = .int .i64 x8_1 ∧ Aside0 (cmp_Or_int.l0 kq 0 l0 (l0.length : Int) x8_1 = some r) ∧ Aside0 (kq ≤ k) ∧ Drawn0 w w')
 case atStart => exact ⟨(0), (by first | rfl | (simp; done) | (simp [*]; done)), H', ⟨Nat.le_refl _⟩, by repeat (first | exact Drawn0.refl _ | apply Drawn0.step)⟩
 case round =>
 clear H'
 obtain ⟨x8_1, rfl, HA, HK1, ⟨m1, rfl⟩⟩ := hrel
 cases gk with
 | zero => exact absurd HA.out (by simp [cmp_Or_int.l0])
 | succ k1 =>
 have H := HA.out
 clear HA
 simp only [cmp_Or_int.l0] at H
 by_cases c2 : x8_1 < (l0.length : Int)
 rotate_left
 ·
  rw [if_neg c2] at H
  have c2b0 : decide (x8_1 < (l0.length : Int)) = false := decide_eq_false c2
  clear c2
  obtain rfl := Option.some.inj H
  go_wp2
  go_ret
  exact ⟨by first | rfl | (simp; done) | (simp [*]; done), by repeat (first | exact Drawn0.refl _ | apply Drawn0.step)⟩
 rw [if_pos c2] at H
 have c2b0 : decide (x8_1 < (l0.length : Int)) = true := decide_eq_true c2
 clear c2
 by_cases c3 : 0 ≤ x8_1
 rotate_left
 ·
  rw [if_neg c3] at H
  exact absurd H (by simp)
 rw [if_pos c3] at H
 have c3b0 : decide (0 ≤ x8_1) = true := decide_eq_true c3
 clear c3
 by_cases c4 : x8_1 < (l0.length : Int)
 rotate_left
 ·
  rw [if_neg c4] at H
  exact absurd H (by simp)
 rw [if_pos c4] at H
 have c4b0 : decide (x8_1 < (l0.length : Int)) = true := decide_eq_true c4
 clear c4
 by_cases c5 : (rd l0 x8_1) = 0
 ·
  rw [if_pos c5] at H
  have c5b0 : ((rd l0 x8_1) == 0) = true := beq_iff_eq.mpr c5
  have c5b1 : ((rd l0 x8_1) != 0) = false := bne_eq_false_iff_eq.mpr c5
  clear c5; have H' := aK H; clear H
  have p101 : 0 ≤ (x8_1 : Int) := dA
  have q101 : x8_1 < (l0.length : Int) := dA
  obtain ⟨ad101, e101, hx101_0⟩ := Kd.at_int HR0.out x8_1 p101 q101; cases e101; replace p101 := eq_true p101; replace q101 := eq_true q101
  go_wp2
  go_roundg k1
  case measure => have := HK1.out; omega
  case rel => exact ⟨(wrap64 (x8_1 + 1)), (by first | rfl | (simp; done) | (simp [*]; done)), H', ⟨by have := HK1.out; omega⟩, by repeat (first | exact Drawn0.refl _ | apply Drawn0.step)⟩
 rw [if_neg c5] at H
 have c5b0 : ((rd l0 x8_1) == 0) = false := beq_eq_false_iff_ne.mpr c5
 have c5b1 : ((rd l0 x8_1) != 0) = true := bne_iff_ne.mpr c5
 obtain rfl := Option.some.inj H
 have p101 : 0 ≤ (x8_1 : Int) := dA
 have q101 : x8_1 < (l0.length : Int) := dA
 obtain ⟨ad101, e101, hx101_0⟩ := Kd.at_int HR0.out x8_1 p101 q101
 cases e101
 replace p101 := eq_true p101
 replace q101 := eq_true q101
 go_wp2
 go_ret
 exact ⟨by first | rfl | (simp; done) | (simp [*]; done), by repeat (first | exact Drawn0.refl _ | apply Drawn0.step)⟩
def cmp_isNaN_int.f (a0 : Int) : Option (Bool) := some (a0 != a0)
theorem cmp_isNaN_int.calls (a0 : Int) (r : Bool) (w : World) (h : cmp_isNaN_int.f a0 = some r) :
  Calls Try.prog 70 #[.int .i64 a0] w fun e w' => e = .returned (.bool r) ∧ Drawn0 w w' := by
 have H : (some (a0 != a0)) = some r := h
 clear h
 obtain rfl := Option.some.inj H
 go_enter Try.func70, Try.ntmps70
 go_wp2
 go_ret
 exact ⟨by first | rfl | (simp; done) | (simp [*]; done), by repeat (first | exact Drawn0.refl _ | apply Drawn0.step)⟩
def cmp_Compare_int.f (a0 : Int) (a1 : Int) : Option (Int) := (cmp_isNaN_int.f a0).bind fun t101 => ((cmp_isNaN_int.f a1).bind fun t102 => (if t101 = true then (if t102 = true then (some 0) else (some (-1))) else (if t102 = true then (some 1) else (if a0 < a1 then (some (-1)) else (if a0 > a1 then (some 1) else (some 0))))))
theorem cmp_Compare_int.calls (a0 : Int) (a1 : Int) (r : Int) (w : World) (h : cmp_Compare_int.f a0 a1 = some r) :
  Calls Try.prog 59 #[.int .i64 a0, .int .i64 a1] w fun e w' => e = .returned (.int .i64 r) ∧ Drawn0 w w' := by
 have H : ((cmp_isNaN_int.f a0).bind fun t101 => ((cmp_isNaN_int.f a1).bind fun t102 => (if t101 = true then (if t102 = true then (some 0) else (some (-1))) else (if t102 = true then (some 1) else (if a0 < a1 then (some (-1)) else (if a0 > a1 then (some 1) else (some 0))))))) = some r := h
 clear h
 replace H := oA H
 obtain ⟨t101, A3, H⟩ := H
 replace H : ((cmp_isNaN_int.f a1).bind fun t102 => (if t101 = true then (if t102 = true then (some 0) else (some (-1))) else (if t102 = true then (some 1) else (if a0 < a1 then (some (-1)) else (if a0 > a1 then (some 1) else (some 0)))))) = some r := H
 replace H := oA H
 obtain ⟨t102, A4, H⟩ := H
 replace H : (if t101 = true then (if t102 = true then (some 0) else (some (-1))) else (if t102 = true then (some 1) else (if a0 < a1 then (some (-1)) else (if a0 > a1 then (some 1) else (some 0))))) = some r := H
 by_cases c5 : t101 = true
 ·
  subst c5
  have H1 : (if t102 = true then (some 0) else (some (-1))) = some r := by rw [if_pos rfl] at H; exact H
  clear H; have H := H1; clear H1
  by_cases c6 : t102 = true
  ·
   subst c6
   have H1 : (some 0) = some r := by rw [if_pos rfl] at H; exact H
   clear H; have H := H1; clear H1
   obtain rfl := Option.some.inj H
   go_enter Try.func59, Try.ntmps59
   go_wp2_with (first | ((with_reducible refine gc 70 rfl ?_); refine gl (some 8) Try.func70 #[.int .i64 a0] ?_; (with_reducible refine (cmp_isNaN_int.calls a0 true _ A3.out).mono ?_); rintro e w' ⟨rfl, ⟨nd, rfl⟩⟩; refine ⟨_, rfl, ?_⟩) | ((with_reducible refine gc 70 rfl ?_); refine gl (some 10) Try.func70 #[.int .i64 a1] ?_; (with_reducible refine (cmp_isNaN_int.calls a1 true _ A4.out).mono ?_); rintro e w' ⟨rfl, ⟨nd, rfl⟩⟩; refine ⟨_, rfl, ?_⟩))
   go_ret
   exact ⟨by first | rfl | (simp; done) | (simp [*]; done), by repeat (first | exact Drawn0.refl _ | apply Drawn0.step)⟩
  replace c6 := Bool.eq_false_iff.mpr c6; subst c6
  have H1 : (some (-1)) = some r := by rw [if_neg (show ¬ (false = true) by decide)] at H; exact H
  clear H; have H := H1; clear H1
  obtain rfl := Option.some.inj H
  go_enter Try.func59, Try.ntmps59
  go_wp2_with (first | ((with_reducible refine gc 70 rfl ?_); refine gl (some 8) Try.func70 #[.int .i64 a0] ?_; (with_reducible refine (cmp_isNaN_int.calls a0 true _ A3.out).mono ?_); rintro e w' ⟨rfl, ⟨nd, rfl⟩⟩; refine ⟨_, rfl, ?_⟩) | ((with_reducible refine gc 70 rfl ?_); refine gl (some 10) Try.func70 #[.int .i64 a1] ?_; (with_reducible refine (cmp_isNaN_int.calls a1 false _ A4.out).mono ?_); rintro e w' ⟨rfl, ⟨nd, rfl⟩⟩; refine ⟨_, rfl, ?_⟩))
  go_ret
  exact ⟨by first | rfl | (simp; done) | (simp [*]; done), by repeat (first | exact Drawn0.refl _ | apply Drawn0.step)⟩
 replace c5 := Bool.eq_false_iff.mpr c5
 subst c5
 have H1 : (if t102 = true then (some 1) else (if a0 < a1 then (some (-1)) else (if a0 > a1 then (some 1) else (some 0)))) = some r := by rw [if_neg (show ¬ (false = true) by decide)] at H; exact H
 clear H
 have H := H1
 clear H1
 by_cases c7 : t102 = true
 ·
  subst c7
  have H1 : (some 1) = some r := by rw [if_pos rfl] at H; exact H
  clear H; have H := H1; clear H1
  obtain rfl := Option.some.inj H
  go_enter Try.func59, Try.ntmps59
  go_wp2_with (first | ((with_reducible refine gc 70 rfl ?_); refine gl (some 8) Try.func70 #[.int .i64 a0] ?_; (with_reducible refine (cmp_isNaN_int.calls a0 false _ A3.out).mono ?_); rintro e w' ⟨rfl, ⟨nd, rfl⟩⟩; refine ⟨_, rfl, ?_⟩) | ((with_reducible refine gc 70 rfl ?_); refine gl (some 10) Try.func70 #[.int .i64 a1] ?_; (with_reducible refine (cmp_isNaN_int.calls a1 true _ A4.out).mono ?_); rintro e w' ⟨rfl, ⟨nd, rfl⟩⟩; refine ⟨_, rfl, ?_⟩))
  go_ret
  exact ⟨by first | rfl | (simp; done) | (simp [*]; done), by repeat (first | exact Drawn0.refl _ | apply Drawn0.step)⟩
 replace c7 := Bool.eq_false_iff.mpr c7
 subst c7
 have H1 : (if a0 < a1 then (some (-1)) else (if a0 > a1 then (some 1) else (some 0))) = some r := by rw [if_neg (show ¬ (false = true) by decide)] at H; exact H
 clear H
 have H := H1
 clear H1
 by_cases c8 : a0 < a1
 ·
  rw [if_pos c8] at H
  have c8b0 : decide (a0 < a1) = true := decide_eq_true c8
  clear c8
  obtain rfl := Option.some.inj H
  go_enter Try.func59, Try.ntmps59
  go_wp2_with (first | ((with_reducible refine gc 70 rfl ?_); refine gl (some 8) Try.func70 #[.int .i64 a0] ?_; (with_reducible refine (cmp_isNaN_int.calls a0 false _ A3.out).mono ?_); rintro e w' ⟨rfl, ⟨nd, rfl⟩⟩; refine ⟨_, rfl, ?_⟩) | ((with_reducible refine gc 70 rfl ?_); refine gl (some 10) Try.func70 #[.int .i64 a1] ?_; (with_reducible refine (cmp_isNaN_int.calls a1 false _ A4.out).mono ?_); rintro e w' ⟨rfl, ⟨nd, rfl⟩⟩; refine ⟨_, rfl, ?_⟩))
  go_ret
  exact ⟨by first | rfl | (simp; done) | (simp [*]; done), by repeat (first | exact Drawn0.refl _ | apply Drawn0.step)⟩
 rw [if_neg c8] at H
 have c8b0 : decide (a0 < a1) = false := decide_eq_false c8
 clear c8
 by_cases c9 : a0 > a1
 ·
  rw [if_pos c9] at H
  have c9b0 : decide (a1 < a0) = true := decide_eq_true c9
  clear c9
  obtain rfl := Option.some.inj H
  go_enter Try.func59, Try.ntmps59
  go_wp2_with (first | ((with_reducible refine gc 70 rfl ?_); refine gl (some 8) Try.func70 #[.int .i64 a0] ?_; (with_reducible refine (cmp_isNaN_int.calls a0 false _ A3.out).mono ?_); rintro e w' ⟨rfl, ⟨nd, rfl⟩⟩; refine ⟨_, rfl, ?_⟩) | ((with_reducible refine gc 70 rfl ?_); refine gl (some 10) Try.func70 #[.int .i64 a1] ?_; (with_reducible refine (cmp_isNaN_int.calls a1 false _ A4.out).mono ?_); rintro e w' ⟨rfl, ⟨nd, rfl⟩⟩; refine ⟨_, rfl, ?_⟩))
  go_ret
  exact ⟨by first | rfl | (simp; done) | (simp [*]; done), by repeat (first | exact Drawn0.refl _ | apply Drawn0.step)⟩
 rw [if_neg c9] at H
 have c9b0 : decide (a1 < a0) = false := decide_eq_false c9
 clear c9
 obtain rfl := Option.some.inj H
 go_enter Try.func59, Try.ntmps59
 go_wp2_with (first | ((with_reducible refine gc 70 rfl ?_); refine gl (some 8) Try.func70 #[.int .i64 a0] ?_; (with_reducible refine (cmp_isNaN_int.calls a0 false _ A3.out).mono ?_); rintro e w' ⟨rfl, ⟨nd, rfl⟩⟩; refine ⟨_, rfl, ?_⟩) | ((with_reducible refine gc 70 rfl ?_); refine gl (some 10) Try.func70 #[.int .i64 a1] ?_; (with_reducible refine (cmp_isNaN_int.calls a1 false _ A4.out).mono ?_); rintro e w' ⟨rfl, ⟨nd, rfl⟩⟩; refine ⟨_, rfl, ?_⟩))
 go_ret
 exact ⟨by first | rfl | (simp; done) | (simp [*]; done), by repeat (first | exact Drawn0.refl _ | apply Drawn0.step)⟩
def impl_RankMotions_1.f (k : Nat) (a0_0 : Int) (a0_1 : Int) (a0_2 : Int) (a0_3 : Int) (a1_0 : Int) (a1_1 : Int) (a1_2 : Int) (a1_3 : Int) : Option (Int) := (cmp_Compare_int.f (wrap64 (a0_2 * a1_3)) (wrap64 (a1_2 * a0_3))).bind fun t105 => ((impl_absOf.f a0_0).bind fun t106 => ((impl_absOf.f a0_1).bind fun t107 => ((impl_absOf.f a1_0).bind fun t108 => ((impl_absOf.f a1_1).bind fun t109 => ((cmp_Compare_int.f (wrap64 (t106 + t107)) (wrap64 (t108 + t109))).bind fun t110 => ((cmp_Compare_int.f a0_1 a1_1).bind fun t111 => ((cmp_Compare_int.f a0_0 a1_0).bind fun t112 => ((cmp_Or_int.f k (([t105, t110, t111, t112] : List Int))).bind fun t116 => (some t116)))))))))
def impl_RankMotions_1.T1 : Bool × List (List Nat × List Nat) := (true, [([], []), ([0], [0]), ([], []), ([2], [2]), ([], []), ([], []), ([4, 1, 0, 1, 4, 5], [1, 4]), ([5, 3, 6, 0, 1, 2, 3, 4, 5, 6], [3, 5])])
def impl_RankMotions_1.B1 : List Nat := [0, 1, 0, 4, 0, 0, 51, 127]
theorem impl_RankMotions_1.tab1 : rtab .any (opsOf Try.f57 1) = impl_RankMotions_1.T1 := by kernel_rfl
theorem impl_RankMotions_1.bits1 : waitsOk impl_RankMotions_1.T1.2 impl_RankMotions_1.B1 = true := by kernel_rfl
def impl_RankMotions_1.T2 : Bool × List (List Nat × List Nat) := (true, [([], []), ([0], [0]), ([], []), ([2], [2]), ([1, 3], [1, 3]), ([], []), ([5], [5]), ([], []), ([7], [7]), ([6, 8], [6, 8]), ([4, 9], [4, 9]), ([], []), ([11], [11]), ([12, 10], [12]), ([], []), ([14], [14]), ([15, 13], [15]), ([13, 16], [13, 16]), ([], []), ([18], [18]), ([19, 16], [19]), ([], []), ([21], [21]), ([22, 20], [22]), ([20, 23], [20, 23]), ([17, 24, 23], [17, 24]), ([], []), ([26], [26]), ([], []), ([28], [28]), ([27, 29, 25], [27, 29]), ([], []), ([31], [31]), ([], []), ([33], [33]), ([32, 34, 30], [32, 34]), ([10, 25, 30, 35], [10, 25, 30, 35]), ([36, 35], [36]), ([37, 37, 0, 1, 2, 3, 4, 5, 6, 7, 8, 9, 10, 11, 12, 13, 14, 15, 16, 17, 18, 19, 20, 21, 22, 23, 24, 25, 26, 27, 28, 29, 30, 31, 32, 33, 34, 35, 36, 37], [37])])
def impl_RankMotions_1.B2 : List Nat := [0, 1, 0, 4, 15, 0, 32, 0, 128, 480, 1023, 0, 2048, 8191, 0, 16384, 65535, 131071, 0, 262144, 917503, 0, 2097152, 8257535, 16646143, 33554431, 0, 67108864, 0, 268435456, 1073741823, 0, 2147483648, 0, 8589934592, 34359738367, 68719476735, 137438953471, 274877906943]
theorem impl_RankMotions_1.tab2 : rtab .any (opsOf Try.f57 2) = impl_RankMotions_1.T2 := by kernel_rfl
theorem impl_RankMotions_1.bits2 : waitsOk impl_RankMotions_1.T2.2 impl_RankMotions_1.B2 = true := by kernel_rfl
end Go.Proofs.Ytmekfmhnpinjlaa.P
