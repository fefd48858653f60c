/- Texts of the claim FnEnsembles, merged: part 6 of 11: the program's and the reference's functions as Lean functions, the walks that show it, and plain lemmas; no conditions. -/
import Derived.Test.YtpggcolcabmdeaaKFnEnsembles3
import Derived.Test.YtpggcolcabmdeaaKFnEnsembles4
import Derived.Test.YtpggcolcabmdeaaKFnEnsembles5
open Go.RowKit Go.Proofs.YtpggcolcabmdeaaW.PrintWords Go.Proofs.YtpggcolcabmdeaaW.PrintLast Go.Proofs.YtpggcolcabmdeaaW.PrintMore
set_option linter.unusedVariables false
set_option linter.unusedSimpArgs false
set_option maxHeartbeats 8000000
set_option maxRecDepth 100000
namespace Go.Proofs.Ytpggcolcabmdeaa.P
attribute [local go_sem] max2_int min2_int max_two min_two max_three min_three max_four min_four
mutual
def spec_l1Cur_ensemble.l0 : Nat → Int → Int → List (S29) → Int → List Int → Int → Int → Option ((List (S29)) × Int × Int)
 | 0, _, _, _, _, _, _, _ => none
 | k + 1, x3, x4, x5, x6, x1000, x1001, x1002 => if x6 > 0 then (spec_l1Cur_ensemble.l1 k x3 x4 x5 x6 0 x1000 x1001 x1002 x3 x4 ([] : List Int)) else ((spec_l1Cur_pick.f x1000 x1001 x1002 40).bind fun bt126 => (if bt126.1 = 0 then ((spec_l1Cur_anyField.f k x1000 bt126.2.1 bt126.2.2).bind fun bt129 => (if x5.length < 3518437208883 then (some ((x5 ++ [(⟨bt129.1, bt129.2.1, bt129.2.2.1⟩ : S29)]), bt129.2.2.2.1, bt129.2.2.2.2)) else (none))) else (if bt126.1 = 1 then (some ((([] : List (S29))), bt126.2.1, bt126.2.2)) else (if bt126.1 = 2 then (spec_l1Cur_ensemble.l2 k x5 x1000 bt126.2.1 bt126.2.2) else (if bt126.1 = 3 then (if 0 < (x5.length : Int) then ((spec_l1Cur_among.f x1000 bt126.2.1 bt126.2.2 (([9001, (-9000), 9000] : List Int))).bind fun bt158 => (if 0 < (((rd_T29 x5 0).f2).length : Int) then (some ((x5.set (0 : Int).toNat (⟨(rd_T29 x5 0).f0, (rd_T29 x5 0).f1, (((rd_T29 x5 0).f2).set (0 : Int).toNat bt158.1)⟩ : S29)), bt158.2.1, bt158.2.2)) else (none))) else (none)) else (some (x5, bt126.2.1, bt126.2.2)))))))
def spec_l1Cur_ensemble.l1 : Nat → Int → Int → List (S29) → Int → Int → List Int → Int → Int → Int → Int → List Int → Option ((List (S29)) × Int × Int)
 | 0, _, _, _, _, _, _, _, _, _, _, _ => none
 | k + 1, x3, x4, x5, x6, x8, x1000, x1001, x1002, x114000, x114001, x114002 => if x8 < (wrap64 (x3 * x4)) then ((spec_l1Cur_among.f x1000 x1001 x1002 (([0, 5, 10, 15, 20, (-5), (-9999)] : List Int))).bind fun bt117 => (if x114002.length < 17592186044416 then (spec_l1Cur_ensemble.l1 k x3 x4 x5 x6 (wrap64 (x8 + 1)) x1000 bt117.2.1 bt117.2.2 x114000 x114001 (x114002 ++ [bt117.1])) else (none))) else (if x5.length < 3518437208883 then (spec_l1Cur_ensemble.l0 k x3 x4 (x5 ++ [(⟨x114000, x114001, x114002⟩ : S29)]) (wrap64 (x6 - 1)) x1000 x1001 x1002) else (none))
def spec_l1Cur_ensemble.l2 : Nat → List (S29) → List Int → Int → Int → Option ((List (S29)) × Int × Int)
 | 0, _, _, _, _ => none
 | k + 1, x5, x1000, x1001, x1002 => (spec_l1Cur_pick.f x1000 x1001 x1002 2).bind fun bt142 => (if (x5.length : Int) < (wrap64 (8 + bt142.1)) then (if 0 < (x5.length : Int) then ((spec_l2Own.f ((rd_T29 x5 0).f0) ((rd_T29 x5 0).f1) ((rd_T29 x5 0).f2)).bind fun bt146 => (if x5.length < 3518437208883 then (spec_l1Cur_ensemble.l2 k (x5 ++ [(⟨bt146.1, bt146.2.1, bt146.2.2⟩ : S29)]) x1000 bt142.2.1 bt142.2.2) else (none))) else (none)) else (some (x5, bt142.2.1, bt142.2.2)))
end
def spec_l1Cur_ensemble.f (k : Nat) (s0_0 : List Int) (s0_1 : Int) (s0_2 : Int) : Option ((List (S29)) × Int × Int) := (spec_l1Cur_pick.f s0_0 s0_1 s0_2 4).bind fun bt101 => ((spec_l1Cur_pick.f s0_0 bt101.2.1 bt101.2.2 4).bind fun bt104 => ((spec_l1Cur_pick.f s0_0 bt104.2.1 bt104.2.2 5).bind fun bt110 => (spec_l1Cur_ensemble.l0 k (wrap64 (1 + bt101.1)) (wrap64 (1 + bt104.1)) (([] : List (S29))) (wrap64 (1 + bt110.1)) s0_0 bt110.2.1 bt110.2.2)))
def spec_l1Cur_ensemble.T10 : Bool × List (List Nat × List Nat) := (true, [([], []), ([0], [0]), ([], []), ([], []), ([2, 3], [2, 3]), ([4], [4]), ([1, 5, 4], [1, 5]), ([0, 1, 2, 3, 4, 5, 6], []), ([7, 6, 6, 0, 1, 2, 3, 4, 5, 6], [6, 7])])
def spec_l1Cur_ensemble.B10 : List Nat := [0, 1, 0, 0, 12, 28, 63, 127, 255]
theorem spec_l1Cur_ensemble.tab10 : rtab .any (opsOf Try.f18 10) = spec_l1Cur_ensemble.T10 := by kernel_rfl
theorem spec_l1Cur_ensemble.bits10 : waitsOk spec_l1Cur_ensemble.T10.2 spec_l1Cur_ensemble.B10 = true := by kernel_rfl
def spec_l1Cur_ensemble.T21 : Bool × List (List Nat × List Nat) := (true, [([], []), ([0], [0]), ([1], [1]), ([2], [2]), ([], []), ([], []), ([4, 5], [4, 5]), ([3, 0, 1, 2, 3, 4, 5, 6], [3]), ([7, 6, 6, 0, 1, 2, 3, 4, 5, 6], [6, 7])])
def spec_l1Cur_ensemble.B21 : List Nat := [0, 1, 3, 7, 0, 0, 48, 127, 255]
theorem spec_l1Cur_ensemble.tab21 : rtab .any (opsOf Try.f18 21) = spec_l1Cur_ensemble.T21 := by kernel_rfl
theorem spec_l1Cur_ensemble.bits21 : waitsOk spec_l1Cur_ensemble.T21.2 spec_l1Cur_ensemble.B21 = true := by kernel_rfl
theorem spec_l1Cur_ensemble.calls (k : Nat) (g : Nat) (s0_0 : List Int) (s0_1 : Int) (s0_2 : Int) (r1 : List (S29)) (r2 : Int) (r3 : Int) (w0 w : World) (hI : IsS44 w0 w g s0_0 s0_1 s0_2) (hB : Below w0.heap.size w0 w) (h : spec_l1Cur_ensemble.f k s0_0 s0_1 s0_2 = some (r1, r2, r3)) :
  Calls Try.prog 18 #[.pointer (some ⟨g, 0, none⟩)] w fun e w' => ∃ v0_ : Value, e = .returned (v0_) ∧ Kd.V k29 29 w' w.heap.size (fun k_ => (w.heap.size ≤ k_)) v0_ r1 ∧ IsS44 w0 w' g s0_0 r2 r3 ∧ Below w0.heap.size w0 w' ∧ KeepBut w w' g none := by
 have hu29 := Try.underlying29
 have HI0 := aK hI
 have HK := aK (KeepBut.refl w g none)
 have HL := aK hB.size
 clear hI
 have HW0 := aK hB.size
 have HB := aK hB
 clear hB
 have H : ((spec_l1Cur_pick.f s0_0 s0_1 s0_2 4).bind fun bt101 => ((spec_l1Cur_pick.f s0_0 bt101.2.1 bt101.2.2 4).bind fun bt104 => ((spec_l1Cur_pick.f s0_0 bt104.2.1 bt104.2.2 5).bind fun bt110 => (spec_l1Cur_ensemble.l0 k (wrap64 (1 + bt101.1)) (wrap64 (1 + bt104.1)) (([] : List (S29))) (wrap64 (1 + bt110.1)) s0_0 bt110.2.1 bt110.2.2)))) = some (r1, r2, r3) := h
 clear h
 replace H := oA H
 obtain ⟨⟨t101, t102, t103⟩, A2, H⟩ := H
 replace H : ((spec_l1Cur_pick.f s0_0 t102 t103 4).bind fun bt104 => ((spec_l1Cur_pick.f s0_0 bt104.2.1 bt104.2.2 5).bind fun bt110 => (spec_l1Cur_ensemble.l0 k (wrap64 (1 + t101)) (wrap64 (1 + bt104.1)) (([] : List (S29))) (wrap64 (1 + bt110.1)) s0_0 bt110.2.1 bt110.2.2))) = some (r1, r2, r3) := H
 replace H := oA H
 obtain ⟨⟨t104, t105, t106⟩, A3, H⟩ := H
 replace H : ((spec_l1Cur_pick.f s0_0 t105 t106 5).bind fun bt110 => (spec_l1Cur_ensemble.l0 k (wrap64 (1 + t101)) (wrap64 (1 + t104)) (([] : List (S29))) (wrap64 (1 + bt110.1)) s0_0 bt110.2.1 bt110.2.2)) = some (r1, r2, r3) := H
 obtain ⟨y107, hy107⟩ : ∃ y_ : List (S29), y_ = (([] : List (S29))) := ⟨_, rfl⟩
 replace H : ((spec_l1Cur_pick.f s0_0 t105 t106 5).bind fun bt110 => (spec_l1Cur_ensemble.l0 k (wrap64 (1 + t101)) (wrap64 (1 + t104)) y107 (wrap64 (1 + bt110.1)) s0_0 bt110.2.1 bt110.2.2)) = some (r1, r2, r3) := by first | (rw [hy107]; first | with_reducible exact H | with_reducible exact (oS H :)) | with_reducible exact (oS H :) | with_reducible exact H | exact H
 have Ny107 := aK hy107
 clear hy107
 replace H := oA H
 obtain ⟨⟨t110, t111, t112⟩, A4, H⟩ := H
 replace H : (spec_l1Cur_ensemble.l0 k (wrap64 (1 + t101)) (wrap64 (1 + t104)) y107 (wrap64 (1 + t110)) s0_0 t111 t112) = some (r1, r2, r3) := H
 have H' := aK H
 clear H
 go_enter Try.func18, Try.ntmps18
 go_wp2_with (first | ((with_reducible refine gc 39 rfl ?_); refine gl (some 10) Try.func39 #[.pointer (some ⟨g, 0, none⟩), .int .i64 4] ?_; (with_reducible refine (spec_l1Cur_pick.calls g s0_0 s0_1 s0_2 4 t101 t102 t103 w0 _ ?side1 ?side2 A2.out).mono ?_); (case side1 => exact pI44 HI0.out); (case side2 => exact pV HB.out (IsS44.ge HI0.out)); rintro e w5 ⟨rfl, hi, hb, hk⟩; refine ⟨_, rfl, ?_⟩; replace HK := aK (KeepBut.trans (pK HK.out) hk (.inl rfl)); replace HB := aK (hb); replace HI0 := aK (hi); (try clear hb); (try clear hk); (try clear hi)) | ((with_reducible refine gc 39 rfl ?_); refine gl (some 13) Try.func39 #[.pointer (some ⟨g, 0, none⟩), .int .i64 4] ?_; (with_reducible refine (spec_l1Cur_pick.calls g s0_0 t102 t103 4 t104 t105 t106 w0 _ ?side1 ?side2 A3.out).mono ?_); (case side1 => exact pI44 HI0.out); (case side2 => exact pV HB.out (IsS44.ge HI0.out)); rintro e w6 ⟨rfl, hi, hb, hk⟩; refine ⟨_, rfl, ?_⟩; replace HK := aK (KeepBut.trans (pK HK.out) hk (.inl rfl)); replace HB := aK (hb); replace HI0 := aK (hi); (try clear hb); (try clear hk); (try clear hi)) | ((with_reducible refine ga 15 rfl ?_); refine Kd.S_lit k29 _ 29 ?hg (N := 15) ?hd (xs := ([] : List (S29))) (inner := []) (ok := fun _ => True) (okp := fun _ => True) ?hr ?hp (fun _ hk => hk) trivial (Below.refl _ _) (Nat.le_refl _) (by simp) ?_; (case hd => rfl); (case hg => rfl); (case hr => first | (go_simp; done) | (go_simp; rfl)); (case hp => exact (Reps.none _ _)); intro v108 w7 ho8 hb hg_ hnew_; clear hg_ hnew_; (first | rw [← Ny107.out] at ho8 | (simp only [Int.reduceToNat] at ho8; rw [← Ny107.out] at ho8)); have HO109 := aK (Kd.S_lower (Kd.S_newM (M := fun k_ => (w.heap.size ≤ k_)) ho8 (keep_size (w := w) (g := g) (row := none) (pK HK.out)) (fun k_ h_ => h_)) (keep_size (w := w) (g := g) (row := none) (pK HK.out))); have n1_ := aK (IsS44.below (pI44 HI0.out) hb); have n2_ := aK (KeepBut.trans (pK HK.out) (KeepBut.of_below hb g none) (.inl rfl)); have n3_ := aK (below_step ((pV HB.out (IsS44.ge HI0.out))) hb); clear HI0 HK HB; have HI0 := n1_; have HK := n2_; have HB := n3_; clear n1_ n2_ n3_; clear hb ho8) | ((with_reducible refine gc 39 rfl ?_); refine gl (some 17) Try.func39 #[.pointer (some ⟨g, 0, none⟩), .int .i64 5] ?_; (with_reducible refine (spec_l1Cur_pick.calls g s0_0 t105 t106 5 t110 t111 t112 w0 _ ?side1 ?side2 A4.out).mono ?_); (case side1 => exact pI44 HI0.out); (case side2 => exact pV HB.out (IsS44.ge HI0.out)); rintro e w9 ⟨rfl, hi, hb, hk⟩; refine ⟨_, rfl, ?_⟩; replace HO109 := aK (Kd.S_mono (Kd.S_keep (IsS44.apartS (show IsS44 w0 _ g s0_0 t105 t106 from pI44 HI0.out) (pY HO109.out) (by decide)) hk (fun _ h => h.2)) (fun _ h => h.1)); replace HK := aK (KeepBut.trans (pK HK.out) hk (.inl rfl)); replace HB := aK (hb); replace HI0 := aK (hi); (try clear hb); (try clear hk); (try clear hi)))
 go_loopg [5, 6] k (fun kq v5 v6 w' => ∃ (x5_1 : List (S29)) (x6_1 : Int) (x1001_1 : Int) (x1002_1 : Int), v6 = .int .i64 x6_1 ∧ Aside0 (spec_l1Cur_ensemble.l0 kq (wrap64 (1 + t101)) (wrap64 (1 + t104)) x5_1 x6_1 s0_0 x1001_1 x1002_1 = some (r1, r2, r3)) ∧ Aside0 (kq ≤ k) ∧ Aside0 (Kd.S k29 29 w' w.heap.size (fun k_ => (w.heap.size ≤ k_)) v5 x5_1) ∧ Aside0 (IsS44 w0 w' g s0_0 x1001_1 x1002_1) ∧ Aside0 (KeepBut w w' g none) ∧ Aside0 (Below w0.heap.size w0 w'))
 case atStart => exact ⟨(y107), (wrap64 (1 + t110)), (t111), (t112), (by first | rfl | (simp; done) | (simp [*]; done)), H', ⟨Nat.le_refl _⟩, ⟨by (with_reducible repeat (first | apply Kd.S_alloc | apply Kd.S_drewN | apply Kd.S_drew)); exact Kd.S_mono HO109.out (fun _ hk => hk.1)⟩, ⟨pI44 HI0.out⟩, ⟨pK HK.out⟩, ⟨(pV HB.out (IsS44.ge HI0.out))⟩⟩
 case round =>
 clear H'
 try clear c1
 try clear p2
 try clear c3
 try clear p6
 obtain ⟨x5_1, x6_1, x1001_1, x1002_1, rfl, HA, HK1, HO_5, HI0, HK, HB⟩ := hrel
 cases gk with
 | zero => exact absurd HA.out (by simp [spec_l1Cur_ensemble.l0])
 | succ k1 =>
 have H := HA.out
 clear HA
 simp only [spec_l1Cur_ensemble.l0] at H
 by_cases c10 : x6_1 > 0
 ·
  rw [if_pos c10] at H
  have c10b0 : decide (0 < x6_1) = true := decide_eq_true c10
  clear c10; have H' := aK H; clear H
  go_wp2_with (first | ((with_reducible refine ga 7 rfl ?_); refine bxe (cs := #[.int .i64 0, .int .i64 0, .slice none 0 0]) (t := 29) ?_; intro g113 hg w11 hbox hb; replace HO_5 := aK (Kd.S_below (Kd.S_elderB (pY HO_5.out) g113 (Nat.le_of_eq hg.symm)) hb); have n1_ := aK (IsS44.below (pI44 HI0.out) hb); have n2_ := aK (KeepBut.trans (pK HK.out) (KeepBut.of_below hb g none) (.inl rfl)); replace HB := aK (below_step ((pV HB.out (IsS44.ge HI0.out))) hb); have B113 := aK (hbox); have GW113 := aK ((by rw [hg]; exact (keep_size (w := w) (g := g) (row := none) (pK HK.out)) : w.heap.size ≤ g113)); have GE113 := aK ((Nat.le_trans HW0.out (by rw [hg]; exact (keep_size (w := w) (g := g) (row := none) (pK HK.out)) : w.heap.size ≤ g113) : w0.heap.size ≤ g113)); have N0_113 := aK ((by rw [hg]; exact Nat.ne_of_lt (IsS44.lt (show IsS44 w0 _ g s0_0 x1001_1 x1002_1 from pI44 HI0.out)) : g ≠ g113)); have N113_0 := aK ((by rw [hg]; exact Nat.ne_of_gt (IsS44.lt (show IsS44 w0 _ g s0_0 x1001_1 x1002_1 from pI44 HI0.out)) : g113 ≠ g)); clear HI0 HK; have HI0 := n1_; have HK := n2_; clear n1_ n2_ hb hbox hg; obtain ⟨_, _⟩ := nB N113_0; obtain ⟨z13_0, z13_1, z13_2, y13_0, y13_1, y13_2⟩ := bc3 B113.out))
  go_loopg [8] k1 (fun kq v8 w' => ∃ (x8_2 : Int) (x1001_2 : Int) (x1002_2 : Int) (x114002_2 : List Int) (u114002 : Value), v8 = .int .i64 x8_2 ∧ Aside0 (spec_l1Cur_ensemble.l1 kq (wrap64 (1 + t101)) (wrap64 (1 + t104)) x5_1 x6_1 x8_2 s0_0 x1001_2 x1002_2 (wrap64 (1 + t101)) (wrap64 (1 + t104)) x114002_2 = some (r1, r2, r3)) ∧ Aside0 (kq ≤ k1) ∧ Aside0 (Kd.S k29 29 w' w.heap.size (fun k_ => (w.heap.size ≤ k_) ∧ some k_ ≠ (u114002 : Value).ownBlock ∧ k_ ≠ g113) u5 x5_1) ∧ Aside0 (Kd.R (Kd.int .i64) 3 w' w.heap.size (fun k_ => (w.heap.size ≤ k_)) u114002 x114002_2) ∧ Aside0 (w'.heap[g113]? = some (.cells #[.int .i64 (wrap64 (1 + t101)), .int .i64 (wrap64 (1 + t104)), u114002] 29 (0, 0))) ∧ Aside0 (IsS44 w0 w' g s0_0 x1001_2 x1002_2) ∧ Aside0 (KeepBut w w' g none) ∧ Aside0 (Below w0.heap.size w0 w'))
  case atStart => exact ⟨(0), (x1001_1), (x1002_1), (([] : List Int)), (.slice none 0 0), (by first | rfl | (simp; done) | (simp [*]; done)), H', ⟨Nat.le_refl _⟩, ⟨by (with_reducible repeat (first | apply Kd.S_alloc | apply Kd.S_drewN | apply Kd.S_drew)); exact Kd.S_mono (Kd.S_far (p := ⟨g113, 2, none⟩) (Kd.S_far (p := ⟨g113, 1, none⟩) (Kd.S_far (p := ⟨g113, 0, none⟩) (Kd.S_mono HO_5.out (fun k_ hk => (⟨hk, hk.2⟩ : _ ∧ k_ ≠ g113))) (fun _ hk => hk.2) (.int .i64 (wrap64 (1 + t101)))) (fun _ hk => hk.2) (.int .i64 (wrap64 (1 + t104)))) (fun _ hk => hk.2) (.slice none 0 0)) (fun _ hk => ⟨hk.1.1, ⟨(by simp [Value.ownBlock]), hk.1.2⟩⟩)⟩, ⟨by first | exact Kd.R_nil _ _ _ _ _ | exact Kd.N_nil _ _ _ _ _ | exact Kd.V_nil _ _ _ _ _ | exact Kd.Q_nil _ _ _ _ _ | exact Kd.S_nil _ _ _ _ _⟩, ⟨by refine bq #[.int .i64 (wrap64 (1 + t101)), .int .i64 (wrap64 (1 + t104)), .slice none 0 0] 2 ?_; refine bq #[.int .i64 (wrap64 (1 + t101)), .int .i64 0, .slice none 0 0] 1 ?_; refine bq #[.int .i64 0, .int .i64 0, .slice none 0 0] 0 ?_; refine bk ?_; exact B113.out⟩, ⟨pI44 HI0.out⟩, ⟨pK HK.out⟩, ⟨(pV HB.out (IsS44.ge HI0.out))⟩⟩
  case round =>
  clear H'
  try clear c1
  try clear p2
  try clear c3
  try clear p6
  try clear c10
  try clear c10b0
  try clear c12
  try clear z13_0
  try clear z13_1
  try clear z13_2
  try clear y13_0
  try clear y13_1
  try clear y13_2
  try clear p2
  try clear p6
  obtain ⟨x8_2, x1001_2, x1002_2, x114002_2, u114002, rfl, HA, HK2, HO_5, O0, B113, HI0, HK, HB⟩ := hrel
  cases gk with
  | zero => exact absurd HA.out (by simp [spec_l1Cur_ensemble.l1])
  | succ k2 =>
  have H := HA.out; clear HA
  simp only [spec_l1Cur_ensemble.l1] at H
  by_cases c14 : x8_2 < (wrap64 ((wrap64 (1 + t101)) * (wrap64 (1 + t104))))
  rotate_left
  ·
   rw [if_neg c14] at H
   have c14b0 : decide (x8_2 < (wrap64 ((wrap64 (1 + t101)) * (wrap64 (1 + t104))))) = false := decide_eq_false c14
   clear c14
   by_cases c25 : x5_1.length < 3518437208883
   rotate_left
   ·
    rw [if_neg c25] at H
    exact absurd H (by simp)
   rw [if_pos c25] at H; have LMc25 := aK c25; clear c25
   obtain ⟨y123, hy123⟩ : ∃ y_ : List (S29), y_ = (x5_1 ++ [(⟨(wrap64 (1 + t101)), (wrap64 (1 + t104)), x114002_2⟩ : S29)]) := ⟨_, rfl⟩
   replace H : (spec_l1Cur_ensemble.l0 k2 (wrap64 (1 + t101)) (wrap64 (1 + t104)) y123 (wrap64 (x6_1 - 1)) s0_0 x1001_2 x1002_2) = some (r1, r2, r3) := by first | (rw [hy123]; first | with_reducible exact H | with_reducible exact (oS H :)) | with_reducible exact (oS H :) | with_reducible exact H | exact H
   have Ny123 := aK hy123; clear hy123; have H' := aK H; clear H; obtain ⟨_, _⟩ := nB N113_0; obtain ⟨z27_0, z27_1, z27_2, y27_0, y27_1, y27_2⟩ := bc3 B113.out; obtain ⟨Ao29, co29, eo29⟩ := Kd.R_slice O0.out; subst eo29
   go_wp2_with (first | ((with_reducible refine gate_builtin (b := .append) (xs := #[.tmp 41, .tmp 43]) rfl ?_); at_builtin; refine Kd.S_append k29 w.heap.size rfl (.tmp 41) (.tmp 43) 24 29 (.agg #[(.int .i64 0), (.int .i64 0), (.slice none 0 0)]) 40 rfl Try.underlying24 info29 rfl (by decide) (by omega) u5 x5_1 (⟨(wrap64 (1 + t101)), (wrap64 (1 + t104)), x114002_2⟩ : S29) [.int .i64 (wrap64 (1 + t101)), .int .i64 (wrap64 (1 + t104)), .slice Ao29 x114002_2.length co29] (fun k_ => (w.heap.size ≤ k_) ∧ k_ ≠ g113) (fun k_ => some k_ = (.slice Ao29 x114002_2.length co29 : Value).ownBlock) rfl rfl ?aP (fun k_ hk_ => ((Kd.R_mono (ok' := fun k_ => ((fun k_ => (w.heap.size ≤ k_) ∧ k_ ≠ g113)) k_ ∧ some k_ ≠ (u5 : Value).ownBlock) (Kd.R_types (Kd.R_apart' (O0.out) (Kd.S_typed HO_5.out) (by decide)) B113.out (by decide)) (fun k_ hk => ⟨⟨hk.1.1, hk.2⟩, hk.1.2⟩))).1 k_ hk_.symm) ?aF ?aO (Below.refl _ _) ?aS ?aL ?_; (case aP => exact k29_mkM _ _ _ (⟨(wrap64 (1 + t101)), (wrap64 (1 + t104)), x114002_2⟩ : S29) (Kd.R_mono (Kd.R_tight rfl (Kd.R_mono (ok' := fun k_ => ((fun k_ => (w.heap.size ≤ k_) ∧ k_ ≠ g113)) k_ ∧ some k_ ≠ (u5 : Value).ownBlock) (Kd.R_types (Kd.R_apart' (O0.out) (Kd.S_typed HO_5.out) (by decide)) B113.out (by decide)) (fun k_ hk => ⟨⟨hk.1.1, hk.2⟩, hk.1.2⟩))) (fun _ h_ => h_))); (case aF => exact (fun k_ hk => ⟨(Nat.le_trans (keep_size (w := w) (g := g) (row := none) (pK HK.out)) hk), Kd.freshB (g := g113) (o := .cells #[.int .i64 (wrap64 (1 + t101)), .int .i64 (wrap64 (1 + t104)), .slice Ao29 x114002_2.length co29] 29 (0, 0)) (pB B113.out) k_ hk⟩)); (case aO => exact (pY (Kd.S_mono HO_5.out (fun k_ hk => ⟨⟨hk.1, hk.2.2⟩, fun e_ => hk.2.1 e_⟩)))); (case aS => exact (keep_size (w := w) (g := g) (row := none) (pK HK.out))); (case aL => have := LMc25.out; omega); intro v124 w28 ho hb hg hat; rw [← Ny123.out] at ho; replace B113 := aK (blk_grown (pB B113.out) hg (Kd.S_away HO_5.out (fun _ hk => hk.2.2))); have n1_ := aK (IsS44.grown (pI44 HI0.out) hg (IsS44.own_neS HI0.out HO_5.out (by decide))); replace HB := aK (below_weaken ((pV HB.out (IsS44.ge HI0.out))) HL.out hb); replace HK := aK (KeepBut.trans (pK HK.out) (KeepBut.of_grown hg g) (Kd.S_base2 HO_5.out)); have HO125 := aK (ho); clear HI0 HO_5 O0; have HI0 := n1_; clear n1_; clear ho hb hg hat))
   go_roundg k2
   case measure => have := HK1.out; have := HK2.out; omega
   case rel => exact ⟨(y123), (wrap64 (x6_1 - 1)), (x1001_2), (x1002_2), (by first | rfl | (simp; done) | (simp [*]; done)), H', ⟨by have := HK1.out; have := HK2.out; omega⟩, ⟨by (with_reducible repeat (first | apply Kd.S_alloc | apply Kd.S_drewN | apply Kd.S_drew)); exact Kd.S_mono HO125.out (fun _ hk => hk.1)⟩, ⟨pI44 HI0.out⟩, ⟨pK HK.out⟩, ⟨(pV HB.out (IsS44.ge HI0.out))⟩⟩
  rw [if_pos c14] at H
  have c14b0 : decide (x8_2 < (wrap64 ((wrap64 (1 + t101)) * (wrap64 (1 + t104))))) = true := decide_eq_true c14
  clear c14
  obtain ⟨y114, hy114⟩ : ∃ y_ : List Int, y_ = (([0, 5, 10, 15, 20, (-5), (-9999)] : List Int)) := ⟨_, rfl⟩
  replace H : ((spec_l1Cur_among.f s0_0 x1001_2 x1002_2 y114).bind fun bt117 => (if x114002_2.length < 17592186044416 then (spec_l1Cur_ensemble.l1 k2 (wrap64 (1 + t101)) (wrap64 (1 + t104)) x5_1 x6_1 (wrap64 (x8_2 + 1)) s0_0 bt117.2.1 bt117.2.2 (wrap64 (1 + t101)) (wrap64 (1 + t104)) (x114002_2 ++ [bt117.1])) else (none))) = some (r1, r2, r3) := by first | (rw [hy114]; first | with_reducible exact H | with_reducible exact (oS H :)) | with_reducible exact (oS H :) | with_reducible exact H | exact H
  have Ny114 := aK hy114; clear hy114; replace H := oA H
  obtain ⟨⟨t117, t118, t119⟩, A15, H⟩ := H
  replace H : (if x114002_2.length < 17592186044416 then (spec_l1Cur_ensemble.l1 k2 (wrap64 (1 + t101)) (wrap64 (1 + t104)) x5_1 x6_1 (wrap64 (x8_2 + 1)) s0_0 t118 t119 (wrap64 (1 + t101)) (wrap64 (1 + t104)) (x114002_2 ++ [t117])) else (none)) = some (r1, r2, r3) := H
  by_cases c16 : x114002_2.length < 17592186044416
  rotate_left
  ·
   rw [if_neg c16] at H
   exact absurd H (by simp)
  rw [if_pos c16] at H; have LMc16 := aK c16; clear c16
  obtain ⟨y120, hy120⟩ : ∃ y_ : List Int, y_ = (x114002_2 ++ [t117]) := ⟨_, rfl⟩
  replace H : (spec_l1Cur_ensemble.l1 k2 (wrap64 (1 + t101)) (wrap64 (1 + t104)) x5_1 x6_1 (wrap64 (x8_2 + 1)) s0_0 t118 t119 (wrap64 (1 + t101)) (wrap64 (1 + t104)) y120) = some (r1, r2, r3) := by first | (rw [hy120]; first | with_reducible exact H | with_reducible exact (oS H :)) | with_reducible exact (oS H :) | with_reducible exact H | exact H
  have Ny120 := aK hy120; clear hy120; have H' := aK H; clear H
  try go_wp2
  replace HO_5 := sdw HO_5; replace O0 := rdw O0; replace B113 := bD B113; replace HI0 := aK (IsS44.drew HI0.out); replace HK := aK (keep_drew HK.out); replace HB := aK (below_drew1 HB.out)
  refine start_ (n := 9) (S := fun w' => w'.cell? ⟨g113, 0, none⟩ = some (.int .i64 (wrap64 (1 + t101))) ∧ w'.cell? ⟨g113, 1, none⟩ = some (.int .i64 (wrap64 (1 + t104))) ∧ w'.cell? ⟨g113, 2, none⟩ = some (u114002)) (ds := [8]) (bz [0, 9]) (by kernel_rfl) rfl rfl (cz3 B113.out) (fun hHeld => ?_); refine with_tabW spec_l1Cur_ensemble.tab10 spec_l1Cur_ensemble.bits10 (fun HT_ HW_ => ?_)
  generalize wr.drew = w17 at HO_5 O0 B113 HI0 HK HB hHeld ⊢
  refine pz 0 33 [1, 8] HT_ ?_
  refine pz 2 35 [1, 1, 1, 6] HT_ ?_
  refine tz 1 34 [3, 6] HT_ HW_ rfl (by rintro w' ⟨s0, s1, s2⟩; go_simp; with_reducible rfl) hHeld ?_
  refine oz 3 36 [4, 5] HT_ fun K hK => ?_
  refine Kd.R_lit_step (Kd.int .i64) _ 3 ?hg (N := 36) ?hd (xs := ([0, 5, 10, 15, 20, (-5), (-9999)] : List Int)) (inner := [.int .i64 0, .int .i64 5, .int .i64 10, .int .i64 15, .int .i64 20, .int .i64 (-5), .int .i64 (-9999)]) (ok := fun _ => True) (okp := fun _ => True) ?hr ?hp (fun _ hk => hk) trivial (Below.refl _ _) (Nat.le_refl _) (by simp) ?_; (case hd => rfl); (case hg => rfl); (case hr => first | (go_simp; done) | (go_simp; rfl)); (case hp => exact (Reps.one (show Kd.M (Kd.int .i64) _ _ _ 0 [.int .i64 0] from rfl) (Reps.one (show Kd.M (Kd.int .i64) _ _ _ 5 [.int .i64 5] from rfl) (Reps.one (show Kd.M (Kd.int .i64) _ _ _ 10 [.int .i64 10] from rfl) (Reps.one (show Kd.M (Kd.int .i64) _ _ _ 15 [.int .i64 15] from rfl) (Reps.one (show Kd.M (Kd.int .i64) _ _ _ 20 [.int .i64 20] from rfl) (Reps.one (show Kd.M (Kd.int .i64) _ _ _ (-5) [.int .i64 (-5)] from rfl) (Reps.one (show Kd.M (Kd.int .i64) _ _ _ (-9999) [.int .i64 (-9999)] from rfl) (Reps.none _ _)))))))))
  intro v115 w18 ho19 hb hg_ hnew_
  clear hg_ hnew_
  (first | rw [← Ny114.out] at ho19 | (simp only [Int.reduceToNat] at ho19; rw [← Ny114.out] at ho19))
  replace HO_5 := aK (Kd.S_elder' (pY HO_5.out) (Kd.R_base ho19) hb); have n1_ := aK (Kd.R_elder' (pR O0.out) (Kd.R_base ho19) hb)
  have HO116 := aK (Kd.R_lower (nw1 (Kd.R_newM (M := fun k_ => (w.heap.size ≤ k_)) ho19 (keep_size (w := w) (g := g) (row := none) (pK HK.out)) (fun k_ h_ => h_)) (pR O0.out)) (keep_size (w := w) (g := g) (row := none) (pK HK.out)))
  have n4_ := aK (IsS44.below (pI44 HI0.out) hb); replace HK := aK (KeepBut.trans (pK HK.out) (KeepBut.of_below hb g none) (.inl rfl)); replace HB := aK (below_step ((pV HB.out (IsS44.ge HI0.out))) hb); replace B113 := bB B113 hb; clear O0 HI0; have O0 := n1_; have HI0 := n4_; clear n1_ n4_ hb ho19; obtain ⟨Ao20, co20, eo20⟩ := Kd.R_slice HO116.out
  (first | subst eo20 | (obtain ⟨f4_, f5_⟩ := sI eo20; subst f4_; subst f5_))
  refine hK.out _ _ (cz3 B113.out) (fun hHeld => ?_)
  clear hK K
  refine nm 36 ?_
  refine oz 4 37 [5, 4] HT_ fun K hK => ?_
  refine gs Try.func38 #[.pointer (some ⟨g, 0, none⟩), .slice Ao20 y114.length co20] ?_
  with_reducible refine (spec_l1Cur_among.calls g s0_0 x1001_2 x1002_2 _ _ y114 t117 t118 t119 w0 _ ?side1 ?side2 ?side3 ?side4 ?side5 A15.out).mono ?_
  (case side1 => exact pI44 HI0.out)
  (case side2 => exact pV HB.out (IsS44.ge HI0.out))
  (case side3 => exact pC (Kd.R_reads' HO116.out).2.2)
  (case side4 => exact (Kd.R_reads' HO116.out).2.1)
  (case side5 => exact far_slice (IsS44.own_ne HI0.out HO116.out (by decide)))
  rintro e w21 ⟨rfl, hi, hb, hk⟩
  refine ⟨_, rfl, ?_⟩
  replace HO_5 := aK (Kd.S_mono (Kd.S_keep (IsS44.apartS (show IsS44 w0 _ g s0_0 x1001_2 x1002_2 from pI44 HI0.out) (pY HO_5.out) (by decide)) hk (fun _ h => h.2)) (fun _ h => h.1))
  replace O0 := aK (Kd.R_mono (Kd.R_keep (IsS44.apart (show IsS44 w0 _ g s0_0 x1001_2 x1002_2 from pI44 HI0.out) (pR O0.out) (by decide)) hk (fun _ h => h.2)) (fun _ h => h.1))
  replace B113 := kB hk B113 N113_0
  replace HO116 := aK (Kd.R_mono (Kd.R_keep (IsS44.apart (show IsS44 w0 _ g s0_0 x1001_2 x1002_2 from pI44 HI0.out) (pR HO116.out) (by decide)) hk (fun _ h => h.2)) (fun _ h => h.1))
  replace HK := aK (KeepBut.trans (pK HK.out) hk (.inl rfl)); replace HB := aK (hb); replace HI0 := aK (hi)
  (try clear hb)
  (try clear hb2)
  (try clear hk)
  (try clear hi)
  refine hK.out _ _ (cz3 B113.out) (fun hHeld => ?_)
  clear hK K
  refine nm 37 ?_
  refine oz 5 38 [6, 3] HT_ fun K hK => ?_
  refine value_ (w1 := ?_) (v := ?_) (by rfl) rfl ?_ ?_
  rotate_left 2
  ·
   go_simp
   constructor
   ·
    rfl
   rfl
  refine hK.out _ _ ⟨(blk_cell (blk_alloc B113.out _) 0).trans rfl, (blk_cell (blk_alloc B113.out _) 1).trans rfl, (blk_cell (blk_alloc B113.out _) 2).trans rfl⟩ (fun hHeld => ?_)
  clear hK K
  refine nm 38 ?_
  refine oz 6 39 [7, 2] HT_ fun K hK => ?_
  refine Kd.R_append_step (Kd.int .i64) w.heap.size (by rfl) (.tmp 34) (.tmp 38) 27 3 (.int .i64 0) 8 rfl Try.underlying27 info3 rfl (by decide) (by omega) u114002 x114002_2 t117 [.int .i64 t117] (fun k_ => (w.heap.size ≤ k_) ∧ some k_ ≠ (.slice Ao20 y114.length co20 : Value).ownBlock) (fun _ => False) rfl rfl ?aP (fun _ hk => hk.elim) ?aF ?aO (Below.refl _ _) ?aS ?aL ?_
  (case aP => exact rfl)
  (case aF => exact (fun k_ hk => ⟨(Nat.le_trans (keep_size (w := w) (g := g) (row := none) (pK HK.out)) hk), Kd.fresh' (Kd.R_lt (pR HO116.out)) k_ hk⟩))
  (case aO => exact (pR O0.out))
  (case aS => exact (keep_size (w := w) (g := g) (row := none) (pK HK.out)))
  (case aL => have := LMc16.out; omega)
  intro v121 w22 ho hb hg hat
  rw [← Ny120.out] at ho
  replace HO_5 := aK (Kd.S_after (ok := (fun k_ => (w.heap.size ≤ k_) ∧ some k_ ≠ (.slice Ao20 y114.length co20 : Value).ownBlock ∧ k_ ≠ g113)) (pY (Kd.S_mono HO_5.out (fun _ hk => ⟨⟨hk.1.1, ⟨hk.2, hk.1.2.2⟩⟩, hk.1.2.1⟩))) hg hat)
  replace B113 := aK (blk_grown (pB B113.out) hg (Kd.R_ne O0.out B113.out (by decide)))
  have n2_ := aK (IsS44.grown (pI44 HI0.out) hg (IsS44.own_ne HI0.out O0.out (by decide)))
  replace HO116 := aK (Kd.R_after (ok := (fun k_ => (w.heap.size ≤ k_))) (pR (rP HO116.out)) hg hat)
  replace HB := aK (below_weaken ((pV HB.out (IsS44.ge HI0.out))) HL.out hb); replace HK := aK (KeepBut.trans (pK HK.out) (KeepBut.of_grown hg g) (Kd.R_base2 O0.out)); have HO122 := aK (ho); clear HI0 O0; have HI0 := n2_; clear n2_ ho hb hg hat; obtain ⟨Ao23, co23, eo23⟩ := Kd.R_slice HO122.out
  (first | subst eo23 | (obtain ⟨f4_, f5_⟩ := sI eo23; subst f4_; subst f5_))
  refine hK.out _ _ (cz3 B113.out) (fun hHeld => ?_)
  clear hK K
  refine nm 39 ?_
  refine pz 7 40 [8, 1] HT_ ?_
  refine last_ (i := 8) (N := none) (bz [9, 0]) rfl rfl (one_of HT_.out (by kernel_rfl)) (by decide) (fun K hK => ?_)
  have hs24 : w22.cell? ⟨g113, 2, none⟩ = some (u114002) := (blk_cell B113.out 2).trans rfl
  have hfs24 := blk_frozen B113.out 2
  refine skip_ (w1 := ?_) (by rfl) rfl ?_ ?_
  rotate_left
  ·
   go_simp
   rfl
  refine hK.out _ _ ?_
  clear hK K
  refine done_ (done_of HT_.out (by kernel_rfl)) ?_
  try go_wp2
  go_roundg k2
  case measure => have := HK1.out; have := HK2.out; omega
  case rel => exact ⟨(wrap64 (x8_2 + 1)), (t118), (t119), (y120), (.slice Ao23 y120.length co23), (by first | rfl | (simp; done) | (simp [*]; done)), H', ⟨by have := HK1.out; have := HK2.out; omega⟩, ⟨by (with_reducible repeat (first | apply Kd.S_alloc | apply Kd.S_drewN | apply Kd.S_drew)); exact Kd.S_mono (Kd.S_far (p := ⟨g113, 2, none⟩) (Kd.S_mono HO_5.out (fun k_ hk => (⟨hk, hk.1.2.2⟩ : _ ∧ k_ ≠ g113))) (fun _ hk => hk.2) (.slice Ao23 y120.length co23)) (fun _ hk => ⟨hk.1.1.1, ⟨hk.1.2, hk.1.1.2.2⟩⟩)⟩, ⟨by (with_reducible repeat (first | apply Kd.R_alloc | apply Kd.R_drewN | apply Kd.R_drew)); exact Kd.R_mono (Kd.R_far (p := ⟨g113, 2, none⟩) (Kd.R_types HO122.out B113.out (by decide)) (fun _ hk => hk.2) (.slice Ao23 y120.length co23)) (fun _ hk => hk.1.1)⟩, ⟨by refine bq #[.int .i64 (wrap64 (1 + t101)), .int .i64 (wrap64 (1 + t104)), u114002] 2 ?_; refine bk ?_; exact B113.out⟩, ⟨pI44 HI0.out⟩, ⟨pK HK.out⟩, ⟨(pV HB.out (IsS44.ge HI0.out))⟩⟩
 rw [if_neg c10] at H
 have c10b0 : decide (0 < x6_1) = false := decide_eq_false c10
 clear c10
 replace H := oA H
 obtain ⟨⟨t126, t127, t128⟩, A30, H⟩ := H
 replace H : (if t126 = 0 then ((spec_l1Cur_anyField.f k1 s0_0 t127 t128).bind fun bt129 => (if x5_1.length < 3518437208883 then (some ((x5_1 ++ [(⟨bt129.1, bt129.2.1, bt129.2.2.1⟩ : S29)]), bt129.2.2.2.1, bt129.2.2.2.2)) else (none))) else (if t126 = 1 then (some ((([] : List (S29))), t127, t128)) else (if t126 = 2 then (spec_l1Cur_ensemble.l2 k1 x5_1 s0_0 t127 t128) else (if t126 = 3 then (if 0 < (x5_1.length : Int) then ((spec_l1Cur_among.f s0_0 t127 t128 (([9001, (-9000), 9000] : List Int))).bind fun bt158 => (if 0 < (((rd_T29 x5_1 0).f2).length : Int) then (some ((x5_1.set (0 : Int).toNat (⟨(rd_T29 x5_1 0).f0, (rd_T29 x5_1 0).f1, (((rd_T29 x5_1 0).f2).set (0 : Int).toNat bt158.1)⟩ : S29)), bt158.2.1, bt158.2.2)) else (none))) else (none)) else (some (x5_1, t127, t128)))))) = some (r1, r2, r3) := H
 by_cases c31 : t126 = 0
 ·
  rw [if_pos c31] at H
  have c31b0 : (t126 == 0) = true := beq_iff_eq.mpr c31
  have c31b1 : (t126 != 0) = false := bne_eq_false_iff_eq.mpr c31
  clear c31; replace H := oA H
  obtain ⟨⟨t129, t130, t131, t134, t135⟩, A32, H⟩ := H
  replace H : (if x5_1.length < 3518437208883 then (some ((x5_1 ++ [(⟨t129, t130, t131⟩ : S29)]), t134, t135)) else (none)) = some (r1, r2, r3) := H
  by_cases c33 : x5_1.length < 3518437208883
  rotate_left
  ·
   rw [if_neg c33] at H
   exact absurd H (by simp)
  rw [if_pos c33] at H; have LMc33 := aK c33; clear c33
  obtain ⟨y136, hy136⟩ : ∃ y_ : List (S29), y_ = (x5_1 ++ [(⟨t129, t130, t131⟩ : S29)]) := ⟨_, rfl⟩
  replace H : (some (y136, t134, t135)) = some (r1, r2, r3) := by first | (rw [hy136]; first | with_reducible exact H | with_reducible exact (oS H :)) | with_reducible exact (oS H :) | with_reducible exact H | exact H
  have Ny136 := aK hy136; clear hy136
  simp only [Option.some.injEq, Prod.mk.injEq] at H
  obtain ⟨rfl, rfl, rfl⟩ := H
  go_wp2_with (first | ((with_reducible refine gc 39 rfl ?_); refine gl (some 46) Try.func39 #[.pointer (some ⟨g, 0, none⟩), .int .i64 40] ?_; (with_reducible refine (spec_l1Cur_pick.calls g s0_0 x1001_1 x1002_1 40 t126 t127 t128 w0 _ ?side1 ?side2 A30.out).mono ?_); (case side1 => exact pI44 HI0.out); (case side2 => exact pV HB.out (IsS44.ge HI0.out)); rintro e w34 ⟨rfl, hi, hb, hk⟩; refine ⟨_, rfl, ?_⟩; replace HO_5 := aK (Kd.S_mono (Kd.S_keep (IsS44.apartS (show IsS44 w0 _ g s0_0 x1001_1 x1002_1 from pI44 HI0.out) (pY HO_5.out) (by decide)) hk (fun _ h => h.2)) (fun _ h => h.1)); replace HK := aK (KeepBut.trans (pK HK.out) hk (.inl rfl)); replace HB := aK (hb); replace HI0 := aK (hi); (try clear hb); (try clear hk); (try clear hi)) | ((with_reducible refine gc 45 rfl ?_); refine gl (some 51) Try.func45 #[.pointer (some ⟨g, 0, none⟩)] ?_; (with_reducible refine (spec_l1Cur_anyField.calls k1 g s0_0 t127 t128 t129 t130 t131 t134 t135 w0 _ ?side1 ?side2 A32.out).mono ?_); (case side1 => exact pI44 HI0.out); (case side2 => exact pV HB.out (IsS44.ge HI0.out)); rintro e w35 ⟨v132, rfl, ho0, hi, hb, hk⟩; refine ⟨_, rfl, ?_⟩; replace HO_5 := aK (Kd.S_mono (Kd.S_told (Kd.S_oldK (IsS44.apartS (show IsS44 w0 _ g s0_0 t127 t128 from pI44 HI0.out) (pY HO_5.out) (by decide)) hk) (Kd.Q_base ho0)) (fun _ h_ => h_.1)); have HO133 := aK (Kd.Q_lower (Kd.Q_newM (M := fun k_ => (w.heap.size ≤ k_)) ho0 (keep_size (w := w) (g := g) (row := none) (pK HK.out)) (fun k_ h_ => h_)) (keep_size (w := w) (g := g) (row := none) (pK HK.out))); replace HK := aK (KeepBut.trans (pK HK.out) hk (.inl rfl)); replace HB := aK (hb); replace HI0 := aK (hi); (try clear hb); (try clear hk); (try clear hi); (try clear ho0); obtain ⟨Ao37, co37, eo37, _⟩ := Kd.Q_slice HO133.out; subst eo37) | ((with_reducible refine gate_builtin (b := .append) (xs := #[.tmp 49, .tmp 52]) rfl ?_); at_builtin; refine Kd.N_append k29 w.heap.size rfl (.tmp 49) (.tmp 52) 24 29 (.agg #[(.int .i64 0), (.int .i64 0), (.slice none 0 0)]) 40 rfl Try.underlying24 info29 rfl (by decide) (by omega) u5 x5_1 (⟨t129, t130, t131⟩ : S29) [.int .i64 t129, .int .i64 t130, .slice Ao37 t131.length co37] (fun k_ => (w.heap.size ≤ k_) ∧ k_ ≠ g) (fun k_ => ((fun k_ => (w.heap.size ≤ k_) ∧ k_ ≠ g)) k_ ∧ some k_ ≠ (u5 : Value).ownBlock) rfl rfl ?aP (fun _ hk => hk) ?aF ?aO (Below.refl _ _) ?aS ?aL ?_; (case aP => exact (k29_mkF _ _ (⟨t129, t130, t131⟩ : S29) (Kd.Q_reads' (Kd.Q_mono (ok' := (fun k_ => ((fun k_ => (w.heap.size ≤ k_) ∧ k_ ≠ g)) k_ ∧ some k_ ≠ (u5 : Value).ownBlock)) (IsS44.apartQ HI0.out (Kd.Q_apart' (HO133.out) (Kd.S_typed HO_5.out) (by decide)) (by decide)) (fun k_ hk => ⟨⟨hk.1.1.1, hk.2⟩, hk.1.2⟩))).2.1 (Kd.Q_F (Kd.Q_mono (ok' := (fun k_ => ((fun k_ => (w.heap.size ≤ k_) ∧ k_ ≠ g)) k_ ∧ some k_ ≠ (u5 : Value).ownBlock)) (IsS44.apartQ HI0.out (Kd.Q_apart' (HO133.out) (Kd.S_typed HO_5.out) (by decide)) (by decide)) (fun k_ hk => ⟨⟨hk.1.1.1, hk.2⟩, hk.1.2⟩))))); (case aF => exact (fun k_ hk => ⟨(Nat.le_trans (keep_size (w := w) (g := g) (row := none) (pK HK.out)) hk), IsS44.fresh (pI44 HI0.out) k_ hk⟩)); (case aO => exact ((Kd.R_N (Kd.S_R (pY (Kd.S_mono (IsS44.apartS HI0.out HO_5.out (by decide)) (fun _ hk => ⟨hk.1.1, hk.2⟩))))))); (case aS => exact (keep_size (w := w) (g := g) (row := none) (pK HK.out))); (case aL => have := LMc33.out; omega); intro v137 w36 ho hb hg hat; rw [← Ny136.out] at ho; have n0_ := aK (IsS44.grown (pI44 HI0.out) hg (IsS44.own_neS HI0.out HO_5.out (by decide))); replace HB := aK (below_weaken ((pV HB.out (IsS44.ge HI0.out))) HL.out hb); replace HK := aK (KeepBut.trans (pK HK.out) (KeepBut.of_grown hg g) (Kd.S_base2 HO_5.out)); have HO138 := aK (ho); clear HI0 HO_5 HO133; have HI0 := n0_; clear n0_; clear ho hb hg hat))
  go_ret
  exact ⟨_, er, Kd.N_V (by (with_reducible repeat (first | apply Kd.N_alloc | apply Kd.N_drewN | apply Kd.N_drew)); exact Kd.N_mono HO138.out (fun _ hk => hk.1)), pI44 HI0.out, (pV HB.out (IsS44.ge HI0.out)), pK HK.out⟩
 rw [if_neg c31] at H
 have c31b0 : (t126 == 0) = false := beq_eq_false_iff_ne.mpr c31
 have c31b1 : (t126 != 0) = true := bne_iff_ne.mpr c31
 by_cases c38 : t126 = 1
 ·
  rw [if_pos c38] at H
  have c38b0 : (t126 == 1) = true := beq_iff_eq.mpr c38
  have c38b1 : (t126 != 1) = false := bne_eq_false_iff_eq.mpr c38
  clear c38
  obtain ⟨y139, hy139⟩ : ∃ y_ : List (S29), y_ = (([] : List (S29))) := ⟨_, rfl⟩
  replace H : (some (y139, t127, t128)) = some (r1, r2, r3) := by first | (rw [hy139]; first | with_reducible exact H | with_reducible exact (oS H :)) | with_reducible exact (oS H :) | with_reducible exact H | exact H
  have Ny139 := aK hy139; clear hy139
  simp only [Option.some.injEq, Prod.mk.injEq] at H
  obtain ⟨rfl, rfl, rfl⟩ := H
  go_wp2_with (first | ((with_reducible refine gc 39 rfl ?_); refine gl (some 46) Try.func39 #[.pointer (some ⟨g, 0, none⟩), .int .i64 40] ?_; (with_reducible refine (spec_l1Cur_pick.calls g s0_0 x1001_1 x1002_1 40 t126 t127 t128 w0 _ ?side1 ?side2 A30.out).mono ?_); (case side1 => exact pI44 HI0.out); (case side2 => exact pV HB.out (IsS44.ge HI0.out)); rintro e w39 ⟨rfl, hi, hb, hk⟩; refine ⟨_, rfl, ?_⟩; replace HO_5 := aK (Kd.S_mono (Kd.S_keep (IsS44.apartS (show IsS44 w0 _ g s0_0 x1001_1 x1002_1 from pI44 HI0.out) (pY HO_5.out) (by decide)) hk (fun _ h => h.2)) (fun _ h => h.1)); replace HK := aK (KeepBut.trans (pK HK.out) hk (.inl rfl)); replace HB := aK (hb); replace HI0 := aK (hi); (try clear hb); (try clear hk); (try clear hi)) | ((with_reducible refine ga 56 rfl ?_); refine Kd.S_lit k29 _ 29 ?hg (N := 56) ?hd (xs := ([] : List (S29))) (inner := []) (ok := fun _ => True) (okp := fun _ => True) ?hr ?hp (fun _ hk => hk) trivial (Below.refl _ _) (Nat.le_refl _) (by simp) ?_; (case hd => rfl); (case hg => rfl); (case hr => first | (go_simp; done) | (go_simp; rfl)); (case hp => exact (Reps.none _ _)); intro v140 w40 ho41 hb hg_ hnew_; clear hg_ hnew_; (first | rw [← Ny139.out] at ho41 | (simp only [Int.reduceToNat] at ho41; rw [← Ny139.out] at ho41)); have n0_ := aK (Kd.S_elder' (pY HO_5.out) (Kd.S_base ho41) hb); have HO141 := aK (Kd.S_lower (Kd.S_new' (Kd.S_newM (M := fun k_ => (w.heap.size ≤ k_)) ho41 (keep_size (w := w) (g := g) (row := none) (pK HK.out)) (fun k_ h_ => h_)) (Kd.S_lt (pY HO_5.out))) (keep_size (w := w) (g := g) (row := none) (pK HK.out))); have n2_ := aK (IsS44.below (pI44 HI0.out) hb); replace HK := aK (KeepBut.trans (pK HK.out) (KeepBut.of_below hb g none) (.inl rfl)); replace HB := aK (below_step ((pV HB.out (IsS44.ge HI0.out))) hb); clear HO_5 HI0; have HO_5 := n0_; have HI0 := n2_; clear n0_ n2_; clear hb ho41))
  go_ret
  exact ⟨_, er, Kd.S_V (pY (Kd.S_mono HO141.out (fun _ hk => hk.1.1))), pI44 HI0.out, (pV HB.out (IsS44.ge HI0.out)), pK HK.out⟩
 rw [if_neg c38] at H
 have c38b0 : (t126 == 1) = false := beq_eq_false_iff_ne.mpr c38
 have c38b1 : (t126 != 1) = true := bne_iff_ne.mpr c38
 by_cases c42 : t126 = 2
 ·
  rw [if_pos c42] at H
  have c42b0 : (t126 == 2) = true := beq_iff_eq.mpr c42
  have c42b1 : (t126 != 2) = false := bne_eq_false_iff_eq.mpr c42
  clear c42; have H' := aK H; clear H
  go_wp2_with (first | ((with_reducible refine gc 39 rfl ?_); refine gl (some 46) Try.func39 #[.pointer (some ⟨g, 0, none⟩), .int .i64 40] ?_; (with_reducible refine (spec_l1Cur_pick.calls g s0_0 x1001_1 x1002_1 40 t126 t127 t128 w0 _ ?side1 ?side2 A30.out).mono ?_); (case side1 => exact pI44 HI0.out); (case side2 => exact pV HB.out (IsS44.ge HI0.out)); rintro e w43 ⟨rfl, hi, hb, hk⟩; refine ⟨_, rfl, ?_⟩; replace HO_5 := aK (Kd.S_mono (Kd.S_keep (IsS44.apartS (show IsS44 w0 _ g s0_0 x1001_1 x1002_1 from pI44 HI0.out) (pY HO_5.out) (by decide)) hk (fun _ h => h.2)) (fun _ h => h.1)); replace HK := aK (KeepBut.trans (pK HK.out) hk (.inl rfl)); replace HB := aK (hb); replace HI0 := aK (hi); (try clear hb); (try clear hk); (try clear hi)))
  go_loopg [5] k1 (fun kq v5 w' => ∃ (x5_2 : List (S29)) (x1001_2 : Int) (x1002_2 : Int), Aside0 (spec_l1Cur_ensemble.l2 kq x5_2 s0_0 x1001_2 x1002_2 = some (r1, r2, r3)) ∧ Aside0 (kq ≤ k1) ∧ Aside0 (Kd.S k29 29 w' w.heap.size (fun k_ => (w.heap.size ≤ k_)) v5 x5_2) ∧ Aside0 (IsS44 w0 w' g s0_0 x1001_2 x1002_2) ∧ Aside0 (KeepBut w w' g none) ∧ Aside0 (Below w0.heap.size w0 w'))
  case atStart => exact ⟨(x5_1), (t127), (t128), H', ⟨Nat.le_refl _⟩, ⟨by (with_reducible repeat (first | apply Kd.S_alloc | apply Kd.S_drewN | apply Kd.S_drew)); exact HO_5.out⟩, ⟨pI44 HI0.out⟩, ⟨pK HK.out⟩, ⟨(pV HB.out (IsS44.ge HI0.out))⟩⟩
  case round =>
  clear H'
  try clear c1
  try clear c2
  try clear p2
  try clear c3
  try clear c4
  try clear p6
  try clear c10
  try clear c10b0
  try clear c12
  try clear c14
  try clear c14b0
  try clear c16
  try clear c18
  try clear c25
  try clear c26
  try clear c31
  try clear c31b0
  try clear c31b1
  try clear c33
  try clear c38
  try clear c38b0
  try clear c38b1
  try clear c39
  try clear c42
  try clear c42b0
  try clear c42b1
  try clear z13_0
  try clear z13_1
  try clear z13_2
  try clear z27_0
  try clear z27_1
  try clear z27_2
  try clear y13_0
  try clear y13_1
  try clear y13_2
  try clear y27_0
  try clear y27_1
  try clear y27_2
  try clear p2
  try clear p6
  obtain ⟨x5_2, x1001_2, x1002_2, HA, HK2, HO_5, HI0, HK, HB⟩ := hrel
  cases gk with
  | zero => exact absurd HA.out (by simp [spec_l1Cur_ensemble.l2])
  | succ k2 =>
  have H := HA.out; clear HA
  simp only [spec_l1Cur_ensemble.l2] at H
  replace H := oA H
  obtain ⟨⟨t142, t143, t144⟩, A44, H⟩ := H
  replace H : (if (x5_2.length : Int) < (wrap64 (8 + t142)) then (if 0 < (x5_2.length : Int) then ((spec_l2Own.f ((rd_T29 x5_2 0).f0) ((rd_T29 x5_2 0).f1) ((rd_T29 x5_2 0).f2)).bind fun bt146 => (if x5_2.length < 3518437208883 then (spec_l1Cur_ensemble.l2 k2 (x5_2 ++ [(⟨bt146.1, bt146.2.1, bt146.2.2⟩ : S29)]) s0_0 t143 t144) else (none))) else (none)) else (some (x5_2, t143, t144))) = some (r1, r2, r3) := H
  by_cases c45 : (x5_2.length : Int) < (wrap64 (8 + t142))
  rotate_left
  ·
   rw [if_neg c45] at H
   have c45b0 : decide ((x5_2.length : Int) < (wrap64 (8 + t142))) = false := decide_eq_false c45
   clear c45
   simp only [Option.some.injEq, Prod.mk.injEq] at H
   obtain ⟨rfl, rfl, rfl⟩ := H; obtain ⟨Ao54, co54, eo54⟩ := Kd.S_slice HO_5.out; subst eo54
   go_wp2_with (first | ((with_reducible refine gc 39 rfl ?_); refine gl (some 62) Try.func39 #[.pointer (some ⟨g, 0, none⟩), .int .i64 2] ?_; (with_reducible refine (spec_l1Cur_pick.calls g s0_0 x1001_2 x1002_2 2 t142 t143 t144 w0 _ ?side1 ?side2 A44.out).mono ?_); (case side1 => exact pI44 HI0.out); (case side2 => exact pV HB.out (IsS44.ge HI0.out)); rintro e w55 ⟨rfl, hi, hb, hk⟩; refine ⟨_, rfl, ?_⟩; replace HO_5 := aK (Kd.S_mono (Kd.S_keep (IsS44.apartS (show IsS44 w0 _ g s0_0 x1001_2 x1002_2 from pI44 HI0.out) (pY HO_5.out) (by decide)) hk (fun _ h => h.2)) (fun _ h => h.1)); replace HK := aK (KeepBut.trans (pK HK.out) hk (.inl rfl)); replace HB := aK (hb); replace HI0 := aK (hi); (try clear hb); (try clear hk); (try clear hi)))
   go_ret
   exact ⟨_, er, Kd.S_V (pY HO_5.out), pI44 HI0.out, (pV HB.out (IsS44.ge HI0.out)), pK HK.out⟩
  rw [if_pos c45] at H
  have c45b0 : decide ((x5_2.length : Int) < (wrap64 (8 + t142))) = true := decide_eq_true c45
  clear c45
  by_cases c46 : 0 < (x5_2.length : Int)
  rotate_left
  ·
   rw [if_neg c46] at H
   exact absurd H (by simp)
  rw [if_pos c46] at H
  have c46b0 : decide (0 < (x5_2.length : Int)) = true := decide_eq_true c46
  have c46b1 : decide (0 < x5_2.length) = true := decide_eq_true (by omega)
  clear c46; replace H := oA H
  obtain ⟨⟨t146, t147, t148⟩, A47, H⟩ := H
  replace H : (if x5_2.length < 3518437208883 then (spec_l1Cur_ensemble.l2 k2 (x5_2 ++ [(⟨t146, t147, t148⟩ : S29)]) s0_0 t143 t144) else (none)) = some (r1, r2, r3) := H
  by_cases c48 : x5_2.length < 3518437208883
  rotate_left
  ·
   rw [if_neg c48] at H
   exact absurd H (by simp)
  rw [if_pos c48] at H; have LMc48 := aK c48; clear c48
  obtain ⟨y151, hy151⟩ : ∃ y_ : List (S29), y_ = (x5_2 ++ [(⟨t146, t147, t148⟩ : S29)]) := ⟨_, rfl⟩
  replace H : (spec_l1Cur_ensemble.l2 k2 y151 s0_0 t143 t144) = some (r1, r2, r3) := by first | (rw [hy151]; first | with_reducible exact H | with_reducible exact (oS H :)) | with_reducible exact (oS H :) | with_reducible exact H | exact H
  have Ny151 := aK hy151; clear hy151; have H' := aK H; clear H; obtain ⟨Ao49, co49, eo49⟩ := Kd.S_slice HO_5.out; subst eo49
  go_wp2_with (first | ((with_reducible refine gc 39 rfl ?_); refine gl (some 62) Try.func39 #[.pointer (some ⟨g, 0, none⟩), .int .i64 2] ?_; (with_reducible refine (spec_l1Cur_pick.calls g s0_0 x1001_2 x1002_2 2 t142 t143 t144 w0 _ ?side1 ?side2 A44.out).mono ?_); (case side1 => exact pI44 HI0.out); (case side2 => exact pV HB.out (IsS44.ge HI0.out)); rintro e w50 ⟨rfl, hi, hb, hk⟩; refine ⟨_, rfl, ?_⟩; replace HO_5 := aK (Kd.S_mono (Kd.S_keep (IsS44.apartS (show IsS44 w0 _ g s0_0 x1001_2 x1002_2 from pI44 HI0.out) (pY HO_5.out) (by decide)) hk (fun _ h => h.2)) (fun _ h => h.1)); replace HK := aK (KeepBut.trans (pK HK.out) hk (.inl rfl)); replace HB := aK (hb); replace HI0 := aK (hi); (try clear hb); (try clear hk); (try clear hi); have p145 : 0 ≤ (0 : Int) := (by omega); have q145 : 0 < (x5_2.length : Int) := dA; obtain ⟨ad145, A145_2, c145_2, e145, hx145_0, hx145_1, hx145_2, hl145_2, hi145_2⟩ := at_T29 (Kd.S_reads' HO_5.out).2.2 0 p145 q145; cases e145; obtain ⟨ce145, hce145, hMe145, hcc145⟩ := Kd.S_get HO_5.out z29 0 p145 (by first | exact q145 | exact dA | (have e_ := (Kd.S_reads' HO_5.out).1; omega)); obtain ⟨ve145_2, rfl, ge145_2⟩ := k29_openM hMe145; have hv145_2 := hcc145 2 _ rfl; rw [add_field _ _ 2 (by omega)] at hv145_2; replace hv145_2 := Option.some.inj (hv145_2.symm.trans hx145_2); rw [hv145_2] at ge145_2; have HL145_2 := aK (show Kd.R (Kd.int .i64) 3 _ _ _ _ ((rd_T29 x5_2 0).f2) from ge145_2); clear hv145_2 ge145_2; have HX145_2 := aK hx145_2; clear hcc145 hce145; have qi145 : (0 < x5_2.length) = True := eq_true (by omega); (try rw [show ((0 : Int)).toNat = 0 from rfl] at hx145_0); (try rw [show 0 * 3 = 0 from rfl] at hx145_0); (try rw [Addr.add_zero'] at hx145_0); (try rw [show ((0 : Int)).toNat = 0 from rfl] at hx145_1); (try rw [show 0 * 3 = 0 from rfl] at hx145_1); (try rw [Addr.add_zero'] at hx145_1); (try rw [show ((0 : Int)).toNat = 0 from rfl] at hx145_2); (try rw [show 0 * 3 = 0 from rfl] at hx145_2); (try rw [Addr.add_zero'] at hx145_2); have HR145_2 := aK hi145_2; have HC145_2 := aK hl145_2; clear hi145_2 hl145_2; replace p145 := eq_true p145; replace q145 := eq_true q145) | ((with_reducible refine gc 26 rfl ?_); refine gl (some 69) Try.func26 #[.agg #[.int .i64 ((rd_T29 x5_2 0).f0), .int .i64 ((rd_T29 x5_2 0).f1), .slice A145_2 ((rd_T29 x5_2 0).f2).length c145_2]] ?_; (with_reducible refine (spec_l2Own.calls ((rd_T29 x5_2 0).f0) ((rd_T29 x5_2 0).f1) _ _ ((rd_T29 x5_2 0).f2) t146 t147 t148 _ ?side1 ?side2 A47.out).mono ?_); (case side1 => repeat (first | exact (pC HR145_2.out) | (with_reducible refine Kd.C_alloc ?_ _) | (with_reducible refine Kd.C_drewN ?_ _) | (with_reducible refine Kd.C_drew ?_))); (case side2 => exact HC145_2.out); rintro e w51 ⟨v149, rfl, ho0, hb⟩; refine ⟨_, rfl, ?_⟩; replace HO_5 := aK (Kd.S_elder' (pY HO_5.out) (Kd.R_base ho0) hb); have n1_ := aK (Kd.R_elder' (pR HL145_2.out) (Kd.R_base ho0) hb); have HO150 := aK (Kd.R_lower (nw1 (Kd.R_newM (M := fun k_ => (w.heap.size ≤ k_)) ho0 (keep_size (w := w) (g := g) (row := none) (pK HK.out)) (fun k_ h_ => h_)) (pR HL145_2.out)) (keep_size (w := w) (g := g) (row := none) (pK HK.out))); have n3_ := aK (IsS44.below (pI44 HI0.out) hb); replace HR145_2 := aK (Kd.C_below (pC HR145_2.out) hb); replace HX145_2 := aK (pw_cell_below hb HX145_2.out); replace HK := aK (KeepBut.trans (pK HK.out) (KeepBut.of_below hb g none) (.inl rfl)); replace HB := aK (below_step ((pV HB.out (IsS44.ge HI0.out))) hb); clear HL145_2 HI0; have HL145_2 := n1_; have HI0 := n3_; clear n1_ n3_; (try clear hb); (try clear ho0); obtain ⟨Ao53, co53, eo53⟩ := Kd.R_slice HO150.out; subst eo53) | ((with_reducible refine gate_builtin (b := .append) (xs := #[.tmp 65, .tmp 70]) rfl ?_); at_builtin; refine Kd.S_append k29 w.heap.size rfl (.tmp 65) (.tmp 70) 24 29 (.agg #[(.int .i64 0), (.int .i64 0), (.slice none 0 0)]) 40 rfl Try.underlying24 info29 rfl (by decide) (by omega) (.slice (some ad145) x5_2.length co49) x5_2 (⟨t146, t147, t148⟩ : S29) [.int .i64 t146, .int .i64 t147, .slice Ao53 t148.length co53] (fun k_ => (w.heap.size ≤ k_)) (fun k_ => some k_ = (.slice Ao53 t148.length co53 : Value).ownBlock) rfl rfl ?aP (fun k_ hk_ => ((Kd.R_mono (ok' := fun k_ => ((fun k_ => (w.heap.size ≤ k_))) k_ ∧ some k_ ≠ (.slice (some ad145) x5_2.length co49 : Value).ownBlock) (Kd.R_apart' (HO150.out) (Kd.S_typed HO_5.out) (by decide)) (fun k_ hk => ⟨hk.1.1.1, hk.2⟩))).1 k_ hk_.symm) ?aF ?aO (Below.refl _ _) ?aS ?aL ?_; (case aP => exact k29_mkM _ _ _ (⟨t146, t147, t148⟩ : S29) (Kd.R_mono (Kd.R_tight rfl (Kd.R_mono (ok' := fun k_ => ((fun k_ => (w.heap.size ≤ k_))) k_ ∧ some k_ ≠ (.slice (some ad145) x5_2.length co49 : Value).ownBlock) (Kd.R_apart' (HO150.out) (Kd.S_typed HO_5.out) (by decide)) (fun k_ hk => ⟨hk.1.1.1, hk.2⟩))) (fun _ h_ => h_))); (case aF => exact (fun k_ hk => (Nat.le_trans (keep_size (w := w) (g := g) (row := none) (pK HK.out)) hk))); (case aO => exact (pY (Kd.S_mono HO_5.out (fun k_ hk => ⟨hk.1, fun e_ => hk.2 e_⟩)))); (case aS => exact (keep_size (w := w) (g := g) (row := none) (pK HK.out))); (case aL => have := LMc48.out; omega); intro v152 w52 ho hb hg hat; rw [← Ny151.out] at ho; have n0_ := aK (IsS44.grown (pI44 HI0.out) hg (IsS44.own_neS HI0.out HO_5.out (by decide))); replace HL145_2 := aK (Kd.R_after (ok := (fun k_ => (w.heap.size ≤ k_) ∧ some k_ ≠ (.slice Ao53 t148.length co53 : Value).ownBlock)) (pR (rP HL145_2.out)) hg hat); replace HB := aK (below_weaken ((pV HB.out (IsS44.ge HI0.out))) HL.out hb); replace HK := aK (KeepBut.trans (pK HK.out) (KeepBut.of_grown hg g) (Kd.S_base2 HO_5.out)); have HO153 := aK (ho); clear HI0 HO_5 HO150; have HI0 := n0_; clear n0_; clear ho hb hg hat))
  go_roundg k2
  case measure => have := HK1.out; have := HK2.out; omega
  case rel => exact ⟨(y151), (t143), (t144), H', ⟨by have := HK1.out; have := HK2.out; omega⟩, ⟨by (with_reducible repeat (first | apply Kd.S_alloc | apply Kd.S_drewN | apply Kd.S_drew)); exact HO153.out⟩, ⟨pI44 HI0.out⟩, ⟨pK HK.out⟩, ⟨(pV HB.out (IsS44.ge HI0.out))⟩⟩
 rw [if_neg c42] at H
 have c42b0 : (t126 == 2) = false := beq_eq_false_iff_ne.mpr c42
 have c42b1 : (t126 != 2) = true := bne_iff_ne.mpr c42
 by_cases c56 : t126 = 3
 rotate_left
 ·
  rw [if_neg c56] at H
  have c56b0 : (t126 == 3) = false := beq_eq_false_iff_ne.mpr c56
  have c56b1 : (t126 != 3) = true := bne_iff_ne.mpr c56
  simp only [Option.some.injEq, Prod.mk.injEq] at H
  obtain ⟨rfl, rfl, rfl⟩ := H
  go_wp2_with (first | ((with_reducible refine gc 39 rfl ?_); refine gl (some 46) Try.func39 #[.pointer (some ⟨g, 0, none⟩), .int .i64 40] ?_; (with_reducible refine (spec_l1Cur_pick.calls g s0_0 x1001_1 x1002_1 40 t126 t127 t128 w0 _ ?side1 ?side2 A30.out).mono ?_); (case side1 => exact pI44 HI0.out); (case side2 => exact pV HB.out (IsS44.ge HI0.out)); rintro e w70 ⟨rfl, hi, hb, hk⟩; refine ⟨_, rfl, ?_⟩; replace HO_5 := aK (Kd.S_mono (Kd.S_keep (IsS44.apartS (show IsS44 w0 _ g s0_0 x1001_1 x1002_1 from pI44 HI0.out) (pY HO_5.out) (by decide)) hk (fun _ h => h.2)) (fun _ h => h.1)); replace HK := aK (KeepBut.trans (pK HK.out) hk (.inl rfl)); replace HB := aK (hb); replace HI0 := aK (hi); (try clear hb); (try clear hk); (try clear hi)))
  go_ret
  exact ⟨_, er, Kd.S_V (pY HO_5.out), pI44 HI0.out, (pV HB.out (IsS44.ge HI0.out)), pK HK.out⟩
 rw [if_pos c56] at H
 have c56b0 : (t126 == 3) = true := beq_iff_eq.mpr c56
 have c56b1 : (t126 != 3) = false := bne_eq_false_iff_eq.mpr c56
 clear c56
 by_cases c57 : 0 < (x5_1.length : Int)
 rotate_left
 ·
  rw [if_neg c57] at H
  exact absurd H (by simp)
 rw [if_pos c57] at H
 have c57b0 : decide (0 < (x5_1.length : Int)) = true := decide_eq_true c57
 have c57b1 : decide (0 < x5_1.length) = true := decide_eq_true (by omega)
 clear c57
 obtain ⟨y155, hy155⟩ : ∃ y_ : List Int, y_ = (([9001, (-9000), 9000] : List Int)) := ⟨_, rfl⟩
 replace H : ((spec_l1Cur_among.f s0_0 t127 t128 y155).bind fun bt158 => (if 0 < (((rd_T29 x5_1 0).f2).length : Int) then (some ((x5_1.set (0 : Int).toNat (⟨(rd_T29 x5_1 0).f0, (rd_T29 x5_1 0).f1, (((rd_T29 x5_1 0).f2).set (0 : Int).toNat bt158.1)⟩ : S29)), bt158.2.1, bt158.2.2)) else (none))) = some (r1, r2, r3) := by first | (rw [hy155]; first | with_reducible exact H | with_reducible exact (oS H :)) | with_reducible exact (oS H :) | with_reducible exact H | exact H
 have Ny155 := aK hy155
 clear hy155
 replace H := oA H
 obtain ⟨⟨t158, t159, t160⟩, A58, H⟩ := H
 replace H : (if 0 < (((rd_T29 x5_1 0).f2).length : Int) then (some ((x5_1.set (0 : Int).toNat (⟨(rd_T29 x5_1 0).f0, (rd_T29 x5_1 0).f1, (((rd_T29 x5_1 0).f2).set (0 : Int).toNat t158)⟩ : S29)), t159, t160)) else (none)) = some (r1, r2, r3) := H
 by_cases c59 : 0 < (((rd_T29 x5_1 0).f2).length : Int)
 rotate_left
 ·
  rw [if_neg c59] at H
  exact absurd H (by simp)
 rw [if_pos c59] at H
 have c59b0 : decide (0 < (((rd_T29 x5_1 0).f2).length : Int)) = true := decide_eq_true c59
 have c59b1 : decide (0 < ((rd_T29 x5_1 0).f2).length) = true := decide_eq_true (by omega)
 clear c59
 obtain ⟨y161, hy161⟩ : ∃ y_ : List Int, y_ = (((rd_T29 x5_1 0).f2).set (0 : Int).toNat t158) := ⟨_, rfl⟩
 replace H : (some ((x5_1.set (0 : Int).toNat (⟨(rd_T29 x5_1 0).f0, (rd_T29 x5_1 0).f1, y161⟩ : S29)), t159, t160)) = some (r1, r2, r3) := by first | (rw [hy161]; first | with_reducible exact H | with_reducible exact (oS H :)) | with_reducible exact (oS H :) | with_reducible exact H | exact H
 have Ny161 := aK hy161
 clear hy161
 obtain ⟨y163, hy163⟩ : ∃ y_ : List (S29), y_ = (x5_1.set (0 : Int).toNat (⟨(rd_T29 x5_1 0).f0, (rd_T29 x5_1 0).f1, y161⟩ : S29)) := ⟨_, rfl⟩
 replace H : (some (y163, t159, t160)) = some (r1, r2, r3) := by first | (rw [hy163]; first | with_reducible exact H | with_reducible exact (oS H :)) | with_reducible exact (oS H :) | with_reducible exact H | exact H
 have Ny163 := aK hy163
 clear hy163
 simp only [Option.some.injEq, Prod.mk.injEq] at H
 obtain ⟨rfl, rfl, rfl⟩ := H
 try go_wp2_with (first | ((with_reducible refine gc 39 rfl ?_); refine gl (some 46) Try.func39 #[.pointer (some ⟨g, 0, none⟩), .int .i64 40] ?_; (with_reducible refine (spec_l1Cur_pick.calls g s0_0 x1001_1 x1002_1 40 t126 t127 t128 w0 _ ?side1 ?side2 A30.out).mono ?_); (case side1 => exact pI44 HI0.out); (case side2 => exact pV HB.out (IsS44.ge HI0.out)); rintro e w61 ⟨rfl, hi, hb, hk⟩; refine ⟨_, rfl, ?_⟩; replace HO_5 := aK (Kd.S_mono (Kd.S_keep (IsS44.apartS (show IsS44 w0 _ g s0_0 x1001_1 x1002_1 from pI44 HI0.out) (pY HO_5.out) (by decide)) hk (fun _ h => h.2)) (fun _ h => h.1)); replace HK := aK (KeepBut.trans (pK HK.out) hk (.inl rfl)); replace HB := aK (hb); replace HI0 := aK (hi); (try clear hb); (try clear hk); (try clear hi)))
 replace HO_5 := sdw HO_5
 replace HI0 := aK (IsS44.drew HI0.out)
 replace HK := aK (keep_drew HK.out)
 replace HB := aK (below_drew1 HB.out)
 obtain ⟨Ao63, co63, eo63⟩ := Kd.S_slice HO_5.out
 (first | subst eo63 | (obtain ⟨f4_, f5_⟩ := sI eo63; subst f4_; subst f5_))
 have p154 : 0 ≤ (0 : Int) := (by omega)
 have q154 : 0 < (x5_1.length : Int) := dA
 obtain ⟨ad154, A154_2, c154_2, e154, hx154_0, hx154_1, hx154_2, hl154_2, hi154_2⟩ := at_T29 (Kd.S_reads' HO_5.out).2.2 0 p154 q154
 cases e154
 obtain ⟨ce154, hce154, hMe154, hcc154⟩ := Kd.S_get HO_5.out z29 0 p154 (by first | exact q154 | exact dA | (have e_ := (Kd.S_reads' HO_5.out).1; omega))
 obtain ⟨ve154_2, rfl, ge154_2⟩ := k29_openM hMe154
 have hv154_2 := hcc154 2 _ rfl
 rw [add_field _ _ 2 (by omega)] at hv154_2
 replace hv154_2 := Option.some.inj (hv154_2.symm.trans hx154_2)
 rw [hv154_2] at ge154_2
 have HL154_2 := aK (show Kd.R (Kd.int .i64) 3 _ _ _ _ ((rd_T29 x5_1 0).f2) from ge154_2)
 clear hv154_2 ge154_2
 have HX154_2 := aK hx154_2
 clear hcc154 hce154
 have qi154 : (0 < x5_1.length) = True := eq_true (by omega)
 (try rw [show ((0 : Int)).toNat = 0 from rfl] at hx154_0)
 (try rw [show 0 * 3 = 0 from rfl] at hx154_0)
 (try rw [Addr.add_zero'] at hx154_0)
 (try rw [show ((0 : Int)).toNat = 0 from rfl] at hx154_1)
 (try rw [show 0 * 3 = 0 from rfl] at hx154_1)
 (try rw [Addr.add_zero'] at hx154_1)
 (try rw [show ((0 : Int)).toNat = 0 from rfl] at hx154_2)
 (try rw [show 0 * 3 = 0 from rfl] at hx154_2)
 (try rw [Addr.add_zero'] at hx154_2)
 have HR154_2 := aK hi154_2
 have HC154_2 := aK hl154_2
 clear hi154_2 hl154_2
 replace p154 := eq_true p154
 replace q154 := eq_true q154
 refine start_ (n := 9) (S := fun w' => w'.cell? ad154 = some (.int .i64 ((rd_T29 x5_1 0).f0)) ∧ w'.cell? ⟨ad154.block, ad154.off + 1, none⟩ = some (.int .i64 ((rd_T29 x5_1 0).f1)) ∧ w'.cell? ⟨ad154.block, ad154.off + 2, none⟩ = some (.slice A154_2 ((rd_T29 x5_1 0).f2).length c154_2)) (ds := [8]) (bz [0, 9]) (by kernel_rfl) rfl rfl ⟨hx154_0, hx154_1, hx154_2⟩ (fun hHeld => ?_); refine with_tabW spec_l1Cur_ensemble.tab21 spec_l1Cur_ensemble.bits21 (fun HT_ HW_ => ?_)
 generalize w61.drew = w62 at HO_5 HI0 HK HB HL154_2 HR154_2 HX154_2 hx154_0 hx154_1 hx154_2 hHeld ⊢
 refine pz 0 74 [1, 8] HT_ ?_
 refine pz 1 75 [2, 7] HT_ ?_
 refine pz 2 76 [3, 6] HT_ ?_
 refine pz 4 78 [3, 1, 1, 4] HT_ ?_
 refine tz 3 77 [5, 4] HT_ HW_ rfl (by rintro w' ⟨s0, s1, s2⟩; go_simp; with_reducible rfl) hHeld ?_
 refine oz 5 79 [6, 3] HT_ fun K hK => ?_
 refine Kd.R_lit_step (Kd.int .i64) _ 3 ?hg (N := 79) ?hd (xs := ([9001, (-9000), 9000] : List Int)) (inner := [.int .i64 9001, .int .i64 (-9000), .int .i64 9000]) (ok := fun _ => True) (okp := fun _ => True) ?hr ?hp (fun _ hk => hk) trivial (Below.refl _ _) (Nat.le_refl _) (by simp) ?_; (case hd => rfl); (case hg => rfl); (case hr => first | (go_simp; done) | (go_simp; rfl)); (case hp => exact (Reps.one (show Kd.M (Kd.int .i64) _ _ _ 9001 [.int .i64 9001] from rfl) (Reps.one (show Kd.M (Kd.int .i64) _ _ _ (-9000) [.int .i64 (-9000)] from rfl) (Reps.one (show Kd.M (Kd.int .i64) _ _ _ 9000 [.int .i64 9000] from rfl) (Reps.none _ _)))))
 intro v156 w64 ho65 hb hg_ hnew_
 have HS0_ := hs hb hHeld.1
 have HS1_ := hs hb hHeld.2.1
 have HS2_ := hs hb hHeld.2.2
 clear hg_ hnew_
 (first | rw [← Ny155.out] at ho65 | (simp only [Int.reduceToNat] at ho65; rw [← Ny155.out] at ho65))
 replace HO_5 := aK (Kd.S_elder' (pY HO_5.out) (Kd.R_base ho65) hb)
 have n1_ := aK (Kd.R_elder' (pR HL154_2.out) (Kd.R_base ho65) hb)
 have HO157 := aK (Kd.R_lower (nw1 (Kd.R_newM (M := fun k_ => (w.heap.size ≤ k_)) ho65 (keep_size (w := w) (g := g) (row := none) (pK HK.out)) (fun k_ h_ => h_)) (pR HL154_2.out)) (keep_size (w := w) (g := g) (row := none) (pK HK.out)))
 have n3_ := aK (IsS44.below (pI44 HI0.out) hb)
 replace HR154_2 := aK (Kd.C_below (pC HR154_2.out) hb)
 replace HX154_2 := aK (pw_cell_below hb HX154_2.out)
 replace HK := aK (KeepBut.trans (pK HK.out) (KeepBut.of_below hb g none) (.inl rfl))
 replace HB := aK (below_step ((pV HB.out (IsS44.ge HI0.out))) hb)
 clear HL154_2 HI0
 have HL154_2 := n1_
 have HI0 := n3_
 clear n1_ n3_ hb ho65
 obtain ⟨Ao66, co66, eo66⟩ := Kd.R_slice HO157.out
 (first | subst eo66 | (obtain ⟨f4_, f5_⟩ := sI eo66; subst f4_; subst f5_))
 refine hK.out _ _ ⟨HS0_, HS1_, HS2_⟩ (fun hHeld => ?_)
 clear hK K
 refine nm 79 ?_
 refine oz 6 80 [7, 2] HT_ fun K hK => ?_
 refine gs Try.func38 #[.pointer (some ⟨g, 0, none⟩), .slice Ao66 y155.length co66] ?_
 with_reducible refine (spec_l1Cur_among.calls g s0_0 t127 t128 _ _ y155 t158 t159 t160 w0 _ ?side1 ?side2 ?side3 ?side4 ?side5 A58.out).mono ?_
 (case side1 => exact pI44 HI0.out)
 (case side2 => exact pV HB.out (IsS44.ge HI0.out))
 (case side3 => exact pC (Kd.R_reads' HO157.out).2.2)
 (case side4 => exact (Kd.R_reads' HO157.out).2.1)
 (case side5 => exact far_slice (IsS44.own_ne HI0.out HO157.out (by decide)))
 rintro e w67 ⟨rfl, hi, hb, hk⟩
 have HS0_ := keep_cell hk (hHeld.1) (by first | (rw [add_block]; exact Kd.own_blk (IsS44.own_neS HI0.out HO_5.out (by decide))) | (show (Addr.add _ _).block ≠ _; rw [add_block]; exact Kd.own_blk (IsS44.own_neS HI0.out HO_5.out (by decide))) | exact Kd.own_blk (IsS44.own_neS HI0.out HO_5.out (by decide)) | (have h_ := Kd.own_blk (IsS44.own_neS HI0.out HO_5.out (by decide)); exact h_))
 have HS1_ := keep_cell hk (hHeld.2.1) (by first | (rw [add_block]; exact Kd.own_blk (IsS44.own_neS HI0.out HO_5.out (by decide))) | (show (Addr.add _ _).block ≠ _; rw [add_block]; exact Kd.own_blk (IsS44.own_neS HI0.out HO_5.out (by decide))) | exact Kd.own_blk (IsS44.own_neS HI0.out HO_5.out (by decide)) | (have h_ := Kd.own_blk (IsS44.own_neS HI0.out HO_5.out (by decide)); exact h_))
 have HS2_ := keep_cell hk (hHeld.2.2) (by first | (rw [add_block]; exact Kd.own_blk (IsS44.own_neS HI0.out HO_5.out (by decide))) | (show (Addr.add _ _).block ≠ _; rw [add_block]; exact Kd.own_blk (IsS44.own_neS HI0.out HO_5.out (by decide))) | exact Kd.own_blk (IsS44.own_neS HI0.out HO_5.out (by decide)) | (have h_ := Kd.own_blk (IsS44.own_neS HI0.out HO_5.out (by decide)); exact h_))
 refine ⟨_, rfl, ?_⟩
 have n0_ := aK (Kd.S_mono (Kd.S_keep (IsS44.apartS (show IsS44 w0 _ g s0_0 t127 t128 from pI44 HI0.out) (pY HO_5.out) (by decide)) hk (fun _ h => h.2)) (fun _ h => h.1))
 replace HL154_2 := aK (Kd.R_mono (Kd.R_keep (IsS44.apart (show IsS44 w0 _ g s0_0 t127 t128 from pI44 HI0.out) (pR HL154_2.out) (by decide)) hk (fun _ h => h.2)) (fun _ h => h.1))
 replace HX154_2 := aK (keep_cell hk HX154_2.out (by first | (rw [add_block]; exact Kd.own_blk (IsS44.own_neS HI0.out HO_5.out (by decide))) | (show (Addr.add _ _).block ≠ _; rw [add_block]; exact Kd.own_blk (IsS44.own_neS HI0.out HO_5.out (by decide))) | exact Kd.own_blk (IsS44.own_neS HI0.out HO_5.out (by decide)) | (dsimp only; exact Kd.own_blk (IsS44.own_neS HI0.out HO_5.out (by decide)))))
 replace HO157 := aK (Kd.R_mono (Kd.R_keep (IsS44.apart (show IsS44 w0 _ g s0_0 t127 t128 from pI44 HI0.out) (pR HO157.out) (by decide)) hk (fun _ h => h.2)) (fun _ h => h.1))
 replace HK := aK (KeepBut.trans (pK HK.out) hk (.inl rfl))
 replace HB := aK (hb)
 replace HI0 := aK (hi)
 clear HO_5
 have HO_5 := n0_
 clear n0_
 (try clear hb)
 (try clear hb2)
 (try clear hk)
 (try clear hi)
 have p60 : 0 ≤ (0 : Int) := (by omega)
 have q60 : (0 : Int) < ((((rd_T29 x5_1 0).f2).length : Int) : Int) := dA
 have qi60 : (0 < ((rd_T29 x5_1 0).f2).length) = True := eq_true (by omega)
 obtain ⟨go60, co60, eo60, g60, gl60, cl60, HG60⟩ := Kd.R_form HL154_2.out (by omega)
 (first | cases eo60 | (injection eo60 with ea_ en_ ec_; (first | subst ea_ | (injection ea_ with ea_; subst ea_)); subst ec_; clear en_))
 have GB60 := aK g60
 have GG60 := aK HG60
 clear g60 gl60 HG60
 obtain ⟨hx60_0, hf60_0⟩ := Kd.R_celln 0 HL154_2.out (0 : Int) p60 q60
 (try rw [show ((0 : Int)).toNat = 0 from rfl] at hx60_0)
 (try simp only [Nat.reduceMul, Nat.zero_mul, Nat.zero_add, Nat.reduceAdd] at hx60_0)
 (try rw [show ((0 : Int)).toNat = 0 from rfl] at hf60_0)
 (try simp only [Nat.reduceMul, Nat.zero_mul, Nat.zero_add, Nat.reduceAdd] at hf60_0)
 replace p60 := eq_true p60
 replace q60 := eq_true q60
 have hq68 : (0 : Int) < (x5_1.length : Int) := (by have h_ : (0 : Int) < ((x5_1.length : Int) : Int) := dA; first | exact h_ | (have e_ := (Kd.S_reads' HO_5.out).1; omega) | simpa only [List.length_set, List.length_set] using h_)
 obtain ⟨oki68, ce68, hcl68, hM68, hcc68, hok68, hbk68⟩ := Kd.S_borrow HO_5.out z29 (0 : Int) (by omega) hq68
 obtain ⟨ve68_2, rfl, ge68_2⟩ := k29_openM hM68
 have hv68 := hcc68 2 _ rfl
 rw [add_field _ _ 2 (by omega)] at hv68
 replace hv68 := Option.some.inj (hv68.symm.trans HX154_2.out)
 subst hv68
 clear hcc68 hcl68
 replace ge68_2 := (show Kd.R (Kd.int .i64) 3 _ _ _ _ ((rd_T29 x5_1 0).f2) from ge68_2)
 have HP68 := Kd.R_putg ge68_2 (0 : Int) t158
 have HN0_go60 := aK (show g ≠ go60 from by have h_ := IsS44.own_ne HI0.out HL154_2.out (by decide); intro e_; exact h_ (by rw [e_]; rfl))
 rw [← Ny161.out] at HP68
 have HS68 := hbk68 HP68.2 (fun k_ e_ => by injection e_ with e_; subst e_; exact ge68_2.1 _ rfl) (x' := (⟨(rd_T29 x5_1 0).f0, (rd_T29 x5_1 0).f1, y161⟩ : S29)) (k29_mkM _ _ _ (⟨(rd_T29 x5_1 0).f0, (rd_T29 x5_1 0).f1, y161⟩ : S29) HP68.1)
 rw [← Ny163.out] at HS68
 have HQ68 := aK HS68
 clear HP68 HS68 hbk68 hok68
 refine hK.out _ _ ⟨HS0_, HS1_, HS2_⟩ (fun hHeld => ?_)
 clear hK K
 refine nm 80 ?_
 refine pz 7 81 [8, 1] HT_ ?_
 refine last_ (i := 8) (N := none) (bz [9, 0]) rfl rfl (one_of HT_.out (by kernel_rfl)) (by decide) (fun K hK => ?_)
 refine skip_ (w1 := ?_) (by rfl) rfl ?_ ?_
 rotate_left
 ·
  go_simp
  rfl
 refine hK.out _ _ ?_
 clear hK K
 refine done_ (done_of HT_.out (by kernel_rfl)) ?_
 try go_wp2
 go_ret
 exact ⟨_, er, Kd.S_V (pY (Kd.S_mono HQ68.out (fun _ hk => hk.1))), by repeat (first | (with_reducible first | exact HI0.out | apply IsS44.alloc | apply IsS44.drewN | apply IsS44.drew | apply IsS44.set_1 | apply IsS44.set_2 | refine IsS44.far ?_ HN0_go60.out _) | exact HI0.out), by repeat (first | (with_reducible first | exact HB.out | apply below_alloc | apply pw_below_drewN | apply below_drew1 | refine below_set ?_ (Nat.le_trans HL.out GB60.out) | refine below_set ?_ (IsS44.ge HI0.out)) | exact HB.out), by repeat (first | (with_reducible first | exact HK.out | apply KeepBut.set_ | apply keep_drewN | apply keep_drew | apply keep_alloc | refine keep_far ?_ GB60.out _) | exact HK.out)⟩
def spec_DrawQuantileField.f (k : Nat) (l0 : List Int) : Option ((List (S29)) × Int × Int) := (spec_l1Cur_ensemble.f k l0 0 0).bind fun bt102 => ((some (([1, 2, 4, 10, 100, 0, 101] : List Int) : List Int)).bind fun y107 => ((spec_l1Cur_pick.f l0 bt102.2.1 bt102.2.2 24).bind fun bt110 => (if 0 ≤ (wrap64 (5 + (wrap64 (Int.tdiv bt110.1 11)))) then (if (wrap64 (5 + (wrap64 (Int.tdiv bt110.1 11)))) ≤ (y107.length : Int) then ((spec_l1Cur_among.f l0 bt110.2.1 bt110.2.2 (y107.take ((wrap64 (5 + (wrap64 (Int.tdiv bt110.1 11)))) : Int).toNat)).bind fun bt117 => ((some (([0, 1, bt117.1, wrap64 (Int.tdiv bt117.1 2), wrap64 (bt117.1 + 1), (-1)] : List Int) : List Int)).bind fun y120 => ((spec_l1Cur_pick.f l0 bt117.2.1 bt117.2.2 24).bind fun bt123 => (if 0 ≤ (wrap64 (4 + (wrap64 (Int.tdiv bt123.1 11)))) then (if (wrap64 (4 + (wrap64 (Int.tdiv bt123.1 11)))) ≤ (y120.length : Int) then ((spec_l1Cur_among.f l0 bt123.2.1 bt123.2.2 (y120.take ((wrap64 (4 + (wrap64 (Int.tdiv bt123.1 11)))) : Int).toNat)).bind fun bt130 => (some (bt102.1, bt130.1, bt117.1))) else (none)) else (none))))) else (none)) else (none))))
theorem spec_DrawQuantileField.calls (k : Nat) (A0 : Option Addr) (c0 : Nat) (l0 : List Int) (r1 : List (S29)) (r2 : Int) (r3 : Int) (w : World) (hr0 : Kd.C (Kd.int .u8) w A0 l0.length l0) (hc0 : l0.length ≤ c0) (h : spec_DrawQuantileField.f k l0 = some (r1, r2, r3)) :
  Calls Try.prog 13 #[.slice A0 l0.length c0] w fun e w' => ∃ v0_ : Value, e = .returned (.tuple #[v0_, .int .i64 r2, .int .i64 r3]) ∧ Kd.V k29 29 w' w.heap.size (fun k_ => (w.heap.size ≤ k_)) v0_ r1 ∧ Below w.heap.size w w' := by
 have hu44 := Try.underlying44
 have HR0 := aK hr0
 have HC0 := aK hc0
 clear hr0 hc0
 have HB := aK (Below.refl w.heap.size w)
 have H : ((spec_l1Cur_ensemble.f k l0 0 0).bind fun bt102 => ((some (([1, 2, 4, 10, 100, 0, 101] : List Int) : List Int)).bind fun y107 => ((spec_l1Cur_pick.f l0 bt102.2.1 bt102.2.2 24).bind fun bt110 => (if 0 ≤ (wrap64 (5 + (wrap64 (Int.tdiv bt110.1 11)))) then (if (wrap64 (5 + (wrap64 (Int.tdiv bt110.1 11)))) ≤ (y107.length : Int) then ((spec_l1Cur_among.f l0 bt110.2.1 bt110.2.2 (y107.take ((wrap64 (5 + (wrap64 (Int.tdiv bt110.1 11)))) : Int).toNat)).bind fun bt117 => ((some (([0, 1, bt117.1, wrap64 (Int.tdiv bt117.1 2), wrap64 (bt117.1 + 1), (-1)] : List Int) : List Int)).bind fun y120 => ((spec_l1Cur_pick.f l0 bt117.2.1 bt117.2.2 24).bind fun bt123 => (if 0 ≤ (wrap64 (4 + (wrap64 (Int.tdiv bt123.1 11)))) then (if (wrap64 (4 + (wrap64 (Int.tdiv bt123.1 11)))) ≤ (y120.length : Int) then ((spec_l1Cur_among.f l0 bt123.2.1 bt123.2.2 (y120.take ((wrap64 (4 + (wrap64 (Int.tdiv bt123.1 11)))) : Int).toNat)).bind fun bt130 => (some (bt102.1, bt130.1, bt117.1))) else (none)) else (none))))) else (none)) else (none))))) = some (r1, r2, r3) := h
 clear h
 replace H := oA H
 obtain ⟨⟨t102, t105, t106⟩, A2, H⟩ := H
 replace H : ((some (([1, 2, 4, 10, 100, 0, 101] : List Int) : List Int)).bind fun y107 => ((spec_l1Cur_pick.f l0 t105 t106 24).bind fun bt110 => (if 0 ≤ (wrap64 (5 + (wrap64 (Int.tdiv bt110.1 11)))) then (if (wrap64 (5 + (wrap64 (Int.tdiv bt110.1 11)))) ≤ (y107.length : Int) then ((spec_l1Cur_among.f l0 bt110.2.1 bt110.2.2 (y107.take ((wrap64 (5 + (wrap64 (Int.tdiv bt110.1 11)))) : Int).toNat)).bind fun bt117 => ((some (([0, 1, bt117.1, wrap64 (Int.tdiv bt117.1 2), wrap64 (bt117.1 + 1), (-1)] : List Int) : List Int)).bind fun y120 => ((spec_l1Cur_pick.f l0 bt117.2.1 bt117.2.2 24).bind fun bt123 => (if 0 ≤ (wrap64 (4 + (wrap64 (Int.tdiv bt123.1 11)))) then (if (wrap64 (4 + (wrap64 (Int.tdiv bt123.1 11)))) ≤ (y120.length : Int) then ((spec_l1Cur_among.f l0 bt123.2.1 bt123.2.2 (y120.take ((wrap64 (4 + (wrap64 (Int.tdiv bt123.1 11)))) : Int).toNat)).bind fun bt130 => (some (t102, bt130.1, bt117.1))) else (none)) else (none))))) else (none)) else (none)))) = some (r1, r2, r3) := H
 obtain ⟨y107, hy107⟩ : ∃ y_ : List Int, y_ = (([1, 2, 4, 10, 100, 0, 101] : List Int)) := ⟨_, rfl⟩
 replace H : ((spec_l1Cur_pick.f l0 t105 t106 24).bind fun bt110 => (if 0 ≤ (wrap64 (5 + (wrap64 (Int.tdiv bt110.1 11)))) then (if (wrap64 (5 + (wrap64 (Int.tdiv bt110.1 11)))) ≤ (y107.length : Int) then ((spec_l1Cur_among.f l0 bt110.2.1 bt110.2.2 (y107.take ((wrap64 (5 + (wrap64 (Int.tdiv bt110.1 11)))) : Int).toNat)).bind fun bt117 => ((some (([0, 1, bt117.1, wrap64 (Int.tdiv bt117.1 2), wrap64 (bt117.1 + 1), (-1)] : List Int) : List Int)).bind fun y120 => ((spec_l1Cur_pick.f l0 bt117.2.1 bt117.2.2 24).bind fun bt123 => (if 0 ≤ (wrap64 (4 + (wrap64 (Int.tdiv bt123.1 11)))) then (if (wrap64 (4 + (wrap64 (Int.tdiv bt123.1 11)))) ≤ (y120.length : Int) then ((spec_l1Cur_among.f l0 bt123.2.1 bt123.2.2 (y120.take ((wrap64 (4 + (wrap64 (Int.tdiv bt123.1 11)))) : Int).toNat)).bind fun bt130 => (some (t102, bt130.1, bt117.1))) else (none)) else (none))))) else (none)) else (none))) = some (r1, r2, r3) := by first | (rw [hy107]; first | with_reducible exact H | with_reducible exact (oS H :)) | with_reducible exact (oS H :) | with_reducible exact H | exact H
 have Ny107 := aK hy107
 clear hy107
 replace H := oA H
 obtain ⟨⟨t110, t111, t112⟩, A3, H⟩ := H
 replace H : (if 0 ≤ (wrap64 (5 + (wrap64 (Int.tdiv t110 11)))) then (if (wrap64 (5 + (wrap64 (Int.tdiv t110 11)))) ≤ (y107.length : Int) then ((spec_l1Cur_among.f l0 t111 t112 (y107.take ((wrap64 (5 + (wrap64 (Int.tdiv t110 11)))) : Int).toNat)).bind fun bt117 => ((some (([0, 1, bt117.1, wrap64 (Int.tdiv bt117.1 2), wrap64 (bt117.1 + 1), (-1)] : List Int) : List Int)).bind fun y120 => ((spec_l1Cur_pick.f l0 bt117.2.1 bt117.2.2 24).bind fun bt123 => (if 0 ≤ (wrap64 (4 + (wrap64 (Int.tdiv bt123.1 11)))) then (if (wrap64 (4 + (wrap64 (Int.tdiv bt123.1 11)))) ≤ (y120.length : Int) then ((spec_l1Cur_among.f l0 bt123.2.1 bt123.2.2 (y120.take ((wrap64 (4 + (wrap64 (Int.tdiv bt123.1 11)))) : Int).toNat)).bind fun bt130 => (some (t102, bt130.1, bt117.1))) else (none)) else (none))))) else (none)) else (none)) = some (r1, r2, r3) := H
 obtain ⟨ji4, hji4⟩ : ∃ j_ : Int, (wrap64 (5 + (wrap64 (Int.tdiv t110 11)))) = j_ := ⟨_, rfl⟩
 replace H : (if 0 ≤ (ji4) then (if (ji4) ≤ (y107.length : Int) then ((spec_l1Cur_among.f l0 t111 t112 (y107.take ((ji4) : Int).toNat)).bind fun bt117 => ((some (([0, 1, bt117.1, wrap64 (Int.tdiv bt117.1 2), wrap64 (bt117.1 + 1), (-1)] : List Int) : List Int)).bind fun y120 => ((spec_l1Cur_pick.f l0 bt117.2.1 bt117.2.2 24).bind fun bt123 => (if 0 ≤ (wrap64 (4 + (wrap64 (Int.tdiv bt123.1 11)))) then (if (wrap64 (4 + (wrap64 (Int.tdiv bt123.1 11)))) ≤ (y120.length : Int) then ((spec_l1Cur_among.f l0 bt123.2.1 bt123.2.2 (y120.take ((wrap64 (4 + (wrap64 (Int.tdiv bt123.1 11)))) : Int).toNat)).bind fun bt130 => (some (t102, bt130.1, bt117.1))) else (none)) else (none))))) else (none)) else (none)) = some (r1, r2, r3) := by first | (rw [hji4] at H; exact H) | (simp only [hji4] at H ⊢; exact H)
 (try rw [hji4] at A2)
 (try rw [hji4] at A3)
 have hji4w : (IntKind.i64.wrap (5 + (wrap64 (Int.tdiv t110 11)))) = ji4 := (i64_w _).trans hji4
 by_cases c5 : 0 ≤ (ji4)
 rotate_left
 ·
  rw [if_neg c5] at H
  exact absurd H (by simp)
 rw [if_pos c5] at H
 have c5b0 := eq_true c5
 have c5b1 : decide (0 ≤ (ji4)) = true := decide_eq_true c5
 clear c5
 by_cases c6 : (ji4) ≤ (y107.length : Int)
 rotate_left
 ·
  rw [if_neg c6] at H
  exact absurd H (by simp)
 rw [if_pos c6] at H
 have c6b0 := eq_true c6
 have c6b1 : decide ((ji4) ≤ (y107.length : Int)) = true := decide_eq_true c6
 clear c6
 obtain ⟨y113, hy113⟩ : ∃ y_ : List Int, y_ = (y107.take ((ji4) : Int).toNat) := ⟨_, rfl⟩
 replace H : ((spec_l1Cur_among.f l0 t111 t112 y113).bind fun bt117 => ((some (([0, 1, bt117.1, wrap64 (Int.tdiv bt117.1 2), wrap64 (bt117.1 + 1), (-1)] : List Int) : List Int)).bind fun y120 => ((spec_l1Cur_pick.f l0 bt117.2.1 bt117.2.2 24).bind fun bt123 => (if 0 ≤ (wrap64 (4 + (wrap64 (Int.tdiv bt123.1 11)))) then (if (wrap64 (4 + (wrap64 (Int.tdiv bt123.1 11)))) ≤ (y120.length : Int) then ((spec_l1Cur_among.f l0 bt123.2.1 bt123.2.2 (y120.take ((wrap64 (4 + (wrap64 (Int.tdiv bt123.1 11)))) : Int).toNat)).bind fun bt130 => (some (t102, bt130.1, bt117.1))) else (none)) else (none))))) = some (r1, r2, r3) := by first | (rw [hy113]; first | with_reducible exact H | with_reducible exact (oS H :)) | with_reducible exact (oS H :) | with_reducible exact H | exact H
 have Ny113 := aK hy113
 clear hy113
 replace H := oA H
 obtain ⟨⟨t117, t118, t119⟩, A7, H⟩ := H
 replace H : ((some (([0, 1, t117, wrap64 (Int.tdiv t117 2), wrap64 (t117 + 1), (-1)] : List Int) : List Int)).bind fun y120 => ((spec_l1Cur_pick.f l0 t118 t119 24).bind fun bt123 => (if 0 ≤ (wrap64 (4 + (wrap64 (Int.tdiv bt123.1 11)))) then (if (wrap64 (4 + (wrap64 (Int.tdiv bt123.1 11)))) ≤ (y120.length : Int) then ((spec_l1Cur_among.f l0 bt123.2.1 bt123.2.2 (y120.take ((wrap64 (4 + (wrap64 (Int.tdiv bt123.1 11)))) : Int).toNat)).bind fun bt130 => (some (t102, bt130.1, t117))) else (none)) else (none)))) = some (r1, r2, r3) := H
 obtain ⟨y120, hy120⟩ : ∃ y_ : List Int, y_ = (([0, 1, t117, wrap64 (Int.tdiv t117 2), wrap64 (t117 + 1), (-1)] : List Int)) := ⟨_, rfl⟩
 replace H : ((spec_l1Cur_pick.f l0 t118 t119 24).bind fun bt123 => (if 0 ≤ (wrap64 (4 + (wrap64 (Int.tdiv bt123.1 11)))) then (if (wrap64 (4 + (wrap64 (Int.tdiv bt123.1 11)))) ≤ (y120.length : Int) then ((spec_l1Cur_among.f l0 bt123.2.1 bt123.2.2 (y120.take ((wrap64 (4 + (wrap64 (Int.tdiv bt123.1 11)))) : Int).toNat)).bind fun bt130 => (some (t102, bt130.1, t117))) else (none)) else (none))) = some (r1, r2, r3) := by first | (rw [hy120]; first | with_reducible exact H | with_reducible exact (oS H :)) | with_reducible exact (oS H :) | with_reducible exact H | exact H
 have Ny120 := aK hy120
 clear hy120
 replace H := oA H
 obtain ⟨⟨t123, t124, t125⟩, A8, H⟩ := H
 replace H : (if 0 ≤ (wrap64 (4 + (wrap64 (Int.tdiv t123 11)))) then (if (wrap64 (4 + (wrap64 (Int.tdiv t123 11)))) ≤ (y120.length : Int) then ((spec_l1Cur_among.f l0 t124 t125 (y120.take ((wrap64 (4 + (wrap64 (Int.tdiv t123 11)))) : Int).toNat)).bind fun bt130 => (some (t102, bt130.1, t117))) else (none)) else (none)) = some (r1, r2, r3) := H
 obtain ⟨ji9, hji9⟩ : ∃ j_ : Int, (wrap64 (4 + (wrap64 (Int.tdiv t123 11)))) = j_ := ⟨_, rfl⟩
 replace H : (if 0 ≤ (ji9) then (if (ji9) ≤ (y120.length : Int) then ((spec_l1Cur_among.f l0 t124 t125 (y120.take ((ji9) : Int).toNat)).bind fun bt130 => (some (t102, bt130.1, t117))) else (none)) else (none)) = some (r1, r2, r3) := by first | (rw [hji9] at H; exact H) | (simp only [hji9] at H ⊢; exact H)
 (try rw [hji9] at A2)
 (try rw [hji9] at A3)
 (try rw [hji9] at A7)
 (try rw [hji9] at A8)
 have hji9w : (IntKind.i64.wrap (4 + (wrap64 (Int.tdiv t123 11)))) = ji9 := (i64_w _).trans hji9
 by_cases c10 : 0 ≤ (ji9)
 rotate_left
 ·
  rw [if_neg c10] at H
  exact absurd H (by simp)
 rw [if_pos c10] at H
 have c10b0 := eq_true c10
 have c10b1 : decide (0 ≤ (ji9)) = true := decide_eq_true c10
 clear c10
 by_cases c11 : (ji9) ≤ (y120.length : Int)
 rotate_left
 ·
  rw [if_neg c11] at H
  exact absurd H (by simp)
 rw [if_pos c11] at H
 have c11b0 := eq_true c11
 have c11b1 : decide ((ji9) ≤ (y120.length : Int)) = true := decide_eq_true c11
 clear c11
 obtain ⟨y126, hy126⟩ : ∃ y_ : List Int, y_ = (y120.take ((ji9) : Int).toNat) := ⟨_, rfl⟩
 replace H : ((spec_l1Cur_among.f l0 t124 t125 y126).bind fun bt130 => (some (t102, bt130.1, t117))) = some (r1, r2, r3) := by first | (rw [hy126]; first | with_reducible exact H | with_reducible exact (oS H :)) | with_reducible exact (oS H :) | with_reducible exact H | exact H
 have Ny126 := aK hy126
 clear hy126
 replace H := oA H
 obtain ⟨⟨t130, t131, t132⟩, A12, H⟩ := H
 replace H : (some (t102, t130, t117)) = some (r1, r2, r3) := H
 simp only [Option.some.injEq, Prod.mk.injEq] at H
 obtain ⟨rfl, rfl, rfl⟩ := H
 go_enter Try.func13, Try.ntmps13
 go_wp2_with (first | ((with_reducible refine ga 10 rfl ?_); refine bxe (cs := #[.slice A0 l0.length c0, .int .i64 0, .int .u64 0]) (t := 44) ?_; intro g101 hg w13 hbox hb; have HI101 := aK ((⟨_, _, hbox, (by rw [hg]; exact (below_size (pS HB.out)) : w.heap.size ≤ g101), HR0.out⟩ : IsS44 w w13 g101 l0 0 0)); replace HB := bS HB hb; clear hb hbox hg) | ((with_reducible refine gc 18 rfl ?_); refine gl (some 12) Try.func18 #[.pointer (some ⟨g101, 0, none⟩)] ?_; (with_reducible refine (spec_l1Cur_ensemble.calls k g101 l0 0 0 t102 t105 t106 w _ ?side1 ?side2 A2.out).mono ?_); (case side1 => exact pI44 HI101.out); (case side2 => exact pV HB.out (IsS44.ge HI101.out)); rintro e w14 ⟨v103, rfl, ho0, hi, hb, hk⟩; refine ⟨_, rfl, ?_⟩; have HO104 := aK (Kd.V_lower (Kd.V_mono (ok' := fun k_ => (w.heap.size ≤ k_) ∧ k_ ≠ g101) ho0 (fun k_ hk_ => ⟨(Nat.le_trans (below_size ((pV HB.out (IsS44.ge HI101.out)))) hk_), (IsS44.fresh (pI44 HI101.out) k_ hk_)⟩)) (below_size ((pV HB.out (IsS44.ge HI101.out))))); have n1_ := aK (hb); have n2_ := aK (hi); clear HB HI101; have HB := n1_; have HI101 := n2_; clear n1_ n2_; (try clear hb); (try clear hk); (try clear hi); (try clear ho0)) | ((with_reducible refine ga 14 rfl ?_); refine Kd.R_lit (Kd.int .i64) _ 3 ?hg (N := 14) ?hd (xs := ([1, 2, 4, 10, 100, 0, 101] : List Int)) (inner := [.int .i64 1, .int .i64 2, .int .i64 4, .int .i64 10, .int .i64 100, .int .i64 0, .int .i64 101]) (ok := fun _ => True) (okp := fun _ => True) ?hr ?hp (fun _ hk => hk) trivial (Below.refl _ _) (Nat.le_refl _) (by simp) ?_; (case hd => rfl); (case hg => rfl); (case hr => first | (go_simp; done) | (go_simp; rfl)); (case hp => exact (Reps.one (show Kd.M (Kd.int .i64) _ _ _ 1 [.int .i64 1] from rfl) (Reps.one (show Kd.M (Kd.int .i64) _ _ _ 2 [.int .i64 2] from rfl) (Reps.one (show Kd.M (Kd.int .i64) _ _ _ 4 [.int .i64 4] from rfl) (Reps.one (show Kd.M (Kd.int .i64) _ _ _ 10 [.int .i64 10] from rfl) (Reps.one (show Kd.M (Kd.int .i64) _ _ _ 100 [.int .i64 100] from rfl) (Reps.one (show Kd.M (Kd.int .i64) _ _ _ 0 [.int .i64 0] from rfl) (Reps.one (show Kd.M (Kd.int .i64) _ _ _ 101 [.int .i64 101] from rfl) (Reps.none _ _))))))))); intro v108 w15 ho16 hb hg_ hnew_; clear hg_ hnew_; (first | rw [← Ny107.out] at ho16 | (simp only [Int.reduceToNat] at ho16; rw [← Ny107.out] at ho16)); replace HO104 := aK (Kd.V_elder' (pW HO104.out) (Kd.R_base ho16) hb); have HO109 := aK (Kd.R_lower (Kd.R_newM (M := fun k_ => (w.heap.size ≤ k_)) ho16 (below_size ((pV HB.out (IsS44.ge HI101.out)))) (fun k_ h_ => h_)) (below_size ((pV HB.out (IsS44.ge HI101.out))))); have n2_ := aK (IsS44.below (pI44 HI101.out) hb); replace HB := aK (below_step ((pV HB.out (IsS44.ge HI101.out))) hb); clear HI101; have HI101 := n2_; clear n2_; clear hb ho16) | ((with_reducible refine gc 39 rfl ?_); refine gl (some 16) Try.func39 #[.pointer (some ⟨g101, 0, none⟩), .int .i64 24] ?_; (with_reducible refine (spec_l1Cur_pick.calls g101 l0 t105 t106 24 t110 t111 t112 w _ ?side1 ?side2 A3.out).mono ?_); (case side1 => exact pI44 HI101.out); (case side2 => exact pV HB.out (IsS44.ge HI101.out)); rintro e w17 ⟨rfl, hi, hb, hk⟩; refine ⟨_, rfl, ?_⟩; replace HO104 := aK (Kd.V_mono (Kd.V_keep (Kd.V_mono (ok := fun k_ => ((((w.heap.size ≤ k_)) ∧ k_ ≠ g101) ∧ some k_ ≠ (v108 : Value).ownBlock)) (pW HO104.out) (fun _ h => And.intro h h.1.2)) hk (fun _ h => h.2)) (fun _ h => h.1)); replace HO109 := aK (Kd.R_mono (Kd.R_keep (IsS44.apart (show IsS44 w _ g101 l0 t105 t106 from pI44 HI101.out) (pR HO109.out) (by decide)) hk (fun _ h => h.2)) (fun _ h => h.1)); replace HB := aK (hb); replace HI101 := aK (hi); (try clear hb); (try clear hk); (try clear hi); obtain ⟨Ao19, co19, eo19⟩ := Kd.R_slice HO109.out; subst eo19; have q18 : ((ji4) : Int) ≤ ((y107.length : Int) : Int) := dA; obtain ⟨i018, hi018, _, hsz18, _⟩ := info_parts info3; have hroom18 : y107.length ≤ co19 := (Kd.R_reads' HO109.out).2.1; have hC18 : Kd.C (Kd.int .i64) _ Ao19 y107.length y107 := (Kd.R_reads' HO109.out).2.2; have hcut18 := cut_to (P := Try.prog) 27 3 .i64 Try.underlying27 hi018 Ao19 y107.length co19 (ji4) (dA) q18 hroom18; have hr18 := Kd.C_take (m := ((ji4) : Int).toNat) hC18 (by omega); have hy18 : y113.length = ((ji4) : Int).toNat := (by rw [Ny113.out, List.length_take]; omega); rw [← Ny113.out] at hr18; rw [← hy18] at hcut18; have HR116 := aK hr18; have HC116 := aK (show y113.length ≤ co19 from by omega); clear hr18 hC18 hroom18 hi018 hsz18; have KY18 := aK hy18; clear hy18; have KL18 := aK (show ((ji4) : Int).toNat ≤ y107.length from by omega); replace q18 := eq_true q18) | ((with_reducible refine gc 38 rfl ?_); refine gl (some 20) Try.func38 #[.pointer (some ⟨g101, 0, none⟩), .slice Ao19 y113.length co19] ?_; (with_reducible refine (spec_l1Cur_among.calls g101 l0 t111 t112 _ _ y113 t117 t118 t119 w _ ?side1 ?side2 ?side3 ?side4 ?side5 A7.out).mono ?_); (case side1 => exact pI44 HI101.out); (case side2 => exact pV HB.out (IsS44.ge HI101.out)); (case side3 => repeat (first | exact (pC HR116.out) | (with_reducible refine Kd.C_alloc ?_ _) | (with_reducible refine Kd.C_drewN ?_ _) | (with_reducible refine Kd.C_drew ?_))); (case side4 => exact HC116.out); (case side5 => exact (by rintro ad_ rfl _ rfl; exact IsS44.own_ne HI101.out HO109.out (by decide) (by simp [Value.ownBlock]))); rintro e w20 ⟨rfl, hi, hb, hk⟩; refine ⟨_, rfl, ?_⟩; replace HO104 := aK (Kd.V_mono (Kd.V_keep (Kd.V_mono (ok := fun k_ => ((((w.heap.size ≤ k_)) ∧ k_ ≠ g101) ∧ some k_ ≠ (.slice Ao19 y107.length co19 : Value).ownBlock)) (pW HO104.out) (fun _ h => And.intro h h.1.2)) hk (fun _ h => h.2)) (fun _ h => h.1)); replace HO109 := aK (Kd.R_mono (Kd.R_keep (IsS44.apart (show IsS44 w _ g101 l0 t111 t112 from pI44 HI101.out) (pR HO109.out) (by decide)) hk (fun _ h => h.2)) (fun _ h => h.1)); replace HB := aK (hb); replace HI101 := aK (hi); (try clear hb); (try clear hk); (try clear hi)) | ((with_reducible refine ga 28 rfl ?_); refine Kd.R_lit (Kd.int .i64) _ 3 ?hg (N := 28) ?hd (xs := ([0, 1, t117, wrap64 (Int.tdiv t117 2), wrap64 (t117 + 1), (-1)] : List Int)) (inner := [.int .i64 0, .int .i64 1, .int .i64 t117, .int .i64 (wrap64 (Int.tdiv t117 2)), .int .i64 (wrap64 (t117 + 1)), .int .i64 (-1)]) (ok := fun _ => True) (okp := fun _ => True) ?hr ?hp (fun _ hk => hk) trivial (Below.refl _ _) (Nat.le_refl _) (by simp) ?_; (case hd => rfl); (case hg => rfl); (case hr => first | (go_simp; done) | (go_simp; rfl)); (case hp => exact (Reps.one (show Kd.M (Kd.int .i64) _ _ _ 0 [.int .i64 0] from rfl) (Reps.one (show Kd.M (Kd.int .i64) _ _ _ 1 [.int .i64 1] from rfl) (Reps.one (show Kd.M (Kd.int .i64) _ _ _ t117 [.int .i64 t117] from rfl) (Reps.one (show Kd.M (Kd.int .i64) _ _ _ (wrap64 (Int.tdiv t117 2)) [.int .i64 (wrap64 (Int.tdiv t117 2))] from rfl) (Reps.one (show Kd.M (Kd.int .i64) _ _ _ (wrap64 (t117 + 1)) [.int .i64 (wrap64 (t117 + 1))] from rfl) (Reps.one (show Kd.M (Kd.int .i64) _ _ _ (-1) [.int .i64 (-1)] from rfl) (Reps.none _ _)))))))); intro v121 w21 ho22 hb hg_ hnew_; clear hg_ hnew_; (first | rw [← Ny120.out] at ho22 | (simp only [Int.reduceToNat] at ho22; rw [← Ny120.out] at ho22)); replace HO104 := aK (Kd.V_elder' (pW HO104.out) (Kd.R_base ho22) hb); have n1_ := aK (Kd.R_elder' (pR HO109.out) (Kd.R_base ho22) hb); have HO122 := aK (Kd.R_lower (nw1 (Kd.R_newM (M := fun k_ => (w.heap.size ≤ k_)) ho22 (below_size ((pV HB.out (IsS44.ge HI101.out)))) (fun k_ h_ => h_)) (pR HO109.out)) (below_size ((pV HB.out (IsS44.ge HI101.out))))); have n3_ := aK (IsS44.below (pI44 HI101.out) hb); replace HB := aK (below_step ((pV HB.out (IsS44.ge HI101.out))) hb); clear HO109 HI101; have HO109 := n1_; have HI101 := n3_; clear n1_ n3_; clear hb ho22) | ((with_reducible refine gc 39 rfl ?_); refine gl (some 30) Try.func39 #[.pointer (some ⟨g101, 0, none⟩), .int .i64 24] ?_; (with_reducible refine (spec_l1Cur_pick.calls g101 l0 t118 t119 24 t123 t124 t125 w _ ?side1 ?side2 A8.out).mono ?_); (case side1 => exact pI44 HI101.out); (case side2 => exact pV HB.out (IsS44.ge HI101.out)); rintro e w23 ⟨rfl, hi, hb, hk⟩; refine ⟨_, rfl, ?_⟩; replace HO104 := aK (Kd.V_mono (Kd.V_keep (Kd.V_mono (ok := fun k_ => (((((w.heap.size ≤ k_)) ∧ k_ ≠ g101) ∧ some k_ ≠ (.slice Ao19 y107.length co19 : Value).ownBlock) ∧ some k_ ≠ (v121 : Value).ownBlock)) (pW HO104.out) (fun _ h => And.intro h h.1.1.2)) hk (fun _ h => h.2)) (fun _ h => h.1)); replace HO109 := aK (Kd.R_mono (Kd.R_keep (IsS44.apart (show IsS44 w _ g101 l0 t118 t119 from pI44 HI101.out) (pR HO109.out) (by decide)) hk (fun _ h => h.2)) (fun _ h => h.1)); replace HO122 := aK (Kd.R_mono (Kd.R_keep (IsS44.apart (show IsS44 w _ g101 l0 t118 t119 from pI44 HI101.out) (pR HO122.out) (by decide)) hk (fun _ h => h.2)) (fun _ h => h.1)); replace HB := aK (hb); replace HI101 := aK (hi); (try clear hb); (try clear hk); (try clear hi); obtain ⟨Ao25, co25, eo25⟩ := Kd.R_slice HO122.out; subst eo25; have q24 : ((ji9) : Int) ≤ ((y120.length : Int) : Int) := dA; obtain ⟨i024, hi024, _, hsz24, _⟩ := info_parts info3; have hroom24 : y120.length ≤ co25 := (Kd.R_reads' HO122.out).2.1; have hC24 : Kd.C (Kd.int .i64) _ Ao25 y120.length y120 := (Kd.R_reads' HO122.out).2.2; have hcut24 := cut_to (P := Try.prog) 27 3 .i64 Try.underlying27 hi024 Ao25 y120.length co25 (ji9) (dA) q24 hroom24; have hr24 := Kd.C_take (m := ((ji9) : Int).toNat) hC24 (by omega); have hy24 : y126.length = ((ji9) : Int).toNat := (by rw [Ny126.out, List.length_take]; omega); rw [← Ny126.out] at hr24; rw [← hy24] at hcut24; have HR129 := aK hr24; have HC129 := aK (show y126.length ≤ co25 from by omega); clear hr24 hC24 hroom24 hi024 hsz24; have KY24 := aK hy24; clear hy24; have KL24 := aK (show ((ji9) : Int).toNat ≤ y120.length from by omega); replace q24 := eq_true q24) | ((with_reducible refine gc 38 rfl ?_); refine gl (some 34) Try.func38 #[.pointer (some ⟨g101, 0, none⟩), .slice Ao25 y126.length co25] ?_; (with_reducible refine (spec_l1Cur_among.calls g101 l0 t124 t125 _ _ y126 t130 t131 t132 w _ ?side1 ?side2 ?side3 ?side4 ?side5 A12.out).mono ?_); (case side1 => exact pI44 HI101.out); (case side2 => exact pV HB.out (IsS44.ge HI101.out)); (case side3 => repeat (first | exact (pC HR129.out) | (with_reducible refine Kd.C_alloc ?_ _) | (with_reducible refine Kd.C_drewN ?_ _) | (with_reducible refine Kd.C_drew ?_))); (case side4 => exact HC129.out); (case side5 => exact (by rintro ad_ rfl _ rfl; exact IsS44.own_ne HI101.out HO122.out (by decide) (by simp [Value.ownBlock]))); rintro e w26 ⟨rfl, hi, hb, hk⟩; refine ⟨_, rfl, ?_⟩; replace HO104 := aK (Kd.V_mono (Kd.V_keep (Kd.V_mono (ok := fun k_ => (((((w.heap.size ≤ k_)) ∧ k_ ≠ g101) ∧ some k_ ≠ (.slice Ao19 y107.length co19 : Value).ownBlock) ∧ some k_ ≠ (.slice Ao25 y120.length co25 : Value).ownBlock)) (pW HO104.out) (fun _ h => And.intro h h.1.1.2)) hk (fun _ h => h.2)) (fun _ h => h.1)); replace HO109 := aK (Kd.R_mono (Kd.R_keep (IsS44.apart (show IsS44 w _ g101 l0 t124 t125 from pI44 HI101.out) (pR HO109.out) (by decide)) hk (fun _ h => h.2)) (fun _ h => h.1)); replace HO122 := aK (Kd.R_mono (Kd.R_keep (IsS44.apart (show IsS44 w _ g101 l0 t124 t125 from pI44 HI101.out) (pR HO122.out) (by decide)) hk (fun _ h => h.2)) (fun _ h => h.1)); replace HB := aK (hb); replace HI101 := aK (hi); (try clear hb); (try clear hk); (try clear hi)))
 go_ret3
 exact ⟨_, by first | rfl | (simp [errW_none, errW_some] <;> rfl) | (simp only [← hji4, ← hji9]; first | rfl | (simp [errW_none, errW_some] <;> rfl)) | (simp [*, errW_none, errW_some] <;> rfl), by (with_reducible repeat (first | apply Kd.V_alloc | apply Kd.V_drewN | apply Kd.V_drew)); exact Kd.V_mono HO104.out (fun _ hk => hk.1.1.1), (pV HB.out (IsS44.ge HI101.out))⟩
def spec_l1In.f (a0 : Int) (a1 : Int) (a2 : Int) : Option (Bool) := if a0 ≥ a1 then (some (decide (a0 ≤ a2))) else (some false)
theorem spec_l1In.calls (a0 : Int) (a1 : Int) (a2 : Int) (r : Bool) (w : World) (h : spec_l1In.f a0 a1 a2 = some r) :
  Calls Try.prog 40 #[.int .i64 a0, .int .i64 a1, .int .i64 a2] w fun e w' => e = .returned (.bool r) ∧ Drawn0 w w' := by
 have H : (if a0 ≥ a1 then (some (decide (a0 ≤ a2))) else (some false)) = some r := h
 clear h
 by_cases c4 : a0 ≥ a1
 ·
  rw [if_pos c4] at H
  have c4b0 : decide (a1 ≤ a0) = true := decide_eq_true c4
  clear c4
  obtain rfl := Option.some.inj H
  go_enter Try.func40, Try.ntmps40
  go_wp2
  go_ret
  exact ⟨by first | rfl | (simp; done) | (simp [*]; done), by repeat (first | exact Drawn0.refl _ | apply Drawn0.step)⟩
 rw [if_neg c4] at H
 have c4b0 : decide (a1 ≤ a0) = false := decide_eq_false c4
 clear c4
 obtain rfl := Option.some.inj H
 go_enter Try.func40, Try.ntmps40
 go_wp2
 go_ret
 exact ⟨by first | rfl | (simp; done) | (simp [*]; done), by repeat (first | exact Drawn0.refl _ | apply Drawn0.step)⟩
def spec_l2Shape.f (a0 : Int) (a1 : Int) : Option (Bool) := (spec_l1In.f a0 1 8).bind fun t101 => (if t101 = true then ((spec_l1In.f a1 1 8).bind fun t102 => (some t102)) else (some false))
theorem spec_l2Shape.calls (a0 : Int) (a1 : Int) (r : Bool) (w : World) (h : spec_l2Shape.f a0 a1 = some r) :
  Calls Try.prog 60 #[.int .i64 a0, .int .i64 a1] w fun e w' => e = .returned (.bool r) ∧ Drawn0 w w' := by
 have H : ((spec_l1In.f a0 1 8).bind fun t101 => (if t101 = true then ((spec_l1In.f a1 1 8).bind fun t102 => (some t102)) else (some false))) = some r := h
 clear h
 replace H := oA H
 obtain ⟨t101, A3, H⟩ := H
 replace H : (if t101 = true then ((spec_l1In.f a1 1 8).bind fun t102 => (some t102)) else (some false)) = some r := H
 by_cases c4 : t101 = true
 ·
  subst c4
  have H1 : ((spec_l1In.f a1 1 8).bind fun t102 => (some t102)) = some r := by rw [if_pos rfl] at H; exact H
  clear H; have H := H1; clear H1; replace H := oA H; obtain ⟨t102, A5, H⟩ := H
  replace H : (some t102) = some r := H
  obtain rfl := Option.some.inj H
  go_enter Try.func60, Try.ntmps60
  go_wp2_with (first | ((with_reducible refine gc 40 rfl ?_); refine gl (some 6) Try.func40 #[.int .i64 a0, .int .i64 1, .int .i64 8] ?_; (with_reducible refine (spec_l1In.calls a0 1 8 true _ A3.out).mono ?_); rintro e w' ⟨rfl, ⟨nd, rfl⟩⟩; refine ⟨_, rfl, ?_⟩) | (go_at_call 40; (with_reducible refine (spec_l1In.calls a1 1 8 t102 _ A5.out).mono ?_); rintro e w' ⟨rfl, ⟨nd, rfl⟩⟩))
  go_ret
  exact ⟨by first | rfl | (simp; done) | (simp [*]; done), by repeat (first | exact Drawn0.refl _ | apply Drawn0.step)⟩
 replace c4 := Bool.eq_false_iff.mpr c4
 subst c4
 have H1 : (some false) = some r := by rw [if_neg (show ¬ (false = true) by decide)] at H; exact H
 clear H
 have H := H1
 clear H1
 obtain rfl := Option.some.inj H
 go_enter Try.func60, Try.ntmps60
 go_wp2_with (first | ((with_reducible refine gc 40 rfl ?_); refine gl (some 6) Try.func40 #[.int .i64 a0, .int .i64 1, .int .i64 8] ?_; (with_reducible refine (spec_l1In.calls a0 1 8 false _ A3.out).mono ?_); rintro e w' ⟨rfl, ⟨nd, rfl⟩⟩; refine ⟨_, rfl, ?_⟩))
 go_ret
 exact ⟨by first | rfl | (simp; done) | (simp [*]; done), by repeat (first | exact Drawn0.refl _ | apply Drawn0.step)⟩
def spec_l2Value.f (a0 : Int) : Option (Bool) := if a0 = (-9999) then (some true) else ((spec_l1In.f a0 (-9000) 9000).bind fun t101 => (some t101))
theorem spec_l2Value.calls (a0 : Int) (r : Bool) (w : World) (h : spec_l2Value.f a0 = some r) :
  Calls Try.prog 61 #[.int .i64 a0] w fun e w' => e = .returned (.bool r) ∧ Drawn0 w w' := by
 have H : (if a0 = (-9999) then (some true) else ((spec_l1In.f a0 (-9000) 9000).bind fun t101 => (some t101))) = some r := h
 clear h
 by_cases c2 : a0 = (-9999)
 ·
  rw [if_pos c2] at H
  have c2b0 : (a0 == (-9999)) = true := beq_iff_eq.mpr c2
  have c2b1 : (a0 != (-9999)) = false := bne_eq_false_iff_eq.mpr c2
  clear c2
  obtain rfl := Option.some.inj H
  go_enter Try.func61, Try.ntmps61
  go_wp2
  go_ret
  exact ⟨by first | rfl | (simp; done) | (simp [*]; done), by repeat (first | exact Drawn0.refl _ | apply Drawn0.step)⟩
 rw [if_neg c2] at H
 have c2b0 : (a0 == (-9999)) = false := beq_eq_false_iff_ne.mpr c2
 have c2b1 : (a0 != (-9999)) = true := bne_iff_ne.mpr c2
 replace H := oA H
 obtain ⟨t101, A3, H⟩ := H
 replace H : (some t101) = some r := H
 obtain rfl := Option.some.inj H
 go_enter Try.func61, Try.ntmps61
 go_wp2_with (first | (go_at_call 40; (with_reducible refine (spec_l1In.calls a0 (-9000) 9000 t101 _ A3.out).mono ?_); rintro e w' ⟨rfl, ⟨nd, rfl⟩⟩))
 go_ret
 exact ⟨by first | rfl | (simp; done) | (simp [*]; done), by repeat (first | exact Drawn0.refl _ | apply Drawn0.step)⟩
mutual
def spec_l2Good.j0 : Nat → Bool → Int → Int → List Int → Option (Bool)
 | 0, _, _, _, _ => none
 | k + 1, x20, r0, r1, r2 => if x20 = true then (some false) else (spec_l2Good.l0 k 0 r0 r1 r2)
def spec_l2Good.l0 : Nat → Int → Int → Int → List Int → Option (Bool)
 | 0, _, _, _, _ => none
 | k + 1, x3, r0, r1, r2 => if x3 < (r2.length : Int) then (if 0 ≤ x3 then ((spec_l2Value.f (rd r2 x3)).bind fun t104 => (if t104 = true then (spec_l2Good.l0 k (wrap64 (x3 + 1)) r0 r1 r2) else (some false))) else (none)) else (some true)
end
def spec_l2Good.f (k : Nat) (a0_0 : Int) (a0_1 : Int) (l0_2 : List Int) : Option (Bool) := (spec_l2Shape.f a0_0 a0_1).bind fun t102 => (if t102 = true then (spec_l2Good.j0 k ((l0_2.length : Int) != (wrap64 (a0_0 * a0_1))) a0_0 a0_1 l0_2) else (spec_l2Good.j0 k true a0_0 a0_1 l0_2))
theorem spec_l2Good.calls (k : Nat) (a0_0 : Int) (a0_1 : Int) (A0_2 : Option Addr) (c0_2 : Nat) (l0_2 : List Int) (r : Bool) (w : World) (hr0_2 : Kd.C (Kd.int .i64) w A0_2 l0_2.length l0_2) (hc0_2 : l0_2.length ≤ c0_2) (h : spec_l2Good.f k a0_0 a0_1 l0_2 = some r) :
  Calls Try.prog 47 #[.agg #[.int .i64 a0_0, .int .i64 a0_1, .slice A0_2 l0_2.length c0_2]] w fun e w' => e = .returned (.bool r) ∧ Below w.heap.size w w' := by
 have hu29 := Try.underlying29
 have HR0_2 := aK hr0_2
 have HC0_2 := aK hc0_2
 clear hr0_2 hc0_2
 have HB := aK (Below.refl w.heap.size w)
 have H : ((spec_l2Shape.f a0_0 a0_1).bind fun t102 => (if t102 = true then (spec_l2Good.j0 k ((l0_2.length : Int) != (wrap64 (a0_0 * a0_1))) a0_0 a0_1 l0_2) else (spec_l2Good.j0 k true a0_0 a0_1 l0_2))) = some r := h
 clear h
 have HC2 := aK H
 clear H
 go_enter Try.func47, Try.ntmps47
 go_upto_region 1 with (first | ((with_reducible refine ga 1 rfl ?_); (try (refine gate_guard (by rfl) ?_; dsimp only)); refine bxa #[.int .i64 a0_0, .int .i64 a0_1, .slice A0_2 l0_2.length c0_2] 29 ?_; intro g101 hg w3 B101 hb; have GW101 := gA hg HB; replace HB := bS HB hb; clear hb hg))
 (try simp only [Act.put, List.setIfInBounds_toArray, List.set_cons_zero, List.set_cons_succ])
 go_cut [20] (fun v20 wc => ∃ (kq : Nat) (x20_1 : Bool), v20 = .bool x20_1 ∧ Aside0 (spec_l2Good.j0 kq x20_1 a0_0 a0_1 l0_2 = some r) ∧ Aside0 (kq ≤ k) ∧ Aside0 (wc.heap[g101]? = some (.cells #[.int .i64 a0_0, .int .i64 a0_1, (.slice A0_2 l0_2.length c0_2)] 29 (0, 0))) ∧ Aside0 (Below w.heap.size w wc))
 case first =>
  have H := HC2.out; clear HC2; replace H := oA H; obtain ⟨t102, A4, H⟩ := H
  replace H : (if t102 = true then (spec_l2Good.j0 k ((l0_2.length : Int) != (wrap64 (a0_0 * a0_1))) a0_0 a0_1 l0_2) else (spec_l2Good.j0 k true a0_0 a0_1 l0_2)) = some r := H
  by_cases c5 : t102 = true
  ·
   subst c5
   have H1 : (spec_l2Good.j0 k ((l0_2.length : Int) != (wrap64 (a0_0 * a0_1))) a0_0 a0_1 l0_2) = some r := by rw [if_pos rfl] at H; exact H
   clear H; have H := H1; clear H1; have H' := aK H; clear H; obtain ⟨z6_0, z6_1, z6_2, y6_0, y6_1, y6_2⟩ := bc3 B101.out
   go_wp2_with (first | ((with_reducible refine gc 60 rfl ?_); refine gl (some 8) Try.func60 #[.int .i64 a0_0, .int .i64 a0_1] ?_; (with_reducible refine (spec_l2Shape.calls a0_0 a0_1 true _ A4.out).mono ?_); rintro e w' ⟨rfl, ⟨nd, rfl⟩⟩; refine ⟨_, rfl, ?_⟩))
   go_meet
   case rel => exact ⟨_, (((l0_2.length : Int) != (wrap64 (a0_0 * a0_1)))), (by first | rfl | (simp; done) | (simp [*]; done)), H', ⟨by first | omega | exact Nat.le_refl _⟩, ⟨by refine bk ?_; exact B101.out⟩, ⟨pT HB.out⟩⟩
  replace c5 := Bool.eq_false_iff.mpr c5; subst c5
  have H1 : (spec_l2Good.j0 k true a0_0 a0_1 l0_2) = some r := by rw [if_neg (show ¬ (false = true) by decide)] at H; exact H
  clear H; have H := H1; clear H1; have H' := aK H; clear H; obtain ⟨z7_0, z7_1, z7_2, y7_0, y7_1, y7_2⟩ := bc3 B101.out
  go_wp2_with (first | ((with_reducible refine gc 60 rfl ?_); refine gl (some 8) Try.func60 #[.int .i64 a0_0, .int .i64 a0_1] ?_; (with_reducible refine (spec_l2Shape.calls a0_0 a0_1 false _ A4.out).mono ?_); rintro e w' ⟨rfl, ⟨nd, rfl⟩⟩; refine ⟨_, rfl, ?_⟩))
  go_meet
  case rel => exact ⟨_, (true), (by first | rfl | (simp; done) | (simp [*]; done)), H', ⟨by first | omega | exact Nat.le_refl _⟩, ⟨by refine bk ?_; exact B101.out⟩, ⟨pT HB.out⟩⟩
 case rest =>
 clear HC2
 try clear p2
 try clear c4
 try clear c5
 try clear c6
 try clear p6
 try clear z6_0
 try clear z6_1
 try clear z6_2
 try clear z7_0
 try clear z7_1
 try clear z7_2
 try clear y6_0
 try clear y6_1
 try clear y6_2
 try clear y7_0
 try clear y7_1
 try clear y7_2
 obtain ⟨kq, x20_1, rfl, HA, HJ1, B101, HB⟩ := hcut
 cases kq with
 | zero => exact absurd HA.out (by simp [spec_l2Good.j0])
 | succ kj1 =>
 have H := HA.out
 clear HA
 simp only [spec_l2Good.j0] at H
 by_cases c8 : x20_1 = true
 ·
  subst c8
  have H1 : (some false) = some r := by rw [if_pos rfl] at H; exact H
  clear H; have H := H1; clear H1
  obtain rfl := Option.some.inj H
  go_wp2
  go_ret
  exact ⟨er, pT HB.out⟩
 replace c8 := Bool.eq_false_iff.mpr c8
 subst c8
 have H1 : (spec_l2Good.l0 kj1 0 a0_0 a0_1 l0_2) = some r := by rw [if_neg (show ¬ (false = true) by decide)] at H; exact H
 clear H
 have H := H1
 clear H1
 have H' := aK H
 clear H
 go_wp2
 go_loopg [3] kj1 (fun kq v3 w' => ∃ (x3_2 : Int), v3 = .int .i64 x3_2 ∧ Aside0 (spec_l2Good.l0 kq x3_2 a0_0 a0_1 l0_2 = some r) ∧ Aside0 (kq ≤ kj1) ∧ Aside0 (w'.heap[g101]? = some (.cells #[.int .i64 a0_0, .int .i64 a0_1, (.slice A0_2 l0_2.length c0_2)] 29 (0, 0))) ∧ Aside0 (Below w.heap.size w w'))
 case atStart => exact ⟨(0), (by first | rfl | (simp; done) | (simp [*]; done)), H', ⟨Nat.le_refl _⟩, ⟨by refine bk ?_; exact B101.out⟩, ⟨pT HB.out⟩⟩
 case round =>
 clear H'
 try clear p2
 try clear c4
 try clear c5
 try clear c6
 try clear p6
 try clear c8
 try clear z6_0
 try clear z6_1
 try clear z6_2
 try clear z7_0
 try clear z7_1
 try clear z7_2
 try clear y6_0
 try clear y6_1
 try clear y6_2
 try clear y7_0
 try clear y7_1
 try clear y7_2
 try clear p2
 try clear p6
 obtain ⟨x3_2, rfl, HA, HK2, B101, HB⟩ := hrel
 cases gk with
 | zero => exact absurd HA.out (by simp [spec_l2Good.l0])
 | succ k2 =>
 have H := HA.out
 clear HA
 simp only [spec_l2Good.l0] at H
 by_cases c9 : x3_2 < (l0_2.length : Int)
 rotate_left
 ·
  rw [if_neg c9] at H
  have c9b0 : decide (x3_2 < (l0_2.length : Int)) = false := decide_eq_false c9
  clear c9
  obtain rfl := Option.some.inj H
  obtain ⟨_, _, _, _, _, _⟩ := bc3 B101.out
  go_wp2
  go_ret
  exact ⟨er, pT HB.out⟩
 rw [if_pos c9] at H
 have c9b0 : decide (x3_2 < (l0_2.length : Int)) = true := decide_eq_true c9
 clear c9
 by_cases c10 : 0 ≤ x3_2
 rotate_left
 ·
  rw [if_neg c10] at H
  exact absurd H (by simp)
 rw [if_pos c10] at H
 have c10b0 : decide (0 ≤ x3_2) = true := decide_eq_true c10
 clear c10
 replace H := oA H
 obtain ⟨t104, A11, H⟩ := H
 replace H : (if t104 = true then (spec_l2Good.l0 k2 (wrap64 (x3_2 + 1)) a0_0 a0_1 l0_2) else (some false)) = some r := H
 by_cases c12 : t104 = true
 ·
  subst c12
  have H1 : (spec_l2Good.l0 k2 (wrap64 (x3_2 + 1)) a0_0 a0_1 l0_2) = some r := by rw [if_pos rfl] at H; exact H
  clear H; have H := H1; clear H1; have H' := aK H; clear H; obtain ⟨_, _, _, _, _, _⟩ := bc3 B101.out
  have p103 : 0 ≤ (x3_2 : Int) := dA
  have q103 : x3_2 < (l0_2.length : Int) := dA
  obtain ⟨ad103, e103, hx103_0⟩ := Kd.at_int HR0_2.out x3_2 p103 q103; cases e103; replace hx103_0 := (HB.out.cell (World.block_lt_of_cell? w _ hx103_0)).trans hx103_0; replace p103 := eq_true p103; replace q103 := eq_true q103
  go_wp2_with (first | ((with_reducible refine gc 61 rfl ?_); refine gl (some 33) Try.func61 #[.int .i64 (rd l0_2 x3_2)] ?_; (with_reducible refine (spec_l2Value.calls (rd l0_2 x3_2) true _ A11.out).mono ?_); rintro e w' ⟨rfl, ⟨nd, rfl⟩⟩; refine ⟨_, rfl, ?_⟩))
  go_roundg k2
  case measure => have := HJ1.out; have := HK2.out; omega
  case rel => exact ⟨(wrap64 (x3_2 + 1)), (by first | rfl | (simp; done) | (simp [*]; done)), H', ⟨by have := HJ1.out; have := HK2.out; omega⟩, ⟨by refine bk ?_; exact B101.out⟩, ⟨pT HB.out⟩⟩
 replace c12 := Bool.eq_false_iff.mpr c12
 subst c12
 have H1 : (some false) = some r := by rw [if_neg (show ¬ (false = true) by decide)] at H; exact H
 clear H
 have H := H1
 clear H1
 obtain rfl := Option.some.inj H
 obtain ⟨_, _, _, _, _, _⟩ := bc3 B101.out
 have p103 : 0 ≤ (x3_2 : Int) := dA
 have q103 : x3_2 < (l0_2.length : Int) := dA
 obtain ⟨ad103, e103, hx103_0⟩ := Kd.at_int HR0_2.out x3_2 p103 q103
 cases e103
 replace hx103_0 := (HB.out.cell (World.block_lt_of_cell? w _ hx103_0)).trans hx103_0
 replace p103 := eq_true p103
 replace q103 := eq_true q103
 go_wp2_with (first | ((with_reducible refine gc 61 rfl ?_); refine gl (some 33) Try.func61 #[.int .i64 (rd l0_2 x3_2)] ?_; (with_reducible refine (spec_l2Value.calls (rd l0_2 x3_2) false _ A11.out).mono ?_); rintro e w' ⟨rfl, ⟨nd, rfl⟩⟩; refine ⟨_, rfl, ?_⟩))
 go_ret
 exact ⟨er, pT HB.out⟩
end Go.Proofs.Ytpggcolcabmdeaa.P
