/- Texts of the claim FnMembers, merged: part 5 of 13: the program's and the reference's functions as Lean functions, the walks that show it, and plain lemmas; no conditions. -/
import Derived.Test.YtilffhaghabdgaaKFnMembers3
import Derived.Test.YtilffhaghabdgaaKFnMembers4
namespace Go.Proofs.Ytilffhaghabdgaa.P
open Go.RowKit Go.Proofs.YtilffhaghabdgaaW.PrintWords Go.Proofs.YtilffhaghabdgaaW.PrintLast Go.Proofs.YtilffhaghabdgaaW.PrintMore
attribute [local go_sem] max2_int min2_int max_two min_two max_three min_three max_four min_four
set_option linter.unusedVariables false
set_option linter.unusedSimpArgs false
set_option maxHeartbeats 8000000
set_option maxRecDepth 100000
mutual
def spec_l1Cur_ensemble.l0 : Nat → Int → Int → List (S29) → Int → List Int → Int → Int → Option ((List (S29)) × Int × Int)
 | 0, _, _, _, _, _, _, _ => none
 | k + 1, x3, x4, x5, x6, x1000, x1001, x1002 => if x6 > 0 then (spec_l1Cur_ensemble.l1 k x3 x4 x5 x6 0 x1000 x1001 x1002 x3 x4 ([] : List Int)) else ((spec_l1Cur_pick.f x1000 x1001 x1002 40).bind fun bt126 => (if bt126.1 = 0 then ((spec_l1Cur_anyField.f k x1000 bt126.2.1 bt126.2.2).bind fun bt129 => (if x5.length < 3518437208883 then (some ((x5 ++ [(⟨bt129.1, bt129.2.1, bt129.2.2.1⟩ : S29)]), bt129.2.2.2.1, bt129.2.2.2.2)) else (none))) else (if bt126.1 = 1 then (some ((([] : List (S29))), bt126.2.1, bt126.2.2)) else (if bt126.1 = 2 then (spec_l1Cur_ensemble.l2 k x5 x1000 bt126.2.1 bt126.2.2) else (if bt126.1 = 3 then (if 0 < (x5.length : Int) then ((spec_l1Cur_among.f x1000 bt126.2.1 bt126.2.2 (([9001, (-9000), 9000] : List Int))).bind fun bt158 => (if 0 < (((rd_T29 x5 0).f2).length : Int) then (some ((x5.set (0 : Int).toNat (⟨(rd_T29 x5 0).f0, (rd_T29 x5 0).f1, (((rd_T29 x5 0).f2).set (0 : Int).toNat bt158.1)⟩ : S29)), bt158.2.1, bt158.2.2)) else (none))) else (none)) else (some (x5, bt126.2.1, bt126.2.2)))))))
def spec_l1Cur_ensemble.l1 : Nat → Int → Int → List (S29) → Int → Int → List Int → Int → Int → Int → Int → List Int → Option ((List (S29)) × Int × Int)
 | 0, _, _, _, _, _, _, _, _, _, _, _ => none
 | k + 1, x3, x4, x5, x6, x8, x1000, x1001, x1002, x114000, x114001, x114002 => if x8 < (wrap64 (x3 * x4)) then ((spec_l1Cur_among.f x1000 x1001 x1002 (([0, 5, 10, 15, 20, (-5), (-9999)] : List Int))).bind fun bt117 => (if x114002.length < 17592186044416 then (spec_l1Cur_ensemble.l1 k x3 x4 x5 x6 (wrap64 (x8 + 1)) x1000 bt117.2.1 bt117.2.2 x114000 x114001 (x114002 ++ [bt117.1])) else (none))) else (if x5.length < 3518437208883 then (spec_l1Cur_ensemble.l0 k x3 x4 (x5 ++ [(⟨x114000, x114001, x114002⟩ : S29)]) (wrap64 (x6 - 1)) x1000 x1001 x1002) else (none))
def spec_l1Cur_ensemble.l2 : Nat → List (S29) → List Int → Int → Int → Option ((List (S29)) × Int × Int)
 | 0, _, _, _, _ => none
 | k + 1, x5, x1000, x1001, x1002 => (spec_l1Cur_pick.f x1000 x1001 x1002 2).bind fun bt142 => (if (x5.length : Int) < (wrap64 (8 + bt142.1)) then (if 0 < (x5.length : Int) then ((spec_l2Own.f ((rd_T29 x5 0).f0) ((rd_T29 x5 0).f1) ((rd_T29 x5 0).f2)).bind fun bt146 => (if x5.length < 3518437208883 then (spec_l1Cur_ensemble.l2 k (x5 ++ [(⟨bt146.1, bt146.2.1, bt146.2.2⟩ : S29)]) x1000 bt142.2.1 bt142.2.2) else (none))) else (none)) else (some (x5, bt142.2.1, bt142.2.2)))
end
def spec_l1Cur_ensemble.f (k : Nat) (s0_0 : List Int) (s0_1 : Int) (s0_2 : Int) : Option ((List (S29)) × Int × Int) := (spec_l1Cur_pick.f s0_0 s0_1 s0_2 4).bind fun bt101 => ((spec_l1Cur_pick.f s0_0 bt101.2.1 bt101.2.2 4).bind fun bt104 => ((spec_l1Cur_pick.f s0_0 bt104.2.1 bt104.2.2 5).bind fun bt110 => (spec_l1Cur_ensemble.l0 k (wrap64 (1 + bt101.1)) (wrap64 (1 + bt104.1)) (([] : List (S29))) (wrap64 (1 + bt110.1)) s0_0 bt110.2.1 bt110.2.2)))
def spec_l1Cur_ensemble.T10 : Bool × List (List Nat × List Nat) := (true, [([], []), ([0], [0]), ([], []), ([], []), ([2, 3], [2, 3]), ([4], [4]), ([1, 5, 4], [1, 5]), ([0, 1, 2, 3, 4, 5, 6], []), ([7, 6, 6, 0, 1, 2, 3, 4, 5, 6], [6, 7])])
def spec_l1Cur_ensemble.B10 : List Nat := [0, 1, 0, 0, 12, 28, 63, 127, 255]
theorem spec_l1Cur_ensemble.tab10 : rtab .any (opsOf Try.f114 10) = spec_l1Cur_ensemble.T10 := by kernel_rfl
theorem spec_l1Cur_ensemble.bits10 : waitsOk spec_l1Cur_ensemble.T10.2 spec_l1Cur_ensemble.B10 = true := by kernel_rfl
def spec_l1Cur_ensemble.T21 : Bool × List (List Nat × List Nat) := (true, [([], []), ([0], [0]), ([1], [1]), ([2], [2]), ([], []), ([], []), ([4, 5], [4, 5]), ([3, 0, 1, 2, 3, 4, 5, 6], [3]), ([7, 6, 6, 0, 1, 2, 3, 4, 5, 6], [6, 7])])
def spec_l1Cur_ensemble.B21 : List Nat := [0, 1, 3, 7, 0, 0, 48, 127, 255]
theorem spec_l1Cur_ensemble.tab21 : rtab .any (opsOf Try.f114 21) = spec_l1Cur_ensemble.T21 := by kernel_rfl
theorem spec_l1Cur_ensemble.bits21 : waitsOk spec_l1Cur_ensemble.T21.2 spec_l1Cur_ensemble.B21 = true := by kernel_rfl
theorem spec_l1Cur_ensemble.calls (k : Nat) (g : Nat) (s0_0 : List Int) (s0_1 : Int) (s0_2 : Int) (r1 : List (S29)) (r2 : Int) (r3 : Int) (w0 w : World) (hI : IsS115 w0 w g s0_0 s0_1 s0_2) (hB : Below w0.heap.size w0 w) (h : spec_l1Cur_ensemble.f k s0_0 s0_1 s0_2 = some (r1, r2, r3)) :
  Calls Try.prog 114 #[.pointer (some ⟨g, 0, none⟩)] w fun e w' => ∃ v0_ : Value, e = .returned (v0_) ∧ Kd.V k29 29 w' w.heap.size (fun k_ => (w.heap.size ≤ k_)) v0_ r1 ∧ IsS115 w0 w' g s0_0 r2 r3 ∧ Below w0.heap.size w0 w' ∧ KeepBut w w' g none := by
 have hu29 := Try.underlying29
 have HI0 := Aside0.mk hI
 have HK := aK (KeepBut.refl w g none)
 have HL := Aside0.mk hB.size
 clear hI
 have HW0 := Aside0.mk hB.size
 have HB := Aside0.mk hB
 clear hB
 have H : ((spec_l1Cur_pick.f s0_0 s0_1 s0_2 4).bind fun bt101 => ((spec_l1Cur_pick.f s0_0 bt101.2.1 bt101.2.2 4).bind fun bt104 => ((spec_l1Cur_pick.f s0_0 bt104.2.1 bt104.2.2 5).bind fun bt110 => (spec_l1Cur_ensemble.l0 k (wrap64 (1 + bt101.1)) (wrap64 (1 + bt104.1)) (([] : List (S29))) (wrap64 (1 + bt110.1)) s0_0 bt110.2.1 bt110.2.2)))) = some (r1, r2, r3) := h
 clear h
 replace H := Option.bind_eq_some_iff.mp H
 obtain ⟨⟨t101, t102, t103⟩, A20, H⟩ := H
 replace H : ((spec_l1Cur_pick.f s0_0 t102 t103 4).bind fun bt104 => ((spec_l1Cur_pick.f s0_0 bt104.2.1 bt104.2.2 5).bind fun bt110 => (spec_l1Cur_ensemble.l0 k (wrap64 (1 + t101)) (wrap64 (1 + bt104.1)) (([] : List (S29))) (wrap64 (1 + bt110.1)) s0_0 bt110.2.1 bt110.2.2))) = some (r1, r2, r3) := H
 have A2 := Aside0.mk A20
 clear A20
 replace H := Option.bind_eq_some_iff.mp H
 obtain ⟨⟨t104, t105, t106⟩, A30, H⟩ := H
 replace H : ((spec_l1Cur_pick.f s0_0 t105 t106 5).bind fun bt110 => (spec_l1Cur_ensemble.l0 k (wrap64 (1 + t101)) (wrap64 (1 + t104)) (([] : List (S29))) (wrap64 (1 + bt110.1)) s0_0 bt110.2.1 bt110.2.2)) = some (r1, r2, r3) := H
 have A3 := Aside0.mk A30
 clear A30
 obtain ⟨y107, hy107⟩ : ∃ y_ : List (S29), y_ = (([] : List (S29))) := ⟨_, rfl⟩
 replace H : ((spec_l1Cur_pick.f s0_0 t105 t106 5).bind fun bt110 => (spec_l1Cur_ensemble.l0 k (wrap64 (1 + t101)) (wrap64 (1 + t104)) y107 (wrap64 (1 + bt110.1)) s0_0 bt110.2.1 bt110.2.2)) = some (r1, r2, r3) := by first | (rw [hy107]; with_reducible exact H) | (have H2_ := (Option.bind_some _ _).symm.trans H; rw [hy107]; with_reducible exact H2_) | (have H2_ := (Option.bind_some _ _).symm.trans H; with_reducible exact H2_) | with_reducible exact H | (rw [hy107]; exact H) | exact H
 have Ny107 := Aside0.mk hy107
 clear hy107
 replace H := Option.bind_eq_some_iff.mp H
 obtain ⟨⟨t110, t111, t112⟩, A40, H⟩ := H
 replace H : (spec_l1Cur_ensemble.l0 k (wrap64 (1 + t101)) (wrap64 (1 + t104)) y107 (wrap64 (1 + t110)) s0_0 t111 t112) = some (r1, r2, r3) := H
 have A4 := Aside0.mk A40
 clear A40
 have H' := Aside0.mk H
 clear H
 go_enter Try.func114, Try.ntmps114
 go_wp2_with (first | ((with_reducible refine gate_callee (f := 117) rfl ?_); refine gl (some 10) Try.func117 #[.pointer (some ⟨g, 0, none⟩), .int .i64 4] ?_; (with_reducible refine (spec_l1Cur_pick.calls g s0_0 s0_1 s0_2 4 t101 t102 t103 w0 _ ?side1 ?side2 A2.out).mono ?_); (case side1 => exact pI115 HI0.out); (case side2 => exact pV HB.out (IsS115.ge HI0.out)); rintro e w5 ⟨rfl, hi, hb, hk⟩; refine ⟨_, rfl, ?_⟩; have n0_ := aK (KeepBut.trans (pK HK.out) hk (.inl rfl)); have n1_ := aK (hb); have n2_ := aK (hi); clear HK HB HI0; have HK := n0_; have HB := n1_; have HI0 := n2_; clear n0_ n1_ n2_; (try clear hb); (try clear hb2); (try clear hk); (try clear hi)) | ((with_reducible refine gate_callee (f := 117) rfl ?_); refine gl (some 13) Try.func117 #[.pointer (some ⟨g, 0, none⟩), .int .i64 4] ?_; (with_reducible refine (spec_l1Cur_pick.calls g s0_0 t102 t103 4 t104 t105 t106 w0 _ ?side1 ?side2 A3.out).mono ?_); (case side1 => exact pI115 HI0.out); (case side2 => exact pV HB.out (IsS115.ge HI0.out)); rintro e w6 ⟨rfl, hi, hb, hk⟩; refine ⟨_, rfl, ?_⟩; have n0_ := aK (KeepBut.trans (pK HK.out) hk (.inl rfl)); have n1_ := aK (hb); have n2_ := aK (hi); clear HK HB HI0; have HK := n0_; have HB := n1_; have HI0 := n2_; clear n0_ n1_ n2_; (try clear hb); (try clear hb2); (try clear hk); (try clear hi)) | ((with_reducible refine gate_dst (N := 15) rfl ?_); refine Kd.S_lit k29 _ 29 ?hg (N := 15) ?hd (xs := ([] : List (S29))) (inner := []) (ok := fun _ => True) (okp := fun _ => True) ?hr ?hp (fun _ hk => hk) trivial (Below.refl _ _) (Nat.le_refl _) (by simp) ?_; (case hd => rfl); (case hg => rfl); (case hr => first | (go_simp; done) | (go_simp; rfl)); (case hp => exact (Reps.none _ _)); intro v108 w7 ho8 hb hg_ hnew_; clear hg_ hnew_; (first | rw [← Ny107.out] at ho8 | (simp only [Int.reduceToNat] at ho8; rw [← Ny107.out] at ho8)); have HO109 := aK (Kd.S_lower (Kd.S_newM (M := fun k_ => (w.heap.size ≤ k_)) ho8 (keep_size (w := w) (g := g) (row := none) (pK HK.out)) (fun k_ h_ => h_)) (keep_size (w := w) (g := g) (row := none) (pK HK.out))); have n1_ := aK (IsS115.below (pI115 HI0.out) hb); have n2_ := aK (KeepBut.trans (pK HK.out) (KeepBut.of_below hb g none) (.inl rfl)); have n3_ := aK (below_step ((pV HB.out (IsS115.ge HI0.out))) hb); clear HI0 HK HB; have HI0 := n1_; have HK := n2_; have HB := n3_; clear n1_ n2_ n3_; clear hb ho8) | ((with_reducible refine gate_callee (f := 117) rfl ?_); refine gl (some 17) Try.func117 #[.pointer (some ⟨g, 0, none⟩), .int .i64 5] ?_; (with_reducible refine (spec_l1Cur_pick.calls g s0_0 t105 t106 5 t110 t111 t112 w0 _ ?side1 ?side2 A4.out).mono ?_); (case side1 => exact pI115 HI0.out); (case side2 => exact pV HB.out (IsS115.ge HI0.out)); rintro e w9 ⟨rfl, hi, hb, hk⟩; refine ⟨_, rfl, ?_⟩; have n0_ := aK (Kd.S_mono (Kd.S_keep (IsS115.apartS (show IsS115 w0 _ g s0_0 t105 t106 from pI115 HI0.out) (by (with_reducible repeat (first | apply Kd.S_alloc | apply Kd.S_drewN | apply Kd.S_drew)); exact HO109.out) (by decide)) hk (fun _ h => h.2)) (fun _ h => h.1)); have n1_ := aK (KeepBut.trans (pK HK.out) hk (.inl rfl)); have n2_ := aK (hb); have n3_ := aK (hi); clear HO109 HK HB HI0; have HO109 := n0_; have HK := n1_; have HB := n2_; have HI0 := n3_; clear n0_ n1_ n2_ n3_; (try clear hb); (try clear hb2); (try clear hk); (try clear hi)))
 go_loopg [5, 6] k (fun kq v5 v6 w' => ∃ (x5_1 : List (S29)) (x6_1 : Int) (x1001_1 : Int) (x1002_1 : Int), v6 = .int .i64 x6_1 ∧ Aside0 (spec_l1Cur_ensemble.l0 kq (wrap64 (1 + t101)) (wrap64 (1 + t104)) x5_1 x6_1 s0_0 x1001_1 x1002_1 = some (r1, r2, r3)) ∧ Aside0 (kq ≤ k) ∧ Aside0 (Kd.S k29 29 w' w.heap.size (fun k_ => (w.heap.size ≤ k_)) v5 x5_1) ∧ Aside0 (IsS115 w0 w' g s0_0 x1001_1 x1002_1) ∧ Aside0 (KeepBut w w' g none) ∧ Aside0 (Below w0.heap.size w0 w'))
 case atStart => exact ⟨(y107), (wrap64 (1 + t110)), (t111), (t112), (by first | rfl | (simp; done) | (simp [*]; done)), H', ⟨Nat.le_refl _⟩, ⟨by (with_reducible repeat (first | apply Kd.S_alloc | apply Kd.S_drewN | apply Kd.S_drew)); exact Kd.S_mono HO109.out (fun _ hk => hk.1)⟩, ⟨pI115 HI0.out⟩, ⟨pK HK.out⟩, ⟨(pV HB.out (IsS115.ge HI0.out))⟩⟩
 case round =>
  clear H'
  try clear c1
  try clear p2
  try clear p6
  obtain ⟨x5_1, x6_1, x1001_1, x1002_1, rfl, HA, HK1, HO_5, HI0, HK, HB⟩ := hrel
  cases gk with
  | zero => exact absurd HA.out (by simp [spec_l1Cur_ensemble.l0])
  | succ k1 =>
   have H := HA.out
   clear HA
   simp only [spec_l1Cur_ensemble.l0] at H
   by_cases c10 : x6_1 > 0
   ·
    rw [if_pos c10] at H
    have c10b0 : decide (0 < x6_1) = true := decide_eq_true c10
    clear c10
    have H' := Aside0.mk H
    clear H
    go_wp2_with (first | ((with_reducible refine gate_dst (N := 7) rfl ?_); refine bxe (cs := #[.int .i64 0, .int .i64 0, .slice none 0 0]) (t := 29) ?_; intro gb113 hg w11 hbox hb; have n0_ := aK (Kd.S_below (Kd.S_elderB (by (with_reducible repeat (first | apply Kd.S_alloc | apply Kd.S_drewN | apply Kd.S_drew)); exact HO_5.out) gb113 (Nat.le_of_eq hg.symm)) hb); have n1_ := aK (IsS115.below (pI115 HI0.out) hb); have n2_ := aK (KeepBut.trans (pK HK.out) (KeepBut.of_below hb g none) (.inl rfl)); have n3_ := aK (below_step ((pV HB.out (IsS115.ge HI0.out))) hb); have BK113 := aK (hbox); have GW113 := aK ((by rw [hg]; exact (keep_size (w := w) (g := g) (row := none) (pK HK.out)) : w.heap.size ≤ gb113)); have GE113 := aK ((Nat.le_trans HW0.out (by rw [hg]; exact (keep_size (w := w) (g := g) (row := none) (pK HK.out)) : w.heap.size ≤ gb113) : w0.heap.size ≤ gb113)); have NB0_113 := aK ((by rw [hg]; exact Nat.ne_of_lt (IsS115.lt (show IsS115 w0 _ g s0_0 x1001_1 x1002_1 from pI115 HI0.out)) : g ≠ gb113)); have NB113_0 := aK ((by rw [hg]; exact Nat.ne_of_gt (IsS115.lt (show IsS115 w0 _ g s0_0 x1001_1 x1002_1 from pI115 HI0.out)) : gb113 ≠ g)); clear HO_5 HI0 HK HB; have HO_5 := n0_; have HI0 := n1_; have HK := n2_; have HB := n3_; clear n0_ n1_ n2_ n3_ hb hbox hg; have hnb12 := NB113_0.out; have hnc12 := NB0_113.out; obtain ⟨hcz13_0, hcz13_1, hcz13_2, hfz13_0, hfz13_1, hfz13_2⟩ := bc3 BK113.out))
    go_loopg [8] k1 (fun kq v8 w' => ∃ (x8_2 : Int) (x1001_2 : Int) (x1002_2 : Int) (x114002_2 : List Int) (u114002 : Value), v8 = .int .i64 x8_2 ∧ Aside0 (spec_l1Cur_ensemble.l1 kq (wrap64 (1 + t101)) (wrap64 (1 + t104)) x5_1 x6_1 x8_2 s0_0 x1001_2 x1002_2 (wrap64 (1 + t101)) (wrap64 (1 + t104)) x114002_2 = some (r1, r2, r3)) ∧ Aside0 (kq ≤ k1) ∧ Aside0 (Kd.S k29 29 w' w.heap.size (fun k_ => (w.heap.size ≤ k_) ∧ some k_ ≠ (u114002 : Value).ownBlock ∧ k_ ≠ gb113) u5 x5_1) ∧ Aside0 (Kd.R (Kd.int .i64) 3 w' w.heap.size (fun k_ => (w.heap.size ≤ k_)) u114002 x114002_2) ∧ Aside0 (w'.heap[gb113]? = some (.cells #[.int .i64 (wrap64 (1 + t101)), .int .i64 (wrap64 (1 + t104)), u114002] 29 (0, 0))) ∧ Aside0 (IsS115 w0 w' g s0_0 x1001_2 x1002_2) ∧ Aside0 (KeepBut w w' g none) ∧ Aside0 (Below w0.heap.size w0 w'))
    case atStart => exact ⟨(0), (x1001_1), (x1002_1), (([] : List Int)), (.slice none 0 0), (by first | rfl | (simp; done) | (simp [*]; done)), H', ⟨Nat.le_refl _⟩, ⟨by (with_reducible repeat (first | apply Kd.S_alloc | apply Kd.S_drewN | apply Kd.S_drew)); exact Kd.S_mono (Kd.S_far (p := ⟨gb113, 2, none⟩) (Kd.S_far (p := ⟨gb113, 1, none⟩) (Kd.S_far (p := ⟨gb113, 0, none⟩) (Kd.S_mono HO_5.out (fun k_ hk => (⟨hk, hk.2⟩ : _ ∧ k_ ≠ gb113))) (fun _ hk => hk.2) (.int .i64 (wrap64 (1 + t101)))) (fun _ hk => hk.2) (.int .i64 (wrap64 (1 + t104)))) (fun _ hk => hk.2) (.slice none 0 0)) (fun _ hk => ⟨hk.1.1, ⟨(by simp [Value.ownBlock]), hk.1.2⟩⟩)⟩, ⟨by first | exact Kd.R_nil _ _ _ _ _ | exact Kd.N_nil _ _ _ _ _ | exact Kd.V_nil _ _ _ _ _ | exact Kd.Q_nil _ _ _ _ _ | exact Kd.S_nil _ _ _ _ _⟩, ⟨by refine bk ?_; refine blk_put (cs := #[.int .i64 (wrap64 (1 + t101)), .int .i64 (wrap64 (1 + t104)), .slice none 0 0]) ?_ 2 _ rfl; refine bk ?_; refine blk_put (cs := #[.int .i64 (wrap64 (1 + t101)), .int .i64 0, .slice none 0 0]) ?_ 1 _ rfl; refine bk ?_; refine blk_put (cs := #[.int .i64 0, .int .i64 0, .slice none 0 0]) ?_ 0 _ rfl; refine bk ?_; exact BK113.out⟩, ⟨pI115 HI0.out⟩, ⟨pK HK.out⟩, ⟨(pV HB.out (IsS115.ge HI0.out))⟩⟩
    case round =>
     clear H'
     try clear c1
     try clear p2
     try clear p6
     try clear c10
     try clear c10b0
     try clear c11
     try clear c12
     try clear hcz13_0
     try clear hcz13_1
     try clear hcz13_2
     try clear hfz13_0
     try clear hfz13_1
     try clear hfz13_2
     try clear p2
     try clear p6
     obtain ⟨x8_2, x1001_2, x1002_2, x114002_2, u114002, rfl, HA, HK2, HO_5, HO_114002, BK113, HI0, HK, HB⟩ := hrel
     cases gk with
     | zero => exact absurd HA.out (by simp [spec_l1Cur_ensemble.l1])
     | succ k2 =>
      have H := HA.out
      clear HA
      simp only [spec_l1Cur_ensemble.l1] at H
      by_cases c14 : x8_2 < (wrap64 ((wrap64 (1 + t101)) * (wrap64 (1 + t104))))
      ·
       rw [if_pos c14] at H
       have c14b0 : decide (x8_2 < (wrap64 ((wrap64 (1 + t101)) * (wrap64 (1 + t104))))) = true := decide_eq_true c14
       clear c14
       obtain ⟨y114, hy114⟩ : ∃ y_ : List Int, y_ = (([0, 5, 10, 15, 20, (-5), (-9999)] : List Int)) := ⟨_, rfl⟩
       replace H : ((spec_l1Cur_among.f s0_0 x1001_2 x1002_2 y114).bind fun bt117 => (if x114002_2.length < 17592186044416 then (spec_l1Cur_ensemble.l1 k2 (wrap64 (1 + t101)) (wrap64 (1 + t104)) x5_1 x6_1 (wrap64 (x8_2 + 1)) s0_0 bt117.2.1 bt117.2.2 (wrap64 (1 + t101)) (wrap64 (1 + t104)) (x114002_2 ++ [bt117.1])) else (none))) = some (r1, r2, r3) := by first | (rw [hy114]; with_reducible exact H) | (have H2_ := (Option.bind_some _ _).symm.trans H; rw [hy114]; with_reducible exact H2_) | (have H2_ := (Option.bind_some _ _).symm.trans H; with_reducible exact H2_) | with_reducible exact H | (rw [hy114]; exact H) | exact H
       have Ny114 := Aside0.mk hy114
       clear hy114
       replace H := Option.bind_eq_some_iff.mp H
       obtain ⟨⟨t117, t118, t119⟩, A150, H⟩ := H
       replace H : (if x114002_2.length < 17592186044416 then (spec_l1Cur_ensemble.l1 k2 (wrap64 (1 + t101)) (wrap64 (1 + t104)) x5_1 x6_1 (wrap64 (x8_2 + 1)) s0_0 t118 t119 (wrap64 (1 + t101)) (wrap64 (1 + t104)) (x114002_2 ++ [t117])) else (none)) = some (r1, r2, r3) := H
       have A15 := Aside0.mk A150
       clear A150
       by_cases c16 : x114002_2.length < 17592186044416
       ·
        rw [if_pos c16] at H
        have LMc16 := Aside0.mk c16
        clear c16
        obtain ⟨y120, hy120⟩ : ∃ y_ : List Int, y_ = (x114002_2 ++ [t117]) := ⟨_, rfl⟩
        replace H : (spec_l1Cur_ensemble.l1 k2 (wrap64 (1 + t101)) (wrap64 (1 + t104)) x5_1 x6_1 (wrap64 (x8_2 + 1)) s0_0 t118 t119 (wrap64 (1 + t101)) (wrap64 (1 + t104)) y120) = some (r1, r2, r3) := by first | (rw [hy120]; with_reducible exact H) | (have H2_ := (Option.bind_some _ _).symm.trans H; rw [hy120]; with_reducible exact H2_) | (have H2_ := (Option.bind_some _ _).symm.trans H; with_reducible exact H2_) | with_reducible exact H | (rw [hy120]; exact H) | exact H
        have Ny120 := Aside0.mk hy120
        clear hy120
        have H' := Aside0.mk H
        clear H
        try go_wp2
        have n0_ := aK (Kd.S_drew HO_5.out)
        have n1_ := aK (Kd.R_drew HO_114002.out)
        have n2_ := aK (blk_drew BK113.out)
        have n3_ := aK (IsS115.drew HI0.out)
        have n4_ := aK (keep_drew HK.out)
        have n5_ := aK (below_drew1 HB.out)
        clear HO_5 HO_114002 BK113 HI0 HK HB
        have HO_5 := n0_
        have HO_114002 := n1_
        have BK113 := n2_
        have HI0 := n3_
        have HK := n4_
        have HB := n5_
        clear n0_ n1_ n2_ n3_ n4_ n5_
        refine start_ (n := 9) (S := fun w' => w'.cell? ⟨gb113, 0, none⟩ = some (.int .i64 (wrap64 (1 + t101))) ∧ w'.cell? ⟨gb113, 1, none⟩ = some (.int .i64 (wrap64 (1 + t104))) ∧ w'.cell? ⟨gb113, 2, none⟩ = some (u114002)) (ds := [8]) #[false, false, false, false, false, false, false, false, false] (by kernel_rfl) rfl rfl (cz3 BK113.out) (fun hHeld => ?_); refine with_tabW spec_l1Cur_ensemble.tab10 spec_l1Cur_ensemble.bits10 (fun HT_ HW_ => ?_)
        generalize wr.drew = w17 at HO_5 HO_114002 BK113 HI0 HK HB hHeld ⊢
        refine pu (i := 0) (N := some 33) #[true, false, false, false, false, false, false, false, false] rfl rfl HT_.out ?_
        refine pu (i := 2) (N := some 35) #[true, false, true, false, false, false, false, false, false] rfl rfl HT_.out ?_
        refine tk (i := 1) (N := some 34) #[true, true, true, false, false, false, false, false, false] rfl rfl HT_.out HW_.out (Or.inl ⟨by rfl, by rintro w' ⟨s0, s1, s2⟩; go_simp; with_reducible rfl⟩) hHeld ?_
        refine one_ (i := 3) (N := some 36) #[true, true, true, true, false, false, false, false, false] rfl rfl (one_of HT_.out (by kernel_rfl)) (by decide) (fun K hK => ?_)
        refine Kd.R_lit_step (Kd.int .i64) _ 3 ?hg (N := 36) ?hd (xs := ([0, 5, 10, 15, 20, (-5), (-9999)] : List Int)) (inner := [.int .i64 0, .int .i64 5, .int .i64 10, .int .i64 15, .int .i64 20, .int .i64 (-5), .int .i64 (-9999)]) (ok := fun _ => True) (okp := fun _ => True) ?hr ?hp (fun _ hk => hk) trivial (Below.refl _ _) (Nat.le_refl _) (by simp) ?_; (case hd => rfl); (case hg => rfl); (case hr => first | (go_simp; done) | (go_simp; rfl)); (case hp => exact (Reps.one (show Kd.M (Kd.int .i64) _ _ _ 0 [.int .i64 0] from rfl) (Reps.one (show Kd.M (Kd.int .i64) _ _ _ 5 [.int .i64 5] from rfl) (Reps.one (show Kd.M (Kd.int .i64) _ _ _ 10 [.int .i64 10] from rfl) (Reps.one (show Kd.M (Kd.int .i64) _ _ _ 15 [.int .i64 15] from rfl) (Reps.one (show Kd.M (Kd.int .i64) _ _ _ 20 [.int .i64 20] from rfl) (Reps.one (show Kd.M (Kd.int .i64) _ _ _ (-5) [.int .i64 (-5)] from rfl) (Reps.one (show Kd.M (Kd.int .i64) _ _ _ (-9999) [.int .i64 (-9999)] from rfl) (Reps.none _ _)))))))))
        intro v115 w18 ho19 hb hg_ hnew_
        clear hg_ hnew_
        (first | rw [← Ny114.out] at ho19 | (simp only [Int.reduceToNat] at ho19; rw [← Ny114.out] at ho19))
        have n0_ := aK (Kd.S_elder' (by (with_reducible repeat (first | apply Kd.S_alloc | apply Kd.S_drewN | apply Kd.S_drew)); exact HO_5.out) (Kd.R_base ho19) hb)
        have n1_ := aK (Kd.R_elder' (pR HO_114002.out) (Kd.R_base ho19) hb)
        have HO116 := aK (Kd.R_lower (nw1 (Kd.R_newM (M := fun k_ => (w.heap.size ≤ k_)) ho19 (keep_size (w := w) (g := g) (row := none) (pK HK.out)) (fun k_ h_ => h_)) (pR HO_114002.out)) (keep_size (w := w) (g := g) (row := none) (pK HK.out)))
        have n4_ := aK (IsS115.below (pI115 HI0.out) hb)
        have n5_ := aK (KeepBut.trans (pK HK.out) (KeepBut.of_below hb g none) (.inl rfl))
        have n6_ := aK (below_step ((pV HB.out (IsS115.ge HI0.out))) hb)
        replace BK113 := bB BK113 hb
        clear HO_5 HO_114002 HI0 HK HB
        have HO_5 := n0_
        have HO_114002 := n1_
        have HI0 := n4_
        have HK := n5_
        have HB := n6_
        clear n0_ n1_ n4_ n5_ n6_ hb ho19
        obtain ⟨Ao20, co20, eo20⟩ := Kd.R_slice HO116.out
        (first | subst eo20 | (obtain ⟨f4_, f5_⟩ := sI eo20; subst f4_; subst f5_))
        refine hK.out _ _ (cz3 BK113.out) (fun hHeld => ?_)
        clear hK K
        refine norm_ (a' := ?_) ?_ ?_
        rotate_left
        ·
         show Act.put _ (some 36) _ = _
         simp only [sP]
         rfl
        refine one_ (i := 4) (N := some 37) #[true, true, true, true, true, false, false, false, false] rfl rfl (one_of HT_.out (by kernel_rfl)) (by decide) (fun K hK => ?_)
        refine goes_ Try.func112 (by kernel_rfl) rfl #[.pointer (some ⟨g, 0, none⟩), .slice Ao20 y114.length co20] (by rfl) rfl rfl (by (try simp only [List.map_toArray, List.map_cons, List.map_nil]); first | done | rfl | (simp only [List.length_drop, List.length_take]; rfl)) ?_
        with_reducible refine (spec_l1Cur_among.calls g s0_0 x1001_2 x1002_2 _ _ y114 t117 t118 t119 w0 _ ?side1 ?side2 ?side3 ?side4 ?side5 A15.out).mono ?_
        (case side1 => exact pI115 HI0.out)
        (case side2 => exact pV HB.out (IsS115.ge HI0.out))
        (case side3 => exact pC (Kd.R_reads' HO116.out).2.2)
        (case side4 => exact (Kd.R_reads' HO116.out).2.1)
        (case side5 => exact far_slice (IsS115.own_ne HI0.out HO116.out (by decide)))
        rintro e w21 ⟨rfl, hi, hb, hk⟩
        refine ⟨_, rfl, ?_⟩
        have n0_ := aK (Kd.S_mono (Kd.S_keep (IsS115.apartS (show IsS115 w0 _ g s0_0 x1001_2 x1002_2 from pI115 HI0.out) (by (with_reducible repeat (first | apply Kd.S_alloc | apply Kd.S_drewN | apply Kd.S_drew)); exact HO_5.out) (by decide)) hk (fun _ h => h.2)) (fun _ h => h.1))
        have n1_ := aK (Kd.R_mono (Kd.R_keep (IsS115.apart (show IsS115 w0 _ g s0_0 x1001_2 x1002_2 from pI115 HI0.out) (pR HO_114002.out) (by decide)) hk (fun _ h => h.2)) (fun _ h => h.1))
        have n2_ := aK (KeepBut.blk hk (pB BK113.out) NB113_0.out (by simp))
        have n3_ := aK (Kd.R_mono (Kd.R_keep (IsS115.apart (show IsS115 w0 _ g s0_0 x1001_2 x1002_2 from pI115 HI0.out) (pR HO116.out) (by decide)) hk (fun _ h => h.2)) (fun _ h => h.1))
        have n4_ := aK (KeepBut.trans (pK HK.out) hk (.inl rfl))
        have n5_ := aK (hb)
        have n6_ := aK (hi)
        clear HO_5 HO_114002 BK113 HO116 HK HB HI0
        have HO_5 := n0_
        have HO_114002 := n1_
        have BK113 := n2_
        have HO116 := n3_
        have HK := n4_
        have HB := n5_
        have HI0 := n6_
        clear n0_ n1_ n2_ n3_ n4_ n5_ n6_
        (try clear hb)
        (try clear hb2)
        (try clear hk)
        (try clear hi)
        refine hK.out _ _ (cz3 BK113.out) (fun hHeld => ?_)
        clear hK K
        refine norm_ (a' := ?_) ?_ ?_
        rotate_left
        ·
         show Act.put _ (some 37) _ = _
         simp only [sP]
         rfl
        refine one_ (i := 5) (N := some 38) #[true, true, true, true, true, true, false, false, false] rfl rfl (one_of HT_.out (by kernel_rfl)) (by decide) (fun K hK => ?_)
        refine value_ (w1 := ?_) (v := ?_) (by rfl) rfl ?_ ?_
        rotate_left 2
        ·
         go_simp
         constructor
         ·
          rfl
         rfl
        refine hK.out _ _ ⟨(blk_cell (blk_alloc BK113.out _) 0).trans rfl, (blk_cell (blk_alloc BK113.out _) 1).trans rfl, (blk_cell (blk_alloc BK113.out _) 2).trans rfl⟩ (fun hHeld => ?_)
        clear hK K
        refine norm_ (a' := ?_) ?_ ?_
        rotate_left
        ·
         show Act.put _ (some 38) _ = _
         simp only [sP]
         rfl
        refine one_ (i := 6) (N := some 39) #[true, true, true, true, true, true, true, false, false] rfl rfl (one_of HT_.out (by kernel_rfl)) (by decide) (fun K hK => ?_)
        refine Kd.R_append_step (Kd.int .i64) w.heap.size (by rfl) (.tmp 34) (.tmp 38) 22 3 (.int .i64 0) 8 rfl Try.underlying22 info3 rfl (by decide) (by omega) u114002 x114002_2 t117 [.int .i64 t117] (fun k_ => (w.heap.size ≤ k_) ∧ some k_ ≠ (.slice Ao20 y114.length co20 : Value).ownBlock) (fun _ => False) rfl rfl ?aP (fun _ hk => hk.elim) ?aF ?aO (Below.refl _ _) ?aS ?aL ?_
        (case aP => exact rfl)
        (case aF => exact (fun k_ hk => ⟨(Nat.le_trans (keep_size (w := w) (g := g) (row := none) (pK HK.out)) hk), Kd.fresh' (Kd.R_lt (pR HO116.out)) k_ hk⟩))
        (case aO => exact (pR HO_114002.out))
        (case aS => exact (keep_size (w := w) (g := g) (row := none) (pK HK.out)))
        (case aL => have := LMc16.out; omega)
        intro v121 w22 ho hb hg hat
        rw [← Ny120.out] at ho
        have n0_ := aK (Kd.S_after (ok := (fun k_ => (w.heap.size ≤ k_) ∧ some k_ ≠ (.slice Ao20 y114.length co20 : Value).ownBlock ∧ k_ ≠ gb113)) (by (with_reducible repeat (first | apply Kd.S_alloc | apply Kd.S_drewN | apply Kd.S_drew)); exact Kd.S_mono HO_5.out (fun _ hk => ⟨⟨hk.1.1, ⟨hk.2, hk.1.2.2⟩⟩, hk.1.2.1⟩)) hg hat)
        have n1_ := aK (blk_grown (pB BK113.out) hg (Kd.R_ne HO_114002.out BK113.out (by decide)))
        have n2_ := aK (IsS115.grown (pI115 HI0.out) hg (IsS115.own_ne HI0.out HO_114002.out (by decide)))
        have n3_ := aK (Kd.R_after (ok := (fun k_ => (w.heap.size ≤ k_))) (pR (rP HO116.out)) hg hat)
        have n4_ := aK (below_weaken ((pV HB.out (IsS115.ge HI0.out))) HL.out hb)
        have n5_ := aK (KeepBut.trans (pK HK.out) (KeepBut.of_grown hg g) (Kd.R_base2 HO_114002.out))
        have HO122 := aK (ho)
        clear HO_5 BK113 HI0 HO116 HB HK HO_114002
        have HO_5 := n0_
        have BK113 := n1_
        have HI0 := n2_
        have HO116 := n3_
        have HB := n4_
        have HK := n5_
        clear n0_ n1_ n2_ n3_ n4_ n5_ ho hb hg hat
        obtain ⟨Ao23, co23, eo23⟩ := Kd.R_slice HO122.out
        (first | subst eo23 | (obtain ⟨f4_, f5_⟩ := sI eo23; subst f4_; subst f5_))
        refine hK.out _ _ (cz3 BK113.out) (fun hHeld => ?_)
        clear hK K
        refine norm_ (a' := ?_) ?_ ?_
        rotate_left
        ·
         show Act.put _ (some 39) _ = _
         simp only [sP]
         rfl
        refine pu (i := 7) (N := some 40) #[true, true, true, true, true, true, true, true, false] rfl rfl HT_.out ?_
        refine last_ (i := 8) (N := none) #[true, true, true, true, true, true, true, true, true] rfl rfl (one_of HT_.out (by kernel_rfl)) (by decide) (fun K hK => ?_)
        have hs24 : w22.cell? ⟨gb113, 2, none⟩ = some (u114002) := (blk_cell BK113.out 2).trans rfl
        have hfs24 := blk_frozen BK113.out 2
        refine skip_ (w1 := ?_) (by rfl) rfl ?_ ?_
        rotate_left
        ·
         go_simp
         rfl
        refine hK.out _ _ ?_
        clear hK K
        refine done_ (done_of HT_.out (by kernel_rfl)) ?_
        try go_wp2
        go_roundg k2
        case measure => have := HK1.out; have := HK2.out; omega
        case rel => exact ⟨(wrap64 (x8_2 + 1)), (t118), (t119), (y120), (.slice Ao23 y120.length co23), (by first | rfl | (simp; done) | (simp [*]; done)), H', ⟨by have := HK1.out; have := HK2.out; omega⟩, ⟨by (with_reducible repeat (first | apply Kd.S_alloc | apply Kd.S_drewN | apply Kd.S_drew)); exact Kd.S_mono (Kd.S_far (p := ⟨gb113, 2, none⟩) (Kd.S_mono HO_5.out (fun k_ hk => (⟨hk, hk.1.2.2⟩ : _ ∧ k_ ≠ gb113))) (fun _ hk => hk.2) (.slice Ao23 y120.length co23)) (fun _ hk => ⟨hk.1.1.1, ⟨hk.1.2, hk.1.1.2.2⟩⟩)⟩, ⟨by (with_reducible repeat (first | apply Kd.R_alloc | apply Kd.R_drewN | apply Kd.R_drew)); exact Kd.R_mono (Kd.R_far (p := ⟨gb113, 2, none⟩) (Kd.R_types HO122.out BK113.out (by decide)) (fun _ hk => hk.2) (.slice Ao23 y120.length co23)) (fun _ hk => hk.1.1)⟩, ⟨by refine bk ?_; refine blk_put (cs := #[.int .i64 (wrap64 (1 + t101)), .int .i64 (wrap64 (1 + t104)), u114002]) ?_ 2 _ rfl; refine bk ?_; exact BK113.out⟩, ⟨pI115 HI0.out⟩, ⟨pK HK.out⟩, ⟨(pV HB.out (IsS115.ge HI0.out))⟩⟩
       rw [if_neg c16] at H
       exact absurd H (by simp)
      rw [if_neg c14] at H
      have c14b0 : decide (x8_2 < (wrap64 ((wrap64 (1 + t101)) * (wrap64 (1 + t104))))) = false := decide_eq_false c14
      clear c14
      by_cases c25 : x5_1.length < 3518437208883
      ·
       rw [if_pos c25] at H
       have LMc25 := Aside0.mk c25
       clear c25
       obtain ⟨y123, hy123⟩ : ∃ y_ : List (S29), y_ = (x5_1 ++ [(⟨(wrap64 (1 + t101)), (wrap64 (1 + t104)), x114002_2⟩ : S29)]) := ⟨_, rfl⟩
       replace H : (spec_l1Cur_ensemble.l0 k2 (wrap64 (1 + t101)) (wrap64 (1 + t104)) y123 (wrap64 (x6_1 - 1)) s0_0 x1001_2 x1002_2) = some (r1, r2, r3) := by first | (rw [hy123]; with_reducible exact H) | (have H2_ := (Option.bind_some _ _).symm.trans H; rw [hy123]; with_reducible exact H2_) | (have H2_ := (Option.bind_some _ _).symm.trans H; with_reducible exact H2_) | with_reducible exact H | (rw [hy123]; exact H) | exact H
       have Ny123 := Aside0.mk hy123
       clear hy123
       have H' := Aside0.mk H
       clear H
       have hnb26 := NB113_0.out
       have hnc26 := NB0_113.out
       obtain ⟨hcz27_0, hcz27_1, hcz27_2, hfz27_0, hfz27_1, hfz27_2⟩ := bc3 BK113.out
       obtain ⟨Ao29, co29, eo29⟩ := Kd.R_slice HO_114002.out
       subst eo29
       go_wp2_with (first | ((with_reducible refine gate_builtin (b := .append) (xs := #[.tmp 41, .tmp 43]) rfl ?_); at_builtin; refine Kd.S_append k29 w.heap.size rfl (.tmp 41) (.tmp 43) 50 29 (.agg #[(.int .i64 0), (.int .i64 0), (.slice none 0 0)]) 40 rfl Try.underlying50 info29 rfl (by decide) (by omega) u5 x5_1 (⟨(wrap64 (1 + t101)), (wrap64 (1 + t104)), x114002_2⟩ : S29) [.int .i64 (wrap64 (1 + t101)), .int .i64 (wrap64 (1 + t104)), .slice Ao29 x114002_2.length co29] (fun k_ => (w.heap.size ≤ k_) ∧ k_ ≠ gb113) (fun k_ => some k_ = (.slice Ao29 x114002_2.length co29 : Value).ownBlock) rfl rfl ?aP (fun k_ hk_ => ((Kd.R_mono (ok' := fun k_ => ((fun k_ => (w.heap.size ≤ k_) ∧ k_ ≠ gb113)) k_ ∧ some k_ ≠ (u5 : Value).ownBlock) (Kd.R_types (Kd.R_apart' (HO_114002.out) (Kd.S_typed HO_5.out) (by decide)) BK113.out (by decide)) (fun k_ hk => ⟨⟨hk.1.1, hk.2⟩, hk.1.2⟩))).1 k_ hk_.symm) ?aF ?aO (Below.refl _ _) ?aS ?aL ?_; (case aP => exact k29_mkM _ _ _ (⟨(wrap64 (1 + t101)), (wrap64 (1 + t104)), x114002_2⟩ : S29) (Kd.R_mono (Kd.R_tight rfl (Kd.R_mono (ok' := fun k_ => ((fun k_ => (w.heap.size ≤ k_) ∧ k_ ≠ gb113)) k_ ∧ some k_ ≠ (u5 : Value).ownBlock) (Kd.R_types (Kd.R_apart' (HO_114002.out) (Kd.S_typed HO_5.out) (by decide)) BK113.out (by decide)) (fun k_ hk => ⟨⟨hk.1.1, hk.2⟩, hk.1.2⟩))) (fun _ h_ => h_))); (case aF => exact (fun k_ hk => ⟨(Nat.le_trans (keep_size (w := w) (g := g) (row := none) (pK HK.out)) hk), Kd.freshB (g := gb113) (o := .cells #[.int .i64 (wrap64 (1 + t101)), .int .i64 (wrap64 (1 + t104)), .slice Ao29 x114002_2.length co29] 29 (0, 0)) (pB BK113.out) k_ hk⟩)); (case aO => exact (by (with_reducible repeat (first | apply Kd.S_alloc | apply Kd.S_drewN | apply Kd.S_drew)); exact Kd.S_mono HO_5.out (fun k_ hk => ⟨⟨hk.1, hk.2.2⟩, fun e_ => hk.2.1 e_⟩))); (case aS => exact (keep_size (w := w) (g := g) (row := none) (pK HK.out))); (case aL => have := LMc25.out; omega); intro v124 w28 ho hb hg hat; rw [← Ny123.out] at ho; have n0_ := aK (blk_grown (pB BK113.out) hg (Kd.S_away HO_5.out (fun _ hk => hk.2.2))); have n1_ := aK (IsS115.grown (pI115 HI0.out) hg (IsS115.own_neS HI0.out HO_5.out (by decide))); have n2_ := aK (below_weaken ((pV HB.out (IsS115.ge HI0.out))) HL.out hb); have n3_ := aK (KeepBut.trans (pK HK.out) (KeepBut.of_grown hg g) (Kd.S_base2 HO_5.out)); have HO125 := aK (ho); clear BK113 HI0 HB HK HO_5 HO_114002; have BK113 := n0_; have HI0 := n1_; have HB := n2_; have HK := n3_; clear n0_ n1_ n2_ n3_; clear ho hb hg hat))
       go_roundg k2
       case measure => have := HK1.out; have := HK2.out; omega
       case rel => exact ⟨(y123), (wrap64 (x6_1 - 1)), (x1001_2), (x1002_2), (by first | rfl | (simp; done) | (simp [*]; done)), H', ⟨by have := HK1.out; have := HK2.out; omega⟩, ⟨by (with_reducible repeat (first | apply Kd.S_alloc | apply Kd.S_drewN | apply Kd.S_drew)); exact Kd.S_mono HO125.out (fun _ hk => hk.1)⟩, ⟨pI115 HI0.out⟩, ⟨pK HK.out⟩, ⟨(pV HB.out (IsS115.ge HI0.out))⟩⟩
      rw [if_neg c25] at H
      exact absurd H (by simp)
   rw [if_neg c10] at H
   have c10b0 : decide (0 < x6_1) = false := decide_eq_false c10
   clear c10
   replace H := Option.bind_eq_some_iff.mp H
   obtain ⟨⟨t126, t127, t128⟩, A300, H⟩ := H
   replace H : (if t126 = 0 then ((spec_l1Cur_anyField.f k1 s0_0 t127 t128).bind fun bt129 => (if x5_1.length < 3518437208883 then (some ((x5_1 ++ [(⟨bt129.1, bt129.2.1, bt129.2.2.1⟩ : S29)]), bt129.2.2.2.1, bt129.2.2.2.2)) else (none))) else (if t126 = 1 then (some ((([] : List (S29))), t127, t128)) else (if t126 = 2 then (spec_l1Cur_ensemble.l2 k1 x5_1 s0_0 t127 t128) else (if t126 = 3 then (if 0 < (x5_1.length : Int) then ((spec_l1Cur_among.f s0_0 t127 t128 (([9001, (-9000), 9000] : List Int))).bind fun bt158 => (if 0 < (((rd_T29 x5_1 0).f2).length : Int) then (some ((x5_1.set (0 : Int).toNat (⟨(rd_T29 x5_1 0).f0, (rd_T29 x5_1 0).f1, (((rd_T29 x5_1 0).f2).set (0 : Int).toNat bt158.1)⟩ : S29)), bt158.2.1, bt158.2.2)) else (none))) else (none)) else (some (x5_1, t127, t128)))))) = some (r1, r2, r3) := H
   have A30 := Aside0.mk A300
   clear A300
   by_cases c31 : t126 = 0
   ·
    rw [if_pos c31] at H
    have c31b0 : (t126 == 0) = true := beq_iff_eq.mpr c31
    have c31b1 : (t126 != 0) = false := bne_eq_false_iff_eq.mpr c31
    clear c31
    replace H := Option.bind_eq_some_iff.mp H
    obtain ⟨⟨t129, t130, t131, t134, t135⟩, A320, H⟩ := H
    replace H : (if x5_1.length < 3518437208883 then (some ((x5_1 ++ [(⟨t129, t130, t131⟩ : S29)]), t134, t135)) else (none)) = some (r1, r2, r3) := H
    have A32 := Aside0.mk A320
    clear A320
    by_cases c33 : x5_1.length < 3518437208883
    ·
     rw [if_pos c33] at H
     have LMc33 := Aside0.mk c33
     clear c33
     obtain ⟨y136, hy136⟩ : ∃ y_ : List (S29), y_ = (x5_1 ++ [(⟨t129, t130, t131⟩ : S29)]) := ⟨_, rfl⟩
     replace H : (some (y136, t134, t135)) = some (r1, r2, r3) := by first | (rw [hy136]; with_reducible exact H) | (have H2_ := (Option.bind_some _ _).symm.trans H; rw [hy136]; with_reducible exact H2_) | (have H2_ := (Option.bind_some _ _).symm.trans H; with_reducible exact H2_) | with_reducible exact H | (rw [hy136]; exact H) | exact H
     have Ny136 := Aside0.mk hy136
     clear hy136
     simp only [Option.some.injEq, Prod.mk.injEq] at H
     obtain ⟨rfl, rfl, rfl⟩ := H
     go_wp2_with (first | ((with_reducible refine gate_callee (f := 117) rfl ?_); refine gl (some 46) Try.func117 #[.pointer (some ⟨g, 0, none⟩), .int .i64 40] ?_; (with_reducible refine (spec_l1Cur_pick.calls g s0_0 x1001_1 x1002_1 40 t126 t127 t128 w0 _ ?side1 ?side2 A30.out).mono ?_); (case side1 => exact pI115 HI0.out); (case side2 => exact pV HB.out (IsS115.ge HI0.out)); rintro e w34 ⟨rfl, hi, hb, hk⟩; refine ⟨_, rfl, ?_⟩; have n0_ := aK (Kd.S_mono (Kd.S_keep (IsS115.apartS (show IsS115 w0 _ g s0_0 x1001_1 x1002_1 from pI115 HI0.out) (by (with_reducible repeat (first | apply Kd.S_alloc | apply Kd.S_drewN | apply Kd.S_drew)); exact HO_5.out) (by decide)) hk (fun _ h => h.2)) (fun _ h => h.1)); have n1_ := aK (KeepBut.trans (pK HK.out) hk (.inl rfl)); have n2_ := aK (hb); have n3_ := aK (hi); clear HO_5 HK HB HI0; have HO_5 := n0_; have HK := n1_; have HB := n2_; have HI0 := n3_; clear n0_ n1_ n2_ n3_; (try clear hb); (try clear hb2); (try clear hk); (try clear hi)) | ((with_reducible refine gate_callee (f := 108) rfl ?_); refine gl (some 51) Try.func108 #[.pointer (some ⟨g, 0, none⟩)] ?_; (with_reducible refine (spec_l1Cur_anyField.calls k1 g s0_0 t127 t128 t129 t130 t131 t134 t135 w0 _ ?side1 ?side2 A32.out).mono ?_); (case side1 => exact pI115 HI0.out); (case side2 => exact pV HB.out (IsS115.ge HI0.out)); rintro e w35 ⟨v132, rfl, ho0, hi, hb, hk⟩; refine ⟨_, rfl, ?_⟩; have n0_ := aK (Kd.S_mono (Kd.S_told (Kd.S_oldK (IsS115.apartS (show IsS115 w0 _ g s0_0 t127 t128 from pI115 HI0.out) (by (with_reducible repeat (first | apply Kd.S_alloc | apply Kd.S_drewN | apply Kd.S_drew)); exact HO_5.out) (by decide)) hk) (Kd.Q_base ho0)) (fun _ h_ => h_.1)); have HO133 := aK (Kd.Q_lower (Kd.Q_newM (M := fun k_ => (w.heap.size ≤ k_)) ho0 (keep_size (w := w) (g := g) (row := none) (pK HK.out)) (fun k_ h_ => h_)) (keep_size (w := w) (g := g) (row := none) (pK HK.out))); have n2_ := aK (KeepBut.trans (pK HK.out) hk (.inl rfl)); have n3_ := aK (hb); have n4_ := aK (hi); clear HO_5 HK HB HI0; have HO_5 := n0_; have HK := n2_; have HB := n3_; have HI0 := n4_; clear n0_ n2_ n3_ n4_; (try clear hb); (try clear hb2); (try clear hk); (try clear hi); (try clear ho0); obtain ⟨Ao37, co37, eo37, _⟩ := Kd.Q_slice HO133.out; subst eo37) | ((with_reducible refine gate_builtin (b := .append) (xs := #[.tmp 49, .tmp 52]) rfl ?_); at_builtin; refine Kd.N_append k29 w.heap.size rfl (.tmp 49) (.tmp 52) 50 29 (.agg #[(.int .i64 0), (.int .i64 0), (.slice none 0 0)]) 40 rfl Try.underlying50 info29 rfl (by decide) (by omega) u5 x5_1 (⟨t129, t130, t131⟩ : S29) [.int .i64 t129, .int .i64 t130, .slice Ao37 t131.length co37] (fun k_ => (w.heap.size ≤ k_) ∧ k_ ≠ g) (fun k_ => ((fun k_ => (w.heap.size ≤ k_) ∧ k_ ≠ g)) k_ ∧ some k_ ≠ (u5 : Value).ownBlock) rfl rfl ?aP (fun _ hk => hk) ?aF ?aO (Below.refl _ _) ?aS ?aL ?_; (case aP => exact (k29_mkF _ _ (⟨t129, t130, t131⟩ : S29) (Kd.Q_reads' (Kd.Q_mono (ok' := (fun k_ => ((fun k_ => (w.heap.size ≤ k_) ∧ k_ ≠ g)) k_ ∧ some k_ ≠ (u5 : Value).ownBlock)) (IsS115.apartQ HI0.out (Kd.Q_apart' (HO133.out) (Kd.S_typed HO_5.out) (by decide)) (by decide)) (fun k_ hk => ⟨⟨hk.1.1.1, hk.2⟩, hk.1.2⟩))).2.1 (Kd.Q_F (Kd.Q_mono (ok' := (fun k_ => ((fun k_ => (w.heap.size ≤ k_) ∧ k_ ≠ g)) k_ ∧ some k_ ≠ (u5 : Value).ownBlock)) (IsS115.apartQ HI0.out (Kd.Q_apart' (HO133.out) (Kd.S_typed HO_5.out) (by decide)) (by decide)) (fun k_ hk => ⟨⟨hk.1.1.1, hk.2⟩, hk.1.2⟩))))); (case aF => exact (fun k_ hk => ⟨(Nat.le_trans (keep_size (w := w) (g := g) (row := none) (pK HK.out)) hk), IsS115.fresh (pI115 HI0.out) k_ hk⟩)); (case aO => exact ((Kd.R_N (Kd.S_R (by (with_reducible repeat (first | apply Kd.S_alloc | apply Kd.S_drewN | apply Kd.S_drew)); exact Kd.S_mono (IsS115.apartS HI0.out HO_5.out (by decide)) (fun _ hk => ⟨hk.1.1, hk.2⟩)))))); (case aS => exact (keep_size (w := w) (g := g) (row := none) (pK HK.out))); (case aL => have := LMc33.out; omega); intro v137 w36 ho hb hg hat; rw [← Ny136.out] at ho; have n0_ := aK (IsS115.grown (pI115 HI0.out) hg (IsS115.own_neS HI0.out HO_5.out (by decide))); have n1_ := aK (below_weaken ((pV HB.out (IsS115.ge HI0.out))) HL.out hb); have n2_ := aK (KeepBut.trans (pK HK.out) (KeepBut.of_grown hg g) (Kd.S_base2 HO_5.out)); have HO138 := aK (ho); clear HI0 HB HK HO_5 HO133; have HI0 := n0_; have HB := n1_; have HK := n2_; clear n0_ n1_ n2_; clear ho hb hg hat))
     go_ret
     exact ⟨_, er, Kd.N_V (by (with_reducible repeat (first | apply Kd.N_alloc | apply Kd.N_drewN | apply Kd.N_drew)); exact Kd.N_mono HO138.out (fun _ hk => hk.1)), pI115 HI0.out, (pV HB.out (IsS115.ge HI0.out)), pK HK.out⟩
    rw [if_neg c33] at H
    exact absurd H (by simp)
   rw [if_neg c31] at H
   have c31b0 : (t126 == 0) = false := beq_eq_false_iff_ne.mpr c31
   have c31b1 : (t126 != 0) = true := bne_iff_ne.mpr c31
   by_cases c38 : t126 = 1
   ·
    rw [if_pos c38] at H
    have c38b0 : (t126 == 1) = true := beq_iff_eq.mpr c38
    have c38b1 : (t126 != 1) = false := bne_eq_false_iff_eq.mpr c38
    clear c38
    obtain ⟨y139, hy139⟩ : ∃ y_ : List (S29), y_ = (([] : List (S29))) := ⟨_, rfl⟩
    replace H : (some (y139, t127, t128)) = some (r1, r2, r3) := by first | (rw [hy139]; with_reducible exact H) | (have H2_ := (Option.bind_some _ _).symm.trans H; rw [hy139]; with_reducible exact H2_) | (have H2_ := (Option.bind_some _ _).symm.trans H; with_reducible exact H2_) | with_reducible exact H | (rw [hy139]; exact H) | exact H
    have Ny139 := Aside0.mk hy139
    clear hy139
    simp only [Option.some.injEq, Prod.mk.injEq] at H
    obtain ⟨rfl, rfl, rfl⟩ := H
    go_wp2_with (first | ((with_reducible refine gate_callee (f := 117) rfl ?_); refine gl (some 46) Try.func117 #[.pointer (some ⟨g, 0, none⟩), .int .i64 40] ?_; (with_reducible refine (spec_l1Cur_pick.calls g s0_0 x1001_1 x1002_1 40 t126 t127 t128 w0 _ ?side1 ?side2 A30.out).mono ?_); (case side1 => exact pI115 HI0.out); (case side2 => exact pV HB.out (IsS115.ge HI0.out)); rintro e w39 ⟨rfl, hi, hb, hk⟩; refine ⟨_, rfl, ?_⟩; have n0_ := aK (Kd.S_mono (Kd.S_keep (IsS115.apartS (show IsS115 w0 _ g s0_0 x1001_1 x1002_1 from pI115 HI0.out) (by (with_reducible repeat (first | apply Kd.S_alloc | apply Kd.S_drewN | apply Kd.S_drew)); exact HO_5.out) (by decide)) hk (fun _ h => h.2)) (fun _ h => h.1)); have n1_ := aK (KeepBut.trans (pK HK.out) hk (.inl rfl)); have n2_ := aK (hb); have n3_ := aK (hi); clear HO_5 HK HB HI0; have HO_5 := n0_; have HK := n1_; have HB := n2_; have HI0 := n3_; clear n0_ n1_ n2_ n3_; (try clear hb); (try clear hb2); (try clear hk); (try clear hi)) | ((with_reducible refine gate_dst (N := 56) rfl ?_); refine Kd.S_lit k29 _ 29 ?hg (N := 56) ?hd (xs := ([] : List (S29))) (inner := []) (ok := fun _ => True) (okp := fun _ => True) ?hr ?hp (fun _ hk => hk) trivial (Below.refl _ _) (Nat.le_refl _) (by simp) ?_; (case hd => rfl); (case hg => rfl); (case hr => first | (go_simp; done) | (go_simp; rfl)); (case hp => exact (Reps.none _ _)); intro v140 w40 ho41 hb hg_ hnew_; clear hg_ hnew_; (first | rw [← Ny139.out] at ho41 | (simp only [Int.reduceToNat] at ho41; rw [← Ny139.out] at ho41)); have n0_ := aK (Kd.S_elder' (by (with_reducible repeat (first | apply Kd.S_alloc | apply Kd.S_drewN | apply Kd.S_drew)); exact HO_5.out) (Kd.S_base ho41) hb); have HO141 := aK (Kd.S_lower (Kd.S_new' (Kd.S_newM (M := fun k_ => (w.heap.size ≤ k_)) ho41 (keep_size (w := w) (g := g) (row := none) (pK HK.out)) (fun k_ h_ => h_)) (Kd.S_lt (by (with_reducible repeat (first | apply Kd.S_alloc | apply Kd.S_drewN | apply Kd.S_drew)); exact HO_5.out))) (keep_size (w := w) (g := g) (row := none) (pK HK.out))); have n2_ := aK (IsS115.below (pI115 HI0.out) hb); have n3_ := aK (KeepBut.trans (pK HK.out) (KeepBut.of_below hb g none) (.inl rfl)); have n4_ := aK (below_step ((pV HB.out (IsS115.ge HI0.out))) hb); clear HO_5 HI0 HK HB; have HO_5 := n0_; have HI0 := n2_; have HK := n3_; have HB := n4_; clear n0_ n2_ n3_ n4_; clear hb ho41))
    go_ret
    exact ⟨_, er, Kd.S_V (by (with_reducible repeat (first | apply Kd.S_alloc | apply Kd.S_drewN | apply Kd.S_drew)); exact Kd.S_mono HO141.out (fun _ hk => hk.1.1)), pI115 HI0.out, (pV HB.out (IsS115.ge HI0.out)), pK HK.out⟩
   rw [if_neg c38] at H
   have c38b0 : (t126 == 1) = false := beq_eq_false_iff_ne.mpr c38
   have c38b1 : (t126 != 1) = true := bne_iff_ne.mpr c38
   by_cases c42 : t126 = 2
   ·
    rw [if_pos c42] at H
    have c42b0 : (t126 == 2) = true := beq_iff_eq.mpr c42
    have c42b1 : (t126 != 2) = false := bne_eq_false_iff_eq.mpr c42
    clear c42
    have H' := Aside0.mk H
    clear H
    go_wp2_with (first | ((with_reducible refine gate_callee (f := 117) rfl ?_); refine gl (some 46) Try.func117 #[.pointer (some ⟨g, 0, none⟩), .int .i64 40] ?_; (with_reducible refine (spec_l1Cur_pick.calls g s0_0 x1001_1 x1002_1 40 t126 t127 t128 w0 _ ?side1 ?side2 A30.out).mono ?_); (case side1 => exact pI115 HI0.out); (case side2 => exact pV HB.out (IsS115.ge HI0.out)); rintro e w43 ⟨rfl, hi, hb, hk⟩; refine ⟨_, rfl, ?_⟩; have n0_ := aK (Kd.S_mono (Kd.S_keep (IsS115.apartS (show IsS115 w0 _ g s0_0 x1001_1 x1002_1 from pI115 HI0.out) (by (with_reducible repeat (first | apply Kd.S_alloc | apply Kd.S_drewN | apply Kd.S_drew)); exact HO_5.out) (by decide)) hk (fun _ h => h.2)) (fun _ h => h.1)); have n1_ := aK (KeepBut.trans (pK HK.out) hk (.inl rfl)); have n2_ := aK (hb); have n3_ := aK (hi); clear HO_5 HK HB HI0; have HO_5 := n0_; have HK := n1_; have HB := n2_; have HI0 := n3_; clear n0_ n1_ n2_ n3_; (try clear hb); (try clear hb2); (try clear hk); (try clear hi)))
    go_loopg [5] k1 (fun kq v5 w' => ∃ (x5_2 : List (S29)) (x1001_2 : Int) (x1002_2 : Int), Aside0 (spec_l1Cur_ensemble.l2 kq x5_2 s0_0 x1001_2 x1002_2 = some (r1, r2, r3)) ∧ Aside0 (kq ≤ k1) ∧ Aside0 (Kd.S k29 29 w' w.heap.size (fun k_ => (w.heap.size ≤ k_)) v5 x5_2) ∧ Aside0 (IsS115 w0 w' g s0_0 x1001_2 x1002_2) ∧ Aside0 (KeepBut w w' g none) ∧ Aside0 (Below w0.heap.size w0 w'))
    case atStart => exact ⟨(x5_1), (t127), (t128), H', ⟨Nat.le_refl _⟩, ⟨by (with_reducible repeat (first | apply Kd.S_alloc | apply Kd.S_drewN | apply Kd.S_drew)); exact HO_5.out⟩, ⟨pI115 HI0.out⟩, ⟨pK HK.out⟩, ⟨(pV HB.out (IsS115.ge HI0.out))⟩⟩
    case round =>
     clear H'
     try clear c1
     try clear c2
     try clear p2
     try clear c3
     try clear c4
     try clear p6
     try clear c10
     try clear c10b0
     try clear c11
     try clear c12
     try clear c14
     try clear c14b0
     try clear c16
     try clear c25
     try clear c26
     try clear c31
     try clear c31b0
     try clear c31b1
     try clear c33
     try clear c38
     try clear c38b0
     try clear c38b1
     try clear c42
     try clear c42b0
     try clear c42b1
     try clear hcz13_0
     try clear hcz13_1
     try clear hcz13_2
     try clear hcz27_0
     try clear hcz27_1
     try clear hcz27_2
     try clear hfz13_0
     try clear hfz13_1
     try clear hfz13_2
     try clear hfz27_0
     try clear hfz27_1
     try clear hfz27_2
     try clear p2
     try clear p6
     obtain ⟨x5_2, x1001_2, x1002_2, HA, HK2, HO_5, HI0, HK, HB⟩ := hrel
     cases gk with
     | zero => exact absurd HA.out (by simp [spec_l1Cur_ensemble.l2])
     | succ k2 =>
      have H := HA.out
      clear HA
      simp only [spec_l1Cur_ensemble.l2] at H
      replace H := Option.bind_eq_some_iff.mp H
      obtain ⟨⟨t142, t143, t144⟩, A440, H⟩ := H
      replace H : (if (x5_2.length : Int) < (wrap64 (8 + t142)) then (if 0 < (x5_2.length : Int) then ((spec_l2Own.f ((rd_T29 x5_2 0).f0) ((rd_T29 x5_2 0).f1) ((rd_T29 x5_2 0).f2)).bind fun bt146 => (if x5_2.length < 3518437208883 then (spec_l1Cur_ensemble.l2 k2 (x5_2 ++ [(⟨bt146.1, bt146.2.1, bt146.2.2⟩ : S29)]) s0_0 t143 t144) else (none))) else (none)) else (some (x5_2, t143, t144))) = some (r1, r2, r3) := H
      have A44 := Aside0.mk A440
      clear A440
      by_cases c45 : (x5_2.length : Int) < (wrap64 (8 + t142))
      ·
       rw [if_pos c45] at H
       have c45b0 : decide ((x5_2.length : Int) < (wrap64 (8 + t142))) = true := decide_eq_true c45
       clear c45
       by_cases c46 : 0 < (x5_2.length : Int)
       ·
        rw [if_pos c46] at H
        have c46b0 : decide (0 < (x5_2.length : Int)) = true := decide_eq_true c46
        have c46b1 : decide (0 < x5_2.length) = true := decide_eq_true (by omega)
        clear c46
        replace H := Option.bind_eq_some_iff.mp H
        obtain ⟨⟨t146, t147, t148⟩, A470, H⟩ := H
        replace H : (if x5_2.length < 3518437208883 then (spec_l1Cur_ensemble.l2 k2 (x5_2 ++ [(⟨t146, t147, t148⟩ : S29)]) s0_0 t143 t144) else (none)) = some (r1, r2, r3) := H
        have A47 := Aside0.mk A470
        clear A470
        by_cases c48 : x5_2.length < 3518437208883
        ·
         rw [if_pos c48] at H
         have LMc48 := Aside0.mk c48
         clear c48
         obtain ⟨y151, hy151⟩ : ∃ y_ : List (S29), y_ = (x5_2 ++ [(⟨t146, t147, t148⟩ : S29)]) := ⟨_, rfl⟩
         replace H : (spec_l1Cur_ensemble.l2 k2 y151 s0_0 t143 t144) = some (r1, r2, r3) := by first | (rw [hy151]; with_reducible exact H) | (have H2_ := (Option.bind_some _ _).symm.trans H; rw [hy151]; with_reducible exact H2_) | (have H2_ := (Option.bind_some _ _).symm.trans H; with_reducible exact H2_) | with_reducible exact H | (rw [hy151]; exact H) | exact H
         have Ny151 := Aside0.mk hy151
         clear hy151
         have H' := Aside0.mk H
         clear H
         obtain ⟨Ao49, co49, eo49⟩ := Kd.S_slice HO_5.out
         subst eo49
         go_wp2_with (first | ((with_reducible refine gate_callee (f := 117) rfl ?_); refine gl (some 62) Try.func117 #[.pointer (some ⟨g, 0, none⟩), .int .i64 2] ?_; (with_reducible refine (spec_l1Cur_pick.calls g s0_0 x1001_2 x1002_2 2 t142 t143 t144 w0 _ ?side1 ?side2 A44.out).mono ?_); (case side1 => exact pI115 HI0.out); (case side2 => exact pV HB.out (IsS115.ge HI0.out)); rintro e w50 ⟨rfl, hi, hb, hk⟩; refine ⟨_, rfl, ?_⟩; have n0_ := aK (Kd.S_mono (Kd.S_keep (IsS115.apartS (show IsS115 w0 _ g s0_0 x1001_2 x1002_2 from pI115 HI0.out) (by (with_reducible repeat (first | apply Kd.S_alloc | apply Kd.S_drewN | apply Kd.S_drew)); exact HO_5.out) (by decide)) hk (fun _ h => h.2)) (fun _ h => h.1)); have n1_ := aK (KeepBut.trans (pK HK.out) hk (.inl rfl)); have n2_ := aK (hb); have n3_ := aK (hi); clear HO_5 HK HB HI0; have HO_5 := n0_; have HK := n1_; have HB := n2_; have HI0 := n3_; clear n0_ n1_ n2_ n3_; (try clear hb); (try clear hb2); (try clear hk); (try clear hi); have p145 : 0 ≤ (0 : Int) := (by omega); have q145 : 0 < (x5_2.length : Int) := of_decide_eq_true (by first | (with_reducible assumption) | assumption); obtain ⟨ad145, A145_2, c145_2, e145, hx145_0, hx145_1, hx145_2, hl145_2, hi145_2⟩ := at_T29 (Kd.S_reads' HO_5.out).2.2 0 p145 q145; cases e145; obtain ⟨ce145, hce145, hMe145, hcc145⟩ := Kd.S_get HO_5.out z29 0 p145 (by first | exact q145 | exact of_decide_eq_true (by first | (with_reducible assumption) | assumption) | (have e_ := (Kd.S_reads' HO_5.out).1; omega)); obtain ⟨ve145_2, rfl, ge145_2⟩ := k29_openM hMe145; have hv145_2 := hcc145 2 _ rfl; rw [add_field _ _ 2 (by omega)] at hv145_2; replace hv145_2 := Option.some.inj (hv145_2.symm.trans hx145_2); rw [hv145_2] at ge145_2; have HL145_2 := aK (show Kd.R (Kd.int .i64) 3 _ _ _ _ ((rd_T29 x5_2 0).f2) from ge145_2); clear hv145_2 ge145_2; have HX145_2 := Aside0.mk hx145_2; clear hcc145 hce145; have qi145 : (0 < x5_2.length) = True := eq_true (by omega); (try rw [show ((0 : Int)).toNat = 0 from rfl] at hx145_0); (try rw [show 0 * 3 = 0 from rfl] at hx145_0); (try rw [Addr.add_zero'] at hx145_0); (try rw [show ((0 : Int)).toNat = 0 from rfl] at hx145_1); (try rw [show 0 * 3 = 0 from rfl] at hx145_1); (try rw [Addr.add_zero'] at hx145_1); (try rw [show ((0 : Int)).toNat = 0 from rfl] at hx145_2); (try rw [show 0 * 3 = 0 from rfl] at hx145_2); (try rw [Addr.add_zero'] at hx145_2); have HR145_2 := Aside0.mk hi145_2; have HC145_2 := Aside0.mk hl145_2; clear hi145_2 hl145_2; replace p145 := eq_true p145; replace q145 := eq_true q145) | ((with_reducible refine gate_callee (f := 116) rfl ?_); refine gl (some 69) Try.func116 #[.agg #[.int .i64 ((rd_T29 x5_2 0).f0), .int .i64 ((rd_T29 x5_2 0).f1), .slice A145_2 ((rd_T29 x5_2 0).f2).length c145_2]] ?_; (with_reducible refine (spec_l2Own.calls ((rd_T29 x5_2 0).f0) ((rd_T29 x5_2 0).f1) _ _ ((rd_T29 x5_2 0).f2) t146 t147 t148 _ ?side1 ?side2 A47.out).mono ?_); (case side1 => repeat (first | exact (by repeat (first | (with_reducible exact HR145_2.out) | (with_reducible refine Kd.C_alloc ?_ _) | (with_reducible refine Kd.C_drewN ?_ _) | (with_reducible refine Kd.C_drew ?_) | exact HR145_2.out)) | (with_reducible refine Kd.C_alloc ?_ _) | (with_reducible refine Kd.C_drewN ?_ _) | (with_reducible refine Kd.C_drew ?_))); (case side2 => exact HC145_2.out); rintro e w51 ⟨v149, rfl, ho0, hb⟩; refine ⟨_, rfl, ?_⟩; have n0_ := aK (Kd.S_elder' (by (with_reducible repeat (first | apply Kd.S_alloc | apply Kd.S_drewN | apply Kd.S_drew)); exact HO_5.out) (Kd.R_base ho0) hb); have n1_ := aK (Kd.R_elder' (pR HL145_2.out) (Kd.R_base ho0) hb); have HO150 := aK (Kd.R_lower (nw1 (Kd.R_newM (M := fun k_ => (w.heap.size ≤ k_)) ho0 (keep_size (w := w) (g := g) (row := none) (pK HK.out)) (fun k_ h_ => h_)) (pR HL145_2.out)) (keep_size (w := w) (g := g) (row := none) (pK HK.out))); have n3_ := aK (IsS115.below (pI115 HI0.out) hb); have n4_ := aK (Kd.C_below (by repeat (first | (with_reducible exact HR145_2.out) | (with_reducible refine Kd.C_alloc ?_ _) | (with_reducible refine Kd.C_drewN ?_ _) | (with_reducible refine Kd.C_drew ?_) | exact HR145_2.out)) hb); have n5_ := aK (pw_cell_below hb HX145_2.out); have n6_ := aK (KeepBut.trans (pK HK.out) (KeepBut.of_below hb g none) (.inl rfl)); have n7_ := aK (below_step ((pV HB.out (IsS115.ge HI0.out))) hb); clear HO_5 HL145_2 HI0 HR145_2 HX145_2 HK HB; have HO_5 := n0_; have HL145_2 := n1_; have HI0 := n3_; have HR145_2 := n4_; have HX145_2 := n5_; have HK := n6_; have HB := n7_; clear n0_ n1_ n3_ n4_ n5_ n6_ n7_; (try clear hb); (try clear hb2); (try clear hk); (try clear hi); (try clear ho0); obtain ⟨Ao53, co53, eo53⟩ := Kd.R_slice HO150.out; subst eo53) | ((with_reducible refine gate_builtin (b := .append) (xs := #[.tmp 65, .tmp 70]) rfl ?_); at_builtin; refine Kd.S_append k29 w.heap.size rfl (.tmp 65) (.tmp 70) 50 29 (.agg #[(.int .i64 0), (.int .i64 0), (.slice none 0 0)]) 40 rfl Try.underlying50 info29 rfl (by decide) (by omega) (.slice (some ad145) x5_2.length co49) x5_2 (⟨t146, t147, t148⟩ : S29) [.int .i64 t146, .int .i64 t147, .slice Ao53 t148.length co53] (fun k_ => (w.heap.size ≤ k_)) (fun k_ => some k_ = (.slice Ao53 t148.length co53 : Value).ownBlock) rfl rfl ?aP (fun k_ hk_ => ((Kd.R_mono (ok' := fun k_ => ((fun k_ => (w.heap.size ≤ k_))) k_ ∧ some k_ ≠ (.slice (some ad145) x5_2.length co49 : Value).ownBlock) (Kd.R_apart' (HO150.out) (Kd.S_typed HO_5.out) (by decide)) (fun k_ hk => ⟨hk.1.1.1, hk.2⟩))).1 k_ hk_.symm) ?aF ?aO (Below.refl _ _) ?aS ?aL ?_; (case aP => exact k29_mkM _ _ _ (⟨t146, t147, t148⟩ : S29) (Kd.R_mono (Kd.R_tight rfl (Kd.R_mono (ok' := fun k_ => ((fun k_ => (w.heap.size ≤ k_))) k_ ∧ some k_ ≠ (.slice (some ad145) x5_2.length co49 : Value).ownBlock) (Kd.R_apart' (HO150.out) (Kd.S_typed HO_5.out) (by decide)) (fun k_ hk => ⟨hk.1.1.1, hk.2⟩))) (fun _ h_ => h_))); (case aF => exact (fun k_ hk => (Nat.le_trans (keep_size (w := w) (g := g) (row := none) (pK HK.out)) hk))); (case aO => exact (by (with_reducible repeat (first | apply Kd.S_alloc | apply Kd.S_drewN | apply Kd.S_drew)); exact Kd.S_mono HO_5.out (fun k_ hk => ⟨hk.1, fun e_ => hk.2 e_⟩))); (case aS => exact (keep_size (w := w) (g := g) (row := none) (pK HK.out))); (case aL => have := LMc48.out; omega); intro v152 w52 ho hb hg hat; rw [← Ny151.out] at ho; have n0_ := aK (IsS115.grown (pI115 HI0.out) hg (IsS115.own_neS HI0.out HO_5.out (by decide))); have n1_ := aK (Kd.R_after (ok := (fun k_ => (w.heap.size ≤ k_) ∧ some k_ ≠ (.slice Ao53 t148.length co53 : Value).ownBlock)) (pR (rP HL145_2.out)) hg hat); have n2_ := aK (below_weaken ((pV HB.out (IsS115.ge HI0.out))) HL.out hb); have n3_ := aK (KeepBut.trans (pK HK.out) (KeepBut.of_grown hg g) (Kd.S_base2 HO_5.out)); have HO153 := aK (ho); clear HI0 HL145_2 HB HK HO_5 HO150; have HI0 := n0_; have HL145_2 := n1_; have HB := n2_; have HK := n3_; clear n0_ n1_ n2_ n3_; clear ho hb hg hat))
         go_roundg k2
         case measure => have := HK1.out; have := HK2.out; omega
         case rel => exact ⟨(y151), (t143), (t144), H', ⟨by have := HK1.out; have := HK2.out; omega⟩, ⟨by (with_reducible repeat (first | apply Kd.S_alloc | apply Kd.S_drewN | apply Kd.S_drew)); exact HO153.out⟩, ⟨pI115 HI0.out⟩, ⟨pK HK.out⟩, ⟨(pV HB.out (IsS115.ge HI0.out))⟩⟩
        rw [if_neg c48] at H
        exact absurd H (by simp)
       rw [if_neg c46] at H
       exact absurd H (by simp)
      rw [if_neg c45] at H
      have c45b0 : decide ((x5_2.length : Int) < (wrap64 (8 + t142))) = false := decide_eq_false c45
      clear c45
      simp only [Option.some.injEq, Prod.mk.injEq] at H
      obtain ⟨rfl, rfl, rfl⟩ := H
      obtain ⟨Ao54, co54, eo54⟩ := Kd.S_slice HO_5.out
      subst eo54
      go_wp2_with (first | ((with_reducible refine gate_callee (f := 117) rfl ?_); refine gl (some 62) Try.func117 #[.pointer (some ⟨g, 0, none⟩), .int .i64 2] ?_; (with_reducible refine (spec_l1Cur_pick.calls g s0_0 x1001_2 x1002_2 2 t142 t143 t144 w0 _ ?side1 ?side2 A44.out).mono ?_); (case side1 => exact pI115 HI0.out); (case side2 => exact pV HB.out (IsS115.ge HI0.out)); rintro e w55 ⟨rfl, hi, hb, hk⟩; refine ⟨_, rfl, ?_⟩; have n0_ := aK (Kd.S_mono (Kd.S_keep (IsS115.apartS (show IsS115 w0 _ g s0_0 x1001_2 x1002_2 from pI115 HI0.out) (by (with_reducible repeat (first | apply Kd.S_alloc | apply Kd.S_drewN | apply Kd.S_drew)); exact HO_5.out) (by decide)) hk (fun _ h => h.2)) (fun _ h => h.1)); have n1_ := aK (KeepBut.trans (pK HK.out) hk (.inl rfl)); have n2_ := aK (hb); have n3_ := aK (hi); clear HO_5 HK HB HI0; have HO_5 := n0_; have HK := n1_; have HB := n2_; have HI0 := n3_; clear n0_ n1_ n2_ n3_; (try clear hb); (try clear hb2); (try clear hk); (try clear hi)))
      go_ret
      exact ⟨_, er, Kd.S_V (by (with_reducible repeat (first | apply Kd.S_alloc | apply Kd.S_drewN | apply Kd.S_drew)); exact HO_5.out), pI115 HI0.out, (pV HB.out (IsS115.ge HI0.out)), pK HK.out⟩
   rw [if_neg c42] at H
   have c42b0 : (t126 == 2) = false := beq_eq_false_iff_ne.mpr c42
   have c42b1 : (t126 != 2) = true := bne_iff_ne.mpr c42
   by_cases c56 : t126 = 3
   ·
    rw [if_pos c56] at H
    have c56b0 : (t126 == 3) = true := beq_iff_eq.mpr c56
    have c56b1 : (t126 != 3) = false := bne_eq_false_iff_eq.mpr c56
    clear c56
    by_cases c57 : 0 < (x5_1.length : Int)
    ·
     rw [if_pos c57] at H
     have c57b0 : decide (0 < (x5_1.length : Int)) = true := decide_eq_true c57
     have c57b1 : decide (0 < x5_1.length) = true := decide_eq_true (by omega)
     clear c57
     obtain ⟨y155, hy155⟩ : ∃ y_ : List Int, y_ = (([9001, (-9000), 9000] : List Int)) := ⟨_, rfl⟩
     replace H : ((spec_l1Cur_among.f s0_0 t127 t128 y155).bind fun bt158 => (if 0 < (((rd_T29 x5_1 0).f2).length : Int) then (some ((x5_1.set (0 : Int).toNat (⟨(rd_T29 x5_1 0).f0, (rd_T29 x5_1 0).f1, (((rd_T29 x5_1 0).f2).set (0 : Int).toNat bt158.1)⟩ : S29)), bt158.2.1, bt158.2.2)) else (none))) = some (r1, r2, r3) := by first | (rw [hy155]; with_reducible exact H) | (have H2_ := (Option.bind_some _ _).symm.trans H; rw [hy155]; with_reducible exact H2_) | (have H2_ := (Option.bind_some _ _).symm.trans H; with_reducible exact H2_) | with_reducible exact H | (rw [hy155]; exact H) | exact H
     have Ny155 := Aside0.mk hy155
     clear hy155
     replace H := Option.bind_eq_some_iff.mp H
     obtain ⟨⟨t158, t159, t160⟩, A580, H⟩ := H
     replace H : (if 0 < (((rd_T29 x5_1 0).f2).length : Int) then (some ((x5_1.set (0 : Int).toNat (⟨(rd_T29 x5_1 0).f0, (rd_T29 x5_1 0).f1, (((rd_T29 x5_1 0).f2).set (0 : Int).toNat t158)⟩ : S29)), t159, t160)) else (none)) = some (r1, r2, r3) := H
     have A58 := Aside0.mk A580
     clear A580
     by_cases c59 : 0 < (((rd_T29 x5_1 0).f2).length : Int)
     ·
      rw [if_pos c59] at H
      have c59b0 : decide (0 < (((rd_T29 x5_1 0).f2).length : Int)) = true := decide_eq_true c59
      have c59b1 : decide (0 < ((rd_T29 x5_1 0).f2).length) = true := decide_eq_true (by omega)
      clear c59
      obtain ⟨y161, hy161⟩ : ∃ y_ : List Int, y_ = (((rd_T29 x5_1 0).f2).set (0 : Int).toNat t158) := ⟨_, rfl⟩
      replace H : (some ((x5_1.set (0 : Int).toNat (⟨(rd_T29 x5_1 0).f0, (rd_T29 x5_1 0).f1, y161⟩ : S29)), t159, t160)) = some (r1, r2, r3) := by first | (rw [hy161]; with_reducible exact H) | (have H2_ := (Option.bind_some _ _).symm.trans H; rw [hy161]; with_reducible exact H2_) | (have H2_ := (Option.bind_some _ _).symm.trans H; with_reducible exact H2_) | with_reducible exact H | (rw [hy161]; exact H) | exact H
      have Ny161 := Aside0.mk hy161
      clear hy161
      obtain ⟨y163, hy163⟩ : ∃ y_ : List (S29), y_ = (x5_1.set (0 : Int).toNat (⟨(rd_T29 x5_1 0).f0, (rd_T29 x5_1 0).f1, y161⟩ : S29)) := ⟨_, rfl⟩
      replace H : (some (y163, t159, t160)) = some (r1, r2, r3) := by first | (rw [hy163]; with_reducible exact H) | (have H2_ := (Option.bind_some _ _).symm.trans H; rw [hy163]; with_reducible exact H2_) | (have H2_ := (Option.bind_some _ _).symm.trans H; with_reducible exact H2_) | with_reducible exact H | (rw [hy163]; exact H) | exact H
      have Ny163 := Aside0.mk hy163
      clear hy163
      simp only [Option.some.injEq, Prod.mk.injEq] at H
      obtain ⟨rfl, rfl, rfl⟩ := H
      try go_wp2_with (first | ((with_reducible refine gate_callee (f := 117) rfl ?_); refine gl (some 46) Try.func117 #[.pointer (some ⟨g, 0, none⟩), .int .i64 40] ?_; (with_reducible refine (spec_l1Cur_pick.calls g s0_0 x1001_1 x1002_1 40 t126 t127 t128 w0 _ ?side1 ?side2 A30.out).mono ?_); (case side1 => exact pI115 HI0.out); (case side2 => exact pV HB.out (IsS115.ge HI0.out)); rintro e w61 ⟨rfl, hi, hb, hk⟩; refine ⟨_, rfl, ?_⟩; have n0_ := aK (Kd.S_mono (Kd.S_keep (IsS115.apartS (show IsS115 w0 _ g s0_0 x1001_1 x1002_1 from pI115 HI0.out) (by (with_reducible repeat (first | apply Kd.S_alloc | apply Kd.S_drewN | apply Kd.S_drew)); exact HO_5.out) (by decide)) hk (fun _ h => h.2)) (fun _ h => h.1)); have n1_ := aK (KeepBut.trans (pK HK.out) hk (.inl rfl)); have n2_ := aK (hb); have n3_ := aK (hi); clear HO_5 HK HB HI0; have HO_5 := n0_; have HK := n1_; have HB := n2_; have HI0 := n3_; clear n0_ n1_ n2_ n3_; (try clear hb); (try clear hb2); (try clear hk); (try clear hi)))
      have n0_ := aK (Kd.S_drew HO_5.out)
      have n1_ := aK (IsS115.drew HI0.out)
      have n2_ := aK (keep_drew HK.out)
      have n3_ := aK (below_drew1 HB.out)
      clear HO_5 HI0 HK HB
      have HO_5 := n0_
      have HI0 := n1_
      have HK := n2_
      have HB := n3_
      clear n0_ n1_ n2_ n3_
      obtain ⟨Ao63, co63, eo63⟩ := Kd.S_slice HO_5.out
      (first | subst eo63 | (obtain ⟨f4_, f5_⟩ := sI eo63; subst f4_; subst f5_))
      have p154 : 0 ≤ (0 : Int) := (by omega)
      have q154 : 0 < (x5_1.length : Int) := of_decide_eq_true (by first | (with_reducible assumption) | assumption)
      obtain ⟨ad154, A154_2, c154_2, e154, hx154_0, hx154_1, hx154_2, hl154_2, hi154_2⟩ := at_T29 (Kd.S_reads' HO_5.out).2.2 0 p154 q154
      cases e154
      obtain ⟨ce154, hce154, hMe154, hcc154⟩ := Kd.S_get HO_5.out z29 0 p154 (by first | exact q154 | exact of_decide_eq_true (by first | (with_reducible assumption) | assumption) | (have e_ := (Kd.S_reads' HO_5.out).1; omega))
      obtain ⟨ve154_2, rfl, ge154_2⟩ := k29_openM hMe154
      have hv154_2 := hcc154 2 _ rfl
      rw [add_field _ _ 2 (by omega)] at hv154_2
      replace hv154_2 := Option.some.inj (hv154_2.symm.trans hx154_2)
      rw [hv154_2] at ge154_2
      have HL154_2 := aK (show Kd.R (Kd.int .i64) 3 _ _ _ _ ((rd_T29 x5_1 0).f2) from ge154_2)
      clear hv154_2 ge154_2
      have HX154_2 := Aside0.mk hx154_2
      clear hcc154 hce154
      have qi154 : (0 < x5_1.length) = True := eq_true (by omega)
      (try rw [show ((0 : Int)).toNat = 0 from rfl] at hx154_0)
      (try rw [show 0 * 3 = 0 from rfl] at hx154_0)
      (try rw [Addr.add_zero'] at hx154_0)
      (try rw [show ((0 : Int)).toNat = 0 from rfl] at hx154_1)
      (try rw [show 0 * 3 = 0 from rfl] at hx154_1)
      (try rw [Addr.add_zero'] at hx154_1)
      (try rw [show ((0 : Int)).toNat = 0 from rfl] at hx154_2)
      (try rw [show 0 * 3 = 0 from rfl] at hx154_2)
      (try rw [Addr.add_zero'] at hx154_2)
      have HR154_2 := Aside0.mk hi154_2
      have HC154_2 := Aside0.mk hl154_2
      clear hi154_2 hl154_2
      replace p154 := eq_true p154
      replace q154 := eq_true q154
      refine start_ (n := 9) (S := fun w' => w'.cell? ad154 = some (.int .i64 ((rd_T29 x5_1 0).f0)) ∧ w'.cell? ⟨ad154.block, ad154.off + 1, none⟩ = some (.int .i64 ((rd_T29 x5_1 0).f1)) ∧ w'.cell? ⟨ad154.block, ad154.off + 2, none⟩ = some (.slice A154_2 ((rd_T29 x5_1 0).f2).length c154_2)) (ds := [8]) #[false, false, false, false, false, false, false, false, false] (by kernel_rfl) rfl rfl ⟨hx154_0, hx154_1, hx154_2⟩ (fun hHeld => ?_); refine with_tabW spec_l1Cur_ensemble.tab21 spec_l1Cur_ensemble.bits21 (fun HT_ HW_ => ?_)
      generalize w61.drew = w62 at HO_5 HI0 HK HB HL154_2 HR154_2 HX154_2 hx154_0 hx154_1 hx154_2 hHeld ⊢
      refine pu (i := 0) (N := some 74) #[true, false, false, false, false, false, false, false, false] rfl rfl HT_.out ?_
      refine pu (i := 1) (N := some 75) #[true, true, false, false, false, false, false, false, false] rfl rfl HT_.out ?_
      refine pu (i := 2) (N := some 76) #[true, true, true, false, false, false, false, false, false] rfl rfl HT_.out ?_
      refine pu (i := 4) (N := some 78) #[true, true, true, false, true, false, false, false, false] rfl rfl HT_.out ?_
      refine tk (i := 3) (N := some 77) #[true, true, true, true, true, false, false, false, false] rfl rfl HT_.out HW_.out (Or.inl ⟨by rfl, by rintro w' ⟨s0, s1, s2⟩; go_simp; with_reducible rfl⟩) hHeld ?_
      refine one_ (i := 5) (N := some 79) #[true, true, true, true, true, true, false, false, false] rfl rfl (one_of HT_.out (by kernel_rfl)) (by decide) (fun K hK => ?_)
      refine Kd.R_lit_step (Kd.int .i64) _ 3 ?hg (N := 79) ?hd (xs := ([9001, (-9000), 9000] : List Int)) (inner := [.int .i64 9001, .int .i64 (-9000), .int .i64 9000]) (ok := fun _ => True) (okp := fun _ => True) ?hr ?hp (fun _ hk => hk) trivial (Below.refl _ _) (Nat.le_refl _) (by simp) ?_; (case hd => rfl); (case hg => rfl); (case hr => first | (go_simp; done) | (go_simp; rfl)); (case hp => exact (Reps.one (show Kd.M (Kd.int .i64) _ _ _ 9001 [.int .i64 9001] from rfl) (Reps.one (show Kd.M (Kd.int .i64) _ _ _ (-9000) [.int .i64 (-9000)] from rfl) (Reps.one (show Kd.M (Kd.int .i64) _ _ _ 9000 [.int .i64 9000] from rfl) (Reps.none _ _)))))
      intro v156 w64 ho65 hb hg_ hnew_
      have HS0_ := (hb.cell (World.block_lt_of_cell? _ _ (hHeld.1))).trans (hHeld.1)
      have HS1_ := (hb.cell (World.block_lt_of_cell? _ _ (hHeld.2.1))).trans (hHeld.2.1)
      have HS2_ := (hb.cell (World.block_lt_of_cell? _ _ (hHeld.2.2))).trans (hHeld.2.2)
      clear hg_ hnew_
      (first | rw [← Ny155.out] at ho65 | (simp only [Int.reduceToNat] at ho65; rw [← Ny155.out] at ho65))
      have n0_ := aK (Kd.S_elder' (by (with_reducible repeat (first | apply Kd.S_alloc | apply Kd.S_drewN | apply Kd.S_drew)); exact HO_5.out) (Kd.R_base ho65) hb)
      have n1_ := aK (Kd.R_elder' (pR HL154_2.out) (Kd.R_base ho65) hb)
      have HO157 := aK (Kd.R_lower (nw1 (Kd.R_newM (M := fun k_ => (w.heap.size ≤ k_)) ho65 (keep_size (w := w) (g := g) (row := none) (pK HK.out)) (fun k_ h_ => h_)) (pR HL154_2.out)) (keep_size (w := w) (g := g) (row := none) (pK HK.out)))
      have n3_ := aK (IsS115.below (pI115 HI0.out) hb)
      have n4_ := aK (Kd.C_below (by repeat (first | (with_reducible exact HR154_2.out) | (with_reducible refine Kd.C_alloc ?_ _) | (with_reducible refine Kd.C_drewN ?_ _) | (with_reducible refine Kd.C_drew ?_) | exact HR154_2.out)) hb)
      have n5_ := aK (pw_cell_below hb HX154_2.out)
      have n6_ := aK (KeepBut.trans (pK HK.out) (KeepBut.of_below hb g none) (.inl rfl))
      have n7_ := aK (below_step ((pV HB.out (IsS115.ge HI0.out))) hb)
      clear HO_5 HL154_2 HI0 HR154_2 HX154_2 HK HB
      have HO_5 := n0_
      have HL154_2 := n1_
      have HI0 := n3_
      have HR154_2 := n4_
      have HX154_2 := n5_
      have HK := n6_
      have HB := n7_
      clear n0_ n1_ n3_ n4_ n5_ n6_ n7_ hb ho65
      obtain ⟨Ao66, co66, eo66⟩ := Kd.R_slice HO157.out
      (first | subst eo66 | (obtain ⟨f4_, f5_⟩ := sI eo66; subst f4_; subst f5_))
      refine hK.out _ _ ⟨HS0_, HS1_, HS2_⟩ (fun hHeld => ?_)
      clear hK K
      refine norm_ (a' := ?_) ?_ ?_
      rotate_left
      ·
       show Act.put _ (some 79) _ = _
       simp only [sP]
       rfl
      refine one_ (i := 6) (N := some 80) #[true, true, true, true, true, true, true, false, false] rfl rfl (one_of HT_.out (by kernel_rfl)) (by decide) (fun K hK => ?_)
      refine goes_ Try.func112 (by kernel_rfl) rfl #[.pointer (some ⟨g, 0, none⟩), .slice Ao66 y155.length co66] (by rfl) rfl rfl (by (try simp only [List.map_toArray, List.map_cons, List.map_nil]); first | done | rfl | (simp only [List.length_drop, List.length_take]; rfl)) ?_
      with_reducible refine (spec_l1Cur_among.calls g s0_0 t127 t128 _ _ y155 t158 t159 t160 w0 _ ?side1 ?side2 ?side3 ?side4 ?side5 A58.out).mono ?_
      (case side1 => exact pI115 HI0.out)
      (case side2 => exact pV HB.out (IsS115.ge HI0.out))
      (case side3 => exact pC (Kd.R_reads' HO157.out).2.2)
      (case side4 => exact (Kd.R_reads' HO157.out).2.1)
      (case side5 => exact far_slice (IsS115.own_ne HI0.out HO157.out (by decide)))
      rintro e w67 ⟨rfl, hi, hb, hk⟩
      have HS0_ := keep_cell hk (hHeld.1) (by first | (rw [add_block]; exact Kd.own_blk (IsS115.own_neS HI0.out HO_5.out (by decide))) | (show (Addr.add _ _).block ≠ _; rw [add_block]; exact Kd.own_blk (IsS115.own_neS HI0.out HO_5.out (by decide))) | exact Kd.own_blk (IsS115.own_neS HI0.out HO_5.out (by decide)) | (have h_ := Kd.own_blk (IsS115.own_neS HI0.out HO_5.out (by decide)); exact h_))
      have HS1_ := keep_cell hk (hHeld.2.1) (by first | (rw [add_block]; exact Kd.own_blk (IsS115.own_neS HI0.out HO_5.out (by decide))) | (show (Addr.add _ _).block ≠ _; rw [add_block]; exact Kd.own_blk (IsS115.own_neS HI0.out HO_5.out (by decide))) | exact Kd.own_blk (IsS115.own_neS HI0.out HO_5.out (by decide)) | (have h_ := Kd.own_blk (IsS115.own_neS HI0.out HO_5.out (by decide)); exact h_))
      have HS2_ := keep_cell hk (hHeld.2.2) (by first | (rw [add_block]; exact Kd.own_blk (IsS115.own_neS HI0.out HO_5.out (by decide))) | (show (Addr.add _ _).block ≠ _; rw [add_block]; exact Kd.own_blk (IsS115.own_neS HI0.out HO_5.out (by decide))) | exact Kd.own_blk (IsS115.own_neS HI0.out HO_5.out (by decide)) | (have h_ := Kd.own_blk (IsS115.own_neS HI0.out HO_5.out (by decide)); exact h_))
      refine ⟨_, rfl, ?_⟩
      have n0_ := aK (Kd.S_mono (Kd.S_keep (IsS115.apartS (show IsS115 w0 _ g s0_0 t127 t128 from pI115 HI0.out) (by (with_reducible repeat (first | apply Kd.S_alloc | apply Kd.S_drewN | apply Kd.S_drew)); exact HO_5.out) (by decide)) hk (fun _ h => h.2)) (fun _ h => h.1))
      have n1_ := aK (Kd.R_mono (Kd.R_keep (IsS115.apart (show IsS115 w0 _ g s0_0 t127 t128 from pI115 HI0.out) (pR HL154_2.out) (by decide)) hk (fun _ h => h.2)) (fun _ h => h.1))
      have n2_ := aK (keep_cell hk HX154_2.out (by first | (rw [add_block]; exact Kd.own_blk (IsS115.own_neS HI0.out HO_5.out (by decide))) | (show (Addr.add _ _).block ≠ _; rw [add_block]; exact Kd.own_blk (IsS115.own_neS HI0.out HO_5.out (by decide))) | exact Kd.own_blk (IsS115.own_neS HI0.out HO_5.out (by decide)) | (dsimp only; exact Kd.own_blk (IsS115.own_neS HI0.out HO_5.out (by decide)))))
      have n3_ := aK (Kd.R_mono (Kd.R_keep (IsS115.apart (show IsS115 w0 _ g s0_0 t127 t128 from pI115 HI0.out) (pR HO157.out) (by decide)) hk (fun _ h => h.2)) (fun _ h => h.1))
      have n4_ := aK (KeepBut.trans (pK HK.out) hk (.inl rfl))
      have n5_ := aK (hb)
      have n6_ := aK (hi)
      clear HO_5 HL154_2 HX154_2 HO157 HK HB HI0
      have HO_5 := n0_
      have HL154_2 := n1_
      have HX154_2 := n2_
      have HO157 := n3_
      have HK := n4_
      have HB := n5_
      have HI0 := n6_
      clear n0_ n1_ n2_ n3_ n4_ n5_ n6_
      (try clear hb)
      (try clear hb2)
      (try clear hk)
      (try clear hi)
      have p60 : 0 ≤ (0 : Int) := (by omega)
      have q60 : (0 : Int) < ((((rd_T29 x5_1 0).f2).length : Int) : Int) := of_decide_eq_true (by first | (with_reducible assumption) | assumption)
      have qi60 : (0 < ((rd_T29 x5_1 0).f2).length) = True := eq_true (by omega)
      obtain ⟨go60, co60, eo60, gb60, gl60, cl60, HG60⟩ := Kd.R_form HL154_2.out (by omega)
      (first | cases eo60 | (injection eo60 with ea_ en_ ec_; (first | subst ea_ | (injection ea_ with ea_; subst ea_)); subst ec_; clear en_))
      have GB60 := Aside0.mk gb60
      have GG60 := Aside0.mk HG60
      clear gb60 gl60 HG60
      obtain ⟨hx60_0, hf60_0⟩ := Kd.R_celln 0 HL154_2.out (0 : Int) p60 q60
      (try rw [show ((0 : Int)).toNat = 0 from rfl] at hx60_0)
      (try simp only [Nat.reduceMul, Nat.zero_mul, Nat.zero_add, Nat.reduceAdd] at hx60_0)
      (try rw [show ((0 : Int)).toNat = 0 from rfl] at hf60_0)
      (try simp only [Nat.reduceMul, Nat.zero_mul, Nat.zero_add, Nat.reduceAdd] at hf60_0)
      replace p60 := eq_true p60
      replace q60 := eq_true q60
      have hq68 : (0 : Int) < (x5_1.length : Int) := (by have h_ : (0 : Int) < ((x5_1.length : Int) : Int) := of_decide_eq_true (by first | (with_reducible assumption) | assumption); first | exact h_ | (have e_ := (Kd.S_reads' HO_5.out).1; omega) | simpa only [List.length_set, List.length_set] using h_)
      obtain ⟨oki68, ce68, hcl68, hM68, hcc68, hok68, hbk68⟩ := Kd.S_borrow HO_5.out z29 (0 : Int) (by omega) hq68
      obtain ⟨ve68_2, rfl, ge68_2⟩ := k29_openM hM68
      have hv68 := hcc68 2 _ rfl
      rw [add_field _ _ 2 (by omega)] at hv68
      replace hv68 := Option.some.inj (hv68.symm.trans HX154_2.out)
      subst hv68
      clear hcc68 hcl68
      replace ge68_2 := (show Kd.R (Kd.int .i64) 3 _ _ _ _ ((rd_T29 x5_1 0).f2) from ge68_2)
      have HP68 := Kd.R_putg ge68_2 (0 : Int) t158
      have HN0_go60 := aK (show g ≠ go60 from by have h_ := IsS115.own_ne HI0.out HL154_2.out (by decide); intro e_; exact h_ (by rw [e_]; rfl))
      rw [← Ny161.out] at HP68
      have HS68 := hbk68 HP68.2 (fun k_ e_ => by injection e_ with e_; subst e_; exact ge68_2.1 _ rfl) (x' := (⟨(rd_T29 x5_1 0).f0, (rd_T29 x5_1 0).f1, y161⟩ : S29)) (k29_mkM _ _ _ (⟨(rd_T29 x5_1 0).f0, (rd_T29 x5_1 0).f1, y161⟩ : S29) HP68.1)
      rw [← Ny163.out] at HS68
      have HQ68 := Aside0.mk HS68
      clear HP68 HS68 hbk68 hok68
      refine hK.out _ _ ⟨HS0_, HS1_, HS2_⟩ (fun hHeld => ?_)
      clear hK K
      refine norm_ (a' := ?_) ?_ ?_
      rotate_left
      ·
       show Act.put _ (some 80) _ = _
       simp only [sP]
       rfl
      refine pu (i := 7) (N := some 81) #[true, true, true, true, true, true, true, true, false] rfl rfl HT_.out ?_
      refine last_ (i := 8) (N := none) #[true, true, true, true, true, true, true, true, true] rfl rfl (one_of HT_.out (by kernel_rfl)) (by decide) (fun K hK => ?_)
      refine skip_ (w1 := ?_) (by rfl) rfl ?_ ?_
      rotate_left
      ·
       go_simp
       rfl
      refine hK.out _ _ ?_
      clear hK K
      refine done_ (done_of HT_.out (by kernel_rfl)) ?_
      try go_wp2
      go_ret
      exact ⟨_, er, Kd.S_V (by (with_reducible repeat (first | apply Kd.S_alloc | apply Kd.S_drewN | apply Kd.S_drew)); exact Kd.S_mono HQ68.out (fun _ hk => hk.1)), by repeat (first | (with_reducible first | exact HI0.out | apply IsS115.alloc | apply IsS115.drewN | apply IsS115.drew | apply IsS115.set_1 | apply IsS115.set_2 | refine IsS115.far ?_ HN0_go60.out _) | exact HI0.out), by repeat (first | (with_reducible first | exact HB.out | apply below_alloc | apply pw_below_drewN | apply below_drew1 | refine below_set ?_ (Nat.le_trans HL.out GB60.out) | refine below_set ?_ (IsS115.ge HI0.out)) | exact HB.out), by repeat (first | (with_reducible first | exact HK.out | apply KeepBut.set_ | apply keep_drewN | apply keep_drew | apply keep_alloc | refine keep_far ?_ GB60.out _) | exact HK.out)⟩
     rw [if_neg c59] at H
     exact absurd H (by simp)
    rw [if_neg c57] at H
    exact absurd H (by simp)
   rw [if_neg c56] at H
   have c56b0 : (t126 == 3) = false := beq_eq_false_iff_ne.mpr c56
   have c56b1 : (t126 != 3) = true := bne_iff_ne.mpr c56
   simp only [Option.some.injEq, Prod.mk.injEq] at H
   obtain ⟨rfl, rfl, rfl⟩ := H
   go_wp2_with (first | ((with_reducible refine gate_callee (f := 117) rfl ?_); refine gl (some 46) Try.func117 #[.pointer (some ⟨g, 0, none⟩), .int .i64 40] ?_; (with_reducible refine (spec_l1Cur_pick.calls g s0_0 x1001_1 x1002_1 40 t126 t127 t128 w0 _ ?side1 ?side2 A30.out).mono ?_); (case side1 => exact pI115 HI0.out); (case side2 => exact pV HB.out (IsS115.ge HI0.out)); rintro e w70 ⟨rfl, hi, hb, hk⟩; refine ⟨_, rfl, ?_⟩; have n0_ := aK (Kd.S_mono (Kd.S_keep (IsS115.apartS (show IsS115 w0 _ g s0_0 x1001_1 x1002_1 from pI115 HI0.out) (by (with_reducible repeat (first | apply Kd.S_alloc | apply Kd.S_drewN | apply Kd.S_drew)); exact HO_5.out) (by decide)) hk (fun _ h => h.2)) (fun _ h => h.1)); have n1_ := aK (KeepBut.trans (pK HK.out) hk (.inl rfl)); have n2_ := aK (hb); have n3_ := aK (hi); clear HO_5 HK HB HI0; have HO_5 := n0_; have HK := n1_; have HB := n2_; have HI0 := n3_; clear n0_ n1_ n2_ n3_; (try clear hb); (try clear hb2); (try clear hk); (try clear hi)))
   go_ret
   exact ⟨_, er, Kd.S_V (by (with_reducible repeat (first | apply Kd.S_alloc | apply Kd.S_drewN | apply Kd.S_drew)); exact HO_5.out), pI115 HI0.out, (pV HB.out (IsS115.ge HI0.out)), pK HK.out⟩
end Go.Proofs.Ytilffhaghabdgaa.P
