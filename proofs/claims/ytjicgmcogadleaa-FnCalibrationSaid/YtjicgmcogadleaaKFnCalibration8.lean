/- Texts of the claim FnCalibration, merged: part 8 of 10: the program's and the reference's functions as Lean functions, the walks that show it, and plain lemmas; no conditions. -/
import Derived.Test.YtjicgmcogadleaaKFnCalibration3
import Derived.Test.YtjicgmcogadleaaKFnCalibration7
import Derived.Test.YtjicgmcogadleaaKFnCalibration5
import Derived.Test.YtjicgmcogadleaaKFnCalibration4
namespace Go.Proofs.Ytjicgmcogadleaa.P
open Go.RowKit Go.Proofs.YtjicgmcogadleaaW.PrintWords Go.Proofs.YtjicgmcogadleaaW.PrintLast Go.Proofs.YtjicgmcogadleaaW.PrintMore
attribute [local go_sem] max2_int min2_int max_two min_two max_three min_three max_four min_four
set_option linter.unusedVariables false
set_option linter.unusedSimpArgs false
set_option maxHeartbeats 8000000
set_option maxRecDepth 100000
def spec_l1Cur_tally.l0 : Nat → Int → List Int → Int → Int → List Int → List Int → Option (List Int × List Int × Int × Int)
 | 0, _, _, _, _, _, _ => none
 | k + 1, x4, x1000, x1001, x1002, x103000, x103001 => if x4 ≤ 10 then ((spec_l1Cur_among.f x1000 x1001 x1002 (([0, 0, 1, 2, 5, 10, 40] : List Int))).bind fun bt106 => (if x103000.length < 17592186044416 then ((spec_l1Cur_pick.f x1000 bt106.2.1 bt106.2.2 (wrap64 (bt106.1 + 1))).bind fun bt112 => (if x103001.length < 17592186044416 then (spec_l1Cur_tally.l0 k (wrap64 (x4 + 1)) x1000 bt112.2.1 bt112.2.2 (x103000 ++ [bt106.1]) (x103001 ++ [bt112.1])) else (none))) else (none))) else ((spec_l1Cur_pick.f x1000 x1001 x1002 11).bind fun bt118 => ((spec_l1Cur_pick.f x1000 bt118.2.1 bt118.2.2 24).bind fun bt121 => (if bt121.1 = 0 then ((spec_l1Cur_among.f x1000 bt121.2.1 bt121.2.2 (([1000, 1001, (-1)] : List Int))).bind fun bt127 => (if 0 ≤ bt118.1 then (if bt118.1 < (x103000.length : Int) then (some ((x103000.set (bt118.1 : Int).toNat bt127.1), x103001, bt127.2.1, bt127.2.2)) else (none)) else (none))) else (if bt121.1 = 1 then (if 0 ≤ bt118.1 then (if bt118.1 < (x103000.length : Int) then ((spec_l1Cur_pick.f x1000 bt121.2.1 bt121.2.2 2).bind fun bt132 => (if bt118.1 < (x103001.length : Int) then (some (x103000, (x103001.set (bt118.1 : Int).toNat (wrap64 ((rd x103000 bt118.1) + bt132.1))), bt132.2.1, bt132.2.2)) else (none))) else (none)) else (none)) else (if bt121.1 = 2 then (if 1 ≤ (x103001.length : Int) then (some (x103000, (x103001.drop (1 : Int).toNat), bt121.2.1, bt121.2.2)) else (none)) else (if bt121.1 = 3 then (if 11 ≤ 35184372088832 then (some ((List.replicate 11 0), (List.replicate 11 0), bt121.2.1, bt121.2.2)) else (none)) else (some (x103000, x103001, bt121.2.1, bt121.2.2))))))))
def spec_l1Cur_tally.f (k : Nat) (s0_0 : List Int) (s0_1 : Int) (s0_2 : Int) : Option (List Int × List Int × Int × Int) := spec_l1Cur_tally.l0 k 0 s0_0 s0_1 s0_2 ([] : List Int) ([] : List Int)
def spec_l1Cur_tally.T7 : Bool × List (List Nat × List Nat) := (true, [([], []), ([0], [0]), ([], []), ([], []), ([3], [3]), ([2, 4], [2, 4]), ([5], [5]), ([1, 6, 5], [1, 6]), ([0, 1, 2, 3, 4, 5, 6, 7], []), ([8, 7, 7, 0, 1, 2, 3, 4, 5, 6, 7], [7, 8])])
def spec_l1Cur_tally.B7 : List Nat := [0, 1, 0, 0, 8, 28, 60, 127, 255, 511]
theorem spec_l1Cur_tally.tab7 : rtab .any (opsOf Try.f38 7) = spec_l1Cur_tally.T7 := by kernel_rfl
theorem spec_l1Cur_tally.bits7 : waitsOk spec_l1Cur_tally.T7.2 spec_l1Cur_tally.B7 = true := by kernel_rfl
def spec_l1Cur_tally.T11 : Bool × List (List Nat × List Nat) := (true, [([], []), ([0], [0]), ([], []), ([], []), ([], []), ([3, 4], [3, 4]), ([1, 2, 0, 1, 2, 3, 4, 5], [1, 2]), ([6, 5, 5, 0, 1, 2, 3, 4, 5], [5, 6])])
def spec_l1Cur_tally.B11 : List Nat := [0, 1, 0, 0, 0, 24, 63, 127]
theorem spec_l1Cur_tally.tab11 : rtab .any (opsOf Try.f38 11) = spec_l1Cur_tally.T11 := by kernel_rfl
theorem spec_l1Cur_tally.bits11 : waitsOk spec_l1Cur_tally.T11.2 spec_l1Cur_tally.B11 = true := by kernel_rfl
def spec_l1Cur_tally.T13 : Bool × List (List Nat × List Nat) := (true, [([], []), ([0], [0]), ([], []), ([], []), ([3], [3]), ([], []), ([4, 5], [4, 5]), ([6], [6]), ([], []), ([8], [8]), ([7, 9], [7, 9]), ([1, 2, 0, 1, 2, 3, 4, 5, 6, 7, 8, 9, 10], [1, 2]), ([11, 10, 9, 0, 1, 2, 3, 4, 5, 6, 7, 8, 9, 10], [10, 11])])
def spec_l1Cur_tally.B13 : List Nat := [0, 1, 0, 0, 8, 0, 56, 120, 0, 256, 1016, 2047, 4095]
theorem spec_l1Cur_tally.tab13 : rtab .any (opsOf Try.f38 13) = spec_l1Cur_tally.T13 := by kernel_rfl
theorem spec_l1Cur_tally.bits13 : waitsOk spec_l1Cur_tally.T13.2 spec_l1Cur_tally.B13 = true := by kernel_rfl
theorem spec_l1Cur_tally.calls (k : Nat) (g : Nat) (s0_0 : List Int) (s0_1 : Int) (s0_2 : Int) (r1 : List Int) (r2 : List Int) (r3 : Int) (r4 : Int) (w0 w : World) (hI : IsS65 w0 w g s0_0 s0_1 s0_2) (hB : Below w0.heap.size w0 w) (h : spec_l1Cur_tally.f k s0_0 s0_1 s0_2 = some (r1, r2, r3, r4)) :
  Calls Try.prog 38 #[.pointer (some ⟨g, 0, none⟩)] w fun e w' => ∃ v0_ v1_ : Value, e = .returned (.agg #[v0_, v1_]) ∧ Kd.R (Kd.int .i64) 3 w' w.heap.size (fun k_ => some k_ ≠ (v1_ : Value).ownBlock) v0_ r1 ∧ Kd.Q (Kd.int .i64) 3 w' w.heap.size (fun k_ => some k_ ≠ (v0_ : Value).ownBlock) v1_ r2 ∧ IsS65 w0 w' g s0_0 r3 r4 ∧ Below w0.heap.size w0 w' ∧ KeepBut w w' g none := by
 have hu26 := Try.underlying26
 have HI0 := Aside0.mk hI
 have HK := aK (KeepBut.refl w g none)
 have HL := Aside0.mk hB.size
 clear hI
 have HW0 := Aside0.mk hB.size
 have HB := Aside0.mk hB
 clear hB
 have H : (spec_l1Cur_tally.l0 k 0 s0_0 s0_1 s0_2 ([] : List Int) ([] : List Int)) = some (r1, r2, r3, r4) := h
 clear h
 have H' := Aside0.mk H
 clear H
 go_enter Try.func38, Try.ntmps38
 go_wp2_with (first | ((with_reducible refine gate_dst (N := 2) rfl ?_); refine bxe (cs := #[.slice none 0 0, .slice none 0 0]) (t := 26) ?_; intro gb101 hg w2 hbox hb; have n0_ := aK (IsS65.below (pI65 HI0.out) hb); have n1_ := aK (KeepBut.trans (pK HK.out) (KeepBut.of_below hb g none) (.inl rfl)); have n2_ := aK (below_step ((pV HB.out (IsS65.ge HI0.out))) hb); have BK101 := aK (hbox); have GW101 := aK ((by rw [hg]; exact (keep_size (w := w) (g := g) (row := none) (pK HK.out)) : w.heap.size ≤ gb101)); have GE101 := aK ((Nat.le_trans HW0.out (by rw [hg]; exact (keep_size (w := w) (g := g) (row := none) (pK HK.out)) : w.heap.size ≤ gb101) : w0.heap.size ≤ gb101)); have NB0_101 := aK ((by rw [hg]; exact Nat.ne_of_lt (IsS65.lt (show IsS65 w0 _ g s0_0 s0_1 s0_2 from pI65 HI0.out)) : g ≠ gb101)); have NB101_0 := aK ((by rw [hg]; exact Nat.ne_of_gt (IsS65.lt (show IsS65 w0 _ g s0_0 s0_1 s0_2 from pI65 HI0.out)) : gb101 ≠ g)); clear HI0 HK HB; have HI0 := n0_; have HK := n1_; have HB := n2_; clear n0_ n1_ n2_; clear hb hbox hg) | ((with_reducible refine gate_dst (N := 3) rfl ?_); refine bxe (cs := #[.slice none 0 0, .slice none 0 0]) (t := 26) ?_; intro gb102 hg w3 hbox hb; have n0_ := aK (IsS65.below (pI65 HI0.out) hb); have n2_ := aK (KeepBut.trans (pK HK.out) (KeepBut.of_below hb g none) (.inl rfl)); have n3_ := aK (below_step ((pV HB.out (IsS65.ge HI0.out))) hb); have BK102 := aK (hbox); have GW102 := aK ((by rw [hg]; exact (keep_size (w := w) (g := g) (row := none) (pK HK.out)) : w.heap.size ≤ gb102)); have GE102 := aK ((Nat.le_trans HW0.out (by rw [hg]; exact (keep_size (w := w) (g := g) (row := none) (pK HK.out)) : w.heap.size ≤ gb102) : w0.heap.size ≤ gb102)); obtain ⟨NB101_102, NB102_101⟩ := nb hg (pB BK101.out); have NB0_102 := aK ((by rw [hg]; exact Nat.ne_of_lt (IsS65.lt (show IsS65 w0 _ g s0_0 s0_1 s0_2 from pI65 HI0.out)) : g ≠ gb102)); have NB102_0 := aK ((by rw [hg]; exact Nat.ne_of_gt (IsS65.lt (show IsS65 w0 _ g s0_0 s0_1 s0_2 from pI65 HI0.out)) : gb102 ≠ g)); replace BK101 := bB BK101 hb; clear HI0 HK HB; have HI0 := n0_; have HK := n2_; have HB := n3_; clear n0_ n2_ n3_ hb hbox hg; have hnb4 := NB102_101.out; have hnc4 := NB101_102.out; have hnb5 := NB102_0.out; have hnc5 := NB0_102.out; obtain ⟨hcz6_0, hcz6_1, hfz6_0, hfz6_1⟩ := bc2 BK102.out))
 go_loopg [4] k (fun kq v4 w' => ∃ (x4_1 : Int) (x1001_1 : Int) (x1002_1 : Int) (x103000_1 : List Int) (x103001_1 : List Int) (u103000 : Value) (u103001 : Value), v4 = .int .i64 x4_1 ∧ Aside0 (spec_l1Cur_tally.l0 kq x4_1 s0_0 x1001_1 x1002_1 x103000_1 x103001_1 = some (r1, r2, r3, r4)) ∧ Aside0 (kq ≤ k) ∧ Aside0 (Kd.R (Kd.int .i64) 3 w' w.heap.size (fun k_ => some k_ ≠ (u103001 : Value).ownBlock) u103000 x103000_1) ∧ Aside0 (Kd.Q (Kd.int .i64) 3 w' w.heap.size (fun k_ => some k_ ≠ (u103000 : Value).ownBlock) u103001 x103001_1) ∧ Aside0 (w'.heap[gb101]? = some (.cells #[(.slice none 0 0), (.slice none 0 0)] 26 (0, 0))) ∧ Aside0 (w'.heap[gb102]? = some (.cells #[u103000, u103001] 26 (0, 0))) ∧ Aside0 (IsS65 w0 w' g s0_0 x1001_1 x1002_1) ∧ Aside0 (KeepBut w w' g none) ∧ Aside0 (Below w0.heap.size w0 w'))
 case atStart => exact ⟨(0), (s0_1), (s0_2), (([] : List Int)), (([] : List Int)), (.slice none 0 0), (.slice none 0 0), (by first | rfl | (simp; done) | (simp [*]; done)), H', ⟨Nat.le_refl _⟩, ⟨by first | exact Kd.R_nil _ _ _ _ _ | exact Kd.N_nil _ _ _ _ _ | exact Kd.V_nil _ _ _ _ _ | exact Kd.Q_nil _ _ _ _ _ | exact Kd.S_nil _ _ _ _ _⟩, ⟨Kd.Q_of_R (by first | exact Kd.R_nil _ _ _ _ _ | exact Kd.N_nil _ _ _ _ _ | exact Kd.V_nil _ _ _ _ _ | exact Kd.Q_nil _ _ _ _ _ | exact Kd.S_nil _ _ _ _ _)⟩, ⟨by refine bk ?_; refine blk_far ?_ NB101_102.out _; refine bk ?_; refine blk_far ?_ NB101_102.out _; refine bk ?_; exact BK101.out⟩, ⟨by refine bk ?_; refine blk_put (cs := #[.slice none 0 0, .slice none 0 0]) ?_ 1 _ rfl; refine bk ?_; refine blk_put (cs := #[.slice none 0 0, .slice none 0 0]) ?_ 0 _ rfl; refine bk ?_; exact BK102.out⟩, ⟨pI65 HI0.out⟩, ⟨pK HK.out⟩, ⟨(pV HB.out (IsS65.ge HI0.out))⟩⟩
 case round =>
  clear H'
  try clear p2
  try clear c3
  try clear c4
  try clear c5
  try clear hcz6_0
  try clear hcz6_1
  try clear hfz6_0
  try clear hfz6_1
  obtain ⟨x4_1, x1001_1, x1002_1, x103000_1, x103001_1, u103000, u103001, rfl, HA, HK1, HO_103000, HO_103001, BK101, BK102, HI0, HK, HB⟩ := hrel
  cases gk with
  | zero => exact absurd HA.out (by simp [spec_l1Cur_tally.l0])
  | succ k1 =>
   have H := HA.out
   clear HA
   simp only [spec_l1Cur_tally.l0] at H
   by_cases c7 : x4_1 ≤ 10
   ·
    rw [if_pos c7] at H
    have c7b0 : decide (x4_1 ≤ 10) = true := decide_eq_true c7
    clear c7
    obtain ⟨y103, hy103⟩ : ∃ y_ : List Int, y_ = (([0, 0, 1, 2, 5, 10, 40] : List Int)) := ⟨_, rfl⟩
    replace H : ((spec_l1Cur_among.f s0_0 x1001_1 x1002_1 y103).bind fun bt106 => (if x103000_1.length < 17592186044416 then ((spec_l1Cur_pick.f s0_0 bt106.2.1 bt106.2.2 (wrap64 (bt106.1 + 1))).bind fun bt112 => (if x103001_1.length < 17592186044416 then (spec_l1Cur_tally.l0 k1 (wrap64 (x4_1 + 1)) s0_0 bt112.2.1 bt112.2.2 (x103000_1 ++ [bt106.1]) (x103001_1 ++ [bt112.1])) else (none))) else (none))) = some (r1, r2, r3, r4) := by first | (rw [hy103]; with_reducible exact H) | (have H2_ := (Option.bind_some _ _).symm.trans H; rw [hy103]; with_reducible exact H2_) | (have H2_ := (Option.bind_some _ _).symm.trans H; with_reducible exact H2_) | with_reducible exact H | (rw [hy103]; exact H) | exact H
    have Ny103 := Aside0.mk hy103
    clear hy103
    replace H := Option.bind_eq_some_iff.mp H
    obtain ⟨⟨t106, t107, t108⟩, A80, H⟩ := H
    replace H : (if x103000_1.length < 17592186044416 then ((spec_l1Cur_pick.f s0_0 t107 t108 (wrap64 (t106 + 1))).bind fun bt112 => (if x103001_1.length < 17592186044416 then (spec_l1Cur_tally.l0 k1 (wrap64 (x4_1 + 1)) s0_0 bt112.2.1 bt112.2.2 (x103000_1 ++ [t106]) (x103001_1 ++ [bt112.1])) else (none))) else (none)) = some (r1, r2, r3, r4) := H
    have A8 := Aside0.mk A80
    clear A80
    by_cases c9 : x103000_1.length < 17592186044416
    ·
     rw [if_pos c9] at H
     have LMc9 := Aside0.mk c9
     clear c9
     obtain ⟨y109, hy109⟩ : ∃ y_ : List Int, y_ = (x103000_1 ++ [t106]) := ⟨_, rfl⟩
     replace H : ((spec_l1Cur_pick.f s0_0 t107 t108 (wrap64 (t106 + 1))).bind fun bt112 => (if x103001_1.length < 17592186044416 then (spec_l1Cur_tally.l0 k1 (wrap64 (x4_1 + 1)) s0_0 bt112.2.1 bt112.2.2 y109 (x103001_1 ++ [bt112.1])) else (none))) = some (r1, r2, r3, r4) := by first | (rw [hy109]; with_reducible exact H) | (have H2_ := (Option.bind_some _ _).symm.trans H; rw [hy109]; with_reducible exact H2_) | (have H2_ := (Option.bind_some _ _).symm.trans H; with_reducible exact H2_) | with_reducible exact H | (rw [hy109]; exact H) | exact H
     have Ny109 := Aside0.mk hy109
     clear hy109
     replace H := Option.bind_eq_some_iff.mp H
     obtain ⟨⟨t112, t113, t114⟩, A100, H⟩ := H
     replace H : (if x103001_1.length < 17592186044416 then (spec_l1Cur_tally.l0 k1 (wrap64 (x4_1 + 1)) s0_0 t113 t114 y109 (x103001_1 ++ [t112])) else (none)) = some (r1, r2, r3, r4) := H
     have A10 := Aside0.mk A100
     clear A100
     by_cases c11 : x103001_1.length < 17592186044416
     ·
      rw [if_pos c11] at H
      have LMc11 := Aside0.mk c11
      clear c11
      obtain ⟨y115, hy115⟩ : ∃ y_ : List Int, y_ = (x103001_1 ++ [t112]) := ⟨_, rfl⟩
      replace H : (spec_l1Cur_tally.l0 k1 (wrap64 (x4_1 + 1)) s0_0 t113 t114 y109 y115) = some (r1, r2, r3, r4) := by first | (rw [hy115]; with_reducible exact H) | (have H2_ := (Option.bind_some _ _).symm.trans H; rw [hy115]; with_reducible exact H2_) | (have H2_ := (Option.bind_some _ _).symm.trans H; with_reducible exact H2_) | with_reducible exact H | (rw [hy115]; exact H) | exact H
      have Ny115 := Aside0.mk hy115
      clear hy115
      have H' := Aside0.mk H
      clear H
      try go_wp2_with (first | ((with_reducible refine gate_dst (N := 13) rfl ?_); refine Kd.R_lit (Kd.int .i64) _ 3 ?hg (N := 13) ?hd (xs := ([0, 0, 1, 2, 5, 10, 40] : List Int)) (inner := [.int .i64 0, .int .i64 0, .int .i64 1, .int .i64 2, .int .i64 5, .int .i64 10, .int .i64 40]) (ok := fun _ => True) (okp := fun _ => True) ?hr ?hp (fun _ hk => hk) trivial (Below.refl _ _) (Nat.le_refl _) (by simp) ?_; (case hd => rfl); (case hg => rfl); (case hr => first | (go_simp; done) | (go_simp; rfl)); (case hp => exact (Reps.one (show Kd.M (Kd.int .i64) _ _ _ 0 [.int .i64 0] from rfl) (Reps.one (show Kd.M (Kd.int .i64) _ _ _ 0 [.int .i64 0] from rfl) (Reps.one (show Kd.M (Kd.int .i64) _ _ _ 1 [.int .i64 1] from rfl) (Reps.one (show Kd.M (Kd.int .i64) _ _ _ 2 [.int .i64 2] from rfl) (Reps.one (show Kd.M (Kd.int .i64) _ _ _ 5 [.int .i64 5] from rfl) (Reps.one (show Kd.M (Kd.int .i64) _ _ _ 10 [.int .i64 10] from rfl) (Reps.one (show Kd.M (Kd.int .i64) _ _ _ 40 [.int .i64 40] from rfl) (Reps.none _ _))))))))); intro v104 w12 ho13 hb hg_ hnew_; clear hg_ hnew_; (first | rw [← Ny103.out] at ho13 | (simp only [Int.reduceToNat] at ho13; rw [← Ny103.out] at ho13)); have n0_ := aK (Kd.R_elder' (pR HO_103000.out) (Kd.R_base ho13) hb); have n1_ := aK (Kd.Q_elder' (pQ HO_103001.out) (Kd.R_base ho13) hb); have HO105 := aK (Kd.R_lower (Kd.R_new' (nw1 ho13 (pR HO_103000.out)) (Kd.Q_lt (pQ HO_103001.out))) (keep_size (w := w) (g := g) (row := none) (pK HK.out))); have n5_ := aK (IsS65.below (pI65 HI0.out) hb); have n6_ := aK (KeepBut.trans (pK HK.out) (KeepBut.of_below hb g none) (.inl rfl)); have n7_ := aK (below_step ((pV HB.out (IsS65.ge HI0.out))) hb); replace BK101 := bB BK101 hb; replace BK102 := bB BK102 hb; clear HO_103000 HO_103001 HI0 HK HB; have HO_103000 := n0_; have HO_103001 := n1_; have HI0 := n5_; have HK := n6_; have HB := n7_; clear n0_ n1_ n5_ n6_ n7_ hb ho13; obtain ⟨Ao14, co14, eo14⟩ := Kd.R_slice HO105.out; subst eo14) | ((with_reducible refine gate_callee (f := 70) rfl ?_); refine gl (some 14) Try.func70 #[.pointer (some ⟨g, 0, none⟩), .slice Ao14 y103.length co14] ?_; (with_reducible refine (spec_l1Cur_among.calls g s0_0 x1001_1 x1002_1 _ _ y103 t106 t107 t108 w0 _ ?side1 ?side2 ?side3 ?side4 ?side5 A8.out).mono ?_); (case side1 => exact pI65 HI0.out); (case side2 => exact pV HB.out (IsS65.ge HI0.out)); (case side3 => exact pC (Kd.R_reads' HO105.out).2.2); (case side4 => exact (Kd.R_reads' HO105.out).2.1); (case side5 => exact far_slice (IsS65.own_ne HI0.out HO105.out (by decide))); rintro e w15 ⟨rfl, hi, hb, hk⟩; refine ⟨_, rfl, ?_⟩; have n0_ := aK (Kd.R_mono (Kd.R_keep (IsS65.apart (show IsS65 w0 _ g s0_0 x1001_1 x1002_1 from pI65 HI0.out) (pR HO_103000.out) (by decide)) hk (fun _ h => h.2)) (fun _ h => h.1)); have n1_ := aK (Kd.Q_mono (Kd.Q_keep (IsS65.apartQ (show IsS65 w0 _ g s0_0 x1001_1 x1002_1 from pI65 HI0.out) (pQ HO_103001.out) (by decide)) hk (fun _ h => h.2)) (fun _ h => h.1)); have n2_ := aK (KeepBut.blk hk (pB BK101.out) NB101_0.out (by simp)); have n3_ := aK (KeepBut.blk hk (pB BK102.out) NB102_0.out (by simp)); have n4_ := aK (Kd.R_mono (Kd.R_keep (IsS65.apart (show IsS65 w0 _ g s0_0 x1001_1 x1002_1 from pI65 HI0.out) (pR HO105.out) (by decide)) hk (fun _ h => h.2)) (fun _ h => h.1)); have n5_ := aK (KeepBut.trans (pK HK.out) hk (.inl rfl)); have n6_ := aK (hb); have n7_ := aK (hi); clear HO_103000 HO_103001 BK101 BK102 HO105 HK HB HI0; have HO_103000 := n0_; have HO_103001 := n1_; have BK101 := n2_; have BK102 := n3_; have HO105 := n4_; have HK := n5_; have HB := n6_; have HI0 := n7_; clear n0_ n1_ n2_ n3_ n4_ n5_ n6_ n7_; (try clear hb); (try clear hb2); (try clear hk); (try clear hi); have hnb16 := NB102_101.out; have hnc16 := NB101_102.out; have hnb17 := NB102_0.out; have hnc17 := NB0_102.out; obtain ⟨hcz18_0, hcz18_1, hfz18_0, hfz18_1⟩ := bc2 BK102.out) | ((with_reducible refine gate_builtin (b := .append) (xs := #[.tmp 16, .tmp 18]) rfl ?_); at_builtin; refine Kd.R_append (Kd.int .i64) w.heap.size rfl (.tmp 16) (.tmp 18) 24 3 (.int .i64 0) 8 rfl Try.underlying24 info3 rfl (by decide) (by omega) u103000 x103000_1 t106 [.int .i64 t106] (fun k_ => some k_ ≠ (u103001 : Value).ownBlock ∧ some k_ ≠ (.slice Ao14 y103.length co14 : Value).ownBlock) (fun _ => False) rfl rfl ?aP (fun _ hk => hk.elim) ?aF ?aO (Below.refl _ _) ?aS ?aL ?_; (case aP => exact rfl); (case aF => exact (fun k_ hk => ⟨Kd.fresh' (Kd.Q_lt (pQ HO_103001.out)) k_ hk, Kd.fresh' (Kd.R_lt (pR HO105.out)) k_ hk⟩)); (case aO => exact (pR HO_103000.out)); (case aS => exact (keep_size (w := w) (g := g) (row := none) (pK HK.out))); (case aL => have := LMc9.out; omega); intro v110 w19 ho hb hg hat; rw [← Ny109.out] at ho; have n0_ := aK (Kd.Q_after (ok := (fun k_ => some k_ ≠ (.slice Ao14 y103.length co14 : Value).ownBlock)) (pQ (Kd.Q_mono HO_103001.out (fun _ hk => ⟨hk.2, hk.1⟩))) hg hat); have n1_ := aK (blk_grown (pB BK101.out) hg (Kd.R_ne HO_103000.out BK101.out (by decide))); have n2_ := aK (blk_grown (pB BK102.out) hg (Kd.R_ne HO_103000.out BK102.out (by decide))); have n3_ := aK (IsS65.grown (pI65 HI0.out) hg (IsS65.own_ne HI0.out HO_103000.out (by decide))); have n4_ := aK (Kd.R_after (ok := (fun k_ => some k_ ≠ (u103001 : Value).ownBlock)) (pR (rP HO105.out)) hg hat); have n5_ := aK (below_weaken ((pV HB.out (IsS65.ge HI0.out))) HL.out hb); have n6_ := aK (KeepBut.trans (pK HK.out) (KeepBut.of_grown hg g) (Kd.R_base2 HO_103000.out)); have HO111 := aK (ho); clear HO_103001 BK101 BK102 HI0 HO105 HB HK HO_103000; have HO_103001 := n0_; have BK101 := n1_; have BK102 := n2_; have HI0 := n3_; have HO105 := n4_; have HB := n5_; have HK := n6_; clear n0_ n1_ n2_ n3_ n4_ n5_ n6_ ho hb hg hat; obtain ⟨Ao20, co20, eo20⟩ := Kd.R_slice HO111.out; subst eo20; obtain ⟨hcz21_0, hcz21_1, hfz21_0, hfz21_1⟩ := bc2 BK102.out))
      have n0_ : Aside0 (Kd.Q (Kd.int .i64) 3 (w19.setCell ⟨gb102, 0, none⟩ (.slice Ao20 y109.length co20)) w.heap.size (fun k_ => some k_ ≠ (.slice Ao14 y103.length co14 : Value).ownBlock ∧ some k_ ≠ (.slice Ao20 y109.length co20 : Value).ownBlock) u103001 x103001_1) := ⟨by (with_reducible repeat (first | apply Kd.Q_alloc | apply Kd.Q_drewN | apply Kd.Q_drew)); exact Kd.Q_mono (qF1 HO_103001.out BK102.out (.slice Ao20 y109.length co20)) (fun _ h => ⟨h.1, h.2⟩)⟩
      have n1_ : Aside0 (Kd.R (Kd.int .i64) 3 (w19.setCell ⟨gb102, 0, none⟩ (.slice Ao20 y109.length co20)) w.heap.size (fun k_ => some k_ ≠ (u103001 : Value).ownBlock ∧ some k_ ≠ (.slice Ao20 y109.length co20 : Value).ownBlock) (.slice Ao14 y103.length co14) y103) := ⟨pR (Kd.R_mono (rF1 HO105.out BK102.out (.slice Ao20 y109.length co20)) (fun _ h => ⟨h.1, h.2⟩))⟩
      have n2_ : Aside0 (Kd.R (Kd.int .i64) 3 (w19.setCell ⟨gb102, 0, none⟩ (.slice Ao20 y109.length co20)) w.heap.size (fun k_ => some k_ ≠ (u103001 : Value).ownBlock ∧ some k_ ≠ (.slice Ao14 y103.length co14 : Value).ownBlock) (.slice Ao20 y109.length co20) y109) := ⟨pR (Kd.R_mono (rF1 HO111.out BK102.out (.slice Ao20 y109.length co20)) (fun _ h => ⟨h.1, h.2⟩))⟩
      have n3_ : Aside0 ((w19.setCell ⟨gb102, 0, none⟩ (.slice Ao20 y109.length co20)).heap[gb101]? = some (.cells #[.slice none 0 0, .slice none 0 0] 26 (0, 0))) := ⟨by refine bk ?_; refine blk_far ?_ NB101_102.out _; refine bk ?_; exact BK101.out⟩
      have n4_ : Aside0 ((w19.setCell ⟨gb102, 0, none⟩ (.slice Ao20 y109.length co20)).heap[gb102]? = some (.cells #[.slice Ao20 y109.length co20, u103001] 26 (0, 0))) := ⟨by refine bk ?_; refine blk_put (cs := #[u103000, u103001]) ?_ 0 _ rfl; refine bk ?_; exact BK102.out⟩
      have n5_ : Aside0 (IsS65 w0 (w19.setCell ⟨gb102, 0, none⟩ (.slice Ao20 y109.length co20)) g s0_0 t107 t108) := ⟨pI65 HI0.out⟩
      have n6_ : Aside0 (KeepBut w (w19.setCell ⟨gb102, 0, none⟩ (.slice Ao20 y109.length co20)) g none) := ⟨pK HK.out⟩
      have n7_ : Aside0 (Below w0.heap.size w0 (w19.setCell ⟨gb102, 0, none⟩ (.slice Ao20 y109.length co20))) := ⟨(pV HB.out (IsS65.ge HI0.out))⟩
      (try clear HO_103001)
      (try clear HO105)
      (try clear HO111)
      (try clear BK101)
      (try clear BK102)
      (try clear HI0)
      (try clear HK)
      (try clear HB)
      generalize (w19.setCell ⟨gb102, 0, none⟩ (.slice Ao20 y109.length co20)) = w22 at n0_ n1_ n2_ n3_ n4_ n5_ n6_ n7_ ⊢
      have HO_103001 := n0_
      have HO105 := n1_
      have HO111 := n2_
      have BK101 := n3_
      have BK102 := n4_
      have HI0 := n5_
      have HK := n6_
      have HB := n7_
      clear n0_ n1_ n2_ n3_ n4_ n5_ n6_ n7_
      have n0_ := aK (Kd.Q_drew HO_103001.out)
      have n1_ := aK (Kd.R_drew HO105.out)
      have n2_ := aK (Kd.R_drew HO111.out)
      have n3_ := aK (blk_drew BK101.out)
      have n4_ := aK (blk_drew BK102.out)
      have n5_ := aK (IsS65.drew HI0.out)
      have n6_ := aK (keep_drew HK.out)
      have n7_ := aK (below_drew1 HB.out)
      clear HO_103001 HO105 HO111 BK101 BK102 HI0 HK HB
      have HO_103001 := n0_
      have HO105 := n1_
      have HO111 := n2_
      have BK101 := n3_
      have BK102 := n4_
      have HI0 := n5_
      have HK := n6_
      have HB := n7_
      clear n0_ n1_ n2_ n3_ n4_ n5_ n6_ n7_
      refine start_ (n := 10) (S := fun w' => w'.cell? ⟨gb102, 0, none⟩ = some (.slice Ao20 y109.length co20) ∧ w'.cell? ⟨gb102, 1, none⟩ = some (u103001)) (ds := [9]) #[false, false, false, false, false, false, false, false, false, false] (by kernel_rfl) rfl rfl (cz2 BK102.out) (fun hHeld => ?_); refine with_tabW spec_l1Cur_tally.tab7 spec_l1Cur_tally.bits7 (fun HT_ HW_ => ?_)
      generalize w22.drew = w23 at HO_103001 HO105 HO111 BK101 BK102 HI0 HK HB hHeld ⊢
      refine pu (i := 0) (N := some 21) #[true, false, false, false, false, false, false, false, false, false] rfl rfl HT_.out ?_
      refine pu (i := 2) (N := some 23) #[true, false, true, false, false, false, false, false, false, false] rfl rfl HT_.out ?_
      refine pu (i := 3) (N := some 24) #[true, false, true, true, false, false, false, false, false, false] rfl rfl HT_.out ?_
      refine pu (i := 4) (N := some 25) #[true, false, true, true, true, false, false, false, false, false] rfl rfl HT_.out ?_
      refine tk (i := 1) (N := some 22) #[true, true, true, true, true, false, false, false, false, false] rfl rfl HT_.out HW_.out (Or.inl ⟨by rfl, by rintro w' ⟨s0, s1⟩; go_simp; with_reducible rfl⟩) hHeld ?_
      refine one_ (i := 5) (N := some 26) #[true, true, true, true, true, true, false, false, false, false] rfl rfl (one_of HT_.out (by kernel_rfl)) (by decide) (fun K hK => ?_)
      refine goes_ Try.func39 (by kernel_rfl) rfl #[.pointer (some ⟨g, 0, none⟩), .int .i64 (wrap64 (t106 + 1))] (by rfl) rfl rfl (by (try simp only [List.map_toArray, List.map_cons, List.map_nil]); first | done | rfl | (simp only [List.length_drop, List.length_take]; rfl)) ?_
      with_reducible refine (spec_l1Cur_pick.calls g s0_0 t107 t108 (wrap64 (t106 + 1)) t112 t113 t114 w0 _ ?side1 ?side2 A10.out).mono ?_
      (case side1 => exact pI65 HI0.out)
      (case side2 => exact pV HB.out (IsS65.ge HI0.out))
      rintro e w24 ⟨rfl, hi, hb, hk⟩
      refine ⟨_, rfl, ?_⟩
      have n0_ := aK (Kd.Q_mono (Kd.Q_keep (IsS65.apartQ (show IsS65 w0 _ g s0_0 t107 t108 from pI65 HI0.out) (pQ HO_103001.out) (by decide)) hk (fun _ h => h.2)) (fun _ h => h.1))
      have n1_ := aK (KeepBut.blk hk (pB BK101.out) NB101_0.out (by simp))
      have n2_ := aK (KeepBut.blk hk (pB BK102.out) NB102_0.out (by simp))
      have n3_ := aK (Kd.R_mono (Kd.R_keep (IsS65.apart (show IsS65 w0 _ g s0_0 t107 t108 from pI65 HI0.out) (pR HO105.out) (by decide)) hk (fun _ h => h.2)) (fun _ h => h.1))
      have n4_ := aK (Kd.R_mono (Kd.R_keep (IsS65.apart (show IsS65 w0 _ g s0_0 t107 t108 from pI65 HI0.out) (pR HO111.out) (by decide)) hk (fun _ h => h.2)) (fun _ h => h.1))
      have n5_ := aK (KeepBut.trans (pK HK.out) hk (.inl rfl))
      have n6_ := aK (hb)
      have n7_ := aK (hi)
      clear HO_103001 BK101 BK102 HO105 HO111 HK HB HI0
      have HO_103001 := n0_
      have BK101 := n1_
      have BK102 := n2_
      have HO105 := n3_
      have HO111 := n4_
      have HK := n5_
      have HB := n6_
      have HI0 := n7_
      clear n0_ n1_ n2_ n3_ n4_ n5_ n6_ n7_
      (try clear hb)
      (try clear hb2)
      (try clear hk)
      (try clear hi)
      refine hK.out _ _ (cz2 BK102.out) (fun hHeld => ?_)
      clear hK K
      refine norm_ (a' := ?_) ?_ ?_
      rotate_left
      ·
       show Act.put _ (some 26) _ = _
       simp only [sP]
       rfl
      refine one_ (i := 6) (N := some 27) #[true, true, true, true, true, true, true, false, false, false] rfl rfl (one_of HT_.out (by kernel_rfl)) (by decide) (fun K hK => ?_)
      refine value_ (w1 := ?_) (v := ?_) (by rfl) rfl ?_ ?_
      rotate_left 2
      ·
       go_simp
       constructor
       ·
        rfl
       rfl
      refine hK.out _ _ ⟨(blk_cell (blk_alloc BK102.out _) 0).trans rfl, (blk_cell (blk_alloc BK102.out _) 1).trans rfl⟩ (fun hHeld => ?_)
      clear hK K
      refine norm_ (a' := ?_) ?_ ?_
      rotate_left
      ·
       show Act.put _ (some 27) _ = _
       simp only [sP]
       rfl
      refine one_ (i := 7) (N := some 28) #[true, true, true, true, true, true, true, true, false, false] rfl rfl (one_of HT_.out (by kernel_rfl)) (by decide) (fun K hK => ?_)
      refine Kd.Q_append_step (Kd.int .i64) w.heap.size (by rfl) (.tmp 22) (.tmp 27) 24 3 (.int .i64 0) 8 rfl Try.underlying24 info3 rfl (by decide) (by omega) u103001 x103001_1 t112 [.int .i64 t112] (fun k_ => some k_ ≠ (.slice Ao14 y103.length co14 : Value).ownBlock ∧ some k_ ≠ (.slice Ao20 y109.length co20 : Value).ownBlock) (fun _ => False) rfl rfl ?aP (fun _ hk => hk.elim) ?aF ?aO (Below.refl _ _) ?aS ?aL ?_
      (case aP => exact rfl)
      (case aF => exact (fun k_ hk => ⟨Kd.fresh' (Kd.R_lt (pR HO105.out)) k_ hk, Kd.fresh' (Kd.R_lt (pR HO111.out)) k_ hk⟩))
      (case aO => exact (pQ HO_103001.out))
      (case aS => exact (keep_size (w := w) (g := g) (row := none) (pK HK.out)))
      (case aL => have := LMc11.out; omega)
      intro v116 w25 ho hb hg hat
      rw [← Ny115.out] at ho
      have n0_ := aK (blk_grown (pB BK101.out) hg (Kd.Q_ne HO_103001.out BK101.out (by decide)))
      have n1_ := aK (blk_grown (pB BK102.out) hg (Kd.Q_ne HO_103001.out BK102.out (by decide)))
      have n2_ := aK (IsS65.grown (pI65 HI0.out) hg (IsS65.own_neQ HI0.out HO_103001.out (by decide)))
      have n3_ := aK (Kd.R_after (ok := (fun k_ => some k_ ≠ (.slice Ao20 y109.length co20 : Value).ownBlock)) (pR (rP HO105.out)) hg hat)
      have n4_ := aK (Kd.R_after (ok := (fun k_ => some k_ ≠ (.slice Ao14 y103.length co14 : Value).ownBlock)) (pR (rP HO111.out)) hg hat)
      have n5_ := aK (below_weaken ((pV HB.out (IsS65.ge HI0.out))) HL.out hb)
      have n6_ := aK (KeepBut.trans (pK HK.out) (KeepBut.of_grown hg g) (Kd.Q_base2 HO_103001.out))
      have HO117 := aK (ho)
      clear BK101 BK102 HI0 HO105 HO111 HB HK HO_103001
      have BK101 := n0_
      have BK102 := n1_
      have HI0 := n2_
      have HO105 := n3_
      have HO111 := n4_
      have HB := n5_
      have HK := n6_
      clear n0_ n1_ n2_ n3_ n4_ n5_ n6_ ho hb hg hat
      obtain ⟨Ao26, co26, eo26, _⟩ := Kd.Q_slice HO117.out
      (first | subst eo26 | (obtain ⟨f4_, f5_⟩ := sI eo26; subst f4_; subst f5_))
      refine hK.out _ _ (cz2 BK102.out) (fun hHeld => ?_)
      clear hK K
      refine norm_ (a' := ?_) ?_ ?_
      rotate_left
      ·
       show Act.put _ (some 28) _ = _
       simp only [sP]
       rfl
      refine pu (i := 8) (N := some 29) #[true, true, true, true, true, true, true, true, true, false] rfl rfl HT_.out ?_
      refine last_ (i := 9) (N := none) #[true, true, true, true, true, true, true, true, true, true] rfl rfl (one_of HT_.out (by kernel_rfl)) (by decide) (fun K hK => ?_)
      have hs27 : w25.cell? ⟨gb102, 1, none⟩ = some (u103001) := (blk_cell BK102.out 1).trans rfl
      have hfs27 := blk_frozen BK102.out 1
      have hns27_0 := NB101_102.out
      have hms27_0 := NB102_101.out
      refine skip_ (w1 := ?_) (by rfl) rfl ?_ ?_
      rotate_left
      ·
       go_simp
       rfl
      refine hK.out _ _ ?_
      clear hK K
      refine done_ (done_of HT_.out (by kernel_rfl)) ?_
      try go_wp2
      go_roundg k1
      case measure => have := HK1.out; omega
      case rel => exact ⟨(wrap64 (x4_1 + 1)), (t113), (t114), (y109), (y115), (.slice Ao20 y109.length co20), (.slice Ao26 y115.length co26), (by first | rfl | (simp; done) | (simp [*]; done)), H', ⟨by have := HK1.out; omega⟩, ⟨by (with_reducible repeat (first | apply Kd.R_alloc | apply Kd.R_drewN | apply Kd.R_drew)); exact Kd.R_mono (Kd.R_far (p := ⟨gb102, 1, none⟩) (Kd.R_types HO111.out BK102.out (by decide)) (fun _ hk => hk.2) (.slice Ao26 y115.length co26)) (fun _ hk => hk.1.2)⟩, ⟨by (with_reducible repeat (first | apply Kd.Q_alloc | apply Kd.Q_drewN | apply Kd.Q_drew)); exact Kd.Q_mono (Kd.Q_far (p := ⟨gb102, 1, none⟩) (Kd.Q_types HO117.out BK102.out (by decide)) (fun _ hk => hk.2) (.slice Ao26 y115.length co26)) (fun _ hk => hk.1.2)⟩, ⟨by refine bk ?_; refine blk_far ?_ NB101_102.out _; refine bk ?_; exact BK101.out⟩, ⟨by refine bk ?_; refine blk_put (cs := #[.slice Ao20 y109.length co20, u103001]) ?_ 1 _ rfl; refine bk ?_; exact BK102.out⟩, ⟨pI65 HI0.out⟩, ⟨pK HK.out⟩, ⟨(pV HB.out (IsS65.ge HI0.out))⟩⟩
     rw [if_neg c11] at H
     exact absurd H (by simp)
    rw [if_neg c9] at H
    exact absurd H (by simp)
   rw [if_neg c7] at H
   have c7b0 : decide (x4_1 ≤ 10) = false := decide_eq_false c7
   clear c7
   replace H := Option.bind_eq_some_iff.mp H
   obtain ⟨⟨t118, t119, t120⟩, A280, H⟩ := H
   replace H : ((spec_l1Cur_pick.f s0_0 t119 t120 24).bind fun bt121 => (if bt121.1 = 0 then ((spec_l1Cur_among.f s0_0 bt121.2.1 bt121.2.2 (([1000, 1001, (-1)] : List Int))).bind fun bt127 => (if 0 ≤ t118 then (if t118 < (x103000_1.length : Int) then (some ((x103000_1.set (t118 : Int).toNat bt127.1), x103001_1, bt127.2.1, bt127.2.2)) else (none)) else (none))) else (if bt121.1 = 1 then (if 0 ≤ t118 then (if t118 < (x103000_1.length : Int) then ((spec_l1Cur_pick.f s0_0 bt121.2.1 bt121.2.2 2).bind fun bt132 => (if t118 < (x103001_1.length : Int) then (some (x103000_1, (x103001_1.set (t118 : Int).toNat (wrap64 ((rd x103000_1 t118) + bt132.1))), bt132.2.1, bt132.2.2)) else (none))) else (none)) else (none)) else (if bt121.1 = 2 then (if 1 ≤ (x103001_1.length : Int) then (some (x103000_1, (x103001_1.drop (1 : Int).toNat), bt121.2.1, bt121.2.2)) else (none)) else (if bt121.1 = 3 then (if 11 ≤ 35184372088832 then (some ((List.replicate 11 0), (List.replicate 11 0), bt121.2.1, bt121.2.2)) else (none)) else (some (x103000_1, x103001_1, bt121.2.1, bt121.2.2))))))) = some (r1, r2, r3, r4) := H
   have A28 := Aside0.mk A280
   clear A280
   replace H := Option.bind_eq_some_iff.mp H
   obtain ⟨⟨t121, t122, t123⟩, A290, H⟩ := H
   replace H : (if t121 = 0 then ((spec_l1Cur_among.f s0_0 t122 t123 (([1000, 1001, (-1)] : List Int))).bind fun bt127 => (if 0 ≤ t118 then (if t118 < (x103000_1.length : Int) then (some ((x103000_1.set (t118 : Int).toNat bt127.1), x103001_1, bt127.2.1, bt127.2.2)) else (none)) else (none))) else (if t121 = 1 then (if 0 ≤ t118 then (if t118 < (x103000_1.length : Int) then ((spec_l1Cur_pick.f s0_0 t122 t123 2).bind fun bt132 => (if t118 < (x103001_1.length : Int) then (some (x103000_1, (x103001_1.set (t118 : Int).toNat (wrap64 ((rd x103000_1 t118) + bt132.1))), bt132.2.1, bt132.2.2)) else (none))) else (none)) else (none)) else (if t121 = 2 then (if 1 ≤ (x103001_1.length : Int) then (some (x103000_1, (x103001_1.drop (1 : Int).toNat), t122, t123)) else (none)) else (if t121 = 3 then (if 11 ≤ 35184372088832 then (some ((List.replicate 11 0), (List.replicate 11 0), t122, t123)) else (none)) else (some (x103000_1, x103001_1, t122, t123)))))) = some (r1, r2, r3, r4) := H
   have A29 := Aside0.mk A290
   clear A290
   by_cases c30 : t121 = 0
   ·
    rw [if_pos c30] at H
    have c30b0 : (t121 == 0) = true := beq_iff_eq.mpr c30
    have c30b1 : (t121 != 0) = false := bne_eq_false_iff_eq.mpr c30
    clear c30
    obtain ⟨y124, hy124⟩ : ∃ y_ : List Int, y_ = (([1000, 1001, (-1)] : List Int)) := ⟨_, rfl⟩
    replace H : ((spec_l1Cur_among.f s0_0 t122 t123 y124).bind fun bt127 => (if 0 ≤ t118 then (if t118 < (x103000_1.length : Int) then (some ((x103000_1.set (t118 : Int).toNat bt127.1), x103001_1, bt127.2.1, bt127.2.2)) else (none)) else (none))) = some (r1, r2, r3, r4) := by first | (rw [hy124]; with_reducible exact H) | (have H2_ := (Option.bind_some _ _).symm.trans H; rw [hy124]; with_reducible exact H2_) | (have H2_ := (Option.bind_some _ _).symm.trans H; with_reducible exact H2_) | with_reducible exact H | (rw [hy124]; exact H) | exact H
    have Ny124 := Aside0.mk hy124
    clear hy124
    replace H := Option.bind_eq_some_iff.mp H
    obtain ⟨⟨t127, t128, t129⟩, A310, H⟩ := H
    replace H : (if 0 ≤ t118 then (if t118 < (x103000_1.length : Int) then (some ((x103000_1.set (t118 : Int).toNat t127), x103001_1, t128, t129)) else (none)) else (none)) = some (r1, r2, r3, r4) := H
    have A31 := Aside0.mk A310
    clear A310
    by_cases c32 : 0 ≤ t118
    ·
     rw [if_pos c32] at H
     have c32b0 : decide (0 ≤ t118) = true := decide_eq_true c32
     clear c32
     by_cases c33 : t118 < (x103000_1.length : Int)
     ·
      rw [if_pos c33] at H
      have c33b0 : decide (t118 < (x103000_1.length : Int)) = true := decide_eq_true c33
      clear c33
      obtain ⟨y130, hy130⟩ : ∃ y_ : List Int, y_ = (x103000_1.set (t118 : Int).toNat t127) := ⟨_, rfl⟩
      replace H : (some (y130, x103001_1, t128, t129)) = some (r1, r2, r3, r4) := by first | (rw [hy130]; with_reducible exact H) | (have H2_ := (Option.bind_some _ _).symm.trans H; rw [hy130]; with_reducible exact H2_) | (have H2_ := (Option.bind_some _ _).symm.trans H; with_reducible exact H2_) | with_reducible exact H | (rw [hy130]; exact H) | exact H
      have Ny130 := Aside0.mk hy130
      clear hy130
      simp only [Option.some.injEq, Prod.mk.injEq] at H
      obtain ⟨rfl, rfl, rfl, rfl⟩ := H
      try go_wp2_with (first | ((with_reducible refine gate_callee (f := 39) rfl ?_); refine gl (some 31) Try.func39 #[.pointer (some ⟨g, 0, none⟩), .int .i64 11] ?_; (with_reducible refine (spec_l1Cur_pick.calls g s0_0 x1001_1 x1002_1 11 t118 t119 t120 w0 _ ?side1 ?side2 A28.out).mono ?_); (case side1 => exact pI65 HI0.out); (case side2 => exact pV HB.out (IsS65.ge HI0.out)); rintro e w35 ⟨rfl, hi, hb, hk⟩; refine ⟨_, rfl, ?_⟩; have n0_ := aK (Kd.R_mono (Kd.R_keep (IsS65.apart (show IsS65 w0 _ g s0_0 x1001_1 x1002_1 from pI65 HI0.out) (pR HO_103000.out) (by decide)) hk (fun _ h => h.2)) (fun _ h => h.1)); have n1_ := aK (Kd.Q_mono (Kd.Q_keep (IsS65.apartQ (show IsS65 w0 _ g s0_0 x1001_1 x1002_1 from pI65 HI0.out) (pQ HO_103001.out) (by decide)) hk (fun _ h => h.2)) (fun _ h => h.1)); have n2_ := aK (KeepBut.blk hk (pB BK101.out) NB101_0.out (by simp)); have n3_ := aK (KeepBut.blk hk (pB BK102.out) NB102_0.out (by simp)); have n4_ := aK (KeepBut.trans (pK HK.out) hk (.inl rfl)); have n5_ := aK (hb); have n6_ := aK (hi); clear HO_103000 HO_103001 BK101 BK102 HK HB HI0; have HO_103000 := n0_; have HO_103001 := n1_; have BK101 := n2_; have BK102 := n3_; have HK := n4_; have HB := n5_; have HI0 := n6_; clear n0_ n1_ n2_ n3_ n4_ n5_ n6_; (try clear hb); (try clear hb2); (try clear hk); (try clear hi)) | ((with_reducible refine gate_callee (f := 39) rfl ?_); refine gl (some 33) Try.func39 #[.pointer (some ⟨g, 0, none⟩), .int .i64 24] ?_; (with_reducible refine (spec_l1Cur_pick.calls g s0_0 t119 t120 24 t121 t122 t123 w0 _ ?side1 ?side2 A29.out).mono ?_); (case side1 => exact pI65 HI0.out); (case side2 => exact pV HB.out (IsS65.ge HI0.out)); rintro e w36 ⟨rfl, hi, hb, hk⟩; refine ⟨_, rfl, ?_⟩; have n0_ := aK (Kd.R_mono (Kd.R_keep (IsS65.apart (show IsS65 w0 _ g s0_0 t119 t120 from pI65 HI0.out) (pR HO_103000.out) (by decide)) hk (fun _ h => h.2)) (fun _ h => h.1)); have n1_ := aK (Kd.Q_mono (Kd.Q_keep (IsS65.apartQ (show IsS65 w0 _ g s0_0 t119 t120 from pI65 HI0.out) (pQ HO_103001.out) (by decide)) hk (fun _ h => h.2)) (fun _ h => h.1)); have n2_ := aK (KeepBut.blk hk (pB BK101.out) NB101_0.out (by simp)); have n3_ := aK (KeepBut.blk hk (pB BK102.out) NB102_0.out (by simp)); have n4_ := aK (KeepBut.trans (pK HK.out) hk (.inl rfl)); have n5_ := aK (hb); have n6_ := aK (hi); clear HO_103000 HO_103001 BK101 BK102 HK HB HI0; have HO_103000 := n0_; have HO_103001 := n1_; have BK101 := n2_; have BK102 := n3_; have HK := n4_; have HB := n5_; have HI0 := n6_; clear n0_ n1_ n2_ n3_ n4_ n5_ n6_; (try clear hb); (try clear hb2); (try clear hk); (try clear hi)))
      have n0_ := aK (Kd.R_drew HO_103000.out)
      have n1_ := aK (Kd.Q_drew HO_103001.out)
      have n2_ := aK (blk_drew BK101.out)
      have n3_ := aK (blk_drew BK102.out)
      have n4_ := aK (IsS65.drew HI0.out)
      have n5_ := aK (keep_drew HK.out)
      have n6_ := aK (below_drew1 HB.out)
      clear HO_103000 HO_103001 BK101 BK102 HI0 HK HB
      have HO_103000 := n0_
      have HO_103001 := n1_
      have BK101 := n2_
      have BK102 := n3_
      have HI0 := n4_
      have HK := n5_
      have HB := n6_
      clear n0_ n1_ n2_ n3_ n4_ n5_ n6_
      refine start_ (n := 8) (S := fun w' => w'.cell? ⟨gb102, 0, none⟩ = some (u103000) ∧ w'.cell? ⟨gb102, 1, none⟩ = some (u103001)) (ds := [7]) #[false, false, false, false, false, false, false, false] (by kernel_rfl) rfl rfl (cz2 BK102.out) (fun hHeld => ?_); refine with_tabW spec_l1Cur_tally.tab11 spec_l1Cur_tally.bits11 (fun HT_ HW_ => ?_)
      generalize w36.drew = w37 at HO_103000 HO_103001 BK101 BK102 HI0 HK HB hHeld ⊢
      refine pu (i := 0) (N := some 36) #[true, false, false, false, false, false, false, false] rfl rfl HT_.out ?_
      refine pu (i := 2) (N := some 38) #[true, false, true, false, false, false, false, false] rfl rfl HT_.out ?_
      refine pu (i := 3) (N := some 39) #[true, false, true, true, false, false, false, false] rfl rfl HT_.out ?_
      refine tk (i := 1) (N := some 37) #[true, true, true, true, false, false, false, false] rfl rfl HT_.out HW_.out (Or.inl ⟨by rfl, by rintro w' ⟨s0, s1⟩; go_simp; with_reducible rfl⟩) hHeld ?_
      refine one_ (i := 4) (N := some 40) #[true, true, true, true, true, false, false, false] rfl rfl (one_of HT_.out (by kernel_rfl)) (by decide) (fun K hK => ?_)
      refine Kd.R_lit_step (Kd.int .i64) _ 3 ?hg (N := 40) ?hd (xs := ([1000, 1001, (-1)] : List Int)) (inner := [.int .i64 1000, .int .i64 1001, .int .i64 (-1)]) (ok := fun _ => True) (okp := fun _ => True) ?hr ?hp (fun _ hk => hk) trivial (Below.refl _ _) (Nat.le_refl _) (by simp) ?_; (case hd => rfl); (case hg => rfl); (case hr => first | (go_simp; done) | (go_simp; rfl)); (case hp => exact (Reps.one (show Kd.M (Kd.int .i64) _ _ _ 1000 [.int .i64 1000] from rfl) (Reps.one (show Kd.M (Kd.int .i64) _ _ _ 1001 [.int .i64 1001] from rfl) (Reps.one (show Kd.M (Kd.int .i64) _ _ _ (-1) [.int .i64 (-1)] from rfl) (Reps.none _ _)))))
      intro v125 w38 ho39 hb hg_ hnew_
      clear hg_ hnew_
      (first | rw [← Ny124.out] at ho39 | (simp only [Int.reduceToNat] at ho39; rw [← Ny124.out] at ho39))
      have n0_ := aK (Kd.R_elder' (pR HO_103000.out) (Kd.R_base ho39) hb)
      have n1_ := aK (Kd.Q_elder' (pQ HO_103001.out) (Kd.R_base ho39) hb)
      have HO126 := aK (Kd.R_lower (Kd.R_new' (nw1 ho39 (pR HO_103000.out)) (Kd.Q_lt (pQ HO_103001.out))) (keep_size (w := w) (g := g) (row := none) (pK HK.out)))
      have n5_ := aK (IsS65.below (pI65 HI0.out) hb)
      have n6_ := aK (KeepBut.trans (pK HK.out) (KeepBut.of_below hb g none) (.inl rfl))
      have n7_ := aK (below_step ((pV HB.out (IsS65.ge HI0.out))) hb)
      replace BK101 := bB BK101 hb
      replace BK102 := bB BK102 hb
      clear HO_103000 HO_103001 HI0 HK HB
      have HO_103000 := n0_
      have HO_103001 := n1_
      have HI0 := n5_
      have HK := n6_
      have HB := n7_
      clear n0_ n1_ n5_ n6_ n7_ hb ho39
      obtain ⟨Ao40, co40, eo40⟩ := Kd.R_slice HO126.out
      (first | subst eo40 | (obtain ⟨f4_, f5_⟩ := sI eo40; subst f4_; subst f5_))
      refine hK.out _ _ (cz2 BK102.out) (fun hHeld => ?_)
      clear hK K
      refine norm_ (a' := ?_) ?_ ?_
      rotate_left
      ·
       show Act.put _ (some 40) _ = _
       simp only [sP]
       rfl
      refine one_ (i := 5) (N := some 41) #[true, true, true, true, true, true, false, false] rfl rfl (one_of HT_.out (by kernel_rfl)) (by decide) (fun K hK => ?_)
      refine goes_ Try.func70 (by kernel_rfl) rfl #[.pointer (some ⟨g, 0, none⟩), .slice Ao40 y124.length co40] (by rfl) rfl rfl (by (try simp only [List.map_toArray, List.map_cons, List.map_nil]); first | done | rfl | (simp only [List.length_drop, List.length_take]; rfl)) ?_
      with_reducible refine (spec_l1Cur_among.calls g s0_0 t122 t123 _ _ y124 t127 t128 t129 w0 _ ?side1 ?side2 ?side3 ?side4 ?side5 A31.out).mono ?_
      (case side1 => exact pI65 HI0.out)
      (case side2 => exact pV HB.out (IsS65.ge HI0.out))
      (case side3 => exact pC (Kd.R_reads' HO126.out).2.2)
      (case side4 => exact (Kd.R_reads' HO126.out).2.1)
      (case side5 => exact far_slice (IsS65.own_ne HI0.out HO126.out (by decide)))
      rintro e w41 ⟨rfl, hi, hb, hk⟩
      refine ⟨_, rfl, ?_⟩
      have n0_ := aK (Kd.R_mono (Kd.R_keep (IsS65.apart (show IsS65 w0 _ g s0_0 t122 t123 from pI65 HI0.out) (pR HO_103000.out) (by decide)) hk (fun _ h => h.2)) (fun _ h => h.1))
      have n1_ := aK (Kd.Q_mono (Kd.Q_keep (IsS65.apartQ (show IsS65 w0 _ g s0_0 t122 t123 from pI65 HI0.out) (pQ HO_103001.out) (by decide)) hk (fun _ h => h.2)) (fun _ h => h.1))
      have n2_ := aK (KeepBut.blk hk (pB BK101.out) NB101_0.out (by simp))
      have n3_ := aK (KeepBut.blk hk (pB BK102.out) NB102_0.out (by simp))
      have n4_ := aK (Kd.R_mono (Kd.R_keep (IsS65.apart (show IsS65 w0 _ g s0_0 t122 t123 from pI65 HI0.out) (pR HO126.out) (by decide)) hk (fun _ h => h.2)) (fun _ h => h.1))
      have n5_ := aK (KeepBut.trans (pK HK.out) hk (.inl rfl))
      have n6_ := aK (hb)
      have n7_ := aK (hi)
      clear HO_103000 HO_103001 BK101 BK102 HO126 HK HB HI0
      have HO_103000 := n0_
      have HO_103001 := n1_
      have BK101 := n2_
      have BK102 := n3_
      have HO126 := n4_
      have HK := n5_
      have HB := n6_
      have HI0 := n7_
      clear n0_ n1_ n2_ n3_ n4_ n5_ n6_ n7_
      (try clear hb)
      (try clear hb2)
      (try clear hk)
      (try clear hi)
      have p34 : 0 ≤ (t118 : Int) := of_decide_eq_true (by first | (with_reducible assumption) | assumption)
      have q34 : (t118 : Int) < ((x103000_1.length : Int) : Int) := of_decide_eq_true (by first | (with_reducible assumption) | assumption)
      obtain ⟨go34, co34, eo34, gb34, gl34, cl34, HG34⟩ := Kd.R_form HO_103000.out (by omega)
      (first | cases eo34 | (injection eo34 with ea_ en_ ec_; (first | subst ea_ | (injection ea_ with ea_; subst ea_)); subst ec_; clear en_))
      have GB34 := Aside0.mk gb34
      have GG34 := Aside0.mk HG34
      clear gb34 gl34 HG34
      obtain ⟨hx34_0, hf34_0⟩ := Kd.R_celln 0 HO_103000.out (t118 : Int) p34 q34
      replace p34 := eq_true p34
      replace q34 := eq_true q34
      have HN0_go34 := aK (show g ≠ go34 from by have h_ := IsS65.own_ne HI0.out HO_103000.out (by decide); intro e_; exact h_ (by rw [e_]; rfl))
      have HP42 := Kd.R_putn HO_103000.out (t118 : Int) t127
      rw [← Ny130.out] at HP42
      have HQ42 := Aside0.mk HP42
      clear HP42
      refine hK.out _ _ (cz2 BK102.out) (fun hHeld => ?_)
      clear hK K
      refine norm_ (a' := ?_) ?_ ?_
      rotate_left
      ·
       show Act.put _ (some 41) _ = _
       simp only [sP]
       rfl
      refine pu (i := 6) (N := some 42) #[true, true, true, true, true, true, true, false] rfl rfl HT_.out ?_
      refine last_ (i := 7) (N := none) #[true, true, true, true, true, true, true, true] rfl rfl (one_of HT_.out (by kernel_rfl)) (by decide) (fun K hK => ?_)
      refine skip_ (w1 := ?_) (by rfl) rfl ?_ ?_
      rotate_left
      ·
       go_simp
       rfl
      refine hK.out _ _ ?_
      clear hK K
      refine done_ (done_of HT_.out (by kernel_rfl)) ?_
      have n0_ : Aside0 (Kd.R (Kd.int .i64) 3 (w41.setCell ⟨go34, (t118 : Int).toNat, none⟩ (.int .i64 t127)) w.heap.size (fun k_ => some k_ ≠ (u103001 : Value).ownBlock ∧ some k_ ≠ (.slice Ao40 y124.length co40 : Value).ownBlock) (.slice (some ⟨go34, 0, none⟩) x103000_1.length co34) y130) := ⟨pR HQ42.out⟩
      have n1_ : Aside0 (Kd.Q (Kd.int .i64) 3 (w41.setCell ⟨go34, (t118 : Int).toNat, none⟩ (.int .i64 t127)) w.heap.size (fun k_ => some k_ ≠ (.slice (some ⟨go34, 0, none⟩) x103000_1.length co34 : Value).ownBlock ∧ some k_ ≠ (.slice Ao40 y124.length co40 : Value).ownBlock) u103001 x103001_1) := ⟨by (with_reducible repeat (first | apply Kd.Q_alloc | apply Kd.Q_drewN | apply Kd.Q_drew)); exact Kd.Q_mono (Kd.Q_far (p := ⟨go34, (t118 : Int).toNat, none⟩) (Kd.Q_mono HO_103001.out (fun k_ hk => (⟨hk, fun e_ => hk.1 (by rw [e_]; rfl)⟩ : _ ∧ k_ ≠ go34))) (fun _ hk => hk.2) (.int .i64 t127)) (fun _ hk => ⟨hk.1.1, hk.1.2⟩)⟩
      have n2_ : Aside0 (Kd.R (Kd.int .i64) 3 (w41.setCell ⟨go34, (t118 : Int).toNat, none⟩ (.int .i64 t127)) w.heap.size (fun k_ => some k_ ≠ (.slice (some ⟨go34, 0, none⟩) x103000_1.length co34 : Value).ownBlock ∧ some k_ ≠ (u103001 : Value).ownBlock) (.slice Ao40 y124.length co40) y124) := ⟨by (with_reducible repeat (first | apply Kd.R_alloc | apply Kd.R_drewN | apply Kd.R_drew)); exact Kd.R_mono (Kd.R_far (p := ⟨go34, (t118 : Int).toNat, none⟩) (Kd.R_mono HO126.out (fun k_ hk => (⟨hk, fun e_ => hk.1.2 (by rw [e_]; rfl)⟩ : _ ∧ k_ ≠ go34))) (fun _ hk => hk.2) (.int .i64 t127)) (fun _ hk => ⟨hk.1.1.2, hk.1.2⟩)⟩
      have n3_ : Aside0 ((w41.setCell ⟨go34, (t118 : Int).toNat, none⟩ (.int .i64 t127)).heap[gb101]? = some (.cells #[.slice none 0 0, .slice none 0 0] 26 (0, 0))) := ⟨by refine bk ?_; refine blk_far ?_ (by have h_ := Kd.R_ne HO_103000.out BK101.out (by decide); intro e_; exact h_ (by rw [e_]; rfl)) _; refine bk ?_; exact BK101.out⟩
      have n4_ : Aside0 ((w41.setCell ⟨go34, (t118 : Int).toNat, none⟩ (.int .i64 t127)).heap[gb102]? = some (.cells #[.slice (some ⟨go34, 0, none⟩) x103000_1.length co34, u103001] 26 (0, 0))) := ⟨by refine bk ?_; refine blk_far ?_ (by have h_ := Kd.R_ne HO_103000.out BK102.out (by decide); intro e_; exact h_ (by rw [e_]; rfl)) _; refine bk ?_; exact BK102.out⟩
      have n5_ : Aside0 (IsS65 w0 (w41.setCell ⟨go34, (t118 : Int).toNat, none⟩ (.int .i64 t127)) g s0_0 t128 t129) := ⟨by repeat (first | (with_reducible first | exact HI0.out | apply IsS65.alloc | apply IsS65.drewN | apply IsS65.drew | apply IsS65.set_1 | apply IsS65.set_2 | refine IsS65.far ?_ HN0_go34.out _ | refine IsS65.far ?_ NB0_101.out _ | refine IsS65.far ?_ NB0_102.out _) | exact HI0.out)⟩
      have n6_ : Aside0 (KeepBut w (w41.setCell ⟨go34, (t118 : Int).toNat, none⟩ (.int .i64 t127)) g none) := ⟨by repeat (first | (with_reducible first | exact HK.out | apply KeepBut.set_ | apply keep_drewN | apply keep_drew | apply keep_alloc | refine keep_far ?_ GB34.out _ | refine keep_far ?_ GW101.out _ | refine keep_far ?_ GW102.out _) | exact HK.out)⟩
      have n7_ : Aside0 (Below w0.heap.size w0 (w41.setCell ⟨go34, (t118 : Int).toNat, none⟩ (.int .i64 t127))) := ⟨by repeat (first | (with_reducible first | exact HB.out | apply below_alloc | apply pw_below_drewN | apply below_drew1 | refine below_set ?_ (Nat.le_trans HL.out GB34.out) | refine below_set ?_ (IsS65.ge HI0.out) | refine below_set ?_ GE101.out | refine below_set ?_ GE102.out) | exact HB.out)⟩
      (try clear HO_103000)
      (try clear HO_103001)
      (try clear HO126)
      (try clear BK101)
      (try clear BK102)
      (try clear HI0)
      (try clear HK)
      (try clear HB)
      generalize (w41.setCell ⟨go34, (t118 : Int).toNat, none⟩ (.int .i64 t127)) = w43 at n0_ n1_ n2_ n3_ n4_ n5_ n6_ n7_ ⊢
      have HO_103000 := n0_
      have HO_103001 := n1_
      have HO126 := n2_
      have BK101 := n3_
      have BK102 := n4_
      have HI0 := n5_
      have HK := n6_
      have HB := n7_
      clear n0_ n1_ n2_ n3_ n4_ n5_ n6_ n7_
      have hnb44 := NB102_101.out
      have hnc44 := NB101_102.out
      have hnb45 := NB102_0.out
      have hnc45 := NB0_102.out
      obtain ⟨hcz46_0, hcz46_1, hfz46_0, hfz46_1⟩ := bc2 BK102.out
      have hnb47 := NB101_0.out
      have hnc47 := NB0_101.out
      obtain ⟨hcz48_0, hcz48_1, hfz48_0, hfz48_1⟩ := bc2 BK101.out
      obtain ⟨Ao49, co49, eo49, _⟩ := Kd.Q_slice HO_103001.out
      subst eo49
      try go_wp2
      refine bodyPost_ret (results_cell_row rfl _ _ gb101 26 #[.slice (some ⟨go34, 0, none⟩) x103000_1.length co34, .slice Ao49 x103001_1.length co49] (0, 0) _ rfl (by refine bk ?_; refine blk_put (cs := #[.slice (some ⟨go34, 0, none⟩) x103000_1.length co34, .slice none 0 0]) ?_ 1 _ rfl; refine bk ?_; refine blk_put (cs := #[.slice none 0 0, .slice none 0 0]) ?_ 0 _ rfl; refine bk ?_; exact BK101.out) Try.underlying26 rfl (by kernel_rfl)) rfl ?_
      exact ⟨_, _, er, by (with_reducible repeat (first | apply Kd.R_alloc | apply Kd.R_drewN | apply Kd.R_drew)); exact Kd.R_mono (rF2 HO_103000.out BK101.out (.slice (some ⟨go34, 0, none⟩) x103000_1.length co34) (.slice Ao49 x103001_1.length co49)) (fun _ h => h.1), by (with_reducible repeat (first | apply Kd.Q_alloc | apply Kd.Q_drewN | apply Kd.Q_drew)); exact Kd.Q_mono (qF2 HO_103001.out BK101.out (.slice (some ⟨go34, 0, none⟩) x103000_1.length co34) (.slice Ao49 x103001_1.length co49)) (fun _ h => h.1), pI65 HI0.out, (pV HB.out (IsS65.ge HI0.out)), pK HK.out⟩
     rw [if_neg c33] at H
     exact absurd H (by simp)
    rw [if_neg c32] at H
    exact absurd H (by simp)
   rw [if_neg c30] at H
   have c30b0 : (t121 == 0) = false := beq_eq_false_iff_ne.mpr c30
   have c30b1 : (t121 != 0) = true := bne_iff_ne.mpr c30
   by_cases c50 : t121 = 1
   ·
    rw [if_pos c50] at H
    have c50b0 : (t121 == 1) = true := beq_iff_eq.mpr c50
    have c50b1 : (t121 != 1) = false := bne_eq_false_iff_eq.mpr c50
    clear c50
    by_cases c51 : 0 ≤ t118
    ·
     rw [if_pos c51] at H
     have c51b0 : decide (0 ≤ t118) = true := decide_eq_true c51
     clear c51
     by_cases c52 : t118 < (x103000_1.length : Int)
     ·
      rw [if_pos c52] at H
      have c52b0 : decide (t118 < (x103000_1.length : Int)) = true := decide_eq_true c52
      clear c52
      replace H := Option.bind_eq_some_iff.mp H
      obtain ⟨⟨t132, t133, t134⟩, A530, H⟩ := H
      replace H : (if t118 < (x103001_1.length : Int) then (some (x103000_1, (x103001_1.set (t118 : Int).toNat (wrap64 ((rd x103000_1 t118) + t132))), t133, t134)) else (none)) = some (r1, r2, r3, r4) := H
      have A53 := Aside0.mk A530
      clear A530
      by_cases c54 : t118 < (x103001_1.length : Int)
      ·
       rw [if_pos c54] at H
       have c54b0 : decide (t118 < (x103001_1.length : Int)) = true := decide_eq_true c54
       clear c54
       obtain ⟨y135, hy135⟩ : ∃ y_ : List Int, y_ = (x103001_1.set (t118 : Int).toNat (wrap64 ((rd x103000_1 t118) + t132))) := ⟨_, rfl⟩
       replace H : (some (x103000_1, y135, t133, t134)) = some (r1, r2, r3, r4) := by first | (rw [hy135]; with_reducible exact H) | (have H2_ := (Option.bind_some _ _).symm.trans H; rw [hy135]; with_reducible exact H2_) | (have H2_ := (Option.bind_some _ _).symm.trans H; with_reducible exact H2_) | with_reducible exact H | (rw [hy135]; exact H) | exact H
       have Ny135 := Aside0.mk hy135
       clear hy135
       simp only [Option.some.injEq, Prod.mk.injEq] at H
       obtain ⟨rfl, rfl, rfl, rfl⟩ := H
       try go_wp2_with (first | ((with_reducible refine gate_callee (f := 39) rfl ?_); refine gl (some 31) Try.func39 #[.pointer (some ⟨g, 0, none⟩), .int .i64 11] ?_; (with_reducible refine (spec_l1Cur_pick.calls g s0_0 x1001_1 x1002_1 11 t118 t119 t120 w0 _ ?side1 ?side2 A28.out).mono ?_); (case side1 => exact pI65 HI0.out); (case side2 => exact pV HB.out (IsS65.ge HI0.out)); rintro e w56 ⟨rfl, hi, hb, hk⟩; refine ⟨_, rfl, ?_⟩; have n0_ := aK (Kd.R_mono (Kd.R_keep (IsS65.apart (show IsS65 w0 _ g s0_0 x1001_1 x1002_1 from pI65 HI0.out) (pR HO_103000.out) (by decide)) hk (fun _ h => h.2)) (fun _ h => h.1)); have n1_ := aK (Kd.Q_mono (Kd.Q_keep (IsS65.apartQ (show IsS65 w0 _ g s0_0 x1001_1 x1002_1 from pI65 HI0.out) (pQ HO_103001.out) (by decide)) hk (fun _ h => h.2)) (fun _ h => h.1)); have n2_ := aK (KeepBut.blk hk (pB BK101.out) NB101_0.out (by simp)); have n3_ := aK (KeepBut.blk hk (pB BK102.out) NB102_0.out (by simp)); have n4_ := aK (KeepBut.trans (pK HK.out) hk (.inl rfl)); have n5_ := aK (hb); have n6_ := aK (hi); clear HO_103000 HO_103001 BK101 BK102 HK HB HI0; have HO_103000 := n0_; have HO_103001 := n1_; have BK101 := n2_; have BK102 := n3_; have HK := n4_; have HB := n5_; have HI0 := n6_; clear n0_ n1_ n2_ n3_ n4_ n5_ n6_; (try clear hb); (try clear hb2); (try clear hk); (try clear hi)) | ((with_reducible refine gate_callee (f := 39) rfl ?_); refine gl (some 33) Try.func39 #[.pointer (some ⟨g, 0, none⟩), .int .i64 24] ?_; (with_reducible refine (spec_l1Cur_pick.calls g s0_0 t119 t120 24 t121 t122 t123 w0 _ ?side1 ?side2 A29.out).mono ?_); (case side1 => exact pI65 HI0.out); (case side2 => exact pV HB.out (IsS65.ge HI0.out)); rintro e w57 ⟨rfl, hi, hb, hk⟩; refine ⟨_, rfl, ?_⟩; have n0_ := aK (Kd.R_mono (Kd.R_keep (IsS65.apart (show IsS65 w0 _ g s0_0 t119 t120 from pI65 HI0.out) (pR HO_103000.out) (by decide)) hk (fun _ h => h.2)) (fun _ h => h.1)); have n1_ := aK (Kd.Q_mono (Kd.Q_keep (IsS65.apartQ (show IsS65 w0 _ g s0_0 t119 t120 from pI65 HI0.out) (pQ HO_103001.out) (by decide)) hk (fun _ h => h.2)) (fun _ h => h.1)); have n2_ := aK (KeepBut.blk hk (pB BK101.out) NB101_0.out (by simp)); have n3_ := aK (KeepBut.blk hk (pB BK102.out) NB102_0.out (by simp)); have n4_ := aK (KeepBut.trans (pK HK.out) hk (.inl rfl)); have n5_ := aK (hb); have n6_ := aK (hi); clear HO_103000 HO_103001 BK101 BK102 HK HB HI0; have HO_103000 := n0_; have HO_103001 := n1_; have BK101 := n2_; have BK102 := n3_; have HK := n4_; have HB := n5_; have HI0 := n6_; clear n0_ n1_ n2_ n3_ n4_ n5_ n6_; (try clear hb); (try clear hb2); (try clear hk); (try clear hi)))
       have n0_ := aK (Kd.R_drew HO_103000.out)
       have n1_ := aK (Kd.Q_drew HO_103001.out)
       have n2_ := aK (blk_drew BK101.out)
       have n3_ := aK (blk_drew BK102.out)
       have n4_ := aK (IsS65.drew HI0.out)
       have n5_ := aK (keep_drew HK.out)
       have n6_ := aK (below_drew1 HB.out)
       clear HO_103000 HO_103001 BK101 BK102 HI0 HK HB
       have HO_103000 := n0_
       have HO_103001 := n1_
       have BK101 := n2_
       have BK102 := n3_
       have HI0 := n4_
       have HK := n5_
       have HB := n6_
       clear n0_ n1_ n2_ n3_ n4_ n5_ n6_
       obtain ⟨Ao59, co59, eo59⟩ := Kd.R_slice HO_103000.out
       (first | subst eo59 | (obtain ⟨f4_, f5_⟩ := sI eo59; subst f4_; subst f5_))
       have p131 : 0 ≤ (t118 : Int) := of_decide_eq_true (by first | (with_reducible assumption) | assumption)
       have q131 : t118 < (x103000_1.length : Int) := of_decide_eq_true (by first | (with_reducible assumption) | assumption)
       obtain ⟨ad131, e131, hx131_0⟩ := Kd.at_int (Kd.R_reads' HO_103000.out).2.2 t118 p131 q131
       cases e131
       replace p131 := eq_true p131
       replace q131 := eq_true q131
       refine start_ (n := 13) (S := fun w' => w'.cell? ⟨gb102, 0, none⟩ = some (.slice (some ad131) x103000_1.length co59) ∧ w'.cell? ⟨gb102, 1, none⟩ = some (u103001) ∧ w'.cell? (ad131.add (t118).toNat) = some (.int .i64 (rd x103000_1 t118))) (ds := [12]) #[false, false, false, false, false, false, false, false, false, false, false, false, false] (by kernel_rfl) rfl rfl ⟨(blk_cell BK102.out 0).trans rfl, (blk_cell BK102.out 1).trans rfl, hx131_0⟩ (fun hHeld => ?_); refine with_tabW spec_l1Cur_tally.tab13 spec_l1Cur_tally.bits13 (fun HT_ HW_ => ?_)
       generalize w57.drew = w58 at HO_103000 HO_103001 BK101 BK102 HI0 HK HB hx131_0 hHeld ⊢
       refine pu (i := 0) (N := some 45) #[true, false, false, false, false, false, false, false, false, false, false, false, false] rfl rfl HT_.out ?_
       refine pu (i := 2) (N := some 47) #[true, false, true, false, false, false, false, false, false, false, false, false, false] rfl rfl HT_.out ?_
       refine pu (i := 3) (N := some 48) #[true, false, true, true, false, false, false, false, false, false, false, false, false] rfl rfl HT_.out ?_
       refine pu (i := 5) (N := some 50) #[true, false, true, true, false, true, false, false, false, false, false, false, false] rfl rfl HT_.out ?_
       refine pu (i := 8) (N := some 53) #[true, false, true, true, false, true, false, false, true, false, false, false, false] rfl rfl HT_.out ?_
       refine tk (i := 1) (N := some 46) #[true, true, true, true, false, true, false, false, true, false, false, false, false] rfl rfl HT_.out HW_.out (Or.inl ⟨by rfl, by rintro w' ⟨s0, s1, s2⟩; go_simp; with_reducible rfl⟩) hHeld ?_
       refine tk (i := 4) (N := some 49) #[true, true, true, true, true, true, false, false, true, false, false, false, false] rfl rfl HT_.out HW_.out (Or.inl ⟨by rfl, by rintro w' ⟨s0, s1, s2⟩; go_simp; with_reducible rfl⟩) hHeld ?_
       refine pu (i := 6) (N := some 51) #[true, true, true, true, true, true, true, false, true, false, false, false, false] rfl rfl HT_.out ?_
       refine tk (i := 7) (N := some 52) #[true, true, true, true, true, true, true, true, true, false, false, false, false] rfl rfl HT_.out HW_.out (Or.inl ⟨by rfl, by rintro w' ⟨s0, s1, s2⟩; go_simp; with_reducible rfl⟩) hHeld ?_
       refine one_ (i := 9) (N := some 54) #[true, true, true, true, true, true, true, true, true, true, false, false, false] rfl rfl (one_of HT_.out (by kernel_rfl)) (by decide) (fun K hK => ?_)
       refine goes_ Try.func39 (by kernel_rfl) rfl #[.pointer (some ⟨g, 0, none⟩), .int .i64 2] (by rfl) rfl rfl (by (try simp only [List.map_toArray, List.map_cons, List.map_nil]); first | done | rfl | (simp only [List.length_drop, List.length_take]; rfl)) ?_
       with_reducible refine (spec_l1Cur_pick.calls g s0_0 t122 t123 2 t132 t133 t134 w0 _ ?side1 ?side2 A53.out).mono ?_
       (case side1 => exact pI65 HI0.out)
       (case side2 => exact pV HB.out (IsS65.ge HI0.out))
       rintro e w60 ⟨rfl, hi, hb, hk⟩
       have HS2_ := keep_cell hk (hHeld.2.2) (by first | (rw [add_block]; exact Kd.own_blk (IsS65.own_ne HI0.out HO_103000.out (by decide))) | (show (Addr.add _ _).block ≠ _; rw [add_block]; exact Kd.own_blk (IsS65.own_ne HI0.out HO_103000.out (by decide))) | exact Kd.own_blk (IsS65.own_ne HI0.out HO_103000.out (by decide)))
       refine ⟨_, rfl, ?_⟩
       have n0_ := aK (Kd.R_mono (Kd.R_keep (IsS65.apart (show IsS65 w0 _ g s0_0 t122 t123 from pI65 HI0.out) (pR HO_103000.out) (by decide)) hk (fun _ h => h.2)) (fun _ h => h.1))
       have n1_ := aK (Kd.Q_mono (Kd.Q_keep (IsS65.apartQ (show IsS65 w0 _ g s0_0 t122 t123 from pI65 HI0.out) (pQ HO_103001.out) (by decide)) hk (fun _ h => h.2)) (fun _ h => h.1))
       have n2_ := aK (KeepBut.blk hk (pB BK101.out) NB101_0.out (by simp))
       have n3_ := aK (KeepBut.blk hk (pB BK102.out) NB102_0.out (by simp))
       have n4_ := aK (KeepBut.trans (pK HK.out) hk (.inl rfl))
       have n5_ := aK (hb)
       have n6_ := aK (hi)
       clear HO_103000 HO_103001 BK101 BK102 HK HB HI0
       have HO_103000 := n0_
       have HO_103001 := n1_
       have BK101 := n2_
       have BK102 := n3_
       have HK := n4_
       have HB := n5_
       have HI0 := n6_
       clear n0_ n1_ n2_ n3_ n4_ n5_ n6_
       (try clear hb)
       (try clear hb2)
       (try clear hk)
       (try clear hi)
       have p55 : 0 ≤ (t118 : Int) := of_decide_eq_true (by first | (with_reducible assumption) | assumption)
       have q55 : (t118 : Int) < ((x103001_1.length : Int) : Int) := of_decide_eq_true (by first | (with_reducible assumption) | assumption)
       obtain ⟨go55, oo55, co55, eo55, gb55, gl55, cl55, HG55⟩ := Kd.Q_form HO_103001.out (by omega)
       (first | cases eo55 | (injection eo55 with ea_ en_ ec_; (first | subst ea_ | (injection ea_ with ea_; subst ea_)); subst ec_; clear en_))
       have GB55 := Aside0.mk gb55
       have GG55 := Aside0.mk HG55
       clear gb55 gl55 HG55
       obtain ⟨hx55_0, hf55_0⟩ := Kd.Q_cell 0 HO_103001.out (t118 : Int) p55 q55
       replace p55 := eq_true p55
       replace q55 := eq_true q55
       have HN0_go55 := aK (show g ≠ go55 from by have h_ := IsS65.own_neQ HI0.out HO_103001.out (by decide); intro e_; exact h_ (by rw [e_]; rfl))
       have HP61 := (Kd.Q_putg HO_103001.out (t118 : Int) (of_decide_eq_true (by first | (with_reducible assumption) | assumption)) (by have h_ : (t118 : Int) < ((x103001_1.length : Int) : Int) := of_decide_eq_true (by first | (with_reducible assumption) | assumption); first | exact h_ | (have e_ := (Kd.Q_reads' HO_103001.out).1; omega) | simpa using h_) (wrap64 ((rd x103000_1 t118) + t132))).1
       rw [← Ny135.out] at HP61
       have HQ61 := Aside0.mk HP61
       clear HP61
       refine hK.out _ _ ⟨(blk_cell BK102.out 0).trans rfl, (blk_cell BK102.out 1).trans rfl, HS2_⟩ (fun hHeld => ?_)
       clear hK K
       refine norm_ (a' := ?_) ?_ ?_
       rotate_left
       ·
        show Act.put _ (some 54) _ = _
        simp only [sP]
        rfl
       refine pu (i := 10) (N := some 55) #[true, true, true, true, true, true, true, true, true, true, true, false, false] rfl rfl HT_.out ?_
       refine pu (i := 11) (N := some 56) #[true, true, true, true, true, true, true, true, true, true, true, true, false] rfl rfl HT_.out ?_
       refine last_ (i := 12) (N := none) #[true, true, true, true, true, true, true, true, true, true, true, true, true] rfl rfl (one_of HT_.out (by kernel_rfl)) (by decide) (fun K hK => ?_)
       refine skip_ (w1 := ?_) (by rfl) rfl ?_ ?_
       rotate_left
       ·
        go_simp
        rfl
       refine hK.out _ _ ?_
       clear hK K
       refine done_ (done_of HT_.out (by kernel_rfl)) ?_
       have n0_ : Aside0 (Kd.R (Kd.int .i64) 3 (w60.setCell ⟨go55, oo55 + (t118 : Int).toNat, none⟩ (.int .i64 (wrap64 ((rd x103000_1 t118) + t132)))) w.heap.size (fun k_ => some k_ ≠ (.slice (some ⟨go55, oo55, none⟩) x103001_1.length co55 : Value).ownBlock) (.slice (some ad131) x103000_1.length co59) x103000_1) := ⟨by (with_reducible repeat (first | apply Kd.R_alloc | apply Kd.R_drewN | apply Kd.R_drew)); exact Kd.R_mono (Kd.R_far (p := ⟨go55, oo55 + (t118 : Int).toNat, none⟩) (Kd.R_mono HO_103000.out (fun k_ hk => (⟨hk, fun e_ => hk (by rw [e_]; rfl)⟩ : _ ∧ k_ ≠ go55))) (fun _ hk => hk.2) (.int .i64 (wrap64 ((rd x103000_1 t118) + t132)))) (fun _ hk => hk.1)⟩
       have n1_ : Aside0 (Kd.Q (Kd.int .i64) 3 (w60.setCell ⟨go55, oo55 + (t118 : Int).toNat, none⟩ (.int .i64 (wrap64 ((rd x103000_1 t118) + t132)))) w.heap.size (fun k_ => some k_ ≠ (.slice (some ad131) x103000_1.length co59 : Value).ownBlock) (.slice (some ⟨go55, oo55, none⟩) x103001_1.length co55) y135) := ⟨pQ HQ61.out⟩
       have n2_ : Aside0 ((w60.setCell ⟨go55, oo55 + (t118 : Int).toNat, none⟩ (.int .i64 (wrap64 ((rd x103000_1 t118) + t132)))).heap[gb101]? = some (.cells #[.slice none 0 0, .slice none 0 0] 26 (0, 0))) := ⟨by refine bk ?_; refine blk_far ?_ (by have h_ := Kd.Q_ne HO_103001.out BK101.out (by decide); intro e_; exact h_ (by rw [e_]; rfl)) _; refine bk ?_; exact BK101.out⟩
       have n3_ : Aside0 ((w60.setCell ⟨go55, oo55 + (t118 : Int).toNat, none⟩ (.int .i64 (wrap64 ((rd x103000_1 t118) + t132)))).heap[gb102]? = some (.cells #[.slice (some ad131) x103000_1.length co59, .slice (some ⟨go55, oo55, none⟩) x103001_1.length co55] 26 (0, 0))) := ⟨by refine bk ?_; refine blk_far ?_ (by have h_ := Kd.Q_ne HO_103001.out BK102.out (by decide); intro e_; exact h_ (by rw [e_]; rfl)) _; refine bk ?_; exact BK102.out⟩
       have n4_ : Aside0 (IsS65 w0 (w60.setCell ⟨go55, oo55 + (t118 : Int).toNat, none⟩ (.int .i64 (wrap64 ((rd x103000_1 t118) + t132)))) g s0_0 t133 t134) := ⟨by repeat (first | (with_reducible first | exact HI0.out | apply IsS65.alloc | apply IsS65.drewN | apply IsS65.drew | apply IsS65.set_1 | apply IsS65.set_2 | refine IsS65.far ?_ HN0_go55.out _ | refine IsS65.far ?_ NB0_101.out _ | refine IsS65.far ?_ NB0_102.out _) | exact HI0.out)⟩
       have n5_ : Aside0 (KeepBut w (w60.setCell ⟨go55, oo55 + (t118 : Int).toNat, none⟩ (.int .i64 (wrap64 ((rd x103000_1 t118) + t132)))) g none) := ⟨by repeat (first | (with_reducible first | exact HK.out | apply KeepBut.set_ | apply keep_drewN | apply keep_drew | apply keep_alloc | refine keep_far ?_ GB55.out _ | refine keep_far ?_ GW101.out _ | refine keep_far ?_ GW102.out _) | exact HK.out)⟩
       have n6_ : Aside0 (Below w0.heap.size w0 (w60.setCell ⟨go55, oo55 + (t118 : Int).toNat, none⟩ (.int .i64 (wrap64 ((rd x103000_1 t118) + t132))))) := ⟨by repeat (first | (with_reducible first | exact HB.out | apply below_alloc | apply pw_below_drewN | apply below_drew1 | refine below_set ?_ (Nat.le_trans HL.out GB55.out) | refine below_set ?_ (IsS65.ge HI0.out) | refine below_set ?_ GE101.out | refine below_set ?_ GE102.out) | exact HB.out)⟩
       (try clear HO_103000)
       (try clear HO_103001)
       (try clear BK101)
       (try clear BK102)
       (try clear HI0)
       (try clear HK)
       (try clear HB)
       generalize (w60.setCell ⟨go55, oo55 + (t118 : Int).toNat, none⟩ (.int .i64 (wrap64 ((rd x103000_1 t118) + t132)))) = w62 at n0_ n1_ n2_ n3_ n4_ n5_ n6_ ⊢
       have HO_103000 := n0_
       have HO_103001 := n1_
       have BK101 := n2_
       have BK102 := n3_
       have HI0 := n4_
       have HK := n5_
       have HB := n6_
       clear n0_ n1_ n2_ n3_ n4_ n5_ n6_
       have hnb63 := NB102_101.out
       have hnc63 := NB101_102.out
       have hnb64 := NB102_0.out
       have hnc64 := NB0_102.out
       obtain ⟨hcz65_0, hcz65_1, hfz65_0, hfz65_1⟩ := bc2 BK102.out
       have hnb66 := NB101_0.out
       have hnc66 := NB0_101.out
       obtain ⟨hcz67_0, hcz67_1, hfz67_0, hfz67_1⟩ := bc2 BK101.out
       try go_wp2
       refine bodyPost_ret (results_cell_row rfl _ _ gb101 26 #[.slice (some ad131) x103000_1.length co59, .slice (some ⟨go55, oo55, none⟩) x103001_1.length co55] (0, 0) _ rfl (by refine bk ?_; refine blk_put (cs := #[.slice (some ad131) x103000_1.length co59, .slice none 0 0]) ?_ 1 _ rfl; refine bk ?_; refine blk_put (cs := #[.slice none 0 0, .slice none 0 0]) ?_ 0 _ rfl; refine bk ?_; exact BK101.out) Try.underlying26 rfl (by kernel_rfl)) rfl ?_
       exact ⟨_, _, er, by (with_reducible repeat (first | apply Kd.R_alloc | apply Kd.R_drewN | apply Kd.R_drew)); exact rF2 HO_103000.out BK101.out (.slice (some ad131) x103000_1.length co59) (.slice (some ⟨go55, oo55, none⟩) x103001_1.length co55), by (with_reducible repeat (first | apply Kd.Q_alloc | apply Kd.Q_drewN | apply Kd.Q_drew)); exact qF2 HO_103001.out BK101.out (.slice (some ad131) x103000_1.length co59) (.slice (some ⟨go55, oo55, none⟩) x103001_1.length co55), pI65 HI0.out, (pV HB.out (IsS65.ge HI0.out)), pK HK.out⟩
      rw [if_neg c54] at H
      exact absurd H (by simp)
     rw [if_neg c52] at H
     exact absurd H (by simp)
    rw [if_neg c51] at H
    exact absurd H (by simp)
   rw [if_neg c50] at H
   have c50b0 : (t121 == 1) = false := beq_eq_false_iff_ne.mpr c50
   have c50b1 : (t121 != 1) = true := bne_iff_ne.mpr c50
   by_cases c68 : t121 = 2
   ·
    rw [if_pos c68] at H
    have c68b0 : (t121 == 2) = true := beq_iff_eq.mpr c68
    have c68b1 : (t121 != 2) = false := bne_eq_false_iff_eq.mpr c68
    clear c68
    by_cases c69 : 1 ≤ (x103001_1.length : Int)
    ·
     rw [if_pos c69] at H
     have c69b0 := eq_true c69
     have c69b1 : decide (1 ≤ (x103001_1.length : Int)) = true := decide_eq_true c69
     clear c69
     obtain ⟨y136, hy136⟩ : ∃ y_ : List Int, y_ = (x103001_1.drop (1 : Int).toNat) := ⟨_, rfl⟩
     replace H : (some (x103000_1, y136, t122, t123)) = some (r1, r2, r3, r4) := by first | (rw [hy136]; with_reducible exact H) | (have H2_ := (Option.bind_some _ _).symm.trans H; rw [hy136]; with_reducible exact H2_) | (have H2_ := (Option.bind_some _ _).symm.trans H; with_reducible exact H2_) | with_reducible exact H | (rw [hy136]; exact H) | exact H
     have Ny136 := Aside0.mk hy136
     clear hy136
     simp only [Option.some.injEq, Prod.mk.injEq] at H
     obtain ⟨rfl, rfl, rfl, rfl⟩ := H
     go_wp2_with (first | ((with_reducible refine gate_callee (f := 39) rfl ?_); refine gl (some 31) Try.func39 #[.pointer (some ⟨g, 0, none⟩), .int .i64 11] ?_; (with_reducible refine (spec_l1Cur_pick.calls g s0_0 x1001_1 x1002_1 11 t118 t119 t120 w0 _ ?side1 ?side2 A28.out).mono ?_); (case side1 => exact pI65 HI0.out); (case side2 => exact pV HB.out (IsS65.ge HI0.out)); rintro e w70 ⟨rfl, hi, hb, hk⟩; refine ⟨_, rfl, ?_⟩; have n0_ := aK (Kd.R_mono (Kd.R_keep (IsS65.apart (show IsS65 w0 _ g s0_0 x1001_1 x1002_1 from pI65 HI0.out) (pR HO_103000.out) (by decide)) hk (fun _ h => h.2)) (fun _ h => h.1)); have n1_ := aK (Kd.Q_mono (Kd.Q_keep (IsS65.apartQ (show IsS65 w0 _ g s0_0 x1001_1 x1002_1 from pI65 HI0.out) (pQ HO_103001.out) (by decide)) hk (fun _ h => h.2)) (fun _ h => h.1)); have n2_ := aK (KeepBut.blk hk (pB BK101.out) NB101_0.out (by simp)); have n3_ := aK (KeepBut.blk hk (pB BK102.out) NB102_0.out (by simp)); have n4_ := aK (KeepBut.trans (pK HK.out) hk (.inl rfl)); have n5_ := aK (hb); have n6_ := aK (hi); clear HO_103000 HO_103001 BK101 BK102 HK HB HI0; have HO_103000 := n0_; have HO_103001 := n1_; have BK101 := n2_; have BK102 := n3_; have HK := n4_; have HB := n5_; have HI0 := n6_; clear n0_ n1_ n2_ n3_ n4_ n5_ n6_; (try clear hb); (try clear hb2); (try clear hk); (try clear hi)) | ((with_reducible refine gate_callee (f := 39) rfl ?_); refine gl (some 33) Try.func39 #[.pointer (some ⟨g, 0, none⟩), .int .i64 24] ?_; (with_reducible refine (spec_l1Cur_pick.calls g s0_0 t119 t120 24 t121 t122 t123 w0 _ ?side1 ?side2 A29.out).mono ?_); (case side1 => exact pI65 HI0.out); (case side2 => exact pV HB.out (IsS65.ge HI0.out)); rintro e w71 ⟨rfl, hi, hb, hk⟩; refine ⟨_, rfl, ?_⟩; have n0_ := aK (Kd.R_mono (Kd.R_keep (IsS65.apart (show IsS65 w0 _ g s0_0 t119 t120 from pI65 HI0.out) (pR HO_103000.out) (by decide)) hk (fun _ h => h.2)) (fun _ h => h.1)); have n1_ := aK (Kd.Q_mono (Kd.Q_keep (IsS65.apartQ (show IsS65 w0 _ g s0_0 t119 t120 from pI65 HI0.out) (pQ HO_103001.out) (by decide)) hk (fun _ h => h.2)) (fun _ h => h.1)); have n2_ := aK (KeepBut.blk hk (pB BK101.out) NB101_0.out (by simp)); have n3_ := aK (KeepBut.blk hk (pB BK102.out) NB102_0.out (by simp)); have n4_ := aK (KeepBut.trans (pK HK.out) hk (.inl rfl)); have n5_ := aK (hb); have n6_ := aK (hi); clear HO_103000 HO_103001 BK101 BK102 HK HB HI0; have HO_103000 := n0_; have HO_103001 := n1_; have BK101 := n2_; have BK102 := n3_; have HK := n4_; have HB := n5_; have HI0 := n6_; clear n0_ n1_ n2_ n3_ n4_ n5_ n6_; (try clear hb); (try clear hb2); (try clear hk); (try clear hi); have hnb72 := NB102_101.out; have hnc72 := NB101_102.out; have hnb73 := NB102_0.out; have hnc73 := NB0_102.out; obtain ⟨hcz74_0, hcz74_1, hfz74_0, hfz74_1⟩ := bc2 BK102.out; obtain ⟨Ao75, co75, eo75, _⟩ := Kd.Q_slice HO_103001.out; subst eo75; have q76 : (1 : Int) ≤ ((x103001_1.length : Int) : Int) := of_decide_eq_true (by first | (with_reducible assumption) | assumption); obtain ⟨i076, hi076, _, hsz76, _⟩ := info_parts info3; have hcut76 := cut_from (P := Try.prog) 24 3 .i64 Try.underlying24 hi076 1 hsz76 Ao75 x103001_1.length co75 1 (by omega) q76; have hr76 := Kd.Q_drop (k := (1 : Int).toNat) HO_103001.out (by omega); obtain ⟨A76, hA76⟩ : ∃ A1, A1 = (if co75 = (1 : Int).toNat then Ao75 else (Ao75 : Option Addr).map (·.add ((1 : Int).toNat * 1))) := ⟨_, rfl⟩; obtain ⟨c76, hc76⟩ : ∃ c1, c1 = co75 - (1 : Int).toNat := ⟨_, rfl⟩; have hy76 : y136.length = x103001_1.length - (1 : Int).toNat := (by rw [Ny136.out, List.length_drop]); rw [← Ny136.out] at hr76; rw [← hy76, ← hA76, ← hc76] at hcut76; replace hr76 : Kd.Q (Kd.int .i64) 3 w71 w.heap.size (fun k_ => some k_ ≠ (u103000 : Value).ownBlock) (.slice A76 y136.length c76) y136 := (by rw [hA76, hc76, hy76]; exact hr76); have HE76 : Aside0 ((Value.slice A76 y136.length c76).ownBlock = (.slice Ao75 x103001_1.length co75 : Value).ownBlock) := ⟨by rw [hA76]; split <;> (cases (Ao75 : Option Addr) <;> rfl)⟩; clear hy76 hi076 hsz76 HO_103001 hA76 hc76; have HO138 := Aside0.mk hr76; clear hr76; replace q76 := eq_true q76; have n_ := aK (Kd.R_mono (ok' := fun k_ => some k_ ≠ (.slice A76 y136.length c76 : Value).ownBlock) HO_103000.out (fun k_ hk => (by rw [HE76.out]; exact hk))); clear HO_103000; have HO_103000 := n_; clear n_; obtain ⟨Ao77, co77, eo77⟩ := Kd.R_slice HO_103000.out; subst eo77; have hnb78 := NB101_0.out; have hnc78 := NB0_101.out; obtain ⟨hcz79_0, hcz79_1, hfz79_0, hfz79_1⟩ := bc2 BK101.out))
     refine bodyPost_ret (results_cell_row rfl _ _ gb101 26 #[.slice Ao77 x103000_1.length co77, .slice A76 y136.length c76] (0, 0) _ rfl (by refine bk ?_; refine blk_put (cs := #[.slice Ao77 x103000_1.length co77, .slice none 0 0]) ?_ 1 _ rfl; refine bk ?_; refine blk_put (cs := #[.slice none 0 0, .slice none 0 0]) ?_ 0 _ rfl; refine bk ?_; refine blk_far ?_ NB101_102.out _; refine bk ?_; exact BK101.out) Try.underlying26 rfl (by kernel_rfl)) rfl ?_
     exact ⟨_, _, er, by (with_reducible repeat (first | apply Kd.R_alloc | apply Kd.R_drewN | apply Kd.R_drew)); exact Kd.R_mono (Kd.R_far (p := ⟨gb101, 1, none⟩) (Kd.R_far (p := ⟨gb101, 0, none⟩) (Kd.R_far (p := ⟨gb102, 1, none⟩) (Kd.R_types (Kd.R_types HO_103000.out BK102.out (by decide)) BK101.out (by decide)) (fun _ hk => hk.1.2) (.slice A76 y136.length c76)) (fun _ hk => hk.2) (.slice Ao77 x103000_1.length co77)) (fun _ hk => hk.2) (.slice A76 y136.length c76)) (fun _ hk => hk.1.1), by (with_reducible repeat (first | apply Kd.Q_alloc | apply Kd.Q_drewN | apply Kd.Q_drew)); exact Kd.Q_mono (Kd.Q_far (p := ⟨gb101, 1, none⟩) (Kd.Q_far (p := ⟨gb101, 0, none⟩) (Kd.Q_far (p := ⟨gb102, 1, none⟩) (Kd.Q_types (Kd.Q_types HO138.out BK102.out (by decide)) BK101.out (by decide)) (fun _ hk => hk.1.2) (.slice A76 y136.length c76)) (fun _ hk => hk.2) (.slice Ao77 x103000_1.length co77)) (fun _ hk => hk.2) (.slice A76 y136.length c76)) (fun _ hk => hk.1.1), pI65 HI0.out, (pV HB.out (IsS65.ge HI0.out)), pK HK.out⟩
    rw [if_neg c69] at H
    exact absurd H (by simp)
   rw [if_neg c68] at H
   have c68b0 : (t121 == 2) = false := beq_eq_false_iff_ne.mpr c68
   have c68b1 : (t121 != 2) = true := bne_iff_ne.mpr c68
   by_cases c80 : t121 = 3
   ·
    rw [if_pos c80] at H
    have c80b0 : (t121 == 3) = true := beq_iff_eq.mpr c80
    have c80b1 : (t121 != 3) = false := bne_eq_false_iff_eq.mpr c80
    clear c80
    by_cases c81 : 11 ≤ 35184372088832
    ·
     rw [if_pos c81] at H
     have c81b0 := eq_true c81
     have c81b1 : decide (11 ≤ 35184372088832) = true := decide_eq_true c81
     clear c81
     obtain ⟨y139, hy139⟩ : ∃ y_ : List Int, y_ = (List.replicate 11 0) := ⟨_, rfl⟩
     replace H : (some (y139, (List.replicate 11 0), t122, t123)) = some (r1, r2, r3, r4) := by first | (rw [hy139]; with_reducible exact H) | (have H2_ := (Option.bind_some _ _).symm.trans H; rw [hy139]; with_reducible exact H2_) | (have H2_ := (Option.bind_some _ _).symm.trans H; with_reducible exact H2_) | with_reducible exact H | (rw [hy139]; exact H) | exact H
     have Ny139 := Aside0.mk hy139
     clear hy139
     obtain ⟨y142, hy142⟩ : ∃ y_ : List Int, y_ = (List.replicate 11 0) := ⟨_, rfl⟩
     replace H : (some (y139, y142, t122, t123)) = some (r1, r2, r3, r4) := by first | (rw [hy142]; with_reducible exact H) | (have H2_ := (Option.bind_some _ _).symm.trans H; rw [hy142]; with_reducible exact H2_) | (have H2_ := (Option.bind_some _ _).symm.trans H; with_reducible exact H2_) | with_reducible exact H | (rw [hy142]; exact H) | exact H
     have Ny142 := Aside0.mk hy142
     clear hy142
     simp only [Option.some.injEq, Prod.mk.injEq] at H
     obtain ⟨rfl, rfl, rfl, rfl⟩ := H
     go_wp2_with (first | ((with_reducible refine gate_callee (f := 39) rfl ?_); refine gl (some 31) Try.func39 #[.pointer (some ⟨g, 0, none⟩), .int .i64 11] ?_; (with_reducible refine (spec_l1Cur_pick.calls g s0_0 x1001_1 x1002_1 11 t118 t119 t120 w0 _ ?side1 ?side2 A28.out).mono ?_); (case side1 => exact pI65 HI0.out); (case side2 => exact pV HB.out (IsS65.ge HI0.out)); rintro e w82 ⟨rfl, hi, hb, hk⟩; refine ⟨_, rfl, ?_⟩; have n0_ := aK (Kd.R_mono (Kd.R_keep (IsS65.apart (show IsS65 w0 _ g s0_0 x1001_1 x1002_1 from pI65 HI0.out) (pR HO_103000.out) (by decide)) hk (fun _ h => h.2)) (fun _ h => h.1)); have n1_ := aK (Kd.Q_mono (Kd.Q_keep (IsS65.apartQ (show IsS65 w0 _ g s0_0 x1001_1 x1002_1 from pI65 HI0.out) (pQ HO_103001.out) (by decide)) hk (fun _ h => h.2)) (fun _ h => h.1)); have n2_ := aK (KeepBut.blk hk (pB BK101.out) NB101_0.out (by simp)); have n3_ := aK (KeepBut.blk hk (pB BK102.out) NB102_0.out (by simp)); have n4_ := aK (KeepBut.trans (pK HK.out) hk (.inl rfl)); have n5_ := aK (hb); have n6_ := aK (hi); clear HO_103000 HO_103001 BK101 BK102 HK HB HI0; have HO_103000 := n0_; have HO_103001 := n1_; have BK101 := n2_; have BK102 := n3_; have HK := n4_; have HB := n5_; have HI0 := n6_; clear n0_ n1_ n2_ n3_ n4_ n5_ n6_; (try clear hb); (try clear hb2); (try clear hk); (try clear hi)) | ((with_reducible refine gate_callee (f := 39) rfl ?_); refine gl (some 33) Try.func39 #[.pointer (some ⟨g, 0, none⟩), .int .i64 24] ?_; (with_reducible refine (spec_l1Cur_pick.calls g s0_0 t119 t120 24 t121 t122 t123 w0 _ ?side1 ?side2 A29.out).mono ?_); (case side1 => exact pI65 HI0.out); (case side2 => exact pV HB.out (IsS65.ge HI0.out)); rintro e w83 ⟨rfl, hi, hb, hk⟩; refine ⟨_, rfl, ?_⟩; have n0_ := aK (Kd.R_mono (Kd.R_keep (IsS65.apart (show IsS65 w0 _ g s0_0 t119 t120 from pI65 HI0.out) (pR HO_103000.out) (by decide)) hk (fun _ h => h.2)) (fun _ h => h.1)); have n1_ := aK (Kd.Q_mono (Kd.Q_keep (IsS65.apartQ (show IsS65 w0 _ g s0_0 t119 t120 from pI65 HI0.out) (pQ HO_103001.out) (by decide)) hk (fun _ h => h.2)) (fun _ h => h.1)); have n2_ := aK (KeepBut.blk hk (pB BK101.out) NB101_0.out (by simp)); have n3_ := aK (KeepBut.blk hk (pB BK102.out) NB102_0.out (by simp)); have n4_ := aK (KeepBut.trans (pK HK.out) hk (.inl rfl)); have n5_ := aK (hb); have n6_ := aK (hi); clear HO_103000 HO_103001 BK101 BK102 HK HB HI0; have HO_103000 := n0_; have HO_103001 := n1_; have BK101 := n2_; have BK102 := n3_; have HK := n4_; have HB := n5_; have HI0 := n6_; clear n0_ n1_ n2_ n3_ n4_ n5_ n6_; (try clear hb); (try clear hb2); (try clear hk); (try clear hi)) | ((with_reducible refine gate_dst (N := 65) rfl ?_); refine Kd.R_make (Kd.int .i64) _ 3 rfl (N := 65) rfl 24 _ _ rfl 11 rfl rfl Try.underlying24 (.int .i64 0) 8 info3 rfl (by decide) (by omega) 0 (ok := fun _ => True) (okp := fun _ => True) rfl (fun _ hk => hk) trivial (by omega) (by omega) (Below.refl _ _) (Nat.le_refl _) ?_; intro v140 w84 ho85 hb hg_ hnew_; clear hg_ hnew_; (first | rw [← Ny139.out] at ho85 | (simp only [Int.reduceToNat] at ho85; rw [← Ny139.out] at ho85)); have n0_ := aK (Kd.R_elder' (pR HO_103000.out) (Kd.R_base ho85) hb); have n1_ := aK (Kd.Q_elder' (pQ HO_103001.out) (Kd.R_base ho85) hb); have HO141 := aK (Kd.R_lower (Kd.R_new' (nw1 ho85 (pR HO_103000.out)) (Kd.Q_lt (pQ HO_103001.out))) (keep_size (w := w) (g := g) (row := none) (pK HK.out))); have n5_ := aK (IsS65.below (pI65 HI0.out) hb); have n6_ := aK (KeepBut.trans (pK HK.out) (KeepBut.of_below hb g none) (.inl rfl)); have n7_ := aK (below_step ((pV HB.out (IsS65.ge HI0.out))) hb); replace BK101 := bB BK101 hb; replace BK102 := bB BK102 hb; clear HO_103000 HO_103001 HI0 HK HB; have HO_103000 := n0_; have HO_103001 := n1_; have HI0 := n5_; have HK := n6_; have HB := n7_; clear n0_ n1_ n5_ n6_ n7_ hb ho85; obtain ⟨Ao86, co86, eo86⟩ := Kd.R_slice HO141.out; subst eo86; have hnb87 := NB102_101.out; have hnc87 := NB101_102.out; have hnb88 := NB102_0.out; have hnc88 := NB0_102.out; obtain ⟨hcz89_0, hcz89_1, hfz89_0, hfz89_1⟩ := bc2 BK102.out) | ((with_reducible refine gate_dst (N := 67) rfl ?_); refine Kd.R_make (Kd.int .i64) _ 3 rfl (N := 67) rfl 24 _ _ rfl 11 rfl rfl Try.underlying24 (.int .i64 0) 8 info3 rfl (by decide) (by omega) 0 (ok := fun _ => True) (okp := fun _ => True) rfl (fun _ hk => hk) trivial (by omega) (by omega) (Below.refl _ _) (Nat.le_refl _) ?_; intro v143 w90 ho91 hb hg_ hnew_; clear hg_ hnew_; (first | rw [← Ny142.out] at ho91 | (simp only [Int.reduceToNat] at ho91; rw [← Ny142.out] at ho91)); have n0_ := aK (Kd.R_elder' (pR (rF1 HO_103000.out BK102.out (.slice Ao86 y139.length co86))) (Kd.R_base ho91) hb); have n1_ := aK (Kd.Q_elder' (pQ (qF1 HO_103001.out BK102.out (.slice Ao86 y139.length co86))) (Kd.R_base ho91) hb); have n2_ := aK (Kd.R_elder' (pR (rF1 HO141.out BK102.out (.slice Ao86 y139.length co86))) (Kd.R_base ho91) hb); have HO144 := aK (Kd.R_lower (Kd.R_new' (Kd.R_new' (nw1 ho91 (pR (rF1 HO_103000.out BK102.out (.slice Ao86 y139.length co86)))) (Kd.Q_lt (pQ (qF1 HO_103001.out BK102.out (.slice Ao86 y139.length co86))))) (Kd.R_lt (pR (rF1 HO141.out BK102.out (.slice Ao86 y139.length co86))))) (keep_size (w := w) (g := g) (row := none) (pK HK.out))); have n4_ := aK (blk_below (g := gb101) (o := .cells #[.slice none 0 0, .slice none 0 0] 26 (0, 0)) (by refine bk ?_; refine blk_far ?_ NB101_102.out _; refine bk ?_; exact BK101.out) hb); have n5_ := aK (blk_below (g := gb102) (o := .cells #[.slice Ao86 y139.length co86, u103001] 26 (0, 0)) (by refine bk ?_; refine blk_put (cs := #[u103000, u103001]) ?_ 0 _ rfl; refine bk ?_; exact BK102.out) hb); have n6_ := aK (IsS65.below (show IsS65 w0 (w84.setCell ⟨gb102, 0, none⟩ (.slice Ao86 y139.length co86)) g s0_0 t122 t123 from pI65 HI0.out) hb); have n7_ := aK (KeepBut.trans (pK HK.out) (KeepBut.of_below hb g none) (.inl rfl)); have n8_ := aK (below_step ((pV HB.out (IsS65.ge HI0.out))) hb); clear HO_103000 HO_103001 HO141 BK101 BK102 HI0 HK HB; have HO_103000 := n0_; have HO_103001 := n1_; have HO141 := n2_; have BK101 := n4_; have BK102 := n5_; have HI0 := n6_; have HK := n7_; have HB := n8_; clear n0_ n1_ n2_ n4_ n5_ n6_ n7_ n8_ hb ho91; obtain ⟨Ao92, co92, eo92⟩ := Kd.R_slice HO144.out; subst eo92; obtain ⟨hcz93_0, hcz93_1, hfz93_0, hfz93_1⟩ := bc2 BK102.out; have hnb94 := NB101_0.out; have hnc94 := NB0_101.out; obtain ⟨hcz95_0, hcz95_1, hfz95_0, hfz95_1⟩ := bc2 BK101.out))
     refine bodyPost_ret (results_cell_row rfl _ _ gb101 26 #[.slice Ao86 y139.length co86, .slice Ao92 y142.length co92] (0, 0) _ rfl (by refine bk ?_; refine blk_put (cs := #[.slice Ao86 y139.length co86, .slice none 0 0]) ?_ 1 _ rfl; refine bk ?_; refine blk_put (cs := #[.slice none 0 0, .slice none 0 0]) ?_ 0 _ rfl; refine bk ?_; refine blk_far ?_ NB101_102.out _; refine bk ?_; exact BK101.out) Try.underlying26 rfl (by kernel_rfl)) rfl ?_
     exact ⟨_, _, er, by (with_reducible repeat (first | apply Kd.R_alloc | apply Kd.R_drewN | apply Kd.R_drew)); exact Kd.R_mono (Kd.R_far (p := ⟨gb101, 1, none⟩) (Kd.R_far (p := ⟨gb101, 0, none⟩) (Kd.R_far (p := ⟨gb102, 1, none⟩) (Kd.R_types (Kd.R_types HO141.out BK102.out (by decide)) BK101.out (by decide)) (fun _ hk => hk.1.2) (.slice Ao92 y142.length co92)) (fun _ hk => hk.2) (.slice Ao86 y139.length co86)) (fun _ hk => hk.2) (.slice Ao92 y142.length co92)) (fun _ hk => hk.1.1.2), Kd.Q_of_R (pR (Kd.R_mono (Kd.R_far (p := ⟨gb101, 1, none⟩) (Kd.R_far (p := ⟨gb101, 0, none⟩) (Kd.R_far (p := ⟨gb102, 1, none⟩) (Kd.R_types (Kd.R_types HO144.out BK102.out (by decide)) BK101.out (by decide)) (fun _ hk => hk.1.2) (.slice Ao92 y142.length co92)) (fun _ hk => hk.2) (.slice Ao86 y139.length co86)) (fun _ hk => hk.2) (.slice Ao92 y142.length co92)) (fun _ hk => hk.1.1.2))), pI65 HI0.out, (pV HB.out (IsS65.ge HI0.out)), pK HK.out⟩
    rw [if_neg c81] at H
    exact absurd H (by simp)
   rw [if_neg c80] at H
   have c80b0 : (t121 == 3) = false := beq_eq_false_iff_ne.mpr c80
   have c80b1 : (t121 != 3) = true := bne_iff_ne.mpr c80
   simp only [Option.some.injEq, Prod.mk.injEq] at H
   obtain ⟨rfl, rfl, rfl, rfl⟩ := H
   go_wp2_with (first | ((with_reducible refine gate_callee (f := 39) rfl ?_); refine gl (some 31) Try.func39 #[.pointer (some ⟨g, 0, none⟩), .int .i64 11] ?_; (with_reducible refine (spec_l1Cur_pick.calls g s0_0 x1001_1 x1002_1 11 t118 t119 t120 w0 _ ?side1 ?side2 A28.out).mono ?_); (case side1 => exact pI65 HI0.out); (case side2 => exact pV HB.out (IsS65.ge HI0.out)); rintro e w96 ⟨rfl, hi, hb, hk⟩; refine ⟨_, rfl, ?_⟩; have n0_ := aK (Kd.R_mono (Kd.R_keep (IsS65.apart (show IsS65 w0 _ g s0_0 x1001_1 x1002_1 from pI65 HI0.out) (pR HO_103000.out) (by decide)) hk (fun _ h => h.2)) (fun _ h => h.1)); have n1_ := aK (Kd.Q_mono (Kd.Q_keep (IsS65.apartQ (show IsS65 w0 _ g s0_0 x1001_1 x1002_1 from pI65 HI0.out) (pQ HO_103001.out) (by decide)) hk (fun _ h => h.2)) (fun _ h => h.1)); have n2_ := aK (KeepBut.blk hk (pB BK101.out) NB101_0.out (by simp)); have n3_ := aK (KeepBut.blk hk (pB BK102.out) NB102_0.out (by simp)); have n4_ := aK (KeepBut.trans (pK HK.out) hk (.inl rfl)); have n5_ := aK (hb); have n6_ := aK (hi); clear HO_103000 HO_103001 BK101 BK102 HK HB HI0; have HO_103000 := n0_; have HO_103001 := n1_; have BK101 := n2_; have BK102 := n3_; have HK := n4_; have HB := n5_; have HI0 := n6_; clear n0_ n1_ n2_ n3_ n4_ n5_ n6_; (try clear hb); (try clear hb2); (try clear hk); (try clear hi)) | ((with_reducible refine gate_callee (f := 39) rfl ?_); refine gl (some 33) Try.func39 #[.pointer (some ⟨g, 0, none⟩), .int .i64 24] ?_; (with_reducible refine (spec_l1Cur_pick.calls g s0_0 t119 t120 24 t121 t122 t123 w0 _ ?side1 ?side2 A29.out).mono ?_); (case side1 => exact pI65 HI0.out); (case side2 => exact pV HB.out (IsS65.ge HI0.out)); rintro e w97 ⟨rfl, hi, hb, hk⟩; refine ⟨_, rfl, ?_⟩; have n0_ := aK (Kd.R_mono (Kd.R_keep (IsS65.apart (show IsS65 w0 _ g s0_0 t119 t120 from pI65 HI0.out) (pR HO_103000.out) (by decide)) hk (fun _ h => h.2)) (fun _ h => h.1)); have n1_ := aK (Kd.Q_mono (Kd.Q_keep (IsS65.apartQ (show IsS65 w0 _ g s0_0 t119 t120 from pI65 HI0.out) (pQ HO_103001.out) (by decide)) hk (fun _ h => h.2)) (fun _ h => h.1)); have n2_ := aK (KeepBut.blk hk (pB BK101.out) NB101_0.out (by simp)); have n3_ := aK (KeepBut.blk hk (pB BK102.out) NB102_0.out (by simp)); have n4_ := aK (KeepBut.trans (pK HK.out) hk (.inl rfl)); have n5_ := aK (hb); have n6_ := aK (hi); clear HO_103000 HO_103001 BK101 BK102 HK HB HI0; have HO_103000 := n0_; have HO_103001 := n1_; have BK101 := n2_; have BK102 := n3_; have HK := n4_; have HB := n5_; have HI0 := n6_; clear n0_ n1_ n2_ n3_ n4_ n5_ n6_; (try clear hb); (try clear hb2); (try clear hk); (try clear hi); have hnb98 := NB102_101.out; have hnc98 := NB101_102.out; have hnb99 := NB102_0.out; have hnc99 := NB0_102.out; obtain ⟨hcz100_0, hcz100_1, hfz100_0, hfz100_1⟩ := bc2 BK102.out; obtain ⟨Ao101, co101, eo101⟩ := Kd.R_slice HO_103000.out; subst eo101; have hnb102 := NB101_0.out; have hnc102 := NB0_101.out; obtain ⟨hcz103_0, hcz103_1, hfz103_0, hfz103_1⟩ := bc2 BK101.out; obtain ⟨Ao104, co104, eo104, _⟩ := Kd.Q_slice HO_103001.out; subst eo104))
   refine bodyPost_ret (results_cell_row rfl _ _ gb101 26 #[.slice Ao101 x103000_1.length co101, .slice Ao104 x103001_1.length co104] (0, 0) _ rfl (by refine bk ?_; refine blk_put (cs := #[.slice Ao101 x103000_1.length co101, .slice none 0 0]) ?_ 1 _ rfl; refine bk ?_; refine blk_put (cs := #[.slice none 0 0, .slice none 0 0]) ?_ 0 _ rfl; refine bk ?_; exact BK101.out) Try.underlying26 rfl (by kernel_rfl)) rfl ?_
   exact ⟨_, _, er, by (with_reducible repeat (first | apply Kd.R_alloc | apply Kd.R_drewN | apply Kd.R_drew)); exact rF2 HO_103000.out BK101.out (.slice Ao101 x103000_1.length co101) (.slice Ao104 x103001_1.length co104), by (with_reducible repeat (first | apply Kd.Q_alloc | apply Kd.Q_drewN | apply Kd.Q_drew)); exact qF2 HO_103001.out BK101.out (.slice Ao101 x103000_1.length co101) (.slice Ao104 x103001_1.length co104), pI65 HI0.out, (pV HB.out (IsS65.ge HI0.out)), pK HK.out⟩
def spec_DrawIsValidTally.f (k : Nat) (l0 : List Int) : Option (List Int × List Int) := (spec_l1Cur_tally.f k l0 0 0).bind fun bt103 => (some (bt103.1, bt103.2.1))
theorem spec_DrawIsValidTally.calls (k : Nat) (A0 : Option Addr) (c0 : Nat) (l0 : List Int) (r1 : List Int) (r2 : List Int) (w : World) (hr0 : Kd.C (Kd.int .u8) w A0 l0.length l0) (hc0 : l0.length ≤ c0) (h : spec_DrawIsValidTally.f k l0 = some (r1, r2)) :
  Calls Try.prog 69 #[.slice A0 l0.length c0] w fun e w' => ∃ v0_ v1_ : Value, e = .returned (.agg #[v0_, v1_]) ∧ Kd.R (Kd.int .i64) 3 w' w.heap.size (fun k_ => some k_ ≠ (v1_ : Value).ownBlock) v0_ r1 ∧ Kd.Q (Kd.int .i64) 3 w' w.heap.size (fun k_ => some k_ ≠ (v0_ : Value).ownBlock) v1_ r2 ∧ Below w.heap.size w w' := by
 have hu26 := Try.underlying26
 have hu65 := Try.underlying65
 have HR0 := Aside0.mk hr0
 have HC0 := Aside0.mk hc0
 clear hr0 hc0
 have HB := aK (Below.refl w.heap.size w)
 have H : ((spec_l1Cur_tally.f k l0 0 0).bind fun bt103 => (some (bt103.1, bt103.2.1))) = some (r1, r2) := h
 clear h
 replace H := Option.bind_eq_some_iff.mp H
 obtain ⟨⟨t103, t106, t109, t110⟩, A20, H⟩ := H
 replace H : (some (t103, t106)) = some (r1, r2) := H
 have A2 := Aside0.mk A20
 clear A20
 simp only [Option.some.injEq, Prod.mk.injEq] at H
 obtain ⟨rfl, rfl⟩ := H
 go_enter Try.func69, Try.ntmps69
 go_wp2_with (first | ((with_reducible refine gate_dst (N := 2) rfl ?_); refine bxe (cs := #[.slice none 0 0, .slice none 0 0]) (t := 26) ?_; intro gb101 hg w3 hbox hb; have BK101 := aK (hbox); have GW101 := aK (gE hg (pS HB.out)); have GE101 := GW101; replace HB := bS HB hb; clear hb hbox hg) | ((with_reducible refine gate_dst (N := 6) rfl ?_); refine bxe (cs := #[.slice A0 l0.length c0, .int .i64 0, .int .u64 0]) (t := 65) ?_; intro gb102 hg w4 hbox hb; have HI102 := aK ((⟨_, _, hbox, (by rw [hg]; exact (below_size (pS HB.out)) : w.heap.size ≤ gb102), HR0.out⟩ : IsS65 w w4 gb102 l0 0 0)); obtain ⟨NB101_102, NB102_101⟩ := nb hg (pB BK101.out); replace BK101 := bB BK101 hb; replace HB := bS HB hb; clear hb hbox hg) | ((with_reducible refine gate_callee (f := 38) rfl ?_); refine gl (some 8) Try.func38 #[.pointer (some ⟨gb102, 0, none⟩)] ?_; (with_reducible refine (spec_l1Cur_tally.calls k gb102 l0 0 0 t103 t106 t109 t110 w _ ?side1 ?side2 A2.out).mono ?_); (case side1 => exact pI65 HI102.out); (case side2 => exact pV HB.out (IsS65.ge HI102.out)); rintro e w5 ⟨v104, v107, rfl, ho0, ho1, hi, hb, hk⟩; refine ⟨_, rfl, ?_⟩; have n0_ := aK (KeepBut.blk hk (pB BK101.out) NB101_102.out (by simp)); have HO105 := aK (Kd.R_lower ho0 (below_size ((pV HB.out (IsS65.ge HI102.out))))); have HO108 := aK (Kd.Q_lower ho1 (below_size ((pV HB.out (IsS65.ge HI102.out))))); have n3_ := aK (hb); have n4_ := aK (hi); clear BK101 HB HI102; have BK101 := n0_; have HB := n3_; have HI102 := n4_; clear n0_ n3_ n4_; (try clear hb); (try clear hb2); (try clear hk); (try clear hi); (try clear ho0); (try clear ho1); obtain ⟨Ao6, co6, eo6⟩ := Kd.R_slice HO105.out; subst eo6; have hnb7 := NB101_102.out; have hnc7 := NB102_101.out; obtain ⟨hcz8_0, hcz8_1, hfz8_0, hfz8_1⟩ := bc2 BK101.out; obtain ⟨Ao9, co9, eo9, _⟩ := Kd.Q_slice HO108.out; subst eo9))
 refine bodyPost_ret (results_cell_row rfl _ _ gb101 26 #[.slice Ao6 t103.length co6, .slice Ao9 t106.length co9] (0, 0) _ rfl (by refine bk ?_; refine blk_put (cs := #[.slice Ao6 t103.length co6, .slice none 0 0]) ?_ 1 _ rfl; refine bk ?_; refine blk_put (cs := #[.slice none 0 0, .slice none 0 0]) ?_ 0 _ rfl; refine bk ?_; exact BK101.out) Try.underlying26 rfl (by kernel_rfl)) rfl ?_
 exact ⟨_, _, er, by (with_reducible repeat (first | apply Kd.R_alloc | apply Kd.R_drewN | apply Kd.R_drew)); exact rF2 HO105.out BK101.out (.slice Ao6 t103.length co6) (.slice Ao9 t106.length co9), by (with_reducible repeat (first | apply Kd.Q_alloc | apply Kd.Q_drewN | apply Kd.Q_drew)); exact qF2 HO108.out BK101.out (.slice Ao6 t103.length co6) (.slice Ao9 t106.length co9), (pV HB.out (IsS65.ge HI102.out))⟩
def spec_DrawCalibrationOf.f (k : Nat) (l0 : List Int) : Option (List Int × List Int) := (spec_DrawIsValidTally.f k l0).bind fun bt102 => (some (bt102.1, bt102.2))
theorem spec_DrawCalibrationOf.calls (k : Nat) (A0 : Option Addr) (c0 : Nat) (l0 : List Int) (r1 : List Int) (r2 : List Int) (w : World) (hr0 : Kd.C (Kd.int .u8) w A0 l0.length l0) (hc0 : l0.length ≤ c0) (h : spec_DrawCalibrationOf.f k l0 = some (r1, r2)) :
  Calls Try.prog 32 #[.slice A0 l0.length c0] w fun e w' => ∃ v0_ v1_ : Value, e = .returned (.agg #[v0_, v1_]) ∧ Kd.R (Kd.int .i64) 3 w' w.heap.size (fun k_ => some k_ ≠ (v1_ : Value).ownBlock) v0_ r1 ∧ Kd.Q (Kd.int .i64) 3 w' w.heap.size (fun k_ => some k_ ≠ (v0_ : Value).ownBlock) v1_ r2 ∧ Below w.heap.size w w' := by
 have hu26 := Try.underlying26
 have HR0 := Aside0.mk hr0
 have HC0 := Aside0.mk hc0
 clear hr0 hc0
 have HB := aK (Below.refl w.heap.size w)
 have H : ((spec_DrawIsValidTally.f k l0).bind fun bt102 => (some (bt102.1, bt102.2))) = some (r1, r2) := h
 clear h
 replace H := Option.bind_eq_some_iff.mp H
 obtain ⟨⟨t102, t105⟩, A20, H⟩ := H
 replace H : (some (t102, t105)) = some (r1, r2) := H
 have A2 := Aside0.mk A20
 clear A20
 simp only [Option.some.injEq, Prod.mk.injEq] at H
 obtain ⟨rfl, rfl⟩ := H
 go_enter Try.func32, Try.ntmps32
 go_wp2_with (first | ((with_reducible refine gate_dst (N := 2) rfl ?_); refine bxe (cs := #[.slice none 0 0, .slice none 0 0]) (t := 26) ?_; intro gb101 hg w3 hbox hb; have BK101 := aK (hbox); have GW101 := aK (gE hg (pS HB.out)); have GE101 := GW101; replace HB := bS HB hb; clear hb hbox hg) | ((with_reducible refine gate_callee (f := 69) rfl ?_); refine gl (some 4) Try.func69 #[.slice A0 l0.length c0] ?_; (with_reducible refine (spec_DrawIsValidTally.calls k _ _ l0 t102 t105 _ ?side1 ?side2 A2.out).mono ?_); (case side1 => exact pC (Kd.C_below HR0.out HB.out)); (case side2 => exact HC0.out); rintro e w4 ⟨v103, v106, rfl, ho0, ho1, hb⟩; refine ⟨_, rfl, ?_⟩; have HO104 := aK (Kd.R_lower ho0 (below_size (pS HB.out))); have HO107 := aK (Kd.Q_lower ho1 (below_size (pS HB.out))); replace BK101 := bB BK101 hb; replace HB := bS HB hb; (try clear hb); (try clear hb2); (try clear hk); (try clear hi); (try clear ho0); (try clear ho1); obtain ⟨Ao5, co5, eo5⟩ := Kd.R_slice HO104.out; subst eo5; obtain ⟨hcz6_0, hcz6_1, hfz6_0, hfz6_1⟩ := bc2 BK101.out; obtain ⟨Ao7, co7, eo7, _⟩ := Kd.Q_slice HO107.out; subst eo7))
 refine bodyPost_ret (results_cell_row rfl _ _ gb101 26 #[.slice Ao5 t102.length co5, .slice Ao7 t105.length co7] (0, 0) _ rfl (by refine bk ?_; refine blk_put (cs := #[.slice Ao5 t102.length co5, .slice none 0 0]) ?_ 1 _ rfl; refine bk ?_; refine blk_put (cs := #[.slice none 0 0, .slice none 0 0]) ?_ 0 _ rfl; refine bk ?_; exact BK101.out) Try.underlying26 rfl (by kernel_rfl)) rfl ?_
 exact ⟨_, _, er, by (with_reducible repeat (first | apply Kd.R_alloc | apply Kd.R_drewN | apply Kd.R_drew)); exact rF2 HO104.out BK101.out (.slice Ao5 t102.length co5) (.slice Ao7 t105.length co7), by (with_reducible repeat (first | apply Kd.Q_alloc | apply Kd.Q_drewN | apply Kd.Q_drew)); exact qF2 HO107.out BK101.out (.slice Ao5 t102.length co5) (.slice Ao7 t105.length co7), pT HB.out⟩
def spec_l10Common.l0 : Nat → Int → Int → Option (Int)
 | 0, _, _ => none
 | k + 1, x0, x1 => if x1 > 0 then (if x1 = 0 then (none) else (spec_l10Common.l0 k x1 (Int.tmod x0 x1))) else (some x0)
def spec_l10Common.f (k : Nat) (a0 : Int) (a1 : Int) : Option (Int) := spec_l10Common.l0 k a0 a1
theorem spec_l10Common.calls (k : Nat) (a0 : Int) (a1 : Int) (r : Int) (w : World) (h : spec_l10Common.f k a0 a1 = some r) :
  Calls Try.prog 75 #[.int .i64 a0, .int .i64 a1] w fun e w' => e = .returned (.int .i64 r) ∧ Drawn0 w w' := by
 have H : (spec_l10Common.l0 k a0 a1) = some r := h
 clear h
 have H' := Aside0.mk H
 clear H
 go_enter Try.func75, Try.ntmps75
 go_wp2
 go_loopg [0, 1] k (fun kq v0 v1 w' => ∃ (x0_1 : Int) (x1_1 : Int), v0 = .int .i64 x0_1 ∧ v1 = .int .i64 x1_1 ∧ Aside0 (spec_l10Common.l0 kq x0_1 x1_1 = some r) ∧ Aside0 (kq ≤ k) ∧ Drawn0 w w')
 case atStart => exact ⟨(a0), (a1), (by first | rfl | (simp; done) | (simp [*]; done)), (by first | rfl | (simp; done) | (simp [*]; done)), H', ⟨Nat.le_refl _⟩, by repeat (first | exact Drawn0.refl _ | apply Drawn0.step)⟩
 case round =>
  clear H'
  try clear p2
  obtain ⟨x0_1, x1_1, rfl, rfl, HA, HK1, ⟨m1, rfl⟩⟩ := hrel
  cases gk with
  | zero => exact absurd HA.out (by simp [spec_l10Common.l0])
  | succ k1 =>
   have H := HA.out
   clear HA
   simp only [spec_l10Common.l0] at H
   by_cases c3 : x1_1 > 0
   ·
    rw [if_pos c3] at H
    have c3b0 : decide (0 < x1_1) = true := decide_eq_true c3
    clear c3
    by_cases c4 : x1_1 = 0
    ·
     rw [if_pos c4] at H
     exact absurd H (by simp)
    rw [if_neg c4] at H
    have c4b0 : (x1_1 == 0) = false := beq_eq_false_iff_ne.mpr c4
    have c4b1 : (x1_1 != 0) = true := bne_iff_ne.mpr c4
    have H' := Aside0.mk H
    clear H
    go_wp2
    go_roundg k1
    case measure => have := HK1.out; omega
    case rel => exact ⟨(x1_1), (Int.tmod x0_1 x1_1), (by first | rfl | (simp; done) | (simp [*]; done)), (by first | rfl | (simp; done) | (simp [*]; done)), H', ⟨by have := HK1.out; omega⟩, by repeat (first | exact Drawn0.refl _ | apply Drawn0.step)⟩
   rw [if_neg c3] at H
   have c3b0 : decide (0 < x1_1) = false := decide_eq_false c3
   clear c3
   obtain rfl := Option.some.inj H
   go_wp2
   go_ret
   exact ⟨by first | rfl | (simp; done) | (simp [*]; done), by repeat (first | exact Drawn0.refl _ | apply Drawn0.step)⟩
def spec_l10Share.f (k : Nat) (a0 : Int) (a1 : Int) : Option (Int × Int) := (spec_l10Common.f k a0 a1).bind fun t102 => (if t102 = 0 then (none) else (some (wrap64 (Int.tdiv a0 t102), wrap64 (Int.tdiv a1 t102))))
def spec_l10Share.T2 : Bool × List (List Nat × List Nat) := (true, [([], []), ([], []), ([0, 1], [0, 1]), ([], []), ([], []), ([3, 4], [3, 4]), ([2, 5], [2, 5]), ([6, 0, 1, 2, 3, 4, 5, 6], [6])])
def spec_l10Share.B2 : List Nat := [0, 0, 3, 0, 0, 24, 63, 127]
theorem spec_l10Share.tab2 : rtab .any (opsOf Try.f49 2) = spec_l10Share.T2 := by kernel_rfl
theorem spec_l10Share.bits2 : waitsOk spec_l10Share.T2.2 spec_l10Share.B2 = true := by kernel_rfl
theorem spec_l10Share.calls (k : Nat) (a0 : Int) (a1 : Int) (r1 : Int) (r2 : Int) (w : World) (h : spec_l10Share.f k a0 a1 = some (r1, r2)) :
  Calls Try.prog 49 #[.int .i64 a0, .int .i64 a1] w fun e w' => e = .returned (.agg #[.int .i64 r1, .int .i64 r2]) ∧ Below w.heap.size w w' := by
 have hu33 := Try.underlying33
 have HB := aK (Below.refl w.heap.size w)
 have H : ((spec_l10Common.f k a0 a1).bind fun t102 => (if t102 = 0 then (none) else (some (wrap64 (Int.tdiv a0 t102), wrap64 (Int.tdiv a1 t102))))) = some (r1, r2) := h
 clear h
 replace H := Option.bind_eq_some_iff.mp H
 obtain ⟨t102, A30, H⟩ := H
 replace H : (if t102 = 0 then (none) else (some (wrap64 (Int.tdiv a0 t102), wrap64 (Int.tdiv a1 t102)))) = some (r1, r2) := H
 have A3 := Aside0.mk A30
 clear A30
 by_cases c4 : t102 = 0
 ·
  rw [if_pos c4] at H
  exact absurd H (by simp)
 rw [if_neg c4] at H
 have c4b0 : (t102 == 0) = false := beq_eq_false_iff_ne.mpr c4
 have c4b1 : (t102 != 0) = true := bne_iff_ne.mpr c4
 simp only [Option.some.injEq, Prod.mk.injEq] at H
 obtain ⟨rfl, rfl⟩ := H
 go_enter Try.func49, Try.ntmps49
 try go_wp2_with (first | ((with_reducible refine gate_dst (N := 4) rfl ?_); refine bxe (cs := #[.int .i64 0, .int .i64 0]) (t := 33) ?_; intro gb101 hg w5 hbox hb; have BK101 := aK (hbox); have GW101 := aK (gE hg (pS HB.out)); have GE101 := GW101; replace HB := bS HB hb; clear hb hbox hg) | ((with_reducible refine gate_callee (f := 75) rfl ?_); refine gl (some 8) Try.func75 #[.int .i64 a0, .int .i64 a1] ?_; (with_reducible refine (spec_l10Common.calls k a0 a1 t102 _ A3.out).mono ?_); rintro e w' ⟨rfl, ⟨nd, rfl⟩⟩; refine ⟨_, rfl, ?_⟩; (try (rw [drewN_self w5]; generalize hq_ : World.drewN w5 _ = w5; have n0_ : Aside0 (w5.heap[gb101]? = some (.cells #[.int .i64 0, .int .i64 0] 33 (0, 0))) := ⟨by rw [← hq_]; exact (pB BK101.out)⟩; have n1_ : Aside0 (Below w.heap.size w w5) := ⟨by rw [← hq_]; exact (pS HB.out)⟩; clear BK101 HB hq_; have BK101 := n0_; have HB := n1_; clear n0_ n1_))))
 have n0_ := aK (blk_drew BK101.out)
 have n1_ := aK (below_drew1 HB.out)
 clear BK101 HB
 have BK101 := n0_
 have HB := n1_
 clear n0_ n1_
 refine start_ (n := 8) (S := fun w' => True) (ds := []) #[false, false, false, false, false, false, false, false] (by kernel_rfl) rfl rfl trivial (fun hHeld => ?_); refine with_tabW spec_l10Share.tab2 spec_l10Share.bits2 (fun HT_ HW_ => ?_)
 generalize w5.drew = w6 at BK101 HB hHeld ⊢
 refine pu (i := 0) (N := some 9) #[true, false, false, false, false, false, false, false] rfl rfl HT_.out ?_
 refine pu (i := 1) (N := some 10) #[true, true, false, false, false, false, false, false] rfl rfl HT_.out ?_
 refine pu (i := 2) (N := some 11) #[true, true, true, false, false, false, false, false] rfl rfl HT_.out ?_
 refine pu (i := 3) (N := some 12) #[true, true, true, true, false, false, false, false] rfl rfl HT_.out ?_
 refine pu (i := 4) (N := some 13) #[true, true, true, true, true, false, false, false] rfl rfl HT_.out ?_
 refine pu (i := 5) (N := some 14) #[true, true, true, true, true, true, false, false] rfl rfl HT_.out ?_
 refine pu (i := 6) (N := some 15) #[true, true, true, true, true, true, true, false] rfl rfl HT_.out ?_
 refine one_ (i := 7) (N := none) #[true, true, true, true, true, true, true, true] rfl rfl (one_of HT_.out (by kernel_rfl)) (by decide) (fun K hK => ?_)
 have hs7 : w6.cell? ⟨gb101, 0, none⟩ = some (.int .i64 0) := (blk_cell BK101.out 0).trans rfl
 have hfs7 := blk_frozen BK101.out 0
 have hs8 : w6.cell? ⟨gb101, 1, none⟩ = some (.int .i64 0) := (blk_cell BK101.out 1).trans rfl
 have hfs8 := blk_frozen BK101.out 1
 refine skip_ (w1 := ?_) (by rfl) rfl ?_ ?_
 rotate_left
 ·
  go_simp
  rfl
 refine hK.out _ _ trivial (fun hHeld => ?_)
 clear hK K
 refine done_ (done_of HT_.out (by kernel_rfl)) ?_
 try go_wp2
 refine bodyPost_ret (results_cell_row rfl _ _ gb101 33 #[.int .i64 (wrap64 (Int.tdiv a0 t102)), .int .i64 (wrap64 (Int.tdiv a1 t102))] (0, 0) _ rfl (by refine bk ?_; refine blk_put (cs := #[.int .i64 (wrap64 (Int.tdiv a0 t102)), .int .i64 0]) ?_ 1 _ rfl; refine bk ?_; refine blk_put (cs := #[.int .i64 0, .int .i64 0]) ?_ 0 _ rfl; refine bk ?_; exact BK101.out) Try.underlying33 rfl (by kernel_rfl)) rfl ?_
 exact ⟨er, pT HB.out⟩
def spec_l10Shares.l1 : Nat → List S86 → Int → Int → Int → Int → Option (Int × Int)
  | 0, _, _, _, _, _ => none
  | k + 1, g, c, bc, bh, i => if i < (g.length : Int) then (if 0 ≤ i then (if 0 < ((rd_T86 g i).f0.length : Int) then (if rd (rd_T86 g i).f0 0 ≤ c then spec_l10Shares.l1 k g c (rd_T86 g i).f1 (rd_T86 g i).f2 (wrap64 (i + 1)) else spec_l10Shares.l1 k g c bc bh (wrap64 (i + 1))) else none) else none) else some (bc, bh)
def spec_l10Shares.l0 : Nat → List S86 → Int → List S33 → Option (List S33)
  | 0, _, _, _ => none
  | k + 1, g, c, out => if c ≤ 10 then (if 0 < (g.length : Int) then ((spec_l10Shares.l1 k g c (rd_T86 g 0).f1 (rd_T86 g 0).f2 0).bind fun b => ((spec_l10Share.f k b.2 b.1).bind fun s => (if out.length < 1000 then spec_l10Shares.l0 k g (wrap64 (c + 1)) (out ++ [(⟨s.1, s.2⟩ : S33)]) else none))) else none) else some out
def spec_l10Shares.f (k : Nat) (l0_0 : List Int) (l0_1 : List Int) : Option (List S33) := (spec_l10Groups.f k l0_0 l0_1).bind fun g => (if (g.length : Int) = 0 then some [] else spec_l10Shares.l0 k g 0 [])
theorem spec_l10Shares.calls (k : Nat) (A0_0 : Option Addr) (c0_0 : Nat) (l0_0 : List Int) (A0_1 : Option Addr) (c0_1 : Nat) (l0_1 : List Int) (r : List S33) (w : World) (hr0_0 : Kd.C (Kd.int .i64) w A0_0 l0_0.length l0_0) (hc0_0 : l0_0.length ≤ c0_0) (hr0_1 : Kd.C (Kd.int .i64) w A0_1 l0_1.length l0_1) (hc0_1 : l0_1.length ≤ c0_1) (h : spec_l10Shares.f k l0_0 l0_1 = some r) :
  Calls Try.prog 57 #[.agg #[.slice A0_0 l0_0.length c0_0, .slice A0_1 l0_1.length c0_1]] w fun e w' => ∃ v0_ : Value, e = .returned (v0_) ∧ Kd.R k33 33 w' w.heap.size (fun _ => True) v0_ r ∧ Below w.heap.size w w' := by
 have hu49 := Try.underlying26
 have hu168 := Try.underlying86
 have hu56 := Try.underlying33
 have HR0_0 := Aside0.mk hr0_0
 have HC0_0 := Aside0.mk hc0_0
 have HR0_1 := Aside0.mk hr0_1
 have HC0_1 := Aside0.mk hc0_1
 clear hr0_0 hc0_0 hr0_1 hc0_1
 have HB := aK (Below.refl w.heap.size w)
 have H : ((spec_l10Groups.f k l0_0 l0_1).bind fun g => (if (g.length : Int) = 0 then some [] else spec_l10Shares.l0 k g 0 [])) = some r := h
 clear h
 replace H := Option.bind_eq_some_iff.mp H
 obtain ⟨g, A30, H⟩ := H
 replace H : (if (g.length : Int) = 0 then some [] else spec_l10Shares.l0 k g 0 []) = some r := H
 have A3 := Aside0.mk A30
 clear A30
 by_cases c4 : (g.length : Int) = 0
 ·
  rw [if_pos c4] at H
  have c4b0 : ((g.length : Int) == 0) = true := beq_iff_eq.mpr c4
  have c4b1 := eq_true c4
  clear c4
  obtain rfl := Option.some.inj H
  clear H
  go_enter Try.func57, Try.ntmps57
  go_wp2_with (first | ((with_reducible refine gate_dst (N := 1) rfl ?_); refine bxe (cs := #[.slice A0_0 l0_0.length c0_0, .slice A0_1 l0_1.length c0_1]) (t := 26) ?_; intro gb101 hg w5 hbox hb; have BK101 := aK (hbox); replace HB := bS HB hb; clear hb hbox hg; obtain ⟨hcz6_0, hcz6_1, hfz6_0, hfz6_1⟩ := bc2 BK101.out) | ((with_reducible refine gate_callee (f := 63) rfl ?_); refine goesL_ (some 9) rfl rfl Try.func63 (by kernel_rfl) rfl #[.agg #[.slice A0_0 l0_0.length c0_0, .slice A0_1 l0_1.length c0_1]] rfl (by (try simp only [List.map_toArray, List.map_cons, List.map_nil]); first | done | rfl) ?_; (with_reducible refine (spec_l10Groups.calls k _ _ l0_0 _ _ l0_1 g _ ?side1 ?side2 ?side3 ?side4 A3.out).mono ?_); (case side1 => exact Kd.C_below HR0_0.out (pS HB.out)); (case side2 => exact HC0_0.out); (case side3 => exact Kd.C_below HR0_1.out (pS HB.out)); (case side4 => exact HC0_1.out); rintro e w7 ⟨v108, rfl, ho0, hb⟩; refine ⟨_, rfl, ?_⟩; obtain ⟨Ag, cg, eg⟩ := Kd.R_slice (Kd.S_R ho0); subst eg; replace HB := bS HB hb; clear hb ho0) | ((with_reducible refine gate_dst (N := 10) rfl ?_); refine Kd.R_lit k33 _ 33 ?hg (N := 10) ?hd (xs := ([] : List S33)) (inner := []) (ok := fun _ => True) (okp := fun _ => True) ?hr ?hp (fun _ hk => hk) trivial (Below.refl _ _) (Nat.le_refl _) (by simp) ?_; (case hd => rfl); (case hg => rfl); (case hr => first | (go_simp; done) | (go_simp; rfl)); (case hp => exact (Reps.none _ _)); intro v110 w9 ho8 hb hg_ hnew_; clear hg_ hnew_; have HO := aK (Kd.R_lower ho8 (below_size (pS HB.out))); replace HB := bS HB hb; clear hb ho8))
  go_ret
  exact ⟨_, rfl, HO.out, pS HB.out⟩
 rw [if_neg c4] at H
 have c4b0 : ((g.length : Int) == 0) = false := beq_eq_false_iff_ne.mpr c4
 have c4b1 := eq_false c4
 clear c4
 have H' := Aside0.mk H
 clear H
 go_enter Try.func57, Try.ntmps57
 go_wp2_with (first | ((with_reducible refine gate_dst (N := 1) rfl ?_); refine bxe (cs := #[.slice A0_0 l0_0.length c0_0, .slice A0_1 l0_1.length c0_1]) (t := 26) ?_; intro gb101 hg w5 hbox hb; have BK101 := aK (hbox); replace HB := bS HB hb; clear hb hbox hg; obtain ⟨hcz6_0, hcz6_1, hfz6_0, hfz6_1⟩ := bc2 BK101.out) | ((with_reducible refine gate_callee (f := 63) rfl ?_); refine goesL_ (some 9) rfl rfl Try.func63 (by kernel_rfl) rfl #[.agg #[.slice A0_0 l0_0.length c0_0, .slice A0_1 l0_1.length c0_1]] rfl (by (try simp only [List.map_toArray, List.map_cons, List.map_nil]); first | done | rfl) ?_; (with_reducible refine (spec_l10Groups.calls k _ _ l0_0 _ _ l0_1 g _ ?side1 ?side2 ?side3 ?side4 A3.out).mono ?_); (case side1 => exact Kd.C_below HR0_0.out (pS HB.out)); (case side2 => exact HC0_0.out); (case side3 => exact Kd.C_below HR0_1.out (pS HB.out)); (case side4 => exact HC0_1.out); rintro e w7 ⟨v108, rfl, ho0, hb⟩; refine ⟨_, rfl, ?_⟩; obtain ⟨Ag, cg, eg⟩ := Kd.R_slice (Kd.S_R ho0); subst eg; have HRg := aK ((Kd.R_reads' (Kd.S_R ho0)).2.2); have HW := bS HB hb; clear HB; have HB := aK (Below.refl w7.heap.size w7); clear hb ho0 BK101 hcz6_0 hcz6_1 hfz6_0 hfz6_1) | ((with_reducible refine gate_dst (N := 10) rfl ?_); refine Kd.R_lit k33 _ 33 ?hg (N := 10) ?hd (xs := ([] : List S33)) (inner := []) (ok := fun _ => True) (okp := fun _ => True) ?hr ?hp (fun _ hk => hk) trivial (Below.refl _ _) (Nat.le_refl _) (by simp) ?_; (case hd => rfl); (case hg => rfl); (case hr => first | (go_simp; done) | (go_simp; rfl)); (case hp => exact (Reps.none _ _)); intro v110 w9 ho8 hb hg_ hnew_; clear hg_ hnew_; have HO := aK (Kd.R_lower ho8 (below_size (pS HB.out))); replace HB := bS HB hb; clear hb ho8))
 go_loopg [4, 5] k (fun kq v4 v5 w' => ∃ (out : List S33) (c : Int), v5 = .int .i64 c ∧ Aside0 (spec_l10Shares.l0 kq g c out = some r) ∧ Aside0 (kq ≤ k) ∧ Aside0 (Kd.R k33 33 w' w7.heap.size (fun _ => True) v4 out) ∧ Aside0 (Below w7.heap.size w7 w'))
 case atStart => exact ⟨[], 0, (by first | rfl | (simp; done)), H', ⟨Nat.le_refl _⟩, ⟨pR HO.out⟩, ⟨pS HB.out⟩⟩
 case round =>
  clear H' HO
  try clear c1
  try clear p2
  obtain ⟨out, c, rfl, HA, HK1, HO, HB⟩ := hrel
  cases gk with
  | zero => exact absurd HA.out (by simp [spec_l10Shares.l0])
  | succ k1 =>
   have H := HA.out
   clear HA
   simp only [spec_l10Shares.l0] at H
   by_cases c5 : c ≤ 10
   ·
    rw [if_pos c5] at H
    have c5b0 : decide (c ≤ 10) = true := decide_eq_true c5
    clear c5
    by_cases c6 : 0 < (g.length : Int)
    ·
     rw [if_pos c6] at H
     replace H := Option.bind_eq_some_iff.mp H
     obtain ⟨⟨bc, bh⟩, A40, H⟩ := H
     replace H := Option.bind_eq_some_iff.mp H
     obtain ⟨⟨s1, s2⟩, A50, H⟩ := H
     have A4 := Aside0.mk A40
     have A5 := Aside0.mk (show spec_l10Share.f k1 bh bc = some (s1, s2) from A50)
     clear A40 A50
     replace H : (if out.length < 1000 then spec_l10Shares.l0 k1 g (wrap64 (c + 1)) (out ++ [(⟨s1, s2⟩ : S33)]) else none) = some r := H
     by_cases c7 : out.length < 1000
     ·
      rw [if_pos c7] at H
      have LMc7 := Aside0.mk c7
      clear c7
      obtain ⟨y113, hy113⟩ : ∃ y_ : List S33, y_ = (out ++ [(⟨s1, s2⟩ : S33)]) := ⟨_, rfl⟩
      replace H : spec_l10Shares.l0 k1 g (wrap64 (c + 1)) y113 = some r := by rw [hy113]; exact H
      have Ny113 := Aside0.mk hy113
      clear hy113
      have H' := Aside0.mk H
      clear H
      obtain ⟨Ao, co, eo⟩ := Kd.R_slice HO.out
      subst eo
      have p8 : 0 ≤ (0 : Int) := Int.le_refl _
      have q8 : (0 : Int) < (g.length : Int) := c6
      obtain ⟨ad8, A8, C8, e8, hx8_0, hx8_1, hx8_2, hl8, hi8⟩ := at_T86 HRg.out 0 p8 q8
      cases e8
      have qi8 : (0 < g.length) = True := eq_true (by omega)
      (try rw [show ((0 : Int)).toNat = 0 from rfl] at hx8_0 hx8_1 hx8_2)
      (try rw [show 0 * 3 = 0 from rfl] at hx8_0 hx8_1 hx8_2)
      (try rw [Addr.add_zero'] at hx8_0 hx8_1 hx8_2)
      replace hx8_0 := (HB.out.cell (World.block_lt_of_cell? w7 _ hx8_0)).trans hx8_0
      replace hx8_1 := (HB.out.cell (World.block_lt_of_cell? w7 _ hx8_1)).trans hx8_1
      replace hx8_2 := (HB.out.cell (World.block_lt_of_cell? w7 _ hx8_2)).trans hx8_2
      clear hl8 hi8 c6
      replace q8 := eq_true q8
      replace p8 := eq_true p8
      go_wp2_with (first | ((with_reducible refine gate_dst (N := 6) rfl ?_); refine bxe (cs := #[.slice none 0 0, .int .i64 0, .int .i64 0]) (t := 86) ?_; intro gb hg w15 hbox hb; have n0_ := aK (Kd.R_below (pR HO.out) hb); have BK := aK (hbox); have GE := aK (gE hg (pS HB.out)); replace HB := bS HB hb; clear HO; have HO := n0_; clear n0_ hb hbox hg; have hcz17_0 : w15.cell? ⟨gb, 0, none⟩ = some (.slice none 0 0) := (blk_cell BK.out 0).trans rfl; have hcz17_1 : w15.cell? ⟨gb, 1, none⟩ = some (.int .i64 0) := (blk_cell BK.out 1).trans rfl; have hcz17_2 : w15.cell? ⟨gb, 2, none⟩ = some (.int .i64 0) := (blk_cell BK.out 2).trans rfl; have hfz17_0 := blk_frozen BK.out 0; have hfz17_1 := blk_frozen BK.out 1; have hfz17_2 := blk_frozen BK.out 2))
      go_loopg [7] k1 (fun kq v7 w' => ∃ (i : Int) (bc' : Int) (bh' : Int) (J : Value), v7 = .int .i64 i ∧ Aside0 (spec_l10Shares.l1 kq g c bc' bh' i = some (bc, bh)) ∧ Aside0 (kq ≤ k1) ∧ Aside0 (Kd.R k33 33 w' w7.heap.size (fun _ => True) (.slice Ao out.length co) out) ∧ Aside0 (w'.heap[gb]? = some (.cells #[J, .int .i64 bc', .int .i64 bh'] 86 (0, 0))) ∧ Aside0 (Below w7.heap.size w7 w'))
      case atStart => exact ⟨0, _, _, _, (by first | rfl | (simp; done)), A4, ⟨Nat.le_refl _⟩, ⟨pR (Kd.R_mono (rF3 HO.out BK.out _ _ _) (fun _ h => trivial))⟩, ⟨by refine bk ?_; refine blk_put (cs := #[.slice A8 (rd_T86 g 0).f0.length C8, .int .i64 (rd_T86 g 0).f1, .int .i64 0]) ?_ 2 _ rfl; refine bk ?_; refine blk_put (cs := #[.slice A8 (rd_T86 g 0).f0.length C8, .int .i64 0, .int .i64 0]) ?_ 1 _ rfl; refine bk ?_; refine blk_put (cs := #[.slice none 0 0, .int .i64 0, .int .i64 0]) ?_ 0 _ rfl; refine bk ?_; exact BK.out⟩, ⟨by repeat (first | (with_reducible first | exact HB.out | apply below_alloc | apply pw_below_drewN | apply below_drew1 | refine below_set ?_ GE.out) | exact HB.out)⟩⟩
      case round =>
       clear A4
       try clear c1
       try clear p2
       try clear hcz17_0
       try clear hcz17_1
       try clear hcz17_2
       try clear hfz17_0
       try clear hfz17_1
       try clear hfz17_2
       try clear hx8_0
       try clear hx8_1
       try clear hx8_2
       obtain ⟨i, bc', bh', J, rfl, HA, HK2, HO, BK, HB⟩ := hrel
       cases gk with
       | zero => exact absurd HA.out (by simp [spec_l10Shares.l1])
       | succ k2 =>
        have H := HA.out
        clear HA
        simp only [spec_l10Shares.l1] at H
        by_cases c9 : i < (g.length : Int)
        ·
         rw [if_pos c9] at H
         by_cases c10 : 0 ≤ i
         ·
          rw [if_pos c10] at H
          by_cases c11 : 0 < ((rd_T86 g i).f0.length : Int)
          ·
           rw [if_pos c11] at H
           obtain ⟨ad9, A9, C9, e9, hx9_0, hx9_1, hx9_2, hl9, hi9⟩ := at_T86 HRg.out i c10 c9
           cases e9
           obtain ⟨ad10, e10, hx10_0⟩ := Kd.at_int hi9 0 (Int.le_refl _) c11
           cases e10
           replace hx9_0 := (HB.out.cell (World.block_lt_of_cell? w7 _ hx9_0)).trans hx9_0
           replace hx9_1 := (HB.out.cell (World.block_lt_of_cell? w7 _ hx9_1)).trans hx9_1
           replace hx9_2 := (HB.out.cell (World.block_lt_of_cell? w7 _ hx9_2)).trans hx9_2
           (try rw [show ((0 : Int)).toNat = 0 from rfl] at hx10_0)
           (try rw [Addr.add_zero'] at hx10_0)
           replace hx10_0 := (HB.out.cell (World.block_lt_of_cell? w7 _ hx10_0)).trans hx10_0
           have qi9 : (0 < (rd_T86 g i).f0.length) = True := eq_true (by omega)
           have c9b0 : decide (i < (g.length : Int)) = true := decide_eq_true c9
           have c11b0 := eq_true c11
           replace c9 := eq_true c9
           replace c10 := eq_true c10
           clear c11
           have hcz18_0 : wr.cell? ⟨gb, 0, none⟩ = some J := (blk_cell BK.out 0).trans rfl
           have hcz18_1 : wr.cell? ⟨gb, 1, none⟩ = some (.int .i64 bc') := (blk_cell BK.out 1).trans rfl
           have hcz18_2 : wr.cell? ⟨gb, 2, none⟩ = some (.int .i64 bh') := (blk_cell BK.out 2).trans rfl
           have hfz18_0 := blk_frozen BK.out 0
           have hfz18_1 := blk_frozen BK.out 1
           have hfz18_2 := blk_frozen BK.out 2
           by_cases c12 : rd (rd_T86 g i).f0 0 ≤ c
           ·
            rw [if_pos c12] at H
            have c12b0 : decide (rd (rd_T86 g i).f0 0 ≤ c) = true := decide_eq_true c12
            clear c12
            have H' := Aside0.mk H
            clear H
            go_wp2
            go_roundg k2
            case measure => have := HK2.out; omega
            case rel => exact ⟨(wrap64 (i + 1)), _, _, _, (by first | rfl | (simp; done) | (simp [*]; done)), H', ⟨by have := HK2.out; omega⟩, ⟨pR (Kd.R_mono (rF3 HO.out BK.out _ _ _) (fun _ h => trivial))⟩, ⟨by refine bk ?_; refine blk_put (cs := #[.slice (some ad10) (rd_T86 g i).f0.length C9, .int .i64 (rd_T86 g i).f1, .int .i64 bh']) ?_ 2 _ rfl; refine bk ?_; refine blk_put (cs := #[.slice (some ad10) (rd_T86 g i).f0.length C9, .int .i64 bc', .int .i64 bh']) ?_ 1 _ rfl; refine bk ?_; refine blk_put (cs := #[J, .int .i64 bc', .int .i64 bh']) ?_ 0 _ rfl; refine bk ?_; exact BK.out⟩, ⟨by repeat (first | (with_reducible first | exact HB.out | apply below_alloc | apply pw_below_drewN | apply below_drew1 | refine below_set ?_ GE.out) | exact HB.out)⟩⟩
           rw [if_neg c12] at H
           have c12b0 : decide (rd (rd_T86 g i).f0 0 ≤ c) = false := decide_eq_false c12
           clear c12
           have H' := Aside0.mk H
           clear H
           go_wp2
           go_roundg k2
           case measure => have := HK2.out; omega
           case rel => exact ⟨(wrap64 (i + 1)), bc', bh', J, (by first | rfl | (simp; done) | (simp [*]; done)), H', ⟨by have := HK2.out; omega⟩, ⟨pR HO.out⟩, ⟨by refine bk ?_; exact BK.out⟩, ⟨by repeat (first | (with_reducible first | exact HB.out | apply below_alloc | apply pw_below_drewN | apply below_drew1 | refine below_set ?_ GE.out) | exact HB.out)⟩⟩
          rw [if_neg c11] at H
          exact absurd H (by simp)
         rw [if_neg c10] at H
         exact absurd H (by simp)
        rw [if_neg c9] at H
        have c9b0 : decide (i < (g.length : Int)) = false := decide_eq_false c9
        clear c9
        simp only [Option.some.injEq, Prod.mk.injEq] at H
        obtain ⟨rfl, rfl⟩ := H
        have hcz18_1 : wr.cell? ⟨gb, 1, none⟩ = some (.int .i64 bc') := (blk_cell BK.out 1).trans rfl
        have hcz18_2 : wr.cell? ⟨gb, 2, none⟩ = some (.int .i64 bh') := (blk_cell BK.out 2).trans rfl
        go_wp2_with (first | ((with_reducible refine gate_callee (f := 49) rfl ?_); refine goesL_ (some 46) rfl rfl Try.func49 (by kernel_rfl) rfl #[.int .i64 bh', .int .i64 bc'] rfl (by (try simp only [List.map_toArray, List.map_cons, List.map_nil]); first | done | rfl) ?_; (with_reducible refine (spec_l10Share.calls k1 bh' bc' s1 s2 _ A5.out).mono ?_); rintro e w12 ⟨rfl, hb⟩; refine ⟨_, rfl, ?_⟩; have n0_ := aK (Kd.R_below (pR HO.out) hb); replace HB := bS HB hb; clear HO; have HO := n0_; clear n0_ hb) | ((with_reducible refine gate_builtin (b := .append) (xs := #[.tmp 41, .tmp 47]) rfl ?_); at_builtin; refine Kd.R_append k33 (w0 := w7) w7.heap.size rfl (.tmp 41) (.tmp 47) 43 33 (.agg #[(.int .i64 0), (.int .i64 0)]) 16 rfl Try.underlying43 info33 rfl (by decide) (by omega) (.slice Ao out.length co) out (⟨s1, s2⟩ : S33) [.int .i64 s1, .int .i64 s2] (fun _ => True) (fun _ => False) rfl rfl ?aP (fun _ hk => hk.elim) ?aF ?aO ?aB ?aS ?aL ?_; (case aP => exact k33_mkM _ _ _ (⟨s1, s2⟩ : S33)); (case aB => exact (pS HB.out)); (case aF => exact (fun _ _ => trivial)); (case aO => exact (pR HO.out)); (case aS => exact (below_size (pS HB.out))); (case aL => have := LMc7.out; omega); intro v114 w43 ho hb hg hat; rw [← Ny113.out] at ho; have n2_ := aK (hb); have n3_ := aK (ho); clear HB HO; have HB := n2_; have HO := n3_; clear n2_ n3_; clear ho hb hg hat))
        go_roundg k1
        case measure => have := HK1.out; omega
        case rel => exact ⟨y113, (wrap64 (c + 1)), (by first | rfl | (simp; done) | (simp [*]; done)), H', ⟨by have := HK1.out; omega⟩, ⟨pR HO.out⟩, ⟨pS HB.out⟩⟩
     rw [if_neg c7] at H
     exact absurd H (by simp)
    rw [if_neg c6] at H
    exact absurd H (by simp)
   rw [if_neg c5] at H
   have c5b0 : decide (c ≤ 10) = false := decide_eq_false c5
   clear c5
   obtain rfl := Option.some.inj H
   clear H
   obtain ⟨Ao, co, eo⟩ := Kd.R_slice HO.out
   subst eo
   go_wp2
   go_ret
   exact ⟨_, rfl, Kd.R_lower (pR HO.out) HW.out.size, below_step HW.out (pS HB.out)⟩
def spec_CalibrationOf.f (k : Nat) (l0_0 : List Int) (l0_1 : List Int) : Option ((List (S33)) × Bool) := (spec_l10Good.f k l0_0 l0_1).bind fun t102 => (if t102 = true then ((spec_l10Shares.f k l0_0 l0_1).bind fun t103 => (if (t103.length : Int) = 0 then (some ((([] : List (S33))), false)) else ((spec_l10Shares.f k l0_0 l0_1).bind fun t109 => (some (t109, true))))) else (some ((([] : List (S33))), false)))
theorem spec_CalibrationOf.calls (k : Nat) (A0_0 : Option Addr) (c0_0 : Nat) (l0_0 : List Int) (A0_1 : Option Addr) (c0_1 : Nat) (l0_1 : List Int) (r1 : List (S33)) (r2 : Bool) (w : World) (hr0_0 : Kd.C (Kd.int .i64) w A0_0 l0_0.length l0_0) (hc0_0 : l0_0.length ≤ c0_0) (hr0_1 : Kd.C (Kd.int .i64) w A0_1 l0_1.length l0_1) (hc0_1 : l0_1.length ≤ c0_1) (h : spec_CalibrationOf.f k l0_0 l0_1 = some (r1, r2)) :
  Calls Try.prog 33 #[.agg #[.slice A0_0 l0_0.length c0_0, .slice A0_1 l0_1.length c0_1]] w fun e w' => ∃ v0_ : Value, e = .returned (.tuple #[v0_, .bool r2]) ∧ Kd.R k33 33 w' w.heap.size (fun _ => True) v0_ r1 ∧ Below w.heap.size w w' := by
 have hu26 := Try.underlying26
 have HR0_0 := Aside0.mk hr0_0
 have HC0_0 := Aside0.mk hc0_0
 clear hr0_0 hc0_0
 have HR0_1 := Aside0.mk hr0_1
 have HC0_1 := Aside0.mk hc0_1
 clear hr0_1 hc0_1
 have HB := aK (Below.refl w.heap.size w)
 have H : ((spec_l10Good.f k l0_0 l0_1).bind fun t102 => (if t102 = true then ((spec_l10Shares.f k l0_0 l0_1).bind fun t103 => (if (t103.length : Int) = 0 then (some ((([] : List (S33))), false)) else ((spec_l10Shares.f k l0_0 l0_1).bind fun t109 => (some (t109, true))))) else (some ((([] : List (S33))), false)))) = some (r1, r2) := h
 clear h
 replace H := Option.bind_eq_some_iff.mp H
 obtain ⟨t102, A20, H⟩ := H
 replace H : (if t102 = true then ((spec_l10Shares.f k l0_0 l0_1).bind fun t103 => (if (t103.length : Int) = 0 then (some ((([] : List (S33))), false)) else ((spec_l10Shares.f k l0_0 l0_1).bind fun t109 => (some (t109, true))))) else (some ((([] : List (S33))), false))) = some (r1, r2) := H
 have A2 := Aside0.mk A20
 clear A20
 by_cases c3 : t102 = true
 ·
  subst c3
  have H1 : ((spec_l10Shares.f k l0_0 l0_1).bind fun t103 => (if (t103.length : Int) = 0 then (some ((([] : List (S33))), false)) else ((spec_l10Shares.f k l0_0 l0_1).bind fun t109 => (some (t109, true))))) = some (r1, r2) := by rw [if_pos rfl] at H; exact H
  clear H
  have H := H1
  clear H1
  replace H := Option.bind_eq_some_iff.mp H
  obtain ⟨t103, A40, H⟩ := H
  replace H : (if (t103.length : Int) = 0 then (some ((([] : List (S33))), false)) else ((spec_l10Shares.f k l0_0 l0_1).bind fun t109 => (some (t109, true)))) = some (r1, r2) := H
  have A4 := Aside0.mk A40
  clear A40
  by_cases c5 : (t103.length : Int) = 0
  ·
   rw [if_pos c5] at H
   have c5b0 : ((t103.length : Int) == 0) = true := beq_iff_eq.mpr c5
   have c5b1 : ((t103.length : Int) != 0) = false := bne_eq_false_iff_eq.mpr c5
   clear c5
   obtain ⟨y106, hy106⟩ : ∃ y_ : List (S33), y_ = (([] : List (S33))) := ⟨_, rfl⟩
   replace H : (some (y106, false)) = some (r1, r2) := by first | (rw [hy106]; with_reducible exact H) | (have H2_ := (Option.bind_some _ _).symm.trans H; rw [hy106]; with_reducible exact H2_) | (have H2_ := (Option.bind_some _ _).symm.trans H; with_reducible exact H2_) | with_reducible exact H | (rw [hy106]; exact H) | exact H
   have Ny106 := Aside0.mk hy106
   clear hy106
   simp only [Option.some.injEq, Prod.mk.injEq] at H
   obtain ⟨rfl, rfl⟩ := H
   go_enter Try.func33, Try.ntmps33
   go_wp2_with (first | ((with_reducible refine gate_dst (N := 1) rfl ?_); (try (refine gate_guard (by rfl) ?_; dsimp only)); refine bxe (cs := #[.slice A0_0 l0_0.length c0_0, .slice A0_1 l0_1.length c0_1]) (t := 26) ?_; intro gb101 hg w6 hbox hb; have BK101 := aK (hbox); have GW101 := aK (gE hg (pS HB.out)); have GE101 := GW101; replace HB := bS HB hb; clear hb hbox hg; obtain ⟨hcz7_0, hcz7_1, hfz7_0, hfz7_1⟩ := bc2 BK101.out) | ((with_reducible refine gate_callee (f := 44) rfl ?_); refine gl (some 5) Try.func44 #[.agg #[.slice A0_0 l0_0.length c0_0, .slice A0_1 l0_1.length c0_1]] ?_; (with_reducible refine (spec_l10Good.calls k _ _ l0_0 _ _ l0_1 true _ ?side1 ?side2 ?side3 ?side4 A2.out).mono ?_); (case side1 => exact pC (Kd.C_below HR0_0.out HB.out)); (case side2 => exact HC0_0.out); (case side3 => exact pC (Kd.C_below HR0_1.out HB.out)); (case side4 => exact HC0_1.out); rintro e w8 ⟨rfl, hb⟩; refine ⟨_, rfl, ?_⟩; replace BK101 := bB BK101 hb; replace HB := bS HB hb; (try clear hb); (try clear hb2); (try clear hk); (try clear hi); obtain ⟨hcz9_0, hcz9_1, hfz9_0, hfz9_1⟩ := bc2 BK101.out) | (go_at_call 57; (with_reducible refine (spec_l10Shares.calls k _ _ l0_0 _ _ l0_1 t103 _ ?side1 ?side2 ?side3 ?side4 A4.out).mono ?_); (case side1 => exact pC (Kd.C_below HR0_0.out HB.out)); (case side2 => exact HC0_0.out); (case side3 => exact pC (Kd.C_below HR0_1.out HB.out)); (case side4 => exact HC0_1.out); rintro e w10 ⟨v104, rfl, ho0, hb⟩; have HO105 := aK (Kd.R_lower ho0 (below_size (pS HB.out))); replace BK101 := bB BK101 hb; replace HB := bS HB hb; (try clear hb); (try clear hb2); (try clear hk); (try clear hi); (try clear ho0); obtain ⟨Ao11, co11, eo11⟩ := Kd.R_slice HO105.out; subst eo11) | ((with_reducible refine gate_dst (N := 13) rfl ?_); (try (refine gate_guard (by rfl) ?_; dsimp only)); refine Kd.R_lit k33 _ 33 ?hg (N := 13) ?hd (xs := ([] : List (S33))) (inner := []) (ok := fun _ => True) (okp := fun _ => True) ?hr ?hp (fun _ hk => hk) trivial (Below.refl _ _) (Nat.le_refl _) (by simp) ?_; (case hd => rfl); (case hg => rfl); (case hr => first | (go_simp; done) | (go_simp; rfl)); (case hp => exact (Reps.none _ _)); intro v107 w12 ho13 hb hg_ hnew_; clear hg_ hnew_; (first | rw [← Ny106.out] at ho13 | (simp only [Int.reduceToNat] at ho13; rw [← Ny106.out] at ho13)); have n0_ := aK (Kd.R_elder' (pR HO105.out) (Kd.R_base ho13) hb); have HO108 := aK (Kd.R_lower (nw1 ho13 (pR HO105.out)) (below_size (pS HB.out))); replace BK101 := bB BK101 hb; replace HB := bS HB hb; clear HO105; have HO105 := n0_; clear n0_; clear hb ho13))
   go_ret2
   exact ⟨_, er, by (with_reducible repeat (first | apply Kd.R_alloc | apply Kd.R_drewN | apply Kd.R_drew)); exact Kd.R_mono HO108.out (fun _ hk => trivial), pT HB.out⟩
  rw [if_neg c5] at H
  have c5b0 : ((t103.length : Int) == 0) = false := beq_eq_false_iff_ne.mpr c5
  have c5b1 : ((t103.length : Int) != 0) = true := bne_iff_ne.mpr c5
  have c5b2 : ¬ (t103 = []) := fun h_ => c5 (by rw [h_]; rfl)
  replace H := Option.bind_eq_some_iff.mp H
  obtain ⟨t109, A140, H⟩ := H
  replace H : (some (t109, true)) = some (r1, r2) := H
  have A14 := Aside0.mk A140
  clear A140
  simp only [Option.some.injEq, Prod.mk.injEq] at H
  obtain ⟨rfl, rfl⟩ := H
  go_enter Try.func33, Try.ntmps33
  go_wp2_with (first | ((with_reducible refine gate_dst (N := 1) rfl ?_); (try (refine gate_guard (by rfl) ?_; dsimp only)); refine bxe (cs := #[.slice A0_0 l0_0.length c0_0, .slice A0_1 l0_1.length c0_1]) (t := 26) ?_; intro gb101 hg w15 hbox hb; have BK101 := aK (hbox); have GW101 := aK (gE hg (pS HB.out)); have GE101 := GW101; replace HB := bS HB hb; clear hb hbox hg; obtain ⟨hcz16_0, hcz16_1, hfz16_0, hfz16_1⟩ := bc2 BK101.out) | ((with_reducible refine gate_callee (f := 44) rfl ?_); refine gl (some 5) Try.func44 #[.agg #[.slice A0_0 l0_0.length c0_0, .slice A0_1 l0_1.length c0_1]] ?_; (with_reducible refine (spec_l10Good.calls k _ _ l0_0 _ _ l0_1 true _ ?side1 ?side2 ?side3 ?side4 A2.out).mono ?_); (case side1 => exact pC (Kd.C_below HR0_0.out HB.out)); (case side2 => exact HC0_0.out); (case side3 => exact pC (Kd.C_below HR0_1.out HB.out)); (case side4 => exact HC0_1.out); rintro e w17 ⟨rfl, hb⟩; refine ⟨_, rfl, ?_⟩; replace BK101 := bB BK101 hb; replace HB := bS HB hb; (try clear hb); (try clear hb2); (try clear hk); (try clear hi); obtain ⟨hcz18_0, hcz18_1, hfz18_0, hfz18_1⟩ := bc2 BK101.out) | (go_at_call 57; (with_reducible refine (spec_l10Shares.calls k _ _ l0_0 _ _ l0_1 t103 _ ?side1 ?side2 ?side3 ?side4 A4.out).mono ?_); (case side1 => exact pC (Kd.C_below HR0_0.out HB.out)); (case side2 => exact HC0_0.out); (case side3 => exact pC (Kd.C_below HR0_1.out HB.out)); (case side4 => exact HC0_1.out); rintro e w19 ⟨v104, rfl, ho0, hb⟩; have HO105 := aK (Kd.R_lower ho0 (below_size (pS HB.out))); replace BK101 := bB BK101 hb; replace HB := bS HB hb; (try clear hb); (try clear hb2); (try clear hk); (try clear hi); (try clear ho0); obtain ⟨Ao20, co20, eo20⟩ := Kd.R_slice HO105.out; subst eo20; obtain ⟨hcz21_0, hcz21_1, hfz21_0, hfz21_1⟩ := bc2 BK101.out) | ((with_reducible refine gate_callee (f := 57) rfl ?_); refine gl (some 15) Try.func57 #[.agg #[.slice A0_0 l0_0.length c0_0, .slice A0_1 l0_1.length c0_1]] ?_; (with_reducible refine (spec_l10Shares.calls k _ _ l0_0 _ _ l0_1 t109 _ ?side1 ?side2 ?side3 ?side4 A14.out).mono ?_); (case side1 => exact pC (Kd.C_below HR0_0.out HB.out)); (case side2 => exact HC0_0.out); (case side3 => exact pC (Kd.C_below HR0_1.out HB.out)); (case side4 => exact HC0_1.out); rintro e w22 ⟨v110, rfl, ho0, hb⟩; refine ⟨_, rfl, ?_⟩; have n0_ := aK (Kd.R_elder' (pR HO105.out) (Kd.R_base ho0) hb); have HO111 := aK (Kd.R_lower (nw1 ho0 (pR HO105.out)) (below_size (pS HB.out))); replace BK101 := bB BK101 hb; replace HB := bS HB hb; clear HO105; have HO105 := n0_; clear n0_; (try clear hb); (try clear hb2); (try clear hk); (try clear hi); (try clear ho0)))
  go_ret2
  exact ⟨_, er, by (with_reducible repeat (first | apply Kd.R_alloc | apply Kd.R_drewN | apply Kd.R_drew)); exact Kd.R_mono HO111.out (fun _ hk => trivial), pT HB.out⟩
 replace c3 := Bool.eq_false_iff.mpr c3
 subst c3
 have H1 : (some ((([] : List (S33))), false)) = some (r1, r2) := by rw [if_neg (show ¬ (false = true) by decide)] at H; exact H
 clear H
 have H := H1
 clear H1
 obtain ⟨y112, hy112⟩ : ∃ y_ : List (S33), y_ = (([] : List (S33))) := ⟨_, rfl⟩
 replace H : (some (y112, false)) = some (r1, r2) := by first | (rw [hy112]; with_reducible exact H) | (have H2_ := (Option.bind_some _ _).symm.trans H; rw [hy112]; with_reducible exact H2_) | (have H2_ := (Option.bind_some _ _).symm.trans H; with_reducible exact H2_) | with_reducible exact H | (rw [hy112]; exact H) | exact H
 have Ny112 := Aside0.mk hy112
 clear hy112
 simp only [Option.some.injEq, Prod.mk.injEq] at H
 obtain ⟨rfl, rfl⟩ := H
 go_enter Try.func33, Try.ntmps33
 go_wp2_with (first | ((with_reducible refine gate_dst (N := 1) rfl ?_); (try (refine gate_guard (by rfl) ?_; dsimp only)); refine bxe (cs := #[.slice A0_0 l0_0.length c0_0, .slice A0_1 l0_1.length c0_1]) (t := 26) ?_; intro gb101 hg w23 hbox hb; have BK101 := aK (hbox); have GW101 := aK (gE hg (pS HB.out)); have GE101 := GW101; replace HB := bS HB hb; clear hb hbox hg; obtain ⟨hcz24_0, hcz24_1, hfz24_0, hfz24_1⟩ := bc2 BK101.out) | ((with_reducible refine gate_callee (f := 44) rfl ?_); refine gl (some 5) Try.func44 #[.agg #[.slice A0_0 l0_0.length c0_0, .slice A0_1 l0_1.length c0_1]] ?_; (with_reducible refine (spec_l10Good.calls k _ _ l0_0 _ _ l0_1 false _ ?side1 ?side2 ?side3 ?side4 A2.out).mono ?_); (case side1 => exact pC (Kd.C_below HR0_0.out HB.out)); (case side2 => exact HC0_0.out); (case side3 => exact pC (Kd.C_below HR0_1.out HB.out)); (case side4 => exact HC0_1.out); rintro e w25 ⟨rfl, hb⟩; refine ⟨_, rfl, ?_⟩; replace BK101 := bB BK101 hb; replace HB := bS HB hb; (try clear hb); (try clear hb2); (try clear hk); (try clear hi)) | ((with_reducible refine gate_dst (N := 13) rfl ?_); (try (refine gate_guard (by rfl) ?_; dsimp only)); refine Kd.R_lit k33 _ 33 ?hg (N := 13) ?hd (xs := ([] : List (S33))) (inner := []) (ok := fun _ => True) (okp := fun _ => True) ?hr ?hp (fun _ hk => hk) trivial (Below.refl _ _) (Nat.le_refl _) (by simp) ?_; (case hd => rfl); (case hg => rfl); (case hr => first | (go_simp; done) | (go_simp; rfl)); (case hp => exact (Reps.none _ _)); intro v113 w26 ho27 hb hg_ hnew_; clear hg_ hnew_; (first | rw [← Ny112.out] at ho27 | (simp only [Int.reduceToNat] at ho27; rw [← Ny112.out] at ho27)); have HO114 := aK (Kd.R_lower ho27 (below_size (pS HB.out))); replace BK101 := bB BK101 hb; replace HB := bS HB hb; clear hb ho27))
 go_ret2
 exact ⟨_, er, by (with_reducible repeat (first | apply Kd.R_alloc | apply Kd.R_drewN | apply Kd.R_drew)); exact HO114.out, pT HB.out⟩
end Go.Proofs.Ytjicgmcogadleaa.P
namespace Go.Proofs.Ytjicgmcogadleaa.P
open Go.RowKit Go.Proofs.YtjicgmcogadleaaW.PrintWords Go.Proofs.YtjicgmcogadleaaW.PrintLast Go.Proofs.YtjicgmcogadleaaW.PrintMore
attribute [local go_sem] max2_int min2_int max_two min_two max_three min_three max_four min_four
set_option linter.unusedVariables false
set_option linter.unusedSimpArgs false
set_option maxHeartbeats 8000000
set_option maxRecDepth 100000
attribute [local go_sem high] eqA33
def laws_vShares.l0 : Nat → List (S33) → List (S33) → Int → Option (Bool)
 | 0, _, _, _ => none
 | k + 1, x0, x1, x5 => if x5 < (x0.length : Int) then (if 0 ≤ x5 then (if x5 < (x1.length : Int) then (if (!(((rd_T33 x0 x5).f0) == ((rd_T33 x1 x5).f0)) || (!(((rd_T33 x0 x5).f1) == ((rd_T33 x1 x5).f1)))) = true then (some false) else (laws_vShares.l0 k x0 x1 (wrap64 (x5 + 1)))) else (none)) else (none)) else (some true)
def laws_vShares.f (k : Nat) (l0 : List (S33)) (l1 : List (S33)) : Option (Bool) := if (l0.length : Int) = (l1.length : Int) then (laws_vShares.l0 k l0 l1 0) else (some false)
theorem laws_vShares.calls (k : Nat) (A0 : Option Addr) (c0 : Nat) (l0 : List (S33)) (A1 : Option Addr) (c1 : Nat) (l1 : List (S33)) (r : Bool) (w : World) (hr0 : Kd.C k33 w A0 l0.length l0) (hc0 : l0.length ≤ c0) (hr1 : Kd.C k33 w A1 l1.length l1) (hc1 : l1.length ≤ c1) (h : laws_vShares.f k l0 l1 = some r) :
  Calls Try.prog 34 #[.slice A0 l0.length c0, .slice A1 l1.length c1] w fun e w' => e = .returned (.bool r) ∧ Drawn0 w w' := by
 have hu33 := Try.underlying33
 have HR0 := Aside0.mk hr0
 have HC0 := Aside0.mk hc0
 clear hr0 hc0
 have HR1 := Aside0.mk hr1
 have HC1 := Aside0.mk hc1
 clear hr1 hc1
 have H : (if (l0.length : Int) = (l1.length : Int) then (laws_vShares.l0 k l0 l1 0) else (some false)) = some r := h
 clear h
 by_cases c3 : (l0.length : Int) = (l1.length : Int)
 ·
  rw [if_pos c3] at H
  have c3b0 : ((l0.length : Int) == (l1.length : Int)) = true := beq_iff_eq.mpr c3
  have c3b1 : ((l0.length : Int) != (l1.length : Int)) = false := bne_eq_false_iff_eq.mpr c3
  have c3b2 : (l0.length == l1.length) = true := by first | simpa using c3 | (simp at c3 ⊢; omega)
  clear c3
  have H' := Aside0.mk H
  clear H
  go_enter Try.func34, Try.ntmps34
  go_wp2
  repeat (go_quiet (fail); try go_wp2)
  go_loopg [5] k (fun kq v5 w' => ∃ (x5_1 : Int), v5 = .int .i64 x5_1 ∧ Aside0 (laws_vShares.l0 kq l0 l1 x5_1 = some r) ∧ Aside0 (kq ≤ k) ∧ Drawn0 w w')
  case atStart => exact ⟨(0), (by first | rfl | (simp; done) | (simp [*]; done)), H', ⟨Nat.le_refl _⟩, by repeat (first | exact Drawn0.refl _ | apply Drawn0.step)⟩
  case round =>
   clear H'
   try clear c1
   try clear p2
   try clear c3
   try clear c3b0
   try clear c3b1
   try clear c3b2
   obtain ⟨x5_1, rfl, HA, HK1, ⟨m1, rfl⟩⟩ := hrel
   cases gk with
   | zero => exact absurd HA.out (by simp [laws_vShares.l0])
   | succ k1 =>
    have H := HA.out
    clear HA
    simp only [laws_vShares.l0] at H
    by_cases c4 : x5_1 < (l0.length : Int)
    ·
     rw [if_pos c4] at H
     have c4b0 : decide (x5_1 < (l0.length : Int)) = true := decide_eq_true c4
     clear c4
     by_cases c5 : 0 ≤ x5_1
     ·
      rw [if_pos c5] at H
      have c5b0 : decide (0 ≤ x5_1) = true := decide_eq_true c5
      clear c5
      by_cases c6 : x5_1 < (l1.length : Int)
      ·
       rw [if_pos c6] at H
       have c6b0 : decide (x5_1 < (l1.length : Int)) = true := decide_eq_true c6
       clear c6
       by_cases c7 : (!(((rd_T33 l0 x5_1).f0) == ((rd_T33 l1 x5_1).f0)) || (!(((rd_T33 l0 x5_1).f1) == ((rd_T33 l1 x5_1).f1)))) = true
       ·
        rw [if_pos c7] at H
        have c7b0 : (!(((rd_T33 l0 x5_1).f0) == ((rd_T33 l1 x5_1).f0)) || (!(((rd_T33 l0 x5_1).f1) == ((rd_T33 l1 x5_1).f1)))) = true := c7
        clear c7
        obtain rfl := Option.some.inj H
        have p101 : 0 ≤ (x5_1 : Int) := of_decide_eq_true (by first | (with_reducible assumption) | assumption)
        have q101 : x5_1 < (l0.length : Int) := of_decide_eq_true (by first | (with_reducible assumption) | assumption)
        obtain ⟨ad101, e101, hx101_0, hx101_1⟩ := at_T33 HR0.out x5_1 p101 q101
        cases e101
        replace p101 := eq_true p101
        replace q101 := eq_true q101
        have p102 : 0 ≤ (x5_1 : Int) := of_decide_eq_true (by first | (with_reducible assumption) | assumption)
        have q102 : x5_1 < (l1.length : Int) := of_decide_eq_true (by first | (with_reducible assumption) | assumption)
        obtain ⟨ad102, e102, hx102_0, hx102_1⟩ := at_T33 HR1.out x5_1 p102 q102
        cases e102
        replace p102 := eq_true p102
        replace q102 := eq_true q102
        go_wp2
        repeat (go_quiet (fail); try go_wp2)
        go_ret
        exact ⟨by first | rfl | (simp; done) | (simp [*]; done), by repeat (first | exact Drawn0.refl _ | apply Drawn0.step)⟩
       rw [if_neg c7] at H
       have c7b0 : (!(((rd_T33 l0 x5_1).f0) == ((rd_T33 l1 x5_1).f0)) || (!(((rd_T33 l0 x5_1).f1) == ((rd_T33 l1 x5_1).f1)))) = false := by simpa using c7
       clear c7
       have H' := Aside0.mk H
       clear H
       have p101 : 0 ≤ (x5_1 : Int) := of_decide_eq_true (by first | (with_reducible assumption) | assumption)
       have q101 : x5_1 < (l0.length : Int) := of_decide_eq_true (by first | (with_reducible assumption) | assumption)
       obtain ⟨ad101, e101, hx101_0, hx101_1⟩ := at_T33 HR0.out x5_1 p101 q101
       cases e101
       replace p101 := eq_true p101
       replace q101 := eq_true q101
       have p102 : 0 ≤ (x5_1 : Int) := of_decide_eq_true (by first | (with_reducible assumption) | assumption)
       have q102 : x5_1 < (l1.length : Int) := of_decide_eq_true (by first | (with_reducible assumption) | assumption)
       obtain ⟨ad102, e102, hx102_0, hx102_1⟩ := at_T33 HR1.out x5_1 p102 q102
       cases e102
       replace p102 := eq_true p102
       replace q102 := eq_true q102
       go_wp2
       repeat (go_quiet (fail); try go_wp2)
       go_roundg k1
       case measure => have := HK1.out; omega
       case rel => exact ⟨(wrap64 (x5_1 + 1)), (by first | rfl | (simp; done) | (simp [*]; done)), H', ⟨by have := HK1.out; omega⟩, by repeat (first | exact Drawn0.refl _ | apply Drawn0.step)⟩
      rw [if_neg c6] at H
      exact absurd H (by simp)
     rw [if_neg c5] at H
     exact absurd H (by simp)
    rw [if_neg c4] at H
    have c4b0 : decide (x5_1 < (l0.length : Int)) = false := decide_eq_false c4
    clear c4
    obtain rfl := Option.some.inj H
    go_wp2
    repeat (go_quiet (fail); try go_wp2)
    go_ret
    exact ⟨by first | rfl | (simp; done) | (simp [*]; done), by repeat (first | exact Drawn0.refl _ | apply Drawn0.step)⟩
 rw [if_neg c3] at H
 have c3b0 : ((l0.length : Int) == (l1.length : Int)) = false := beq_eq_false_iff_ne.mpr c3
 have c3b1 : ((l0.length : Int) != (l1.length : Int)) = true := bne_iff_ne.mpr c3
 have c3b2 : (l0.length == l1.length) = false := by first | simpa using c3 | (simp at c3 ⊢; omega)
 obtain rfl := Option.some.inj H
 go_enter Try.func34, Try.ntmps34
 go_wp2
 repeat (go_quiet (fail); try go_wp2)
 go_ret
 exact ⟨by first | rfl | (simp; done) | (simp [*]; done), by repeat (first | exact Drawn0.refl _ | apply Drawn0.step)⟩
end Go.Proofs.Ytjicgmcogadleaa.P
namespace Go.Proofs.Ytjicgmcogadleaa.P
open Go.RowKit Go.Proofs.YtjicgmcogadleaaW.PrintWords Go.Proofs.YtjicgmcogadleaaW.PrintLast Go.Proofs.YtjicgmcogadleaaW.PrintMore
attribute [local go_sem] max2_int min2_int max_two min_two max_three min_three max_four min_four
set_option linter.unusedVariables false
set_option linter.unusedSimpArgs false
set_option maxHeartbeats 8000000
set_option maxRecDepth 100000
def spec_IsValidTally.f (k : Nat) (l0_0 : List Int) (l0_1 : List Int) : Option (Bool) := (spec_l10Good.f k l0_0 l0_1).bind fun t102 => (some t102)
theorem spec_IsValidTally.calls (k : Nat) (A0_0 : Option Addr) (c0_0 : Nat) (l0_0 : List Int) (A0_1 : Option Addr) (c0_1 : Nat) (l0_1 : List Int) (r : Bool) (w : World) (hr0_0 : Kd.C (Kd.int .i64) w A0_0 l0_0.length l0_0) (hc0_0 : l0_0.length ≤ c0_0) (hr0_1 : Kd.C (Kd.int .i64) w A0_1 l0_1.length l0_1) (hc0_1 : l0_1.length ≤ c0_1) (h : spec_IsValidTally.f k l0_0 l0_1 = some r) :
  Calls Try.prog 36 #[.agg #[.slice A0_0 l0_0.length c0_0, .slice A0_1 l0_1.length c0_1]] w fun e w' => e = .returned (.bool r) ∧ Below w.heap.size w w' := by
 have hu26 := Try.underlying26
 have HR0_0 := Aside0.mk hr0_0
 have HC0_0 := Aside0.mk hc0_0
 clear hr0_0 hc0_0
 have HR0_1 := Aside0.mk hr0_1
 have HC0_1 := Aside0.mk hc0_1
 clear hr0_1 hc0_1
 have HB := aK (Below.refl w.heap.size w)
 have H : ((spec_l10Good.f k l0_0 l0_1).bind fun t102 => (some t102)) = some r := h
 clear h
 replace H := Option.bind_eq_some_iff.mp H
 obtain ⟨t102, A20, H⟩ := H
 replace H : (some t102) = some r := H
 have A2 := Aside0.mk A20
 clear A20
 obtain rfl := Option.some.inj H
 go_enter Try.func36, Try.ntmps36
 go_wp2_with (first | ((with_reducible refine gate_dst (N := 1) rfl ?_); refine bxe (cs := #[.slice A0_0 l0_0.length c0_0, .slice A0_1 l0_1.length c0_1]) (t := 26) ?_; intro gb101 hg w3 hbox hb; have BK101 := aK (hbox); have GW101 := aK (gE hg (pS HB.out)); have GE101 := GW101; replace HB := bS HB hb; clear hb hbox hg; obtain ⟨hcz4_0, hcz4_1, hfz4_0, hfz4_1⟩ := bc2 BK101.out) | ((with_reducible refine gate_callee (f := 44) rfl ?_); refine gl (some 4) Try.func44 #[.agg #[.slice A0_0 l0_0.length c0_0, .slice A0_1 l0_1.length c0_1]] ?_; (with_reducible refine (spec_l10Good.calls k _ _ l0_0 _ _ l0_1 t102 _ ?side1 ?side2 ?side3 ?side4 A2.out).mono ?_); (case side1 => exact pC (Kd.C_below HR0_0.out HB.out)); (case side2 => exact HC0_0.out); (case side3 => exact pC (Kd.C_below HR0_1.out HB.out)); (case side4 => exact HC0_1.out); rintro e w5 ⟨rfl, hb⟩; refine ⟨_, rfl, ?_⟩; replace BK101 := bB BK101 hb; replace HB := bS HB hb; (try clear hb); (try clear hb2); (try clear hk); (try clear hi)))
 go_ret
 exact ⟨er, pT HB.out⟩
end Go.Proofs.Ytjicgmcogadleaa.P
