/- Texts of the claim FnCalibration, merged: part 5 of 10: the program's and the reference's functions as Lean functions, the walks that show it, and plain lemmas; no conditions. -/
import Derived.Test.YtjicgmcogadleaaKFnCalibration3
import Derived.Test.YtjicgmcogadleaaKFnCalibration4
namespace Go.Proofs.Ytjicgmcogadleaa.P
open Go.RowKit Go.Proofs.YtjicgmcogadleaaW.PrintWords Go.Proofs.YtjicgmcogadleaaW.PrintLast Go.Proofs.YtjicgmcogadleaaW.PrintMore
attribute [local go_sem] max2_int min2_int max_two min_two max_three min_three max_four min_four
set_option linter.unusedVariables false
set_option linter.unusedSimpArgs false
set_option maxHeartbeats 8000000
set_option maxRecDepth 100000
mutual
def spec_l10Groups.l0 : Nat → List (S86) → Int → List Int → List Int → Option ((List (S86)))
 | 0, _, _, _, _ => none
 | k + 1, x3, x4, x102000, x102001 => if x4 < (x102000.length : Int) then (if 0 ≤ x4 then (if (rd x102000 x4) = 0 then (spec_l10Groups.l0 k x3 (wrap64 (x4 + 1)) x102000 x102001) else (if x4 < (x102001.length : Int) then (spec_l10Groups.l1 k x3 x4 x102000 x102001 (([x4] : List Int)) (rd x102000 x4) (rd x102001 x4)) else (none))) else (none)) else (some x3)
def spec_l10Groups.l1 : Nat → List (S86) → Int → List Int → List Int → List Int → Int → Int → Option ((List (S86)))
 | 0, _, _, _, _, _, _, _ => none
 | k + 1, x3, x4, x102000, x102001, x112000, x112001, x112002 => if (x3.length : Int) > 0 then (if 0 ≤ (wrap64 ((x3.length : Int) - 1)) then (if (wrap64 ((x3.length : Int) - 1)) < (x3.length : Int) then (if (wrap64 (((rd_T86 x3 (wrap64 ((x3.length : Int) - 1))).f2) * x112001)) > (wrap64 (x112002 * ((rd_T86 x3 (wrap64 ((x3.length : Int) - 1))).f1))) then ((spec_l1Own.f ((rd_T86 x3 (wrap64 ((x3.length : Int) - 1))).f0)).bind fun t116 => (if t116.length + x112000.length < 17592186044416 then (if (wrap64 ((x3.length : Int) - 1)) ≤ (x3.length : Int) then (spec_l10Groups.l1 k (x3.take ((wrap64 ((x3.length : Int) - 1)) : Int).toNat) x4 x102000 x102001 (t116 ++ x112000) (wrap64 (((rd_T86 x3 (wrap64 ((x3.length : Int) - 1))).f1) + x112001)) (wrap64 (((rd_T86 x3 (wrap64 ((x3.length : Int) - 1))).f2) + x112002))) else (none)) else (none))) else (if x3.length < 3518437208883 then (spec_l10Groups.l0 k (x3 ++ [(⟨x112000, x112001, x112002⟩ : S86)]) (wrap64 (x4 + 1)) x102000 x102001) else (none))) else (none)) else (none)) else (if x3.length < 3518437208883 then (spec_l10Groups.l0 k (x3 ++ [(⟨x112000, x112001, x112002⟩ : S86)]) (wrap64 (x4 + 1)) x102000 x102001) else (none))
end
def spec_l10Groups.f (k : Nat) (l0_0 : List Int) (l0_1 : List Int) : Option ((List (S86))) := spec_l10Groups.l0 k (([] : List (S86))) 0 l0_0 l0_1
def spec_l10Groups.T6 : Bool × List (List Nat × List Nat) := (true, [([], []), ([0], [0]), ([], []), ([2], [2]), ([], []), ([3, 4], [3, 4]), ([5], [5]), ([], []), ([7], [7]), ([], []), ([8, 9], [8, 9]), ([10], [10]), ([1, 6, 11], [1, 6, 11]), ([], []), ([13, 12, 0, 1, 2, 3, 4, 5, 6, 7, 8, 9, 10, 11, 12, 13], [12, 13])])
def spec_l10Groups.B6 : List Nat := [0, 1, 0, 4, 0, 28, 60, 0, 128, 0, 896, 1920, 4095, 0, 16383]
theorem spec_l10Groups.tab6 : rtab .any (opsOf Try.f63 6) = spec_l10Groups.T6 := by kernel_rfl
theorem spec_l10Groups.bits6 : waitsOk spec_l10Groups.T6.2 spec_l10Groups.B6 = true := by kernel_rfl
def spec_l10Groups.T7 : Bool × List (List Nat × List Nat) := (true, [([], []), ([0], [0]), ([1], [1]), ([2], [2]), ([3], [3]), ([3], [3]), ([5, 3], [3, 5]), ([6, 3], [3, 6]), ([4, 7, 3], [3, 4, 7]), ([8, 3], [3, 8]), ([9, 3], [3, 9]), ([3], [3]), ([11, 3], [3, 11]), ([10, 12, 3], [3, 10, 12]), ([3], [3]), ([14, 3], [3, 14]), ([3], [3]), ([3], [3]), ([17, 3], [3, 17]), ([18, 3], [3, 18]), ([16, 19, 3], [3, 16, 19]), ([20, 3], [3, 20]), ([21, 3], [3, 21]), ([15, 22, 3], [3, 15, 22]), ([13, 23, 3], [3, 13, 23]), ([3, 24], [3, 24])])
def spec_l10Groups.B7 : List Nat := [0, 1, 3, 7, 15, 15, 47, 111, 255, 511, 1023, 15, 2063, 8191, 15, 16399, 15, 15, 131087, 393231, 983055, 2031631, 4128783, 8372239, 16777215, 33554431]
theorem spec_l10Groups.tab7 : rtab .any (opsOf Try.f63 7) = spec_l10Groups.T7 := by kernel_rfl
theorem spec_l10Groups.bits7 : waitsOk spec_l10Groups.T7.2 spec_l10Groups.B7 = true := by kernel_rfl
def spec_l10Groups.T9 : Bool × List (List Nat × List Nat) := (true, [([], []), ([0], [0]), ([1], [1]), ([], []), ([3], [3]), ([2, 4, 2], [2, 4]), ([], []), ([6], [6]), ([], []), ([8], [8]), ([7, 9], [7, 9]), ([], []), ([11], [11]), ([], []), ([13], [13]), ([12, 14], [12, 14]), ([5, 10, 15], [5, 10, 15]), ([16, 5, 0, 1, 2, 3, 4, 5, 6, 7, 8, 9, 10, 11, 12, 13, 14, 15, 16], [16])])
def spec_l10Groups.B9 : List Nat := [0, 1, 3, 0, 8, 31, 0, 64, 0, 256, 960, 0, 2048, 0, 8192, 30720, 65535, 131071]
theorem spec_l10Groups.tab9 : rtab .any (opsOf Try.f63 9) = spec_l10Groups.T9 := by kernel_rfl
theorem spec_l10Groups.bits9 : waitsOk spec_l10Groups.T9.2 spec_l10Groups.B9 = true := by kernel_rfl
theorem spec_l10Groups.calls (k : Nat) (A0_0 : Option Addr) (c0_0 : Nat) (l0_0 : List Int) (A0_1 : Option Addr) (c0_1 : Nat) (l0_1 : List Int) (r : List (S86)) (w : World) (hr0_0 : Kd.C (Kd.int .i64) w A0_0 l0_0.length l0_0) (hc0_0 : l0_0.length ≤ c0_0) (hr0_1 : Kd.C (Kd.int .i64) w A0_1 l0_1.length l0_1) (hc0_1 : l0_1.length ≤ c0_1) (h : spec_l10Groups.f k l0_0 l0_1 = some r) :
  Calls Try.prog 63 #[.agg #[.slice A0_0 l0_0.length c0_0, .slice A0_1 l0_1.length c0_1]] w fun e w' => ∃ v0_ : Value, e = .returned (v0_) ∧ Kd.S k86 86 w' w.heap.size (fun _ => True) v0_ r ∧ Below w.heap.size w w' := by
 have hu26 := Try.underlying26
 have hu86 := Try.underlying86
 have HR0_0 := Aside0.mk hr0_0
 have HC0_0 := Aside0.mk hc0_0
 clear hr0_0 hc0_0
 have HR0_1 := Aside0.mk hr0_1
 have HC0_1 := Aside0.mk hc0_1
 clear hr0_1 hc0_1
 have HB := aK (Below.refl w.heap.size w)
 have H : (spec_l10Groups.l0 k (([] : List (S86))) 0 l0_0 l0_1) = some r := h
 clear h
 obtain ⟨y102, hy102⟩ : ∃ y_ : List (S86), y_ = (([] : List (S86))) := ⟨_, rfl⟩
 replace H : (spec_l10Groups.l0 k y102 0 l0_0 l0_1) = some r := by first | (rw [hy102]; with_reducible exact H) | (have H2_ := (Option.bind_some _ _).symm.trans H; rw [hy102]; with_reducible exact H2_) | (have H2_ := (Option.bind_some _ _).symm.trans H; with_reducible exact H2_) | with_reducible exact H | (rw [hy102]; exact H) | exact H
 have Ny102 := Aside0.mk hy102
 clear hy102
 have H' := Aside0.mk H
 clear H
 go_enter Try.func63, Try.ntmps63
 go_wp2_with (first | ((with_reducible refine gate_dst (N := 1) rfl ?_); (try (refine gate_guard (by rfl) ?_; dsimp only)); refine bxe (cs := #[.slice A0_0 l0_0.length c0_0, .slice A0_1 l0_1.length c0_1]) (t := 26) ?_; intro gb101 hg w2 hbox hb; have BK101 := aK (hbox); have GW101 := aK (gE hg (pS HB.out)); have GE101 := GW101; replace HB := bS HB hb; clear hb hbox hg) | ((with_reducible refine gate_dst (N := 7) rfl ?_); (try (refine gate_guard (by rfl) ?_; dsimp only)); refine Kd.S_lit k86 _ 86 ?hg (N := 7) ?hd (xs := ([] : List (S86))) (inner := []) (ok := fun _ => True) (okp := fun _ => True) ?hr ?hp (fun _ hk => hk) trivial (Below.refl _ _) (Nat.le_refl _) (by simp) ?_; (case hd => rfl); (case hg => rfl); (case hr => first | (go_simp; done) | (go_simp; rfl)); (case hp => exact (Reps.none _ _)); intro v103 w3 ho4 hb hg_ hnew_; clear hg_ hnew_; (first | rw [← Ny102.out] at ho4 | (simp only [Int.reduceToNat] at ho4; rw [← Ny102.out] at ho4)); have HO104 := aK (Kd.S_lower ho4 (below_size (pS HB.out))); replace BK101 := bB BK101 hb; replace HB := bS HB hb; clear hb ho4))
 go_loopg [3, 4] k (fun kq v3 v4 w' => ∃ (x3_1 : List (S86)) (x4_1 : Int), v4 = .int .i64 x4_1 ∧ Aside0 (spec_l10Groups.l0 kq x3_1 x4_1 l0_0 l0_1 = some r) ∧ Aside0 (kq ≤ k) ∧ Aside0 (Kd.S k86 86 w' w.heap.size (fun _ => True) v3 x3_1) ∧ Aside0 (w'.heap[gb101]? = some (.cells #[(.slice A0_0 l0_0.length c0_0), (.slice A0_1 l0_1.length c0_1)] 26 (0, 0))) ∧ Aside0 (Below w.heap.size w w'))
 case atStart => exact ⟨(y102), (0), (by first | rfl | (simp; done) | (simp [*]; done)), H', ⟨Nat.le_refl _⟩, ⟨by (with_reducible repeat (first | apply Kd.S_alloc | apply Kd.S_drewN | apply Kd.S_drew)); exact HO104.out⟩, ⟨by refine bk ?_; exact BK101.out⟩, ⟨pT HB.out⟩⟩
 case round =>
  clear H'
  try clear p2
  obtain ⟨x3_1, x4_1, rfl, HA, HK1, HO_3, BK101, HB⟩ := hrel
  cases gk with
  | zero => exact absurd HA.out (by simp [spec_l10Groups.l0])
  | succ k1 =>
   have H := HA.out
   clear HA
   simp only [spec_l10Groups.l0] at H
   by_cases c5 : x4_1 < (l0_0.length : Int)
   ·
    rw [if_pos c5] at H
    have c5b0 : decide (x4_1 < (l0_0.length : Int)) = true := decide_eq_true c5
    clear c5
    by_cases c6 : 0 ≤ x4_1
    ·
     rw [if_pos c6] at H
     have c6b0 : decide (0 ≤ x4_1) = true := decide_eq_true c6
     clear c6
     by_cases c7 : (rd l0_0 x4_1) = 0
     ·
      rw [if_pos c7] at H
      have c7b0 : ((rd l0_0 x4_1) == 0) = true := beq_iff_eq.mpr c7
      have c7b1 : ((rd l0_0 x4_1) != 0) = false := bne_eq_false_iff_eq.mpr c7
      clear c7
      have H' := Aside0.mk H
      clear H
      obtain ⟨hcz8_0, hcz8_1, hfz8_0, hfz8_1⟩ := bc2 BK101.out
      have p105 : 0 ≤ (x4_1 : Int) := of_decide_eq_true (by first | (with_reducible assumption) | assumption)
      have q105 : x4_1 < (l0_0.length : Int) := of_decide_eq_true (by first | (with_reducible assumption) | assumption)
      obtain ⟨ad105, e105, hx105_0⟩ := Kd.at_int HR0_0.out x4_1 p105 q105
      cases e105
      replace hx105_0 := (HB.out.cell (World.block_lt_of_cell? w _ hx105_0)).trans hx105_0
      replace p105 := eq_true p105
      replace q105 := eq_true q105
      go_wp2
      go_roundg k1
      case measure => have := HK1.out; omega
      case rel => exact ⟨(x3_1), (wrap64 (x4_1 + 1)), (by first | rfl | (simp; done) | (simp [*]; done)), H', ⟨by have := HK1.out; omega⟩, ⟨by (with_reducible repeat (first | apply Kd.S_alloc | apply Kd.S_drewN | apply Kd.S_drew)); exact HO_3.out⟩, ⟨by refine bk ?_; exact BK101.out⟩, ⟨pT HB.out⟩⟩
     rw [if_neg c7] at H
     have c7b0 : ((rd l0_0 x4_1) == 0) = false := beq_eq_false_iff_ne.mpr c7
     have c7b1 : ((rd l0_0 x4_1) != 0) = true := bne_iff_ne.mpr c7
     obtain ⟨y106, hy106⟩ : ∃ y_ : List Int, y_ = (([x4_1] : List Int)) := ⟨_, rfl⟩
     replace H : (if x4_1 < (l0_1.length : Int) then (spec_l10Groups.l1 k1 x3_1 x4_1 l0_0 l0_1 y106 (rd l0_0 x4_1) (rd l0_1 x4_1)) else (none)) = some r := by first | (rw [hy106]; with_reducible exact H) | (have H2_ := (Option.bind_some _ _).symm.trans H; rw [hy106]; with_reducible exact H2_) | (have H2_ := (Option.bind_some _ _).symm.trans H; with_reducible exact H2_) | with_reducible exact H | (rw [hy106]; exact H) | exact H
     have Ny106 := Aside0.mk hy106
     clear hy106
     by_cases c9 : x4_1 < (l0_1.length : Int)
     ·
      rw [if_pos c9] at H
      have c9b0 : decide (x4_1 < (l0_1.length : Int)) = true := decide_eq_true c9
      clear c9
      have H' := Aside0.mk H
      clear H
      obtain ⟨hcz10_0, hcz10_1, hfz10_0, hfz10_1⟩ := bc2 BK101.out
      have p105 : 0 ≤ (x4_1 : Int) := of_decide_eq_true (by first | (with_reducible assumption) | assumption)
      have q105 : x4_1 < (l0_0.length : Int) := of_decide_eq_true (by first | (with_reducible assumption) | assumption)
      obtain ⟨ad105, e105, hx105_0⟩ := Kd.at_int HR0_0.out x4_1 p105 q105
      cases e105
      replace hx105_0 := (HB.out.cell (World.block_lt_of_cell? w _ hx105_0)).trans hx105_0
      replace p105 := eq_true p105
      replace q105 := eq_true q105
      try go_wp2
      have n0_ := aK (Kd.S_drew HO_3.out)
      have n1_ := aK (blk_drew BK101.out)
      have n2_ := aK (below_drew1 HB.out)
      clear HO_3 BK101 HB
      have HO_3 := n0_
      have BK101 := n1_
      have HB := n2_
      clear n0_ n1_ n2_
      have p109 : 0 ≤ (x4_1 : Int) := of_decide_eq_true (by first | (with_reducible assumption) | assumption)
      have q109 : x4_1 < (l0_0.length : Int) := of_decide_eq_true (by first | (with_reducible assumption) | assumption)
      obtain ⟨ad109, e109, hx109_0⟩ := Kd.at_int HR0_0.out x4_1 p109 q109
      have hw109_0 := hx109_0
      obtain rfl : ad105 = ad109 := (by injection e109)
      replace hx109_0 := (HB.out.cell (World.block_lt_of_cell? w _ hx109_0)).trans hx109_0
      replace p109 := eq_true p109
      replace q109 := eq_true q109
      have p110 : 0 ≤ (x4_1 : Int) := of_decide_eq_true (by first | (with_reducible assumption) | assumption)
      have q110 : x4_1 < (l0_1.length : Int) := of_decide_eq_true (by first | (with_reducible assumption) | assumption)
      obtain ⟨ad110, e110, hx110_0⟩ := Kd.at_int HR0_1.out x4_1 p110 q110
      have hw110_0 := hx110_0
      cases e110
      replace hx110_0 := (HB.out.cell (World.block_lt_of_cell? w _ hx110_0)).trans hx110_0
      replace p110 := eq_true p110
      replace q110 := eq_true q110
      refine start_ (n := 15) (S := fun w' => w'.cell? ⟨gb101, 0, none⟩ = some (.slice (some ad105) l0_0.length c0_0) ∧ w'.cell? ⟨gb101, 1, none⟩ = some (.slice (some ad110) l0_1.length c0_1) ∧ w'.cell? (ad105.add (x4_1).toNat) = some (.int .i64 (rd l0_0 x4_1)) ∧ w'.cell? (ad110.add (x4_1).toNat) = some (.int .i64 (rd l0_1 x4_1))) (ds := []) #[false, false, false, false, false, false, false, false, false, false, false, false, false, false, false] (by kernel_rfl) rfl rfl ⟨(blk_cell BK101.out 0).trans rfl, (blk_cell BK101.out 1).trans rfl, ((HB.out.cell (World.block_lt_of_cell? w _ hw109_0)).trans hw109_0), ((HB.out.cell (World.block_lt_of_cell? w _ hw110_0)).trans hw110_0)⟩ (fun hHeld => ?_); refine with_tabW spec_l10Groups.tab6 spec_l10Groups.bits6 (fun HT_ HW_ => ?_)
      generalize wr.drew = w11 at HO_3 BK101 HB hx109_0 hx110_0 hHeld ⊢
      refine pu (i := 0) (N := some 21) #[true, false, false, false, false, false, false, false, false, false, false, false, false, false, false] rfl rfl HT_.out ?_
      refine pu (i := 2) (N := some 23) #[true, false, true, false, false, false, false, false, false, false, false, false, false, false, false] rfl rfl HT_.out ?_
      refine pu (i := 4) (N := some 25) #[true, false, true, false, true, false, false, false, false, false, false, false, false, false, false] rfl rfl HT_.out ?_
      refine pu (i := 7) (N := some 28) #[true, false, true, false, true, false, false, true, false, false, false, false, false, false, false] rfl rfl HT_.out ?_
      refine pu (i := 9) (N := some 30) #[true, false, true, false, true, false, false, true, false, true, false, false, false, false, false] rfl rfl HT_.out ?_
      refine tk (i := 3) (N := some 24) #[true, false, true, true, true, false, false, true, false, true, false, false, false, false, false] rfl rfl HT_.out HW_.out (Or.inl ⟨by rfl, by rintro w' ⟨s0, s1, s2, s3⟩; go_simp; with_reducible rfl⟩) hHeld ?_
      refine pu (i := 5) (N := some 26) #[true, false, true, true, true, true, false, true, false, true, false, false, false, false, false] rfl rfl HT_.out ?_
      refine tk (i := 6) (N := some 27) #[true, false, true, true, true, true, true, true, false, true, false, false, false, false, false] rfl rfl HT_.out HW_.out (Or.inl ⟨by rfl, by rintro w' ⟨s0, s1, s2, s3⟩; go_simp; with_reducible rfl⟩) hHeld ?_
      refine tk (i := 8) (N := some 29) #[true, false, true, true, true, true, true, true, true, true, false, false, false, false, false] rfl rfl HT_.out HW_.out (Or.inl ⟨by rfl, by rintro w' ⟨s0, s1, s2, s3⟩; go_simp; with_reducible rfl⟩) hHeld ?_
      refine pu (i := 10) (N := some 31) #[true, false, true, true, true, true, true, true, true, true, true, false, false, false, false] rfl rfl HT_.out ?_
      refine tk (i := 11) (N := some 32) #[true, false, true, true, true, true, true, true, true, true, true, true, false, false, false] rfl rfl HT_.out HW_.out (Or.inl ⟨by rfl, by rintro w' ⟨s0, s1, s2, s3⟩; go_simp; with_reducible rfl⟩) hHeld ?_
      refine join_ (σ := Value × Nat) 1 #[true, true, true, true, true, true, true, true, true, true, true, true, true, true, false] (fun s_ => [(22, s_.1), (5, .pointer (some ⟨s_.2, 0, none⟩)), (33, .agg #[s_.1, .int .i64 (rd l0_0 x4_1), .int .i64 (rd l0_1 x4_1)])]) (fun s_ w' => (w'.cell? ⟨gb101, 0, none⟩ = some (.slice (some ad105) l0_0.length c0_0) ∧ w'.cell? ⟨gb101, 1, none⟩ = some (.slice (some ad110) l0_1.length c0_1) ∧ w'.cell? (ad105.add (x4_1).toNat) = some (.int .i64 (rd l0_0 x4_1)) ∧ w'.cell? (ad110.add (x4_1).toNat) = some (.int .i64 (rd l0_1 x4_1))) ∧ (Kd.R (Kd.int .i64) 3 w' w.heap.size (fun _ => True) s_.1 y106) ∧ (Kd.S k86 86 w' w.heap.size (fun k_ => some k_ ≠ (s_.1 : Value).ownBlock ∧ k_ ≠ s_.2) u3 x3_1) ∧ (w'.heap[gb101]? = some (.cells #[.slice (some ad105) l0_0.length c0_0, .slice (some ad110) l0_1.length c0_1] 26 (0, 0))) ∧ (w'.heap[s_.2]? = some (.cells #[.slice none 0 0, .int .i64 0, .int .i64 0] 86 (0, 0))) ∧ (w.heap.size ≤ s_.2) ∧ (w.heap.size ≤ s_.2) ∧ (gb101 ≠ s_.2) ∧ (s_.2 ≠ gb101) ∧ (Below w.heap.size w w')) ?_ ?_
      rotate_left
      ·
       intro hCont
       refine two_ (i := 1) (j := 13) (Ni := some 22) (Nj := some 5) #[true, true, true, true, true, true, true, true, true, true, true, true, false, false, false] #[true, false, true, true, true, true, true, true, true, true, true, true, false, true, false] rfl rfl rfl rfl (two_of HT_.out (by kernel_rfl)) (by decide) (by decide) (fun K hK => ?_) (fun K hK => ?_)
       ·
        skip
        refine Kd.R_lit_step (Kd.int .i64) _ 3 ?hg (N := 22) ?hd (xs := ([x4_1] : List Int)) (inner := [.int .i64 x4_1]) (ok := fun _ => True) (okp := fun _ => True) ?hr ?hp (fun _ hk => hk) trivial (Below.refl _ _) (Nat.le_refl _) (by simp) ?_; (case hd => rfl); (case hg => rfl); (case hr => first | (go_simp; done) | (go_simp; rfl)); (case hp => exact (Reps.one (show Kd.M (Kd.int .i64) _ _ _ x4_1 [.int .i64 x4_1] from rfl) (Reps.none _ _)))
        intro v107 w12 ho13 hb hg_ hnew_
        clear hg_ hnew_
        (first | rw [← Ny106.out] at ho13 | (simp only [Int.reduceToNat] at ho13; rw [← Ny106.out] at ho13))
        have n0_ := aK (Kd.S_elder' (by (with_reducible repeat (first | apply Kd.S_alloc | apply Kd.S_drewN | apply Kd.S_drew)); exact HO_3.out) (Kd.R_base ho13) hb)
        have HO108 := aK (Kd.R_lower ho13 (below_size (pS HB.out)))
        replace BK101 := bB BK101 hb
        replace HB := bS HB hb
        clear HO_3
        have HO_3 := n0_
        clear n0_ hb ho13
        obtain ⟨Ao14, co14, eo14⟩ := Kd.R_slice HO108.out
        (first | subst eo14 | (obtain ⟨f4_, f5_⟩ := sI eo14; subst f4_; subst f5_))
        refine hK.out _ _ ⟨(blk_cell BK101.out 0).trans rfl, (blk_cell BK101.out 1).trans rfl, ((HB.out.cell (World.block_lt_of_cell? w _ hw109_0)).trans hw109_0), ((HB.out.cell (World.block_lt_of_cell? w _ hw110_0)).trans hw110_0)⟩ (fun hHeld => ?_)
        clear hK K
        refine norm_ (a' := ?_) ?_ ?_
        rotate_left
        ·
         show Act.put _ (some 22) _ = _
         simp only [sP]
         rfl
        refine pu (i := 12) (N := some 33) #[true, true, true, true, true, true, true, true, true, true, true, true, true, false, false] rfl rfl HT_.out ?_
        refine one_ (i := 13) (N := some 5) #[true, true, true, true, true, true, true, true, true, true, true, true, true, true, false] rfl rfl (one_of HT_.out (by kernel_rfl)) (by decide) (fun K hK => ?_)
        refine box_step ?hg (N := 5) ?hd (cs := #[.slice none 0 0, .int .i64 0, .int .i64 0]) (t := 86) ?hr ?_; (case hd => rfl); (case hg => rfl); (case hr => first | (go_simp; done) | (go_simp; rfl))
        intro gb111 hg w15 hbox hb
        have n0_ := aK (Kd.S_below (Kd.S_elderB (by (with_reducible repeat (first | apply Kd.S_alloc | apply Kd.S_drewN | apply Kd.S_drew)); exact HO_3.out) gb111 (Nat.le_of_eq hg.symm)) hb)
        have n1_ := aK (Kd.R_below (pR HO108.out) hb)
        have BK111 := aK (hbox)
        have GW111 := aK (gE hg (pS HB.out))
        have GE111 := GW111
        obtain ⟨NB101_111, NB111_101⟩ := nb hg (pB BK101.out)
        replace BK101 := bB BK101 hb
        replace HB := bS HB hb
        clear HO_3 HO108
        have HO_3 := n0_
        have HO108 := n1_
        clear n0_ n1_ hb hbox hg
        refine hK.out _ _ ⟨(blk_cell BK101.out 0).trans rfl, (blk_cell BK101.out 1).trans rfl, ((HB.out.cell (World.block_lt_of_cell? w _ hw109_0)).trans hw109_0), ((HB.out.cell (World.block_lt_of_cell? w _ hw110_0)).trans hw110_0)⟩ (fun hHeld => ?_)
        clear hK K
        refine norm_ (a' := ?_) ?_ ?_
        rotate_left
        ·
         show Act.put _ (some 5) _ = _
         simp only [sP]
         rfl
        exact norm_ (by simp only [putAll, Act.put, List.setIfInBounds_toArray, List.set_cons_zero, List.set_cons_succ]) (hCont (.slice Ao14 y106.length co14, gb111) _ ⟨hHeld, (pR HO108.out), (by (with_reducible repeat (first | apply Kd.S_alloc | apply Kd.S_drewN | apply Kd.S_drew)); exact Kd.S_mono HO_3.out (fun _ hk => ⟨hk.1.2, hk.2⟩)), (pB BK101.out), (pB BK111.out), GW111.out, GE111.out, NB101_111.out, NB111_101.out, (pS HB.out)⟩)
       skip
       refine box_step ?hg (N := 5) ?hd (cs := #[.slice none 0 0, .int .i64 0, .int .i64 0]) (t := 86) ?hr ?_; (case hd => rfl); (case hg => rfl); (case hr => first | (go_simp; done) | (go_simp; rfl))
       intro gb111 hg w12 hbox hb
       have n0_ := aK (Kd.S_below (Kd.S_elderB (by (with_reducible repeat (first | apply Kd.S_alloc | apply Kd.S_drewN | apply Kd.S_drew)); exact HO_3.out) gb111 (Nat.le_of_eq hg.symm)) hb)
       have BK111 := aK (hbox)
       have GW111 := aK (gE hg (pS HB.out))
       have GE111 := GW111
       obtain ⟨NB101_111, NB111_101⟩ := nb hg (pB BK101.out)
       replace BK101 := bB BK101 hb
       replace HB := bS HB hb
       clear HO_3
       have HO_3 := n0_
       clear n0_ hb hbox hg
       refine hK.out _ _ ⟨(blk_cell BK101.out 0).trans rfl, (blk_cell BK101.out 1).trans rfl, ((HB.out.cell (World.block_lt_of_cell? w _ hw109_0)).trans hw109_0), ((HB.out.cell (World.block_lt_of_cell? w _ hw110_0)).trans hw110_0)⟩ (fun hHeld => ?_)
       clear hK K
       refine norm_ (a' := ?_) ?_ ?_
       rotate_left
       ·
        show Act.put _ (some 5) _ = _
        simp only [sP]
        rfl
       refine one_ (i := 1) (N := some 22) #[true, true, true, true, true, true, true, true, true, true, true, true, false, true, false] rfl rfl (one_of HT_.out (by kernel_rfl)) (by decide) (fun K hK => ?_)
       refine Kd.R_lit_step (Kd.int .i64) _ 3 ?hg (N := 22) ?hd (xs := ([x4_1] : List Int)) (inner := [.int .i64 x4_1]) (ok := fun _ => True) (okp := fun _ => True) ?hr ?hp (fun _ hk => hk) trivial (Below.refl _ _) (Nat.le_refl _) (by simp) ?_; (case hd => rfl); (case hg => rfl); (case hr => first | (go_simp; done) | (go_simp; rfl)); (case hp => exact (Reps.one (show Kd.M (Kd.int .i64) _ _ _ x4_1 [.int .i64 x4_1] from rfl) (Reps.none _ _)))
       intro v107 w13 ho14 hb hg_ hnew_
       clear hg_ hnew_
       (first | rw [← Ny106.out] at ho14 | (simp only [Int.reduceToNat] at ho14; rw [← Ny106.out] at ho14))
       have n0_ := aK (Kd.S_elder' (by (with_reducible repeat (first | apply Kd.S_alloc | apply Kd.S_drewN | apply Kd.S_drew)); exact HO_3.out) (Kd.R_base ho14) hb)
       have HO108 := aK (Kd.R_lower ho14 (below_size (pS HB.out)))
       replace BK101 := bB BK101 hb
       replace BK111 := bB BK111 hb
       replace HB := bS HB hb
       clear HO_3
       have HO_3 := n0_
       clear n0_ hb ho14
       obtain ⟨Ao15, co15, eo15⟩ := Kd.R_slice HO108.out
       (first | subst eo15 | (obtain ⟨f4_, f5_⟩ := sI eo15; subst f4_; subst f5_))
       refine hK.out _ _ ⟨(blk_cell BK101.out 0).trans rfl, (blk_cell BK101.out 1).trans rfl, ((HB.out.cell (World.block_lt_of_cell? w _ hw109_0)).trans hw109_0), ((HB.out.cell (World.block_lt_of_cell? w _ hw110_0)).trans hw110_0)⟩ (fun hHeld => ?_)
       clear hK K
       refine norm_ (a' := ?_) ?_ ?_
       rotate_left
       ·
        show Act.put _ (some 22) _ = _
        simp only [sP]
        rfl
       refine pu (i := 12) (N := some 33) #[true, true, true, true, true, true, true, true, true, true, true, true, true, true, false] rfl rfl HT_.out ?_
       exact norm_ (by simp only [putAll, Act.put, List.setIfInBounds_toArray, List.set_cons_zero, List.set_cons_succ]) (hCont (.slice Ao15 y106.length co15, gb111) _ ⟨hHeld, (pR HO108.out), (by (with_reducible repeat (first | apply Kd.S_alloc | apply Kd.S_drewN | apply Kd.S_drew)); exact Kd.S_mono HO_3.out (fun _ hk => ⟨hk.2, hk.1.2⟩)), (pB BK101.out), (pB BK111.out), GW111.out, GE111.out, NB101_111.out, NB111_101.out, (pS HB.out)⟩)
      rintro ⟨v107, gb111⟩ w16 ⟨hS_, h0_, h1_, h2_, h3_, h4_, h5_, h6_, h7_, h8_⟩
      have n0_ : Aside0 (Kd.R (Kd.int .i64) 3 w16 w.heap.size (fun _ => True) v107 y106) := ⟨h0_⟩
      have n1_ : Aside0 (Kd.S k86 86 w16 w.heap.size (fun k_ => some k_ ≠ (v107 : Value).ownBlock ∧ k_ ≠ gb111) u3 x3_1) := ⟨h1_⟩
      have n2_ : Aside0 (w16.heap[gb101]? = some (.cells #[.slice (some ad105) l0_0.length c0_0, .slice (some ad110) l0_1.length c0_1] 26 (0, 0))) := ⟨h2_⟩
      have n3_ : Aside0 (w16.heap[gb111]? = some (.cells #[.slice none 0 0, .int .i64 0, .int .i64 0] 86 (0, 0))) := ⟨h3_⟩
      have n4_ : Aside0 (w.heap.size ≤ gb111) := ⟨h4_⟩
      have n5_ : Aside0 (w.heap.size ≤ gb111) := ⟨h5_⟩
      have n6_ : Aside0 (gb101 ≠ gb111) := ⟨h6_⟩
      have n7_ : Aside0 (gb111 ≠ gb101) := ⟨h7_⟩
      have n8_ : Aside0 (Below w.heap.size w w16) := ⟨h8_⟩
      clear HO_3 BK101 HB h0_ h1_ h2_ h3_ h4_ h5_ h6_ h7_ h8_
      have HO108 := n0_
      have HO_3 := n1_
      have BK101 := n2_
      have BK111 := n3_
      have GW111 := n4_
      have GE111 := n5_
      have NB101_111 := n6_
      have NB111_101 := n7_
      have HB := n8_
      clear n0_ n1_ n2_ n3_ n4_ n5_ n6_ n7_ n8_
      have hHeld : w16.cell? ⟨gb101, 0, none⟩ = some (.slice (some ad105) l0_0.length c0_0) ∧ w16.cell? ⟨gb101, 1, none⟩ = some (.slice (some ad110) l0_1.length c0_1) ∧ w16.cell? (ad105.add (x4_1).toNat) = some (.int .i64 (rd l0_0 x4_1)) ∧ w16.cell? (ad110.add (x4_1).toNat) = some (.int .i64 (rd l0_1 x4_1)) := hS_
      obtain ⟨Ao17, co17, eo17⟩ := Kd.R_slice HO108.out
      (first | subst eo17 | (obtain ⟨f4_, f5_⟩ := sI eo17; subst f4_; subst f5_))
      refine norm_ (a' := ?_) ?_ ?_
      rotate_left
      ·
       simp only [putAll, Act.put, List.setIfInBounds_toArray, List.set_cons_zero, List.set_cons_succ]
       rfl
      refine one_ (i := 14) (N := none) #[true, true, true, true, true, true, true, true, true, true, true, true, true, true, true] rfl rfl (one_of HT_.out (by kernel_rfl)) (by decide) (fun K hK => ?_)
      have hs18 : w16.cell? ⟨gb111, 0, none⟩ = some (.slice none 0 0) := (blk_cell BK111.out 0).trans rfl
      have hfs18 := blk_frozen BK111.out 0
      have hns18_0 := NB101_111.out
      have hms18_0 := NB111_101.out
      have hs19 : w16.cell? ⟨gb111, 1, none⟩ = some (.int .i64 0) := (blk_cell BK111.out 1).trans rfl
      have hfs19 := blk_frozen BK111.out 1
      have hns19_0 := NB101_111.out
      have hms19_0 := NB111_101.out
      have hs20 : w16.cell? ⟨gb111, 2, none⟩ = some (.int .i64 0) := (blk_cell BK111.out 2).trans rfl
      have hfs20 := blk_frozen BK111.out 2
      have hns20_0 := NB101_111.out
      have hms20_0 := NB111_101.out
      refine skip_ (w1 := ?_) (by rfl) rfl ?_ ?_
      rotate_left
      ·
       go_simp
       rfl
      refine hK.out _ _ ⟨((cell_far (p := ⟨gb111, _, none⟩) NB101_111.out _).trans (((cell_far (p := ⟨gb111, _, none⟩) NB101_111.out _).trans (((cell_far (p := ⟨gb111, _, none⟩) NB101_111.out _).trans (hHeld.1)))))), ((cell_far (p := ⟨gb111, _, none⟩) NB101_111.out _).trans (((cell_far (p := ⟨gb111, _, none⟩) NB101_111.out _).trans (((cell_far (p := ⟨gb111, _, none⟩) NB101_111.out _).trans (hHeld.2.1)))))), ((cell_far (p := ⟨gb111, _, none⟩) (by first | exact Nat.ne_of_lt (Nat.lt_of_lt_of_le (by have := World.block_lt_of_cell? _ _ hw109_0; first | rwa [add_block] at this | exact this) GW111.out) | (rw [add_block]; exact Nat.ne_of_lt (Nat.lt_of_lt_of_le (by have := World.block_lt_of_cell? _ _ hw109_0; first | rwa [add_block] at this | exact this) GW111.out)) | (show (Addr.add _ _).block ≠ _; rw [add_block]; exact Nat.ne_of_lt (Nat.lt_of_lt_of_le (by have := World.block_lt_of_cell? _ _ hw109_0; first | rwa [add_block] at this | exact this) GW111.out)) | (dsimp only; exact Nat.ne_of_lt (Nat.lt_of_lt_of_le (by have := World.block_lt_of_cell? _ _ hw109_0; first | rwa [add_block] at this | exact this) GW111.out))) _).trans (((cell_far (p := ⟨gb111, _, none⟩) (by first | exact Nat.ne_of_lt (Nat.lt_of_lt_of_le (by have := World.block_lt_of_cell? _ _ hw109_0; first | rwa [add_block] at this | exact this) GW111.out) | (rw [add_block]; exact Nat.ne_of_lt (Nat.lt_of_lt_of_le (by have := World.block_lt_of_cell? _ _ hw109_0; first | rwa [add_block] at this | exact this) GW111.out)) | (show (Addr.add _ _).block ≠ _; rw [add_block]; exact Nat.ne_of_lt (Nat.lt_of_lt_of_le (by have := World.block_lt_of_cell? _ _ hw109_0; first | rwa [add_block] at this | exact this) GW111.out)) | (dsimp only; exact Nat.ne_of_lt (Nat.lt_of_lt_of_le (by have := World.block_lt_of_cell? _ _ hw109_0; first | rwa [add_block] at this | exact this) GW111.out))) _).trans (((cell_far (p := ⟨gb111, _, none⟩) (by first | exact Nat.ne_of_lt (Nat.lt_of_lt_of_le (by have := World.block_lt_of_cell? _ _ hw109_0; first | rwa [add_block] at this | exact this) GW111.out) | (rw [add_block]; exact Nat.ne_of_lt (Nat.lt_of_lt_of_le (by have := World.block_lt_of_cell? _ _ hw109_0; first | rwa [add_block] at this | exact this) GW111.out)) | (show (Addr.add _ _).block ≠ _; rw [add_block]; exact Nat.ne_of_lt (Nat.lt_of_lt_of_le (by have := World.block_lt_of_cell? _ _ hw109_0; first | rwa [add_block] at this | exact this) GW111.out)) | (dsimp only; exact Nat.ne_of_lt (Nat.lt_of_lt_of_le (by have := World.block_lt_of_cell? _ _ hw109_0; first | rwa [add_block] at this | exact this) GW111.out))) _).trans (hHeld.2.2.1)))))), ((cell_far (p := ⟨gb111, _, none⟩) (by first | exact Nat.ne_of_lt (Nat.lt_of_lt_of_le (by have := World.block_lt_of_cell? _ _ hw110_0; first | rwa [add_block] at this | exact this) GW111.out) | (rw [add_block]; exact Nat.ne_of_lt (Nat.lt_of_lt_of_le (by have := World.block_lt_of_cell? _ _ hw110_0; first | rwa [add_block] at this | exact this) GW111.out)) | (show (Addr.add _ _).block ≠ _; rw [add_block]; exact Nat.ne_of_lt (Nat.lt_of_lt_of_le (by have := World.block_lt_of_cell? _ _ hw110_0; first | rwa [add_block] at this | exact this) GW111.out)) | (dsimp only; exact Nat.ne_of_lt (Nat.lt_of_lt_of_le (by have := World.block_lt_of_cell? _ _ hw110_0; first | rwa [add_block] at this | exact this) GW111.out))) _).trans (((cell_far (p := ⟨gb111, _, none⟩) (by first | exact Nat.ne_of_lt (Nat.lt_of_lt_of_le (by have := World.block_lt_of_cell? _ _ hw110_0; first | rwa [add_block] at this | exact this) GW111.out) | (rw [add_block]; exact Nat.ne_of_lt (Nat.lt_of_lt_of_le (by have := World.block_lt_of_cell? _ _ hw110_0; first | rwa [add_block] at this | exact this) GW111.out)) | (show (Addr.add _ _).block ≠ _; rw [add_block]; exact Nat.ne_of_lt (Nat.lt_of_lt_of_le (by have := World.block_lt_of_cell? _ _ hw110_0; first | rwa [add_block] at this | exact this) GW111.out)) | (dsimp only; exact Nat.ne_of_lt (Nat.lt_of_lt_of_le (by have := World.block_lt_of_cell? _ _ hw110_0; first | rwa [add_block] at this | exact this) GW111.out))) _).trans (((cell_far (p := ⟨gb111, _, none⟩) (by first | exact Nat.ne_of_lt (Nat.lt_of_lt_of_le (by have := World.block_lt_of_cell? _ _ hw110_0; first | rwa [add_block] at this | exact this) GW111.out) | (rw [add_block]; exact Nat.ne_of_lt (Nat.lt_of_lt_of_le (by have := World.block_lt_of_cell? _ _ hw110_0; first | rwa [add_block] at this | exact this) GW111.out)) | (show (Addr.add _ _).block ≠ _; rw [add_block]; exact Nat.ne_of_lt (Nat.lt_of_lt_of_le (by have := World.block_lt_of_cell? _ _ hw110_0; first | rwa [add_block] at this | exact this) GW111.out)) | (dsimp only; exact Nat.ne_of_lt (Nat.lt_of_lt_of_le (by have := World.block_lt_of_cell? _ _ hw110_0; first | rwa [add_block] at this | exact this) GW111.out))) _).trans (hHeld.2.2.2))))))⟩ (fun hHeld => ?_)
      clear hK K
      refine done_ (done_of HT_.out (by kernel_rfl)) ?_
      try go_wp2
      go_loopg [3] k1 (fun kq v3 w' => ∃ (x3_2 : List (S86)) (x112000_2 : List Int) (x112001_2 : Int) (x112002_2 : Int) (u112000 : Value), Aside0 (spec_l10Groups.l1 kq x3_2 x4_1 l0_0 l0_1 x112000_2 x112001_2 x112002_2 = some r) ∧ Aside0 (kq ≤ k1) ∧ Aside0 (Kd.S k86 86 w' w.heap.size (fun k_ => some k_ ≠ (u112000 : Value).ownBlock ∧ k_ ≠ gb111) v3 x3_2) ∧ Aside0 (Kd.R (Kd.int .i64) 3 w' w.heap.size (fun _ => True) u112000 x112000_2) ∧ Aside0 (w'.heap[gb101]? = some (.cells #[(.slice (some ad105) l0_0.length c0_0), (.slice (some ad110) l0_1.length c0_1)] 26 (0, 0))) ∧ Aside0 (w'.heap[gb111]? = some (.cells #[u112000, .int .i64 x112001_2, .int .i64 x112002_2] 86 (0, 0))) ∧ Aside0 (Below w.heap.size w w'))
      case atStart => exact ⟨(x3_1), (y106), (rd l0_0 x4_1), (rd l0_1 x4_1), (.slice Ao17 y106.length co17), H', ⟨Nat.le_refl _⟩, ⟨by (with_reducible repeat (first | apply Kd.S_alloc | apply Kd.S_drewN | apply Kd.S_drew)); exact Kd.S_mono (Kd.S_far (p := ⟨gb111, 2, none⟩) (Kd.S_far (p := ⟨gb111, 1, none⟩) (Kd.S_far (p := ⟨gb111, 0, none⟩) (Kd.S_mono HO_3.out (fun k_ hk => (⟨hk, hk.2⟩ : _ ∧ k_ ≠ gb111))) (fun _ hk => hk.2) (.slice Ao17 y106.length co17)) (fun _ hk => hk.2) (.int .i64 (rd l0_0 x4_1))) (fun _ hk => hk.2) (.int .i64 (rd l0_1 x4_1))) (fun _ hk => ⟨hk.1.1, hk.1.2⟩)⟩, ⟨pR (Kd.R_mono (rF3 HO108.out BK111.out (.slice Ao17 y106.length co17) (.int .i64 (rd l0_0 x4_1)) (.int .i64 (rd l0_1 x4_1))) (fun _ h => trivial))⟩, ⟨by refine bk ?_; refine blk_far ?_ NB101_111.out _; refine bk ?_; refine blk_far ?_ NB101_111.out _; refine bk ?_; refine blk_far ?_ NB101_111.out _; refine bk ?_; exact BK101.out⟩, ⟨by refine bk ?_; refine blk_put (cs := #[.slice Ao17 y106.length co17, .int .i64 (rd l0_0 x4_1), .int .i64 0]) ?_ 2 _ rfl; refine bk ?_; refine blk_put (cs := #[.slice Ao17 y106.length co17, .int .i64 0, .int .i64 0]) ?_ 1 _ rfl; refine bk ?_; refine blk_put (cs := #[.slice none 0 0, .int .i64 0, .int .i64 0]) ?_ 0 _ rfl; refine bk ?_; exact BK111.out⟩, ⟨pT HB.out⟩⟩
      case round =>
       clear H'
       try clear p1
       try clear q1
       try clear hx1
       try clear p2
       try clear c5
       try clear c5b0
       try clear c6
       try clear c6b0
       try clear p6
       try clear c7
       try clear c7b0
       try clear c7b1
       try clear c9
       try clear c9b0
       try clear p10
       try clear q10
       try clear hx10
       try clear p11
       try clear q11
       try clear hx11
       try clear hcz10_0
       try clear hcz10_1
       try clear hcz8_0
       try clear hcz8_1
       try clear hfz10_0
       try clear hfz10_1
       try clear hfz8_0
       try clear hfz8_1
       try clear hx105_0
       try clear hx109_0
       try clear hx110_0
       try clear p105
       try clear p109
       try clear p110
       try clear p2
       try clear q105
       try clear q109
       try clear q110
       obtain ⟨x3_2, x112000_2, x112001_2, x112002_2, u112000, HA, HK2, HO_3, HO_112000, BK101, BK111, HB⟩ := hrel
       cases gk with
       | zero => exact absurd HA.out (by simp [spec_l10Groups.l1])
       | succ k2 =>
        have H := HA.out
        clear HA
        simp only [spec_l10Groups.l1] at H
        by_cases c21 : (x3_2.length : Int) > 0
        ·
         rw [if_pos c21] at H
         have c21b0 : decide (0 < (x3_2.length : Int)) = true := decide_eq_true c21
         have c21b1 : decide (0 < x3_2.length) = true := decide_eq_true (by omega)
         clear c21
         obtain ⟨ji22, hji22⟩ : ∃ j_ : Int, (wrap64 ((x3_2.length : Int) - 1)) = j_ := ⟨_, rfl⟩
         replace H : (if 0 ≤ (ji22) then (if (ji22) < (x3_2.length : Int) then (if (wrap64 (((rd_T86 x3_2 (ji22)).f2) * x112001_2)) > (wrap64 (x112002_2 * ((rd_T86 x3_2 (ji22)).f1))) then ((spec_l1Own.f ((rd_T86 x3_2 (ji22)).f0)).bind fun t116 => (if t116.length + x112000_2.length < 17592186044416 then (if (ji22) ≤ (x3_2.length : Int) then (spec_l10Groups.l1 k2 (x3_2.take ((ji22) : Int).toNat) x4_1 l0_0 l0_1 (t116 ++ x112000_2) (wrap64 (((rd_T86 x3_2 (ji22)).f1) + x112001_2)) (wrap64 (((rd_T86 x3_2 (ji22)).f2) + x112002_2))) else (none)) else (none))) else (if x3_2.length < 3518437208883 then (spec_l10Groups.l0 k2 (x3_2 ++ [(⟨x112000_2, x112001_2, x112002_2⟩ : S86)]) (wrap64 (x4_1 + 1)) l0_0 l0_1) else (none))) else (none)) else (none)) = some r := by first | (rw [hji22] at H; exact H) | (simp only [hji22] at H ⊢; exact H)
         have hji22w : (IntKind.i64.wrap ((x3_2.length : Int) - 1)) = ji22 := (i64_w _).trans hji22
         by_cases c23 : 0 ≤ (ji22)
         ·
          rw [if_pos c23] at H
          have c23b0 : decide (0 ≤ (ji22)) = true := decide_eq_true c23
          clear c23
          by_cases c24 : (ji22) < (x3_2.length : Int)
          ·
           rw [if_pos c24] at H
           have c24b0 : decide ((ji22) < (x3_2.length : Int)) = true := decide_eq_true c24
           clear c24
           by_cases c25 : (wrap64 (((rd_T86 x3_2 (ji22)).f2) * x112001_2)) > (wrap64 (x112002_2 * ((rd_T86 x3_2 (ji22)).f1)))
           ·
            rw [if_pos c25] at H
            have c25b0 : decide ((wrap64 (x112002_2 * ((rd_T86 x3_2 (ji22)).f1))) < (wrap64 (((rd_T86 x3_2 (ji22)).f2) * x112001_2))) = true := decide_eq_true c25
            clear c25
            replace H := Option.bind_eq_some_iff.mp H
            obtain ⟨t116, A260, H⟩ := H
            replace H : (if t116.length + x112000_2.length < 17592186044416 then (if (ji22) ≤ (x3_2.length : Int) then (spec_l10Groups.l1 k2 (x3_2.take ((ji22) : Int).toNat) x4_1 l0_0 l0_1 (t116 ++ x112000_2) (wrap64 (((rd_T86 x3_2 (ji22)).f1) + x112001_2)) (wrap64 (((rd_T86 x3_2 (ji22)).f2) + x112002_2))) else (none)) else (none)) = some r := H
            have A26 := Aside0.mk A260
            clear A260
            by_cases c27 : t116.length + x112000_2.length < 17592186044416
            ·
             rw [if_pos c27] at H
             have LMc27 := Aside0.mk c27
             clear c27
             obtain ⟨y119, hy119⟩ : ∃ y_ : List Int, y_ = (t116 ++ x112000_2) := ⟨_, rfl⟩
             replace H : (if (ji22) ≤ (x3_2.length : Int) then (spec_l10Groups.l1 k2 (x3_2.take ((ji22) : Int).toNat) x4_1 l0_0 l0_1 y119 (wrap64 (((rd_T86 x3_2 (ji22)).f1) + x112001_2)) (wrap64 (((rd_T86 x3_2 (ji22)).f2) + x112002_2))) else (none)) = some r := by first | (rw [hy119]; with_reducible exact H) | (have H2_ := (Option.bind_some _ _).symm.trans H; rw [hy119]; with_reducible exact H2_) | (have H2_ := (Option.bind_some _ _).symm.trans H; with_reducible exact H2_) | with_reducible exact H | (rw [hy119]; exact H) | exact H
             have Ny119 := Aside0.mk hy119
             clear hy119
             by_cases c28 : (ji22) ≤ (x3_2.length : Int)
             ·
              rw [if_pos c28] at H
              have c28b0 := eq_true c28
              have c28b1 : decide ((ji22) ≤ (x3_2.length : Int)) = true := decide_eq_true c28
              clear c28
              obtain ⟨y122, hy122⟩ : ∃ y_ : List (S86), y_ = (x3_2.take ((ji22) : Int).toNat) := ⟨_, rfl⟩
              replace H : (spec_l10Groups.l1 k2 y122 x4_1 l0_0 l0_1 y119 (wrap64 (((rd_T86 x3_2 (ji22)).f1) + x112001_2)) (wrap64 (((rd_T86 x3_2 (ji22)).f2) + x112002_2))) = some r := by first | (rw [hy122]; with_reducible exact H) | (have H2_ := (Option.bind_some _ _).symm.trans H; rw [hy122]; with_reducible exact H2_) | (have H2_ := (Option.bind_some _ _).symm.trans H; with_reducible exact H2_) | with_reducible exact H | (rw [hy122]; exact H) | exact H
              have Ny122 := Aside0.mk hy122
              clear hy122
              have H' := Aside0.mk H
              clear H
              try go_wp2
              have n0_ := aK (Kd.S_drew HO_3.out)
              have n1_ := aK (Kd.R_drew HO_112000.out)
              have n2_ := aK (blk_drew BK101.out)
              have n3_ := aK (blk_drew BK111.out)
              have n4_ := aK (below_drew1 HB.out)
              clear HO_3 HO_112000 BK101 BK111 HB
              have HO_3 := n0_
              have HO_112000 := n1_
              have BK101 := n2_
              have BK111 := n3_
              have HB := n4_
              clear n0_ n1_ n2_ n3_ n4_
              obtain ⟨Ao30, co30, eo30⟩ := Kd.S_slice HO_3.out
              (first | subst eo30 | (obtain ⟨f4_, f5_⟩ := sI eo30; subst f4_; subst f5_))
              have p112 : 0 ≤ ((ji22) : Int) := of_decide_eq_true (by first | (with_reducible assumption) | assumption)
              have q112 : (ji22) < (x3_2.length : Int) := of_decide_eq_true (by first | (with_reducible assumption) | assumption)
              obtain ⟨ad112, A112_0, c112_0, e112, hx112_0, hx112_1, hx112_2, hl112_0, hi112_0⟩ := at_T86 (Kd.S_reads' HO_3.out).2.2 (ji22) p112 q112
              cases e112
              obtain ⟨ce112, hce112, hMe112, hcc112⟩ := Kd.S_get HO_3.out z86 (ji22) p112 (by first | exact q112 | exact of_decide_eq_true (by first | (with_reducible assumption) | assumption) | (have e_ := (Kd.S_reads' HO_3.out).1; omega))
              obtain ⟨ve112_0, rfl, ge112_0⟩ := k86_openM hMe112
              have hv112_0 := hcc112 0 _ rfl
              rw [Nat.add_zero] at hv112_0
              replace hv112_0 := Option.some.inj (hv112_0.symm.trans hx112_0)
              rw [hv112_0] at ge112_0
              have HL112_0 := aK (show Kd.R (Kd.int .i64) 3 _ _ _ _ ((rd_T86 x3_2 (ji22)).f0) from ge112_0)
              clear hv112_0 ge112_0 hcc112 hce112
              have HR112_0 := Aside0.mk hi112_0
              have HC112_0 := Aside0.mk hl112_0
              clear hi112_0 hl112_0
              replace p112 := eq_true p112
              replace q112 := eq_true q112
              have p113 : 0 ≤ ((ji22) : Int) := of_decide_eq_true (by first | (with_reducible assumption) | assumption)
              have q113 : (ji22) < (x3_2.length : Int) := of_decide_eq_true (by first | (with_reducible assumption) | assumption)
              obtain ⟨ad113, A113_0, c113_0, e113, hx113_0, hx113_1, hx113_2, hl113_0, hi113_0⟩ := at_T86 (Kd.S_reads' HO_3.out).2.2 (ji22) p113 q113
              obtain rfl : ad112 = ad113 := (by injection e113)
              obtain ⟨ce113, hce113, hMe113, hcc113⟩ := Kd.S_get HO_3.out z86 (ji22) p113 (by first | exact q113 | exact of_decide_eq_true (by first | (with_reducible assumption) | assumption) | (have e_ := (Kd.S_reads' HO_3.out).1; omega))
              obtain ⟨ve113_0, rfl, ge113_0⟩ := k86_openM hMe113
              have hv113_0 := hcc113 0 _ rfl
              rw [Nat.add_zero] at hv113_0
              replace hv113_0 := Option.some.inj (hv113_0.symm.trans hx113_0)
              rw [hv113_0] at ge113_0
              have HL113_0 := aK (show Kd.R (Kd.int .i64) 3 _ _ _ _ ((rd_T86 x3_2 (ji22)).f0) from ge113_0)
              clear hv113_0 ge113_0 hcc113 hce113
              have HR113_0 := Aside0.mk hi113_0
              have HC113_0 := Aside0.mk hl113_0
              clear hi113_0 hl113_0
              replace p113 := eq_true p113
              replace q113 := eq_true q113
              have ea_ := Option.some.inj (hx112_0.symm.trans hx113_0)
              injection ea_ with ea_ en_ ec_
              subst ea_
              subst ec_
              clear en_
              refine start_ (n := 26) (S := fun w' => w'.cell? ⟨gb111, 0, none⟩ = some (u112000) ∧ w'.cell? ⟨gb111, 1, none⟩ = some (.int .i64 x112001_2) ∧ w'.cell? ⟨gb111, 2, none⟩ = some (.int .i64 x112002_2) ∧ w'.cell? (ad112.add (((ji22)).toNat * 3)) = some (.slice A112_0 ((rd_T86 x3_2 (ji22)).f0).length c112_0) ∧ w'.cell? ⟨(ad112.add (((ji22)).toNat * 3)).block, (ad112.add (((ji22)).toNat * 3)).off + 1, none⟩ = some (.int .i64 ((rd_T86 x3_2 (ji22)).f1)) ∧ w'.cell? ⟨(ad112.add (((ji22)).toNat * 3)).block, (ad112.add (((ji22)).toNat * 3)).off + 2, none⟩ = some (.int .i64 ((rd_T86 x3_2 (ji22)).f2)) ∧ w'.cell? (ad112.add (((ji22)).toNat * 3)) = some (.slice A112_0 ((rd_T86 x3_2 (ji22)).f0).length c112_0) ∧ w'.cell? ⟨(ad112.add (((ji22)).toNat * 3)).block, (ad112.add (((ji22)).toNat * 3)).off + 1, none⟩ = some (.int .i64 ((rd_T86 x3_2 (ji22)).f1)) ∧ w'.cell? ⟨(ad112.add (((ji22)).toNat * 3)).block, (ad112.add (((ji22)).toNat * 3)).off + 2, none⟩ = some (.int .i64 ((rd_T86 x3_2 (ji22)).f2))) (ds := []) #[false, false, false, false, false, false, false, false, false, false, false, false, false, false, false, false, false, false, false, false, false, false, false, false, false, false] (by kernel_rfl) rfl rfl ⟨(blk_cell BK111.out 0).trans rfl, (blk_cell BK111.out 1).trans rfl, (blk_cell BK111.out 2).trans rfl, hx112_0, hx112_1, hx112_2, hx113_0, hx113_1, hx113_2⟩ (fun hHeld => ?_); refine with_tabW spec_l10Groups.tab7 spec_l10Groups.bits7 (fun HT_ HW_ => ?_)
              generalize wr.drew = w29 at HO_3 HO_112000 BK101 BK111 HB HL112_0 HL113_0 HR112_0 HR113_0 hx112_0 hx112_1 hx112_2 hx113_0 hx113_1 hx113_2 hHeld ⊢
              refine pu (i := 0) (N := some 34) #[true, false, false, false, false, false, false, false, false, false, false, false, false, false, false, false, false, false, false, false, false, false, false, false, false, false] rfl rfl HT_.out ?_
              refine pu (i := 1) (N := some 35) #[true, true, false, false, false, false, false, false, false, false, false, false, false, false, false, false, false, false, false, false, false, false, false, false, false, false] rfl rfl HT_.out ?_
              refine pu (i := 2) (N := some 36) #[true, true, true, false, false, false, false, false, false, false, false, false, false, false, false, false, false, false, false, false, false, false, false, false, false, false] rfl rfl HT_.out ?_
              refine pu (i := 3) (N := some 37) #[true, true, true, true, false, false, false, false, false, false, false, false, false, false, false, false, false, false, false, false, false, false, false, false, false, false] rfl rfl HT_.out ?_
              refine pu (i := 4) (N := some 38) #[true, true, true, true, true, false, false, false, false, false, false, false, false, false, false, false, false, false, false, false, false, false, false, false, false, false] rfl rfl HT_.out ?_
              refine pu (i := 5) (N := some 39) #[true, true, true, true, true, true, false, false, false, false, false, false, false, false, false, false, false, false, false, false, false, false, false, false, false, false] rfl rfl HT_.out ?_
              refine pu (i := 6) (N := some 40) #[true, true, true, true, true, true, true, false, false, false, false, false, false, false, false, false, false, false, false, false, false, false, false, false, false, false] rfl rfl HT_.out ?_
              refine pu (i := 7) (N := some 41) #[true, true, true, true, true, true, true, true, false, false, false, false, false, false, false, false, false, false, false, false, false, false, false, false, false, false] rfl rfl HT_.out ?_
              refine pu (i := 8) (N := some 42) #[true, true, true, true, true, true, true, true, true, false, false, false, false, false, false, false, false, false, false, false, false, false, false, false, false, false] rfl rfl HT_.out ?_
              refine pu (i := 9) (N := some 43) #[true, true, true, true, true, true, true, true, true, true, false, false, false, false, false, false, false, false, false, false, false, false, false, false, false, false] rfl rfl HT_.out ?_
              refine pu (i := 11) (N := some 45) #[true, true, true, true, true, true, true, true, true, true, false, true, false, false, false, false, false, false, false, false, false, false, false, false, false, false] rfl rfl HT_.out ?_
              refine pu (i := 14) (N := some 48) #[true, true, true, true, true, true, true, true, true, true, false, true, false, false, true, false, false, false, false, false, false, false, false, false, false, false] rfl rfl HT_.out ?_
              refine pu (i := 16) (N := some 50) #[true, true, true, true, true, true, true, true, true, true, false, true, false, false, true, false, true, false, false, false, false, false, false, false, false, false] rfl rfl HT_.out ?_
              refine pu (i := 17) (N := some 51) #[true, true, true, true, true, true, true, true, true, true, false, true, false, false, true, false, true, true, false, false, false, false, false, false, false, false] rfl rfl HT_.out ?_
              refine pu (i := 18) (N := some 52) #[true, true, true, true, true, true, true, true, true, true, false, true, false, false, true, false, true, true, true, false, false, false, false, false, false, false] rfl rfl HT_.out ?_
              refine pu (i := 19) (N := some 53) #[true, true, true, true, true, true, true, true, true, true, false, true, false, false, true, false, true, true, true, true, false, false, false, false, false, false] rfl rfl HT_.out ?_
              refine pu (i := 20) (N := some 54) #[true, true, true, true, true, true, true, true, true, true, false, true, false, false, true, false, true, true, true, true, true, false, false, false, false, false] rfl rfl HT_.out ?_
              refine pu (i := 21) (N := some 55) #[true, true, true, true, true, true, true, true, true, true, false, true, false, false, true, false, true, true, true, true, true, true, false, false, false, false] rfl rfl HT_.out ?_
              refine tk (i := 10) (N := some 44) #[true, true, true, true, true, true, true, true, true, true, true, true, false, false, true, false, true, true, true, true, true, true, false, false, false, false] rfl rfl HT_.out HW_.out (Or.inl ⟨by rfl, by rintro w' ⟨s0, s1, s2, s3, s4, s5, s6, s7, s8⟩; go_simp; with_reducible rfl⟩) hHeld ?_
              refine tk (i := 12) (N := some 46) #[true, true, true, true, true, true, true, true, true, true, true, true, true, false, true, false, true, true, true, true, true, true, false, false, false, false] rfl rfl HT_.out HW_.out (Or.inl ⟨by rfl, by rintro w' ⟨s0, s1, s2, s3, s4, s5, s6, s7, s8⟩; go_simp; with_reducible rfl⟩) hHeld ?_
              refine pu (i := 13) (N := some 47) #[true, true, true, true, true, true, true, true, true, true, true, true, true, true, true, false, true, true, true, true, true, true, false, false, false, false] rfl rfl HT_.out ?_
              refine tk (i := 15) (N := some 49) #[true, true, true, true, true, true, true, true, true, true, true, true, true, true, true, true, true, true, true, true, true, true, false, false, false, false] rfl rfl HT_.out HW_.out (Or.inl ⟨by rfl, by rintro w' ⟨s0, s1, s2, s3, s4, s5, s6, s7, s8⟩; go_simp; with_reducible rfl⟩) hHeld ?_
              refine tk (i := 22) (N := some 56) #[true, true, true, true, true, true, true, true, true, true, true, true, true, true, true, true, true, true, true, true, true, true, true, false, false, false] rfl rfl HT_.out HW_.out (Or.inl ⟨by rfl, by rintro w' ⟨s0, s1, s2, s3, s4, s5, s6, s7, s8⟩; go_simp; with_reducible rfl⟩) hHeld ?_
              refine pu (i := 23) (N := some 57) #[true, true, true, true, true, true, true, true, true, true, true, true, true, true, true, true, true, true, true, true, true, true, true, true, false, false] rfl rfl HT_.out ?_
              refine pu (i := 24) (N := some 58) #[true, true, true, true, true, true, true, true, true, true, true, true, true, true, true, true, true, true, true, true, true, true, true, true, true, false] rfl rfl HT_.out ?_
              refine pu (i := 25) (N := some 59) #[true, true, true, true, true, true, true, true, true, true, true, true, true, true, true, true, true, true, true, true, true, true, true, true, true, true] rfl rfl HT_.out ?_
              refine done_ (done_of HT_.out (by kernel_rfl)) ?_
              have p114 : 0 ≤ ((ji22) : Int) := of_decide_eq_true (by first | (with_reducible assumption) | assumption)
              have q114 : (ji22) < (x3_2.length : Int) := of_decide_eq_true (by first | (with_reducible assumption) | assumption)
              obtain ⟨ad114, A114_0, c114_0, e114, hx114_0, hx114_1, hx114_2, hl114_0, hi114_0⟩ := at_T86 (Kd.S_reads' HO_3.out).2.2 (ji22) p114 q114
              obtain rfl : ad112 = ad114 := (by injection e114)
              obtain ⟨ce114, hce114, hMe114, hcc114⟩ := Kd.S_get HO_3.out z86 (ji22) p114 (by first | exact q114 | exact of_decide_eq_true (by first | (with_reducible assumption) | assumption) | (have e_ := (Kd.S_reads' HO_3.out).1; omega))
              obtain ⟨ve114_0, rfl, ge114_0⟩ := k86_openM hMe114
              have hv114_0 := hcc114 0 _ rfl
              rw [Nat.add_zero] at hv114_0
              replace hv114_0 := Option.some.inj (hv114_0.symm.trans hx114_0)
              rw [hv114_0] at ge114_0
              have HL114_0 := aK (show Kd.R (Kd.int .i64) 3 _ _ _ _ ((rd_T86 x3_2 (ji22)).f0) from ge114_0)
              clear hv114_0 ge114_0 hcc114 hce114
              have HR114_0 := Aside0.mk hi114_0
              have HC114_0 := Aside0.mk hl114_0
              clear hi114_0 hl114_0
              replace p114 := eq_true p114
              replace q114 := eq_true q114
              have ea_ := Option.some.inj (hx112_0.symm.trans hx114_0)
              injection ea_ with ea_ en_ ec_
              subst ea_
              subst ec_
              clear en_
              try go_wp2_with (first | ((with_reducible refine gate_dst (N := 6) rfl ?_); (try (refine gate_guard (by rfl) ?_; dsimp only)); refine bxe (cs := #[.slice none 0 0, .int .i64 0, .int .i64 0]) (t := 86) ?_; intro gb115 hg w31 hbox hb; have n0_ := aK (Kd.S_below (Kd.S_elderB (by (with_reducible repeat (first | apply Kd.S_alloc | apply Kd.S_drewN | apply Kd.S_drew)); exact HO_3.out) gb115 (Nat.le_of_eq hg.symm)) hb); have n1_ := aK (Kd.R_below (pR HO_112000.out) hb); have n2_ := aK (Kd.R_below (pR HL112_0.out) hb); have n3_ := aK (Kd.R_below (pR HL113_0.out) hb); have n4_ := aK (Kd.R_below (pR HL114_0.out) hb); have n7_ := aK (Kd.C_below (by repeat (first | (with_reducible exact HR112_0.out) | (with_reducible refine Kd.C_alloc ?_ _) | (with_reducible refine Kd.C_drewN ?_ _) | (with_reducible refine Kd.C_drew ?_) | exact HR112_0.out)) hb); have n8_ := aK (Kd.C_below (by repeat (first | (with_reducible exact HR113_0.out) | (with_reducible refine Kd.C_alloc ?_ _) | (with_reducible refine Kd.C_drewN ?_ _) | (with_reducible refine Kd.C_drew ?_) | exact HR113_0.out)) hb); have n9_ := aK (Kd.C_below (by repeat (first | (with_reducible exact HR114_0.out) | (with_reducible refine Kd.C_alloc ?_ _) | (with_reducible refine Kd.C_drewN ?_ _) | (with_reducible refine Kd.C_drew ?_) | exact HR114_0.out)) hb); have BK115 := aK (hbox); have GW115 := aK (gE hg (pS HB.out)); have GE115 := GW115; obtain ⟨NB101_115, NB115_101⟩ := nb hg (pB BK101.out); obtain ⟨NB111_115, NB115_111⟩ := nb hg (pB BK111.out); replace BK101 := bB BK101 hb; replace BK111 := bB BK111 hb; replace HB := bS HB hb; clear HO_3 HO_112000 HL112_0 HL113_0 HL114_0 HR112_0 HR113_0 HR114_0; have HO_3 := n0_; have HO_112000 := n1_; have HL112_0 := n2_; have HL113_0 := n3_; have HL114_0 := n4_; have HR112_0 := n7_; have HR113_0 := n8_; have HR114_0 := n9_; clear n0_ n1_ n2_ n3_ n4_ n7_ n8_ n9_ hb hbox hg; have hnb32 := NB115_101.out; have hnc32 := NB101_115.out; have hnb33 := NB115_111.out; have hnc33 := NB111_115.out; obtain ⟨hcz34_0, hcz34_1, hcz34_2, hfz34_0, hfz34_1, hfz34_2⟩ := bc3 BK115.out))
              have n0_ : Aside0 (Kd.S k86 86 (((w31.setCell ⟨gb115, 0, none⟩ (.slice A112_0 ((rd_T86 x3_2 (ji22)).f0).length c112_0)).setCell ⟨gb115, 1, none⟩ (.int .i64 ((rd_T86 x3_2 (ji22)).f1))).setCell ⟨gb115, 2, none⟩ (.int .i64 ((rd_T86 x3_2 (ji22)).f2))) w.heap.size (fun k_ => some k_ ≠ (u112000 : Value).ownBlock ∧ k_ ≠ gb111 ∧ k_ ≠ gb115) (.slice (some ad112) x3_2.length co30) x3_2) := ⟨by (with_reducible repeat (first | apply Kd.S_alloc | apply Kd.S_drewN | apply Kd.S_drew)); exact Kd.S_mono (Kd.S_far (p := ⟨gb115, 2, none⟩) (Kd.S_far (p := ⟨gb115, 1, none⟩) (Kd.S_far (p := ⟨gb115, 0, none⟩) (Kd.S_mono HO_3.out (fun k_ hk => (⟨hk, hk.2⟩ : _ ∧ k_ ≠ gb115))) (fun _ hk => hk.2) (.slice A112_0 ((rd_T86 x3_2 (ji22)).f0).length c112_0)) (fun _ hk => hk.2) (.int .i64 ((rd_T86 x3_2 (ji22)).f1))) (fun _ hk => hk.2) (.int .i64 ((rd_T86 x3_2 (ji22)).f2))) (fun _ hk => ⟨hk.1.1.1, ⟨hk.1.1.2, hk.1.2⟩⟩)⟩
              have n1_ : Aside0 (Kd.R (Kd.int .i64) 3 (((w31.setCell ⟨gb115, 0, none⟩ (.slice A112_0 ((rd_T86 x3_2 (ji22)).f0).length c112_0)).setCell ⟨gb115, 1, none⟩ (.int .i64 ((rd_T86 x3_2 (ji22)).f1))).setCell ⟨gb115, 2, none⟩ (.int .i64 ((rd_T86 x3_2 (ji22)).f2))) w.heap.size (fun _ => True) u112000 x112000_2) := ⟨pR (Kd.R_mono (rF3 HO_112000.out BK115.out (.slice A112_0 ((rd_T86 x3_2 (ji22)).f0).length c112_0) (.int .i64 ((rd_T86 x3_2 (ji22)).f1)) (.int .i64 ((rd_T86 x3_2 (ji22)).f2))) (fun _ h => trivial))⟩
              have n2_ : Aside0 (Kd.R (Kd.int .i64) 3 (((w31.setCell ⟨gb115, 0, none⟩ (.slice A112_0 ((rd_T86 x3_2 (ji22)).f0).length c112_0)).setCell ⟨gb115, 1, none⟩ (.int .i64 ((rd_T86 x3_2 (ji22)).f1))).setCell ⟨gb115, 2, none⟩ (.int .i64 ((rd_T86 x3_2 (ji22)).f2))) w.heap.size (fun k_ => some k_ ≠ (.slice (some ad112) x3_2.length co30 : Value).ownBlock ∧ some k_ ≠ (u112000 : Value).ownBlock ∧ k_ ≠ gb111) (.slice A112_0 ((rd_T86 x3_2 (ji22)).f0).length c112_0) ((rd_T86 x3_2 (ji22)).f0)) := ⟨pR (Kd.R_mono (rF3 HL112_0.out BK115.out (.slice A112_0 ((rd_T86 x3_2 (ji22)).f0).length c112_0) (.int .i64 ((rd_T86 x3_2 (ji22)).f1)) (.int .i64 ((rd_T86 x3_2 (ji22)).f2))) (fun _ h => ⟨h.2, ⟨h.1.1, h.1.2⟩⟩))⟩
              have n3_ : Aside0 (Kd.R (Kd.int .i64) 3 (((w31.setCell ⟨gb115, 0, none⟩ (.slice A112_0 ((rd_T86 x3_2 (ji22)).f0).length c112_0)).setCell ⟨gb115, 1, none⟩ (.int .i64 ((rd_T86 x3_2 (ji22)).f1))).setCell ⟨gb115, 2, none⟩ (.int .i64 ((rd_T86 x3_2 (ji22)).f2))) w.heap.size (fun k_ => some k_ ≠ (.slice (some ad112) x3_2.length co30 : Value).ownBlock ∧ some k_ ≠ (u112000 : Value).ownBlock ∧ k_ ≠ gb111) (.slice A112_0 ((rd_T86 x3_2 (ji22)).f0).length c112_0) ((rd_T86 x3_2 (ji22)).f0)) := ⟨pR (Kd.R_mono (rF3 HL113_0.out BK115.out (.slice A112_0 ((rd_T86 x3_2 (ji22)).f0).length c112_0) (.int .i64 ((rd_T86 x3_2 (ji22)).f1)) (.int .i64 ((rd_T86 x3_2 (ji22)).f2))) (fun _ h => ⟨h.2, ⟨h.1.1, h.1.2⟩⟩))⟩
              have n4_ : Aside0 (Kd.R (Kd.int .i64) 3 (((w31.setCell ⟨gb115, 0, none⟩ (.slice A112_0 ((rd_T86 x3_2 (ji22)).f0).length c112_0)).setCell ⟨gb115, 1, none⟩ (.int .i64 ((rd_T86 x3_2 (ji22)).f1))).setCell ⟨gb115, 2, none⟩ (.int .i64 ((rd_T86 x3_2 (ji22)).f2))) w.heap.size (fun k_ => some k_ ≠ (.slice (some ad112) x3_2.length co30 : Value).ownBlock ∧ some k_ ≠ (u112000 : Value).ownBlock ∧ k_ ≠ gb111) (.slice A112_0 ((rd_T86 x3_2 (ji22)).f0).length c112_0) ((rd_T86 x3_2 (ji22)).f0)) := ⟨pR (Kd.R_mono (rF3 HL114_0.out BK115.out (.slice A112_0 ((rd_T86 x3_2 (ji22)).f0).length c112_0) (.int .i64 ((rd_T86 x3_2 (ji22)).f1)) (.int .i64 ((rd_T86 x3_2 (ji22)).f2))) (fun _ h => ⟨h.2, ⟨h.1.1, h.1.2⟩⟩))⟩
              have n5_ : Aside0 ((((w31.setCell ⟨gb115, 0, none⟩ (.slice A112_0 ((rd_T86 x3_2 (ji22)).f0).length c112_0)).setCell ⟨gb115, 1, none⟩ (.int .i64 ((rd_T86 x3_2 (ji22)).f1))).setCell ⟨gb115, 2, none⟩ (.int .i64 ((rd_T86 x3_2 (ji22)).f2))).heap[gb101]? = some (.cells #[.slice (some ad105) l0_0.length c0_0, .slice (some ad110) l0_1.length c0_1] 26 (0, 0))) := ⟨by refine bk ?_; refine blk_far ?_ NB101_115.out _; refine bk ?_; refine blk_far ?_ NB101_115.out _; refine bk ?_; refine blk_far ?_ NB101_115.out _; refine bk ?_; exact BK101.out⟩
              have n6_ : Aside0 ((((w31.setCell ⟨gb115, 0, none⟩ (.slice A112_0 ((rd_T86 x3_2 (ji22)).f0).length c112_0)).setCell ⟨gb115, 1, none⟩ (.int .i64 ((rd_T86 x3_2 (ji22)).f1))).setCell ⟨gb115, 2, none⟩ (.int .i64 ((rd_T86 x3_2 (ji22)).f2))).heap[gb111]? = some (.cells #[u112000, .int .i64 x112001_2, .int .i64 x112002_2] 86 (0, 0))) := ⟨by refine bk ?_; refine blk_far ?_ NB111_115.out _; refine bk ?_; refine blk_far ?_ NB111_115.out _; refine bk ?_; refine blk_far ?_ NB111_115.out _; refine bk ?_; exact BK111.out⟩
              have n7_ : Aside0 ((((w31.setCell ⟨gb115, 0, none⟩ (.slice A112_0 ((rd_T86 x3_2 (ji22)).f0).length c112_0)).setCell ⟨gb115, 1, none⟩ (.int .i64 ((rd_T86 x3_2 (ji22)).f1))).setCell ⟨gb115, 2, none⟩ (.int .i64 ((rd_T86 x3_2 (ji22)).f2))).heap[gb115]? = some (.cells #[.slice A112_0 ((rd_T86 x3_2 (ji22)).f0).length c112_0, .int .i64 ((rd_T86 x3_2 (ji22)).f1), .int .i64 ((rd_T86 x3_2 (ji22)).f2)] 86 (0, 0))) := ⟨by refine bk ?_; refine blk_put (cs := #[.slice A112_0 ((rd_T86 x3_2 (ji22)).f0).length c112_0, .int .i64 ((rd_T86 x3_2 (ji22)).f1), .int .i64 0]) ?_ 2 _ rfl; refine bk ?_; refine blk_put (cs := #[.slice A112_0 ((rd_T86 x3_2 (ji22)).f0).length c112_0, .int .i64 0, .int .i64 0]) ?_ 1 _ rfl; refine bk ?_; refine blk_put (cs := #[.slice none 0 0, .int .i64 0, .int .i64 0]) ?_ 0 _ rfl; refine bk ?_; exact BK115.out⟩
              have n8_ : Aside0 (Below w.heap.size w (((w31.setCell ⟨gb115, 0, none⟩ (.slice A112_0 ((rd_T86 x3_2 (ji22)).f0).length c112_0)).setCell ⟨gb115, 1, none⟩ (.int .i64 ((rd_T86 x3_2 (ji22)).f1))).setCell ⟨gb115, 2, none⟩ (.int .i64 ((rd_T86 x3_2 (ji22)).f2)))) := ⟨pT HB.out⟩
              (try clear HO_3)
              (try clear HO_112000)
              (try clear HL112_0)
              (try clear HL113_0)
              (try clear HL114_0)
              (try clear BK101)
              (try clear BK111)
              (try clear BK115)
              (try clear HB)
              generalize (((w31.setCell ⟨gb115, 0, none⟩ (.slice A112_0 ((rd_T86 x3_2 (ji22)).f0).length c112_0)).setCell ⟨gb115, 1, none⟩ (.int .i64 ((rd_T86 x3_2 (ji22)).f1))).setCell ⟨gb115, 2, none⟩ (.int .i64 ((rd_T86 x3_2 (ji22)).f2))) = w35 at n0_ n1_ n2_ n3_ n4_ n5_ n6_ n7_ n8_ ⊢
              have HO_3 := n0_
              have HO_112000 := n1_
              have HL112_0 := n2_
              have HL113_0 := n3_
              have HL114_0 := n4_
              have BK101 := n5_
              have BK111 := n6_
              have BK115 := n7_
              have HB := n8_
              clear n0_ n1_ n2_ n3_ n4_ n5_ n6_ n7_ n8_
              have n0_ := aK (Kd.S_drew HO_3.out)
              have n1_ := aK (Kd.R_drew HO_112000.out)
              have n2_ := aK (Kd.R_drew HL112_0.out)
              have n3_ := aK (Kd.R_drew HL113_0.out)
              have n4_ := aK (Kd.R_drew HL114_0.out)
              have n5_ := aK (blk_drew BK101.out)
              have n6_ := aK (blk_drew BK111.out)
              have n7_ := aK (blk_drew BK115.out)
              have n8_ := aK (below_drew1 HB.out)
              clear HO_3 HO_112000 HL112_0 HL113_0 HL114_0 BK101 BK111 BK115 HB
              have HO_3 := n0_
              have HO_112000 := n1_
              have HL112_0 := n2_
              have HL113_0 := n3_
              have HL114_0 := n4_
              have BK101 := n5_
              have BK111 := n6_
              have BK115 := n7_
              have HB := n8_
              clear n0_ n1_ n2_ n3_ n4_ n5_ n6_ n7_ n8_
              refine start_ (n := 18) (S := fun w' => w'.cell? ⟨gb115, 0, none⟩ = some (.slice A112_0 ((rd_T86 x3_2 (ji22)).f0).length c112_0) ∧ w'.cell? ⟨gb115, 1, none⟩ = some (.int .i64 ((rd_T86 x3_2 (ji22)).f1)) ∧ w'.cell? ⟨gb115, 2, none⟩ = some (.int .i64 ((rd_T86 x3_2 (ji22)).f2)) ∧ w'.cell? ⟨gb111, 0, none⟩ = some (u112000) ∧ w'.cell? ⟨gb111, 1, none⟩ = some (.int .i64 x112001_2) ∧ w'.cell? ⟨gb111, 2, none⟩ = some (.int .i64 x112002_2)) (ds := [17]) #[false, false, false, false, false, false, false, false, false, false, false, false, false, false, false, false, false, false] (by kernel_rfl) rfl rfl (cj3 BK115.out (cz3 BK111.out)) (fun hHeld => ?_); refine with_tabW spec_l10Groups.tab9 spec_l10Groups.bits9 (fun HT_ HW_ => ?_)
              generalize w35.drew = w36 at HO_3 HO_112000 HL112_0 HL113_0 HL114_0 BK101 BK111 BK115 HB hHeld ⊢
              refine pu (i := 0) (N := some 66) #[true, false, false, false, false, false, false, false, false, false, false, false, false, false, false, false, false, false] rfl rfl HT_.out ?_
              refine pu (i := 3) (N := some 69) #[true, false, false, true, false, false, false, false, false, false, false, false, false, false, false, false, false, false] rfl rfl HT_.out ?_
              refine pu (i := 6) (N := some 72) #[true, false, false, true, false, false, true, false, false, false, false, false, false, false, false, false, false, false] rfl rfl HT_.out ?_
              refine pu (i := 8) (N := some 74) #[true, false, false, true, false, false, true, false, true, false, false, false, false, false, false, false, false, false] rfl rfl HT_.out ?_
              refine pu (i := 11) (N := some 77) #[true, false, false, true, false, false, true, false, true, false, false, true, false, false, false, false, false, false] rfl rfl HT_.out ?_
              refine pu (i := 13) (N := some 79) #[true, false, false, true, false, false, true, false, true, false, false, true, false, true, false, false, false, false] rfl rfl HT_.out ?_
              refine tk (i := 1) (N := some 67) #[true, true, false, true, false, false, true, false, true, false, false, true, false, true, false, false, false, false] rfl rfl HT_.out HW_.out (Or.inl ⟨by rfl, by rintro w' ⟨s0, s1, s2, s3, s4, s5⟩; go_simp; with_reducible rfl⟩) hHeld ?_
              refine tk (i := 4) (N := some 70) #[true, true, false, true, true, false, true, false, true, false, false, true, false, true, false, false, false, false] rfl rfl HT_.out HW_.out (Or.inl ⟨by rfl, by rintro w' ⟨s0, s1, s2, s3, s4, s5⟩; go_simp; with_reducible rfl⟩) hHeld ?_
              refine tk (i := 7) (N := some 73) #[true, true, false, true, true, false, true, true, true, false, false, true, false, true, false, false, false, false] rfl rfl HT_.out HW_.out (Or.inl ⟨by rfl, by rintro w' ⟨s0, s1, s2, s3, s4, s5⟩; go_simp; with_reducible rfl⟩) hHeld ?_
              refine tk (i := 9) (N := some 75) #[true, true, false, true, true, false, true, true, true, true, false, true, false, true, false, false, false, false] rfl rfl HT_.out HW_.out (Or.inl ⟨by rfl, by rintro w' ⟨s0, s1, s2, s3, s4, s5⟩; go_simp; with_reducible rfl⟩) hHeld ?_
              refine pu (i := 10) (N := some 76) #[true, true, false, true, true, false, true, true, true, true, true, true, false, true, false, false, false, false] rfl rfl HT_.out ?_
              refine tk (i := 12) (N := some 78) #[true, true, false, true, true, false, true, true, true, true, true, true, true, true, false, false, false, false] rfl rfl HT_.out HW_.out (Or.inl ⟨by rfl, by rintro w' ⟨s0, s1, s2, s3, s4, s5⟩; go_simp; with_reducible rfl⟩) hHeld ?_
              refine tk (i := 14) (N := some 80) #[true, true, false, true, true, false, true, true, true, true, true, true, true, true, true, false, false, false] rfl rfl HT_.out HW_.out (Or.inl ⟨by rfl, by rintro w' ⟨s0, s1, s2, s3, s4, s5⟩; go_simp; with_reducible rfl⟩) hHeld ?_
              refine pu (i := 15) (N := some 81) #[true, true, false, true, true, false, true, true, true, true, true, true, true, true, true, true, false, false] rfl rfl HT_.out ?_
              refine one_ (i := 2) (N := some 68) #[true, true, true, true, true, false, true, true, true, true, true, true, true, true, true, true, false, false] rfl rfl (one_of HT_.out (by kernel_rfl)) (by decide) (fun K hK => ?_)
              refine goes_ Try.func64 (by kernel_rfl) rfl #[.slice A112_0 ((rd_T86 x3_2 (ji22)).f0).length c112_0] (by rfl) rfl rfl (by (try simp only [List.map_toArray, List.map_cons, List.map_nil]); first | done | (simp only [hji22]; rfl) | rfl | (simp only [List.length_drop, List.length_take]; rfl)) ?_
              with_reducible refine (spec_l1Own.calls _ _ ((rd_T86 x3_2 (ji22)).f0) t116 _ ?side1 ?side2 A26.out).mono ?_
              (case side1 => exact ((Kd.R_reads' (pR HL114_0.out)).2.2))
              (case side2 => exact HC114_0.out)
              rintro e w37 ⟨v117, rfl, ho0, hb⟩
              refine ⟨_, rfl, ?_⟩
              have n0_ := aK (Kd.S_elder' (by (with_reducible repeat (first | apply Kd.S_alloc | apply Kd.S_drewN | apply Kd.S_drew)); exact HO_3.out) (Kd.R_base ho0) hb)
              have n1_ := aK (Kd.R_elder' (pR HO_112000.out) (Kd.R_base ho0) hb)
              have n2_ := aK (Kd.R_elder' (pR HL112_0.out) (Kd.R_base ho0) hb)
              have n3_ := aK (Kd.R_elder' (pR HL113_0.out) (Kd.R_base ho0) hb)
              have n4_ := aK (Kd.R_elder' (pR HL114_0.out) (Kd.R_base ho0) hb)
              have HO118 := aK (Kd.R_lower (nw4 ho0 (pR HO_112000.out) (pR HL112_0.out) (pR HL113_0.out) (pR HL114_0.out)) (below_size (pS HB.out)))
              replace BK101 := bB BK101 hb
              replace BK111 := bB BK111 hb
              replace BK115 := bB BK115 hb
              replace HB := bS HB hb
              clear HO_3 HO_112000 HL112_0 HL113_0 HL114_0
              have HO_3 := n0_
              have HO_112000 := n1_
              have HL112_0 := n2_
              have HL113_0 := n3_
              have HL114_0 := n4_
              clear n0_ n1_ n2_ n3_ n4_
              (try clear hb)
              (try clear hb2)
              (try clear hk)
              (try clear hi)
              (try clear ho0)
              obtain ⟨Ao39, co39, eo39⟩ := Kd.R_slice HO_112000.out
              (first | subst eo39 | (obtain ⟨f4_, f5_⟩ := sI eo39; subst f4_; subst f5_))
              refine hK.out _ _ (cj3 BK115.out (cz3 BK111.out)) (fun hHeld => ?_)
              clear hK K
              refine norm_ (a' := ?_) ?_ ?_
              rotate_left
              ·
               show Act.put _ (some 68) _ = _
               simp only [sP]
               rfl
              refine one_ (i := 5) (N := some 71) #[true, true, true, true, true, true, true, true, true, true, true, true, true, true, true, true, false, false] rfl rfl (one_of HT_.out (by kernel_rfl)) (by decide) (fun K hK => ?_)
              refine Kd.R_append_rows_step (Kd.int .i64) (w0 := w) w.heap.size (by rfl) (.tmp 68) (.tmp 70) 24 3 (.int .i64 0) 8 rfl Try.underlying24 info3 rfl (by decide) (by omega) v117 t116 x112000_2 _ _ _ (fun k_ => some k_ ≠ (.slice Ao39 x112000_2.length co39 : Value).ownBlock ∧ some k_ ≠ (.slice A112_0 ((rd_T86 x3_2 (ji22)).f0).length c112_0 : Value).ownBlock ∧ some k_ ≠ (.slice A112_0 ((rd_T86 x3_2 (ji22)).f0).length c112_0 : Value).ownBlock ∧ some k_ ≠ (.slice A112_0 ((rd_T86 x3_2 (ji22)).f0).length c112_0 : Value).ownBlock) (fun _ => False) rfl rfl ?aO ?aR (fun _ _ h => h) (fun _ h => h.elim) ?aF ?aB ?aS ?aL ?_
              (case aR => exact pC (Kd.R_reads' HO_112000.out).2.2)
              (case aB => exact (pS HB.out))
              (case aF => exact (fun k_ hk => ⟨Kd.fresh' (Kd.R_lt (pR HO_112000.out)) k_ hk, Kd.fresh' (Kd.R_lt (pR HL112_0.out)) k_ hk, Kd.fresh' (Kd.R_lt (pR HL113_0.out)) k_ hk, Kd.fresh' (Kd.R_lt (pR HL114_0.out)) k_ hk⟩))
              (case aO => exact (pR (rP HO118.out)))
              (case aS => exact (below_size (pS HB.out)))
              (case aL => have := LMc27.out; omega)
              intro v120 w38 ho hb hg hat
              rw [← Ny119.out] at ho
              have n0_ := aK (Kd.S_after (ok := (fun k_ => some k_ ≠ (.slice Ao39 x112000_2.length co39 : Value).ownBlock ∧ k_ ≠ gb111 ∧ k_ ≠ gb115)) (by (with_reducible repeat (first | apply Kd.S_alloc | apply Kd.S_drewN | apply Kd.S_drew)); exact HO_3.out) hg hat)
              have n1_ := aK (Kd.R_after (ok := (fun _ => True)) (pR HO_112000.out) hg hat)
              have n2_ := aK (blk_grown (pB BK101.out) hg (Kd.R_ne HO118.out BK101.out (by decide)))
              have n3_ := aK (blk_grown (pB BK111.out) hg (Kd.R_ne HO118.out BK111.out (by decide)))
              have n4_ := aK (Kd.R_after (ok := (fun k_ => some k_ ≠ (.slice (some ad112) x3_2.length co30 : Value).ownBlock ∧ some k_ ≠ (.slice Ao39 x112000_2.length co39 : Value).ownBlock ∧ k_ ≠ gb111)) (pR HL112_0.out) hg hat)
              have n5_ := aK (Kd.R_after (ok := (fun k_ => some k_ ≠ (.slice (some ad112) x3_2.length co30 : Value).ownBlock ∧ some k_ ≠ (.slice Ao39 x112000_2.length co39 : Value).ownBlock ∧ k_ ≠ gb111)) (pR HL113_0.out) hg hat)
              have n6_ := aK (Kd.R_after (ok := (fun k_ => some k_ ≠ (.slice (some ad112) x3_2.length co30 : Value).ownBlock ∧ some k_ ≠ (.slice Ao39 x112000_2.length co39 : Value).ownBlock ∧ k_ ≠ gb111)) (pR HL114_0.out) hg hat)
              have n7_ := aK (blk_grown (pB BK115.out) hg (Kd.R_ne HO118.out BK115.out (by decide)))
              have n8_ := aK (hb)
              have HO121 := aK (ho)
              clear HO_3 HO_112000 BK101 BK111 HL112_0 HL113_0 HL114_0 BK115 HB HO118
              have HO_3 := n0_
              have HO_112000 := n1_
              have BK101 := n2_
              have BK111 := n3_
              have HL112_0 := n4_
              have HL113_0 := n5_
              have HL114_0 := n6_
              have BK115 := n7_
              have HB := n8_
              clear n0_ n1_ n2_ n3_ n4_ n5_ n6_ n7_ n8_ ho hb hg hat
              obtain ⟨Ao40, co40, eo40⟩ := Kd.R_slice HO121.out
              (first | subst eo40 | (obtain ⟨f4_, f5_⟩ := sI eo40; subst f4_; subst f5_))
              refine hK.out _ _ (cj3 BK115.out (cz3 BK111.out)) (fun hHeld => ?_)
              clear hK K
              refine norm_ (a' := ?_) ?_ ?_
              rotate_left
              ·
               show Act.put _ (some 71) _ = _
               simp only [sP]
               rfl
              refine pu (i := 16) (N := some 82) #[true, true, true, true, true, true, true, true, true, true, true, true, true, true, true, true, true, false] rfl rfl HT_.out ?_
              refine last_ (i := 17) (N := none) #[true, true, true, true, true, true, true, true, true, true, true, true, true, true, true, true, true, true] rfl rfl (one_of HT_.out (by kernel_rfl)) (by decide) (fun K hK => ?_)
              have hs41 : w38.cell? ⟨gb111, 0, none⟩ = some (.slice Ao39 x112000_2.length co39) := (blk_cell BK111.out 0).trans rfl
              have hfs41 := blk_frozen BK111.out 0
              have hns41_0 := NB101_111.out
              have hns41_2 := NB115_111.out
              have hms41_0 := NB111_101.out
              have hms41_2 := NB111_115.out
              have hs42 : w38.cell? ⟨gb111, 1, none⟩ = some (.int .i64 x112001_2) := (blk_cell BK111.out 1).trans rfl
              have hfs42 := blk_frozen BK111.out 1
              have hns42_0 := NB101_111.out
              have hns42_2 := NB115_111.out
              have hms42_0 := NB111_101.out
              have hms42_2 := NB111_115.out
              have hs43 : w38.cell? ⟨gb111, 2, none⟩ = some (.int .i64 x112002_2) := (blk_cell BK111.out 2).trans rfl
              have hfs43 := blk_frozen BK111.out 2
              have hns43_0 := NB101_111.out
              have hns43_2 := NB115_111.out
              have hms43_0 := NB111_101.out
              have hms43_2 := NB111_115.out
              refine skip_ (w1 := ?_) (by rfl) rfl ?_ ?_
              rotate_left
              ·
               go_simp
               rfl
              refine hK.out _ _ ?_
              clear hK K
              refine done_ (done_of HT_.out (by kernel_rfl)) ?_
              have n0_ : Aside0 (Kd.S k86 86 (((w38.setCell ⟨gb111, 0, none⟩ (.slice Ao40 y119.length co40)).setCell ⟨gb111, 1, none⟩ (.int .i64 (wrap64 (((rd_T86 x3_2 (ji22)).f1) + x112001_2)))).setCell ⟨gb111, 2, none⟩ (.int .i64 (wrap64 (((rd_T86 x3_2 (ji22)).f2) + x112002_2)))) w.heap.size (fun k_ => some k_ ≠ (.slice Ao39 x112000_2.length co39 : Value).ownBlock ∧ some k_ ≠ (.slice Ao40 y119.length co40 : Value).ownBlock ∧ k_ ≠ gb111 ∧ k_ ≠ gb115) (.slice (some ad112) x3_2.length co30) x3_2) := ⟨by (with_reducible repeat (first | apply Kd.S_alloc | apply Kd.S_drewN | apply Kd.S_drew)); exact Kd.S_mono (Kd.S_far (p := ⟨gb111, 2, none⟩) (Kd.S_far (p := ⟨gb111, 1, none⟩) (Kd.S_far (p := ⟨gb111, 0, none⟩) (Kd.S_mono HO_3.out (fun k_ hk => (⟨hk, hk.1.2.1⟩ : _ ∧ k_ ≠ gb111))) (fun _ hk => hk.2) (.slice Ao40 y119.length co40)) (fun _ hk => hk.2) (.int .i64 (wrap64 (((rd_T86 x3_2 (ji22)).f1) + x112001_2)))) (fun _ hk => hk.2) (.int .i64 (wrap64 (((rd_T86 x3_2 (ji22)).f2) + x112002_2)))) (fun _ hk => ⟨hk.1.1.1, ⟨hk.1.2, ⟨hk.1.1.2.1, hk.1.1.2.2⟩⟩⟩)⟩
              have n1_ : Aside0 (Kd.R (Kd.int .i64) 3 (((w38.setCell ⟨gb111, 0, none⟩ (.slice Ao40 y119.length co40)).setCell ⟨gb111, 1, none⟩ (.int .i64 (wrap64 (((rd_T86 x3_2 (ji22)).f1) + x112001_2)))).setCell ⟨gb111, 2, none⟩ (.int .i64 (wrap64 (((rd_T86 x3_2 (ji22)).f2) + x112002_2)))) w.heap.size (fun k_ => some k_ ≠ (.slice Ao40 y119.length co40 : Value).ownBlock) (.slice Ao39 x112000_2.length co39) x112000_2) := ⟨pR (Kd.R_mono (rF3 HO_112000.out BK111.out (.slice Ao40 y119.length co40) (.int .i64 (wrap64 (((rd_T86 x3_2 (ji22)).f1) + x112001_2))) (.int .i64 (wrap64 (((rd_T86 x3_2 (ji22)).f2) + x112002_2)))) (fun _ h => h.2))⟩
              have n2_ : Aside0 (Kd.R (Kd.int .i64) 3 (((w38.setCell ⟨gb111, 0, none⟩ (.slice Ao40 y119.length co40)).setCell ⟨gb111, 1, none⟩ (.int .i64 (wrap64 (((rd_T86 x3_2 (ji22)).f1) + x112001_2)))).setCell ⟨gb111, 2, none⟩ (.int .i64 (wrap64 (((rd_T86 x3_2 (ji22)).f2) + x112002_2)))) w.heap.size (fun k_ => some k_ ≠ (.slice (some ad112) x3_2.length co30 : Value).ownBlock ∧ some k_ ≠ (.slice Ao39 x112000_2.length co39 : Value).ownBlock ∧ some k_ ≠ (.slice Ao40 y119.length co40 : Value).ownBlock ∧ k_ ≠ gb111) (.slice A112_0 ((rd_T86 x3_2 (ji22)).f0).length c112_0) ((rd_T86 x3_2 (ji22)).f0)) := ⟨pR (Kd.R_mono (rF3 HL112_0.out BK111.out (.slice Ao40 y119.length co40) (.int .i64 (wrap64 (((rd_T86 x3_2 (ji22)).f1) + x112001_2))) (.int .i64 (wrap64 (((rd_T86 x3_2 (ji22)).f2) + x112002_2)))) (fun _ h => ⟨h.1.1, ⟨h.1.2.1, ⟨h.2, h.1.2.2⟩⟩⟩))⟩
              have n3_ : Aside0 (Kd.R (Kd.int .i64) 3 (((w38.setCell ⟨gb111, 0, none⟩ (.slice Ao40 y119.length co40)).setCell ⟨gb111, 1, none⟩ (.int .i64 (wrap64 (((rd_T86 x3_2 (ji22)).f1) + x112001_2)))).setCell ⟨gb111, 2, none⟩ (.int .i64 (wrap64 (((rd_T86 x3_2 (ji22)).f2) + x112002_2)))) w.heap.size (fun k_ => some k_ ≠ (.slice (some ad112) x3_2.length co30 : Value).ownBlock ∧ some k_ ≠ (.slice Ao39 x112000_2.length co39 : Value).ownBlock ∧ some k_ ≠ (.slice Ao40 y119.length co40 : Value).ownBlock ∧ k_ ≠ gb111) (.slice A112_0 ((rd_T86 x3_2 (ji22)).f0).length c112_0) ((rd_T86 x3_2 (ji22)).f0)) := ⟨pR (Kd.R_mono (rF3 HL113_0.out BK111.out (.slice Ao40 y119.length co40) (.int .i64 (wrap64 (((rd_T86 x3_2 (ji22)).f1) + x112001_2))) (.int .i64 (wrap64 (((rd_T86 x3_2 (ji22)).f2) + x112002_2)))) (fun _ h => ⟨h.1.1, ⟨h.1.2.1, ⟨h.2, h.1.2.2⟩⟩⟩))⟩
              have n4_ : Aside0 (Kd.R (Kd.int .i64) 3 (((w38.setCell ⟨gb111, 0, none⟩ (.slice Ao40 y119.length co40)).setCell ⟨gb111, 1, none⟩ (.int .i64 (wrap64 (((rd_T86 x3_2 (ji22)).f1) + x112001_2)))).setCell ⟨gb111, 2, none⟩ (.int .i64 (wrap64 (((rd_T86 x3_2 (ji22)).f2) + x112002_2)))) w.heap.size (fun k_ => some k_ ≠ (.slice (some ad112) x3_2.length co30 : Value).ownBlock ∧ some k_ ≠ (.slice Ao39 x112000_2.length co39 : Value).ownBlock ∧ some k_ ≠ (.slice Ao40 y119.length co40 : Value).ownBlock ∧ k_ ≠ gb111) (.slice A112_0 ((rd_T86 x3_2 (ji22)).f0).length c112_0) ((rd_T86 x3_2 (ji22)).f0)) := ⟨pR (Kd.R_mono (rF3 HL114_0.out BK111.out (.slice Ao40 y119.length co40) (.int .i64 (wrap64 (((rd_T86 x3_2 (ji22)).f1) + x112001_2))) (.int .i64 (wrap64 (((rd_T86 x3_2 (ji22)).f2) + x112002_2)))) (fun _ h => ⟨h.1.1, ⟨h.1.2.1, ⟨h.2, h.1.2.2⟩⟩⟩))⟩
              have n5_ : Aside0 (Kd.R (Kd.int .i64) 3 (((w38.setCell ⟨gb111, 0, none⟩ (.slice Ao40 y119.length co40)).setCell ⟨gb111, 1, none⟩ (.int .i64 (wrap64 (((rd_T86 x3_2 (ji22)).f1) + x112001_2)))).setCell ⟨gb111, 2, none⟩ (.int .i64 (wrap64 (((rd_T86 x3_2 (ji22)).f2) + x112002_2)))) w.heap.size (fun k_ => some k_ ≠ (.slice Ao39 x112000_2.length co39 : Value).ownBlock ∧ some k_ ≠ (.slice A112_0 ((rd_T86 x3_2 (ji22)).f0).length c112_0 : Value).ownBlock ∧ some k_ ≠ (.slice A112_0 ((rd_T86 x3_2 (ji22)).f0).length c112_0 : Value).ownBlock ∧ some k_ ≠ (.slice A112_0 ((rd_T86 x3_2 (ji22)).f0).length c112_0 : Value).ownBlock) (.slice Ao40 y119.length co40) y119) := ⟨pR (Kd.R_mono (rF3 HO121.out BK111.out (.slice Ao40 y119.length co40) (.int .i64 (wrap64 (((rd_T86 x3_2 (ji22)).f1) + x112001_2))) (.int .i64 (wrap64 (((rd_T86 x3_2 (ji22)).f2) + x112002_2)))) (fun _ h => ⟨h.1, ⟨h.2.1, ⟨h.2.2.1, h.2.2.2⟩⟩⟩))⟩
              have n6_ : Aside0 ((((w38.setCell ⟨gb111, 0, none⟩ (.slice Ao40 y119.length co40)).setCell ⟨gb111, 1, none⟩ (.int .i64 (wrap64 (((rd_T86 x3_2 (ji22)).f1) + x112001_2)))).setCell ⟨gb111, 2, none⟩ (.int .i64 (wrap64 (((rd_T86 x3_2 (ji22)).f2) + x112002_2)))).heap[gb101]? = some (.cells #[.slice (some ad105) l0_0.length c0_0, .slice (some ad110) l0_1.length c0_1] 26 (0, 0))) := ⟨by refine bk ?_; refine blk_far ?_ NB101_111.out _; refine bk ?_; refine blk_far ?_ NB101_111.out _; refine bk ?_; refine blk_far ?_ NB101_111.out _; refine bk ?_; exact BK101.out⟩
              have n7_ : Aside0 ((((w38.setCell ⟨gb111, 0, none⟩ (.slice Ao40 y119.length co40)).setCell ⟨gb111, 1, none⟩ (.int .i64 (wrap64 (((rd_T86 x3_2 (ji22)).f1) + x112001_2)))).setCell ⟨gb111, 2, none⟩ (.int .i64 (wrap64 (((rd_T86 x3_2 (ji22)).f2) + x112002_2)))).heap[gb111]? = some (.cells #[.slice Ao40 y119.length co40, .int .i64 (wrap64 (((rd_T86 x3_2 (ji22)).f1) + x112001_2)), .int .i64 (wrap64 (((rd_T86 x3_2 (ji22)).f2) + x112002_2))] 86 (0, 0))) := ⟨by refine bk ?_; refine blk_put (cs := #[.slice Ao40 y119.length co40, .int .i64 (wrap64 (((rd_T86 x3_2 (ji22)).f1) + x112001_2)), .int .i64 x112002_2]) ?_ 2 _ rfl; refine bk ?_; refine blk_put (cs := #[.slice Ao40 y119.length co40, .int .i64 x112001_2, .int .i64 x112002_2]) ?_ 1 _ rfl; refine bk ?_; refine blk_put (cs := #[.slice Ao39 x112000_2.length co39, .int .i64 x112001_2, .int .i64 x112002_2]) ?_ 0 _ rfl; refine bk ?_; exact BK111.out⟩
              have n8_ : Aside0 ((((w38.setCell ⟨gb111, 0, none⟩ (.slice Ao40 y119.length co40)).setCell ⟨gb111, 1, none⟩ (.int .i64 (wrap64 (((rd_T86 x3_2 (ji22)).f1) + x112001_2)))).setCell ⟨gb111, 2, none⟩ (.int .i64 (wrap64 (((rd_T86 x3_2 (ji22)).f2) + x112002_2)))).heap[gb115]? = some (.cells #[.slice A112_0 ((rd_T86 x3_2 (ji22)).f0).length c112_0, .int .i64 ((rd_T86 x3_2 (ji22)).f1), .int .i64 ((rd_T86 x3_2 (ji22)).f2)] 86 (0, 0))) := ⟨by refine bk ?_; refine blk_far ?_ NB115_111.out _; refine bk ?_; refine blk_far ?_ NB115_111.out _; refine bk ?_; refine blk_far ?_ NB115_111.out _; refine bk ?_; exact BK115.out⟩
              have n9_ : Aside0 (Below w.heap.size w (((w38.setCell ⟨gb111, 0, none⟩ (.slice Ao40 y119.length co40)).setCell ⟨gb111, 1, none⟩ (.int .i64 (wrap64 (((rd_T86 x3_2 (ji22)).f1) + x112001_2)))).setCell ⟨gb111, 2, none⟩ (.int .i64 (wrap64 (((rd_T86 x3_2 (ji22)).f2) + x112002_2))))) := ⟨pT HB.out⟩
              (try clear HO_3)
              (try clear HO_112000)
              (try clear HL112_0)
              (try clear HL113_0)
              (try clear HL114_0)
              (try clear HO121)
              (try clear BK101)
              (try clear BK111)
              (try clear BK115)
              (try clear HB)
              generalize (((w38.setCell ⟨gb111, 0, none⟩ (.slice Ao40 y119.length co40)).setCell ⟨gb111, 1, none⟩ (.int .i64 (wrap64 (((rd_T86 x3_2 (ji22)).f1) + x112001_2)))).setCell ⟨gb111, 2, none⟩ (.int .i64 (wrap64 (((rd_T86 x3_2 (ji22)).f2) + x112002_2)))) = w44 at n0_ n1_ n2_ n3_ n4_ n5_ n6_ n7_ n8_ n9_ ⊢
              have HO_3 := n0_
              have HO_112000 := n1_
              have HL112_0 := n2_
              have HL113_0 := n3_
              have HL114_0 := n4_
              have HO121 := n5_
              have BK101 := n6_
              have BK111 := n7_
              have BK115 := n8_
              have HB := n9_
              clear n0_ n1_ n2_ n3_ n4_ n5_ n6_ n7_ n8_ n9_
              have q45 : ((ji22) : Int) ≤ ((x3_2.length : Int) : Int) := of_decide_eq_true (by first | (with_reducible assumption) | assumption)
              obtain ⟨i045, hi045, _, hsz45, _⟩ := info_parts info86
              have hcut45 := cut_to (P := Try.prog) 83 86 .i64 Try.underlying83 hi045 (some ad112) x3_2.length co30 (ji22) (of_decide_eq_true (by first | (with_reducible assumption) | assumption)) q45 (Kd.S_reads' HO_3.out).2.1
              have hr45 := Kd.S_take (m := ((ji22) : Int).toNat) HO_3.out (by omega)
              have hy45 : y122.length = ((ji22) : Int).toNat := (by rw [Ny122.out, List.length_take]; omega)
              rw [← Ny122.out] at hr45
              rw [← hy45] at hr45 hcut45
              clear hy45 hi045 hsz45 HO_3
              have HO124 := Aside0.mk hr45
              clear hr45
              replace q45 := eq_true q45
              try go_wp2
              go_roundg k2
              case measure => have := HK1.out; have := HK2.out; omega
              case rel => exact ⟨(y122), (y119), (wrap64 (((rd_T86 x3_2 (ji22)).f1) + x112001_2)), (wrap64 (((rd_T86 x3_2 (ji22)).f2) + x112002_2)), (.slice Ao40 y119.length co40), H', ⟨by have := HK1.out; have := HK2.out; omega⟩, ⟨by (with_reducible repeat (first | apply Kd.S_alloc | apply Kd.S_drewN | apply Kd.S_drew)); exact Kd.S_mono HO124.out (fun _ hk => ⟨hk.2.1, hk.2.2.1⟩)⟩, ⟨pR (Kd.R_mono HO121.out (fun _ hk => trivial))⟩, ⟨by refine bk ?_; exact BK101.out⟩, ⟨by refine bk ?_; exact BK111.out⟩, ⟨pT HB.out⟩⟩
             rw [if_neg c28] at H
             exact absurd H (by simp)
            rw [if_neg c27] at H
            exact absurd H (by simp)
           rw [if_neg c25] at H
           have c25b0 : decide ((wrap64 (x112002_2 * ((rd_T86 x3_2 (ji22)).f1))) < (wrap64 (((rd_T86 x3_2 (ji22)).f2) * x112001_2))) = false := decide_eq_false c25
           clear c25
           by_cases c46 : x3_2.length < 3518437208883
           ·
            rw [if_pos c46] at H
            have LMc46 := Aside0.mk c46
            clear c46
            obtain ⟨y125, hy125⟩ : ∃ y_ : List (S86), y_ = (x3_2 ++ [(⟨x112000_2, x112001_2, x112002_2⟩ : S86)]) := ⟨_, rfl⟩
            replace H : (spec_l10Groups.l0 k2 y125 (wrap64 (x4_1 + 1)) l0_0 l0_1) = some r := by first | (rw [hy125]; with_reducible exact H) | (have H2_ := (Option.bind_some _ _).symm.trans H; rw [hy125]; with_reducible exact H2_) | (have H2_ := (Option.bind_some _ _).symm.trans H; with_reducible exact H2_) | with_reducible exact H | (rw [hy125]; exact H) | exact H
            have Ny125 := Aside0.mk hy125
            clear hy125
            have H' := Aside0.mk H
            clear H
            try go_wp2
            have n0_ := aK (Kd.S_drew HO_3.out)
            have n1_ := aK (Kd.R_drew HO_112000.out)
            have n2_ := aK (blk_drew BK101.out)
            have n3_ := aK (blk_drew BK111.out)
            have n4_ := aK (below_drew1 HB.out)
            clear HO_3 HO_112000 BK101 BK111 HB
            have HO_3 := n0_
            have HO_112000 := n1_
            have BK101 := n2_
            have BK111 := n3_
            have HB := n4_
            clear n0_ n1_ n2_ n3_ n4_
            obtain ⟨Ao48, co48, eo48⟩ := Kd.S_slice HO_3.out
            (first | subst eo48 | (obtain ⟨f4_, f5_⟩ := sI eo48; subst f4_; subst f5_))
            have p112 : 0 ≤ ((ji22) : Int) := of_decide_eq_true (by first | (with_reducible assumption) | assumption)
            have q112 : (ji22) < (x3_2.length : Int) := of_decide_eq_true (by first | (with_reducible assumption) | assumption)
            obtain ⟨ad112, A112_0, c112_0, e112, hx112_0, hx112_1, hx112_2, hl112_0, hi112_0⟩ := at_T86 (Kd.S_reads' HO_3.out).2.2 (ji22) p112 q112
            cases e112
            obtain ⟨ce112, hce112, hMe112, hcc112⟩ := Kd.S_get HO_3.out z86 (ji22) p112 (by first | exact q112 | exact of_decide_eq_true (by first | (with_reducible assumption) | assumption) | (have e_ := (Kd.S_reads' HO_3.out).1; omega))
            obtain ⟨ve112_0, rfl, ge112_0⟩ := k86_openM hMe112
            have hv112_0 := hcc112 0 _ rfl
            rw [Nat.add_zero] at hv112_0
            replace hv112_0 := Option.some.inj (hv112_0.symm.trans hx112_0)
            rw [hv112_0] at ge112_0
            have HL112_0 := aK (show Kd.R (Kd.int .i64) 3 _ _ _ _ ((rd_T86 x3_2 (ji22)).f0) from ge112_0)
            clear hv112_0 ge112_0 hcc112 hce112
            have HR112_0 := Aside0.mk hi112_0
            have HC112_0 := Aside0.mk hl112_0
            clear hi112_0 hl112_0
            replace p112 := eq_true p112
            replace q112 := eq_true q112
            have p113 : 0 ≤ ((ji22) : Int) := of_decide_eq_true (by first | (with_reducible assumption) | assumption)
            have q113 : (ji22) < (x3_2.length : Int) := of_decide_eq_true (by first | (with_reducible assumption) | assumption)
            obtain ⟨ad113, A113_0, c113_0, e113, hx113_0, hx113_1, hx113_2, hl113_0, hi113_0⟩ := at_T86 (Kd.S_reads' HO_3.out).2.2 (ji22) p113 q113
            obtain rfl : ad112 = ad113 := (by injection e113)
            obtain ⟨ce113, hce113, hMe113, hcc113⟩ := Kd.S_get HO_3.out z86 (ji22) p113 (by first | exact q113 | exact of_decide_eq_true (by first | (with_reducible assumption) | assumption) | (have e_ := (Kd.S_reads' HO_3.out).1; omega))
            obtain ⟨ve113_0, rfl, ge113_0⟩ := k86_openM hMe113
            have hv113_0 := hcc113 0 _ rfl
            rw [Nat.add_zero] at hv113_0
            replace hv113_0 := Option.some.inj (hv113_0.symm.trans hx113_0)
            rw [hv113_0] at ge113_0
            have HL113_0 := aK (show Kd.R (Kd.int .i64) 3 _ _ _ _ ((rd_T86 x3_2 (ji22)).f0) from ge113_0)
            clear hv113_0 ge113_0 hcc113 hce113
            have HR113_0 := Aside0.mk hi113_0
            have HC113_0 := Aside0.mk hl113_0
            clear hi113_0 hl113_0
            replace p113 := eq_true p113
            replace q113 := eq_true q113
            have ea_ := Option.some.inj (hx112_0.symm.trans hx113_0)
            injection ea_ with ea_ en_ ec_
            subst ea_
            subst ec_
            clear en_
            refine start_ (n := 26) (S := fun w' => w'.cell? ⟨gb111, 0, none⟩ = some (u112000) ∧ w'.cell? ⟨gb111, 1, none⟩ = some (.int .i64 x112001_2) ∧ w'.cell? ⟨gb111, 2, none⟩ = some (.int .i64 x112002_2) ∧ w'.cell? (ad112.add (((ji22)).toNat * 3)) = some (.slice A112_0 ((rd_T86 x3_2 (ji22)).f0).length c112_0) ∧ w'.cell? ⟨(ad112.add (((ji22)).toNat * 3)).block, (ad112.add (((ji22)).toNat * 3)).off + 1, none⟩ = some (.int .i64 ((rd_T86 x3_2 (ji22)).f1)) ∧ w'.cell? ⟨(ad112.add (((ji22)).toNat * 3)).block, (ad112.add (((ji22)).toNat * 3)).off + 2, none⟩ = some (.int .i64 ((rd_T86 x3_2 (ji22)).f2)) ∧ w'.cell? (ad112.add (((ji22)).toNat * 3)) = some (.slice A112_0 ((rd_T86 x3_2 (ji22)).f0).length c112_0) ∧ w'.cell? ⟨(ad112.add (((ji22)).toNat * 3)).block, (ad112.add (((ji22)).toNat * 3)).off + 1, none⟩ = some (.int .i64 ((rd_T86 x3_2 (ji22)).f1)) ∧ w'.cell? ⟨(ad112.add (((ji22)).toNat * 3)).block, (ad112.add (((ji22)).toNat * 3)).off + 2, none⟩ = some (.int .i64 ((rd_T86 x3_2 (ji22)).f2))) (ds := []) #[false, false, false, false, false, false, false, false, false, false, false, false, false, false, false, false, false, false, false, false, false, false, false, false, false, false] (by kernel_rfl) rfl rfl ⟨(blk_cell BK111.out 0).trans rfl, (blk_cell BK111.out 1).trans rfl, (blk_cell BK111.out 2).trans rfl, hx112_0, hx112_1, hx112_2, hx113_0, hx113_1, hx113_2⟩ (fun hHeld => ?_); refine with_tabW spec_l10Groups.tab7 spec_l10Groups.bits7 (fun HT_ HW_ => ?_)
            generalize wr.drew = w47 at HO_3 HO_112000 BK101 BK111 HB HL112_0 HL113_0 HR112_0 HR113_0 hx112_0 hx112_1 hx112_2 hx113_0 hx113_1 hx113_2 hHeld ⊢
            refine pu (i := 0) (N := some 34) #[true, false, false, false, false, false, false, false, false, false, false, false, false, false, false, false, false, false, false, false, false, false, false, false, false, false] rfl rfl HT_.out ?_
            refine pu (i := 1) (N := some 35) #[true, true, false, false, false, false, false, false, false, false, false, false, false, false, false, false, false, false, false, false, false, false, false, false, false, false] rfl rfl HT_.out ?_
            refine pu (i := 2) (N := some 36) #[true, true, true, false, false, false, false, false, false, false, false, false, false, false, false, false, false, false, false, false, false, false, false, false, false, false] rfl rfl HT_.out ?_
            refine pu (i := 3) (N := some 37) #[true, true, true, true, false, false, false, false, false, false, false, false, false, false, false, false, false, false, false, false, false, false, false, false, false, false] rfl rfl HT_.out ?_
            refine pu (i := 4) (N := some 38) #[true, true, true, true, true, false, false, false, false, false, false, false, false, false, false, false, false, false, false, false, false, false, false, false, false, false] rfl rfl HT_.out ?_
            refine pu (i := 5) (N := some 39) #[true, true, true, true, true, true, false, false, false, false, false, false, false, false, false, false, false, false, false, false, false, false, false, false, false, false] rfl rfl HT_.out ?_
            refine pu (i := 6) (N := some 40) #[true, true, true, true, true, true, true, false, false, false, false, false, false, false, false, false, false, false, false, false, false, false, false, false, false, false] rfl rfl HT_.out ?_
            refine pu (i := 7) (N := some 41) #[true, true, true, true, true, true, true, true, false, false, false, false, false, false, false, false, false, false, false, false, false, false, false, false, false, false] rfl rfl HT_.out ?_
            refine pu (i := 8) (N := some 42) #[true, true, true, true, true, true, true, true, true, false, false, false, false, false, false, false, false, false, false, false, false, false, false, false, false, false] rfl rfl HT_.out ?_
            refine pu (i := 9) (N := some 43) #[true, true, true, true, true, true, true, true, true, true, false, false, false, false, false, false, false, false, false, false, false, false, false, false, false, false] rfl rfl HT_.out ?_
            refine pu (i := 11) (N := some 45) #[true, true, true, true, true, true, true, true, true, true, false, true, false, false, false, false, false, false, false, false, false, false, false, false, false, false] rfl rfl HT_.out ?_
            refine pu (i := 14) (N := some 48) #[true, true, true, true, true, true, true, true, true, true, false, true, false, false, true, false, false, false, false, false, false, false, false, false, false, false] rfl rfl HT_.out ?_
            refine pu (i := 16) (N := some 50) #[true, true, true, true, true, true, true, true, true, true, false, true, false, false, true, false, true, false, false, false, false, false, false, false, false, false] rfl rfl HT_.out ?_
            refine pu (i := 17) (N := some 51) #[true, true, true, true, true, true, true, true, true, true, false, true, false, false, true, false, true, true, false, false, false, false, false, false, false, false] rfl rfl HT_.out ?_
            refine pu (i := 18) (N := some 52) #[true, true, true, true, true, true, true, true, true, true, false, true, false, false, true, false, true, true, true, false, false, false, false, false, false, false] rfl rfl HT_.out ?_
            refine pu (i := 19) (N := some 53) #[true, true, true, true, true, true, true, true, true, true, false, true, false, false, true, false, true, true, true, true, false, false, false, false, false, false] rfl rfl HT_.out ?_
            refine pu (i := 20) (N := some 54) #[true, true, true, true, true, true, true, true, true, true, false, true, false, false, true, false, true, true, true, true, true, false, false, false, false, false] rfl rfl HT_.out ?_
            refine pu (i := 21) (N := some 55) #[true, true, true, true, true, true, true, true, true, true, false, true, false, false, true, false, true, true, true, true, true, true, false, false, false, false] rfl rfl HT_.out ?_
            refine tk (i := 10) (N := some 44) #[true, true, true, true, true, true, true, true, true, true, true, true, false, false, true, false, true, true, true, true, true, true, false, false, false, false] rfl rfl HT_.out HW_.out (Or.inl ⟨by rfl, by rintro w' ⟨s0, s1, s2, s3, s4, s5, s6, s7, s8⟩; go_simp; with_reducible rfl⟩) hHeld ?_
            refine tk (i := 12) (N := some 46) #[true, true, true, true, true, true, true, true, true, true, true, true, true, false, true, false, true, true, true, true, true, true, false, false, false, false] rfl rfl HT_.out HW_.out (Or.inl ⟨by rfl, by rintro w' ⟨s0, s1, s2, s3, s4, s5, s6, s7, s8⟩; go_simp; with_reducible rfl⟩) hHeld ?_
            refine pu (i := 13) (N := some 47) #[true, true, true, true, true, true, true, true, true, true, true, true, true, true, true, false, true, true, true, true, true, true, false, false, false, false] rfl rfl HT_.out ?_
            refine tk (i := 15) (N := some 49) #[true, true, true, true, true, true, true, true, true, true, true, true, true, true, true, true, true, true, true, true, true, true, false, false, false, false] rfl rfl HT_.out HW_.out (Or.inl ⟨by rfl, by rintro w' ⟨s0, s1, s2, s3, s4, s5, s6, s7, s8⟩; go_simp; with_reducible rfl⟩) hHeld ?_
            refine tk (i := 22) (N := some 56) #[true, true, true, true, true, true, true, true, true, true, true, true, true, true, true, true, true, true, true, true, true, true, true, false, false, false] rfl rfl HT_.out HW_.out (Or.inl ⟨by rfl, by rintro w' ⟨s0, s1, s2, s3, s4, s5, s6, s7, s8⟩; go_simp; with_reducible rfl⟩) hHeld ?_
            refine pu (i := 23) (N := some 57) #[true, true, true, true, true, true, true, true, true, true, true, true, true, true, true, true, true, true, true, true, true, true, true, true, false, false] rfl rfl HT_.out ?_
            refine pu (i := 24) (N := some 58) #[true, true, true, true, true, true, true, true, true, true, true, true, true, true, true, true, true, true, true, true, true, true, true, true, true, false] rfl rfl HT_.out ?_
            refine pu (i := 25) (N := some 59) #[true, true, true, true, true, true, true, true, true, true, true, true, true, true, true, true, true, true, true, true, true, true, true, true, true, true] rfl rfl HT_.out ?_
            refine done_ (done_of HT_.out (by kernel_rfl)) ?_
            have hnb49 := NB111_101.out
            have hnc49 := NB101_111.out
            obtain ⟨hcz50_0, hcz50_1, hcz50_2, hfz50_0, hfz50_1, hfz50_2⟩ := bc3 BK111.out
            obtain ⟨Ao52, co52, eo52⟩ := Kd.R_slice HO_112000.out
            subst eo52
            try go_wp2_with (first | ((with_reducible refine gate_builtin (b := .append) (xs := #[.tmp 88, .tmp 90]) rfl ?_); (try (refine gate_guard (by rfl) ?_; dsimp only)); at_builtin; refine Kd.S_append k86 (w0 := w) w.heap.size rfl (.tmp 88) (.tmp 90) 83 86 (.agg #[(.slice none 0 0), (.int .i64 0), (.int .i64 0)]) 40 rfl Try.underlying83 info86 rfl (by decide) (by omega) (.slice (some ad112) x3_2.length co48) x3_2 (⟨x112000_2, x112001_2, x112002_2⟩ : S86) [.slice Ao52 x112000_2.length co52, .int .i64 x112001_2, .int .i64 x112002_2] (fun k_ => k_ ≠ gb111) (fun k_ => some k_ = (.slice Ao52 x112000_2.length co52 : Value).ownBlock) rfl rfl ?aP (fun k_ hk_ => ((Kd.R_mono (ok' := fun k_ => ((fun k_ => k_ ≠ gb111)) k_ ∧ some k_ ≠ (.slice (some ad112) x3_2.length co48 : Value).ownBlock) (Kd.R_types (Kd.R_apart' (HO_112000.out) (Kd.S_typed HO_3.out) (by decide)) BK111.out (by decide)) (fun k_ hk => ⟨hk.2, hk.1.2⟩))).1 k_ hk_.symm) ?aF ?aO ?aB ?aS ?aL ?_; (case aP => exact k86_mkM _ _ _ (⟨x112000_2, x112001_2, x112002_2⟩ : S86) (Kd.R_mono (Kd.R_tight rfl (Kd.R_mono (ok' := fun k_ => ((fun k_ => k_ ≠ gb111)) k_ ∧ some k_ ≠ (.slice (some ad112) x3_2.length co48 : Value).ownBlock) (Kd.R_types (Kd.R_apart' (HO_112000.out) (Kd.S_typed HO_3.out) (by decide)) BK111.out (by decide)) (fun k_ hk => ⟨hk.2, hk.1.2⟩))) (fun _ h_ => h_))); (case aB => exact (pS HB.out)); (case aF => exact (fun k_ hk => Kd.freshB (g := gb111) (o := .cells #[.slice Ao52 x112000_2.length co52, .int .i64 x112001_2, .int .i64 x112002_2] 86 (0, 0)) (pB BK111.out) k_ hk)); (case aO => exact (by (with_reducible repeat (first | apply Kd.S_alloc | apply Kd.S_drewN | apply Kd.S_drew)); exact Kd.S_mono HO_3.out (fun k_ hk => ⟨hk.2, fun e_ => hk.1 e_⟩))); (case aS => exact (below_size (pS HB.out))); (case aL => have := LMc46.out; omega); intro v126 w51 ho hb hg hat; rw [← Ny125.out] at ho; have n0_ := aK (blk_grown (pB BK101.out) hg (Kd.S_ne HO_3.out BK101.out (by decide))); have n1_ := aK (blk_grown (pB BK111.out) hg (Kd.S_away HO_3.out (fun _ hk => hk.2))); have n2_ := aK (Kd.R_after (ok := (fun k_ => some k_ ≠ (.slice Ao52 x112000_2.length co52 : Value).ownBlock ∧ k_ ≠ gb111)) (pR HL112_0.out) hg hat); have n3_ := aK (Kd.R_after (ok := (fun k_ => some k_ ≠ (.slice Ao52 x112000_2.length co52 : Value).ownBlock ∧ k_ ≠ gb111)) (pR HL113_0.out) hg hat); have n4_ := aK (hb); have HO127 := aK (ho); clear BK101 BK111 HL112_0 HL113_0 HB HO_3 HO_112000; have BK101 := n0_; have BK111 := n1_; have HL112_0 := n2_; have HL113_0 := n3_; have HB := n4_; clear n0_ n1_ n2_ n3_ n4_; clear ho hb hg hat))
            go_roundg k2
            case measure => have := HK1.out; have := HK2.out; omega
            case rel => exact ⟨(y125), (wrap64 (x4_1 + 1)), (by first | rfl | (simp; done) | (simp [*]; done)), H', ⟨by have := HK1.out; have := HK2.out; omega⟩, ⟨by (with_reducible repeat (first | apply Kd.S_alloc | apply Kd.S_drewN | apply Kd.S_drew)); exact Kd.S_mono HO127.out (fun _ hk => trivial)⟩, ⟨by refine bk ?_; exact BK101.out⟩, ⟨pT HB.out⟩⟩
           rw [if_neg c46] at H
           exact absurd H (by simp)
          rw [if_neg c24] at H
          exact absurd H (by simp)
         rw [if_neg c23] at H
         exact absurd H (by simp)
        rw [if_neg c21] at H
        have c21b0 : decide (0 < (x3_2.length : Int)) = false := decide_eq_false c21
        have c21b1 : decide (0 < x3_2.length) = false := decide_eq_false (by omega)
        clear c21
        by_cases c53 : x3_2.length < 3518437208883
        ·
         rw [if_pos c53] at H
         have LMc53 := Aside0.mk c53
         clear c53
         obtain ⟨y128, hy128⟩ : ∃ y_ : List (S86), y_ = (x3_2 ++ [(⟨x112000_2, x112001_2, x112002_2⟩ : S86)]) := ⟨_, rfl⟩
         replace H : (spec_l10Groups.l0 k2 y128 (wrap64 (x4_1 + 1)) l0_0 l0_1) = some r := by first | (rw [hy128]; with_reducible exact H) | (have H2_ := (Option.bind_some _ _).symm.trans H; rw [hy128]; with_reducible exact H2_) | (have H2_ := (Option.bind_some _ _).symm.trans H; with_reducible exact H2_) | with_reducible exact H | (rw [hy128]; exact H) | exact H
         have Ny128 := Aside0.mk hy128
         clear hy128
         have H' := Aside0.mk H
         clear H
         try go_wp2
         have n0_ := aK (Kd.S_drew HO_3.out)
         have n1_ := aK (Kd.R_drew HO_112000.out)
         have n2_ := aK (blk_drew BK101.out)
         have n3_ := aK (blk_drew BK111.out)
         have n4_ := aK (below_drew1 HB.out)
         clear HO_3 HO_112000 BK101 BK111 HB
         have HO_3 := n0_
         have HO_112000 := n1_
         have BK101 := n2_
         have BK111 := n3_
         have HB := n4_
         clear n0_ n1_ n2_ n3_ n4_
         obtain ⟨Ao55, co55, eo55⟩ := Kd.S_slice HO_3.out
         (first | subst eo55 | (obtain ⟨f4_, f5_⟩ := sI eo55; subst f4_; subst f5_))
         refine start_ (n := 26) (S := fun w' => True) (ds := []) #[false, false, false, false, false, false, false, false, false, false, false, false, false, false, false, false, false, false, false, false, false, false, false, false, false, false] (by kernel_rfl) rfl rfl trivial (fun hHeld => ?_); refine with_tabW spec_l10Groups.tab7 spec_l10Groups.bits7 (fun HT_ HW_ => ?_)
         generalize wr.drew = w54 at HO_3 HO_112000 BK101 BK111 HB hHeld ⊢
         refine pu (i := 0) (N := some 34) #[true, false, false, false, false, false, false, false, false, false, false, false, false, false, false, false, false, false, false, false, false, false, false, false, false, false] rfl rfl HT_.out ?_
         refine pu (i := 1) (N := some 35) #[true, true, false, false, false, false, false, false, false, false, false, false, false, false, false, false, false, false, false, false, false, false, false, false, false, false] rfl rfl HT_.out ?_
         refine pu (i := 2) (N := some 36) #[true, true, true, false, false, false, false, false, false, false, false, false, false, false, false, false, false, false, false, false, false, false, false, false, false, false] rfl rfl HT_.out ?_
         refine pu (i := 3) (N := some 37) #[true, true, true, true, false, false, false, false, false, false, false, false, false, false, false, false, false, false, false, false, false, false, false, false, false, false] rfl rfl HT_.out ?_
         refine pure_ (i := 4) (N := some 38) (v := undef) (a' := ?_) #[true, true, true, true, true, false, false, false, false, false, false, false, false, false, false, false, false, false, false, false, false, false, false, false, false, false] rfl rfl (any_of HT_.out (by kernel_rfl)) (fun _ _ _ h => h) (Or.inr ⟨by rfl, rfl⟩) ?_ ?_
         rotate_left
         ·
          simp only [sP]
          rfl
         refine pure_ (i := 5) (N := some 39) (v := undef) (a' := ?_) #[true, true, true, true, true, true, false, false, false, false, false, false, false, false, false, false, false, false, false, false, false, false, false, false, false, false] rfl rfl (any_of HT_.out (by kernel_rfl)) (fun _ _ _ h => h) (Or.inr ⟨by rfl, rfl⟩) ?_ ?_
         rotate_left
         ·
          simp only [sP]
          rfl
         refine pure_ (i := 6) (N := some 40) (v := undef) (a' := ?_) #[true, true, true, true, true, true, true, false, false, false, false, false, false, false, false, false, false, false, false, false, false, false, false, false, false, false] rfl rfl (any_of HT_.out (by kernel_rfl)) (fun _ _ _ h => h) (Or.inr ⟨by rfl, rfl⟩) ?_ ?_
         rotate_left
         ·
          simp only [sP]
          rfl
         refine pure_ (i := 7) (N := some 41) (v := undef) (a' := ?_) #[true, true, true, true, true, true, true, true, false, false, false, false, false, false, false, false, false, false, false, false, false, false, false, false, false, false] rfl rfl (any_of HT_.out (by kernel_rfl)) (fun _ _ _ h => h) (Or.inr ⟨by rfl, rfl⟩) ?_ ?_
         rotate_left
         ·
          simp only [sP]
          rfl
         refine pure_ (i := 8) (N := some 42) (v := undef) (a' := ?_) #[true, true, true, true, true, true, true, true, true, false, false, false, false, false, false, false, false, false, false, false, false, false, false, false, false, false] rfl rfl (any_of HT_.out (by kernel_rfl)) (fun _ _ _ h => h) (Or.inr ⟨by rfl, rfl⟩) ?_ ?_
         rotate_left
         ·
          simp only [sP]
          rfl
         refine pure_ (i := 9) (N := some 43) (v := undef) (a' := ?_) #[true, true, true, true, true, true, true, true, true, true, false, false, false, false, false, false, false, false, false, false, false, false, false, false, false, false] rfl rfl (any_of HT_.out (by kernel_rfl)) (fun _ _ _ h => h) (Or.inr ⟨by rfl, rfl⟩) ?_ ?_
         rotate_left
         ·
          simp only [sP]
          rfl
         refine pure_ (i := 10) (N := some 44) (v := undef) (a' := ?_) #[true, true, true, true, true, true, true, true, true, true, true, false, false, false, false, false, false, false, false, false, false, false, false, false, false, false] rfl rfl (any_of HT_.out (by kernel_rfl)) (fun _ _ _ h => h) (Or.inr ⟨by rfl, rfl⟩) ?_ ?_
         rotate_left
         ·
          simp only [sP]
          rfl
         refine pure_ (i := 11) (N := some 45) (v := undef) (a' := ?_) #[true, true, true, true, true, true, true, true, true, true, true, true, false, false, false, false, false, false, false, false, false, false, false, false, false, false] rfl rfl (any_of HT_.out (by kernel_rfl)) (fun _ _ _ h => h) (Or.inr ⟨by rfl, rfl⟩) ?_ ?_
         rotate_left
         ·
          simp only [sP]
          rfl
         refine pure_ (i := 12) (N := some 46) (v := undef) (a' := ?_) #[true, true, true, true, true, true, true, true, true, true, true, true, true, false, false, false, false, false, false, false, false, false, false, false, false, false] rfl rfl (any_of HT_.out (by kernel_rfl)) (fun _ _ _ h => h) (Or.inr ⟨by rfl, rfl⟩) ?_ ?_
         rotate_left
         ·
          simp only [sP]
          rfl
         refine pure_ (i := 13) (N := some 47) (v := undef) (a' := ?_) #[true, true, true, true, true, true, true, true, true, true, true, true, true, true, false, false, false, false, false, false, false, false, false, false, false, false] rfl rfl (any_of HT_.out (by kernel_rfl)) (fun _ _ _ h => h) (Or.inr ⟨by rfl, rfl⟩) ?_ ?_
         rotate_left
         ·
          simp only [sP]
          rfl
         refine pure_ (i := 14) (N := some 48) (v := undef) (a' := ?_) #[true, true, true, true, true, true, true, true, true, true, true, true, true, true, true, false, false, false, false, false, false, false, false, false, false, false] rfl rfl (any_of HT_.out (by kernel_rfl)) (fun _ _ _ h => h) (Or.inr ⟨by rfl, rfl⟩) ?_ ?_
         rotate_left
         ·
          simp only [sP]
          rfl
         refine pure_ (i := 15) (N := some 49) (v := undef) (a' := ?_) #[true, true, true, true, true, true, true, true, true, true, true, true, true, true, true, true, false, false, false, false, false, false, false, false, false, false] rfl rfl (any_of HT_.out (by kernel_rfl)) (fun _ _ _ h => h) (Or.inr ⟨by rfl, rfl⟩) ?_ ?_
         rotate_left
         ·
          simp only [sP]
          rfl
         refine pure_ (i := 16) (N := some 50) (v := undef) (a' := ?_) #[true, true, true, true, true, true, true, true, true, true, true, true, true, true, true, true, true, false, false, false, false, false, false, false, false, false] rfl rfl (any_of HT_.out (by kernel_rfl)) (fun _ _ _ h => h) (Or.inr ⟨by rfl, rfl⟩) ?_ ?_
         rotate_left
         ·
          simp only [sP]
          rfl
         refine pure_ (i := 17) (N := some 51) (v := undef) (a' := ?_) #[true, true, true, true, true, true, true, true, true, true, true, true, true, true, true, true, true, true, false, false, false, false, false, false, false, false] rfl rfl (any_of HT_.out (by kernel_rfl)) (fun _ _ _ h => h) (Or.inr ⟨by rfl, rfl⟩) ?_ ?_
         rotate_left
         ·
          simp only [sP]
          rfl
         refine pure_ (i := 18) (N := some 52) (v := undef) (a' := ?_) #[true, true, true, true, true, true, true, true, true, true, true, true, true, true, true, true, true, true, true, false, false, false, false, false, false, false] rfl rfl (any_of HT_.out (by kernel_rfl)) (fun _ _ _ h => h) (Or.inr ⟨by rfl, rfl⟩) ?_ ?_
         rotate_left
         ·
          simp only [sP]
          rfl
         refine pure_ (i := 19) (N := some 53) (v := undef) (a' := ?_) #[true, true, true, true, true, true, true, true, true, true, true, true, true, true, true, true, true, true, true, true, false, false, false, false, false, false] rfl rfl (any_of HT_.out (by kernel_rfl)) (fun _ _ _ h => h) (Or.inr ⟨by rfl, rfl⟩) ?_ ?_
         rotate_left
         ·
          simp only [sP]
          rfl
         refine pure_ (i := 20) (N := some 54) (v := undef) (a' := ?_) #[true, true, true, true, true, true, true, true, true, true, true, true, true, true, true, true, true, true, true, true, true, false, false, false, false, false] rfl rfl (any_of HT_.out (by kernel_rfl)) (fun _ _ _ h => h) (Or.inr ⟨by rfl, rfl⟩) ?_ ?_
         rotate_left
         ·
          simp only [sP]
          rfl
         refine pure_ (i := 21) (N := some 55) (v := undef) (a' := ?_) #[true, true, true, true, true, true, true, true, true, true, true, true, true, true, true, true, true, true, true, true, true, true, false, false, false, false] rfl rfl (any_of HT_.out (by kernel_rfl)) (fun _ _ _ h => h) (Or.inr ⟨by rfl, rfl⟩) ?_ ?_
         rotate_left
         ·
          simp only [sP]
          rfl
         refine pure_ (i := 22) (N := some 56) (v := undef) (a' := ?_) #[true, true, true, true, true, true, true, true, true, true, true, true, true, true, true, true, true, true, true, true, true, true, true, false, false, false] rfl rfl (any_of HT_.out (by kernel_rfl)) (fun _ _ _ h => h) (Or.inr ⟨by rfl, rfl⟩) ?_ ?_
         rotate_left
         ·
          simp only [sP]
          rfl
         refine pure_ (i := 23) (N := some 57) (v := undef) (a' := ?_) #[true, true, true, true, true, true, true, true, true, true, true, true, true, true, true, true, true, true, true, true, true, true, true, true, false, false] rfl rfl (any_of HT_.out (by kernel_rfl)) (fun _ _ _ h => h) (Or.inr ⟨by rfl, rfl⟩) ?_ ?_
         rotate_left
         ·
          simp only [sP]
          rfl
         refine pure_ (i := 24) (N := some 58) (v := undef) (a' := ?_) #[true, true, true, true, true, true, true, true, true, true, true, true, true, true, true, true, true, true, true, true, true, true, true, true, true, false] rfl rfl (any_of HT_.out (by kernel_rfl)) (fun _ _ _ h => h) (Or.inr ⟨by rfl, rfl⟩) ?_ ?_
         rotate_left
         ·
          simp only [sP]
          rfl
         refine pu (i := 25) (N := some 59) #[true, true, true, true, true, true, true, true, true, true, true, true, true, true, true, true, true, true, true, true, true, true, true, true, true, true] rfl rfl HT_.out ?_
         refine done_ (done_of HT_.out (by kernel_rfl)) ?_
         have hnb56 := NB111_101.out
         have hnc56 := NB101_111.out
         obtain ⟨hcz57_0, hcz57_1, hcz57_2, hfz57_0, hfz57_1, hfz57_2⟩ := bc3 BK111.out
         obtain ⟨Ao59, co59, eo59⟩ := Kd.R_slice HO_112000.out
         subst eo59
         try go_wp2_with (first | ((with_reducible refine gate_builtin (b := .append) (xs := #[.tmp 88, .tmp 90]) rfl ?_); (try (refine gate_guard (by rfl) ?_; dsimp only)); at_builtin; refine Kd.S_append k86 (w0 := w) w.heap.size rfl (.tmp 88) (.tmp 90) 83 86 (.agg #[(.slice none 0 0), (.int .i64 0), (.int .i64 0)]) 40 rfl Try.underlying83 info86 rfl (by decide) (by omega) (.slice Ao55 x3_2.length co55) x3_2 (⟨x112000_2, x112001_2, x112002_2⟩ : S86) [.slice Ao59 x112000_2.length co59, .int .i64 x112001_2, .int .i64 x112002_2] (fun k_ => k_ ≠ gb111) (fun k_ => some k_ = (.slice Ao59 x112000_2.length co59 : Value).ownBlock) rfl rfl ?aP (fun k_ hk_ => ((Kd.R_mono (ok' := fun k_ => ((fun k_ => k_ ≠ gb111)) k_ ∧ some k_ ≠ (.slice Ao55 x3_2.length co55 : Value).ownBlock) (Kd.R_types (Kd.R_apart' (HO_112000.out) (Kd.S_typed HO_3.out) (by decide)) BK111.out (by decide)) (fun k_ hk => ⟨hk.2, hk.1.2⟩))).1 k_ hk_.symm) ?aF ?aO ?aB ?aS ?aL ?_; (case aP => exact k86_mkM _ _ _ (⟨x112000_2, x112001_2, x112002_2⟩ : S86) (Kd.R_mono (Kd.R_tight rfl (Kd.R_mono (ok' := fun k_ => ((fun k_ => k_ ≠ gb111)) k_ ∧ some k_ ≠ (.slice Ao55 x3_2.length co55 : Value).ownBlock) (Kd.R_types (Kd.R_apart' (HO_112000.out) (Kd.S_typed HO_3.out) (by decide)) BK111.out (by decide)) (fun k_ hk => ⟨hk.2, hk.1.2⟩))) (fun _ h_ => h_))); (case aB => exact (pS HB.out)); (case aF => exact (fun k_ hk => Kd.freshB (g := gb111) (o := .cells #[.slice Ao59 x112000_2.length co59, .int .i64 x112001_2, .int .i64 x112002_2] 86 (0, 0)) (pB BK111.out) k_ hk)); (case aO => exact (by (with_reducible repeat (first | apply Kd.S_alloc | apply Kd.S_drewN | apply Kd.S_drew)); exact Kd.S_mono HO_3.out (fun k_ hk => ⟨hk.2, fun e_ => hk.1 e_⟩))); (case aS => exact (below_size (pS HB.out))); (case aL => have := LMc53.out; omega); intro v129 w58 ho hb hg hat; rw [← Ny128.out] at ho; have n0_ := aK (blk_grown (pB BK101.out) hg (Kd.S_ne HO_3.out BK101.out (by decide))); have n1_ := aK (blk_grown (pB BK111.out) hg (Kd.S_away HO_3.out (fun _ hk => hk.2))); have n2_ := aK (hb); have HO130 := aK (ho); clear BK101 BK111 HB HO_3 HO_112000; have BK101 := n0_; have BK111 := n1_; have HB := n2_; clear n0_ n1_ n2_; clear ho hb hg hat))
         go_roundg k2
         case measure => have := HK1.out; have := HK2.out; omega
         case rel => exact ⟨(y128), (wrap64 (x4_1 + 1)), (by first | rfl | (simp; done) | (simp [*]; done)), H', ⟨by have := HK1.out; have := HK2.out; omega⟩, ⟨by (with_reducible repeat (first | apply Kd.S_alloc | apply Kd.S_drewN | apply Kd.S_drew)); exact Kd.S_mono HO130.out (fun _ hk => trivial)⟩, ⟨by refine bk ?_; exact BK101.out⟩, ⟨pT HB.out⟩⟩
        rw [if_neg c53] at H
        exact absurd H (by simp)
     rw [if_neg c9] at H
     exact absurd H (by simp)
    rw [if_neg c6] at H
    exact absurd H (by simp)
   rw [if_neg c5] at H
   have c5b0 : decide (x4_1 < (l0_0.length : Int)) = false := decide_eq_false c5
   clear c5
   obtain rfl := Option.some.inj H
   obtain ⟨hcz60_0, hcz60_1, hfz60_0, hfz60_1⟩ := bc2 BK101.out
   go_wp2
   go_ret
   exact ⟨_, er, by (with_reducible repeat (first | apply Kd.S_alloc | apply Kd.S_drewN | apply Kd.S_drew)); exact HO_3.out, pT HB.out⟩
end Go.Proofs.Ytjicgmcogadleaa.P
