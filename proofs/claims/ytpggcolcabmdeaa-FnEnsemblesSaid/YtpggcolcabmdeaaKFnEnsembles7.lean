/- Texts of the claim FnEnsembles, merged: part 7 of 11: the program's and the reference's functions as Lean functions, the walks that show it, and plain lemmas; no conditions. -/
import Derived.Test.YtpggcolcabmdeaaKFnEnsembles3
import Derived.Test.YtpggcolcabmdeaaKFnEnsembles6
open Go.RowKit Go.Proofs.YtpggcolcabmdeaaW.PrintWords Go.Proofs.YtpggcolcabmdeaaW.PrintLast Go.Proofs.YtpggcolcabmdeaaW.PrintMore
set_option linter.unusedVariables false
set_option linter.unusedSimpArgs false
set_option maxHeartbeats 8000000
set_option maxRecDepth 100000
namespace Go.Proofs.Ytpggcolcabmdeaa.P
attribute [local go_sem] max2_int min2_int max_two min_two max_three min_three max_four min_four
def spec_l9Good.l0 : Nat → List (S29) → Int → Option (Bool)
 | 0, _, _ => none
 | k + 1, x0, x3 => if x3 < (x0.length : Int) then (if 0 ≤ x3 then ((spec_l2Good.f k ((rd_T29 x0 x3).f0) ((rd_T29 x0 x3).f1) ((rd_T29 x0 x3).f2)).bind fun t103 => (if t103 = true then (if 0 < (x0.length : Int) then (if ((rd_T29 x0 x3).f0) = ((rd_T29 x0 0).f0) then (if ((rd_T29 x0 x3).f1) = ((rd_T29 x0 0).f1) then (spec_l9Good.l0 k x0 (wrap64 (x3 + 1))) else (some false)) else (some false)) else (none)) else (some false))) else (none)) else (some true)
def spec_l9Good.f (k : Nat) (l0 : List (S29)) : Option (Bool) := (spec_l1In.f (l0.length : Int) 1 8).bind fun t101 => (if t101 = true then (spec_l9Good.l0 k l0 0) else (some false))
def spec_l9Good.T6 : Bool × List (List Nat × List Nat) := (true, [([], []), ([], []), ([0, 1], [0, 1]), ([2], [2]), ([3], [3]), ([4], [4]), ([5, 4], [5]), ([6], [6]), ([6], [6]), ([7, 8, 6], [6, 7, 8]), ([9, 6], [6, 9]), ([10, 6], [6, 10]), ([6], [6]), ([12, 6], [6, 12]), ([13, 6], [6, 13]), ([14, 6], [6, 14]), ([11, 15, 6], [6, 11, 15]), ([6, 16], [6, 16]), ([17, 6], [17]), ([18], [18]), ([18], [18]), ([19, 20, 18], [18, 19, 20]), ([21, 18], [18, 21]), ([22, 18], [18, 22]), ([18], [18]), ([24, 18], [18, 24]), ([25, 18], [18, 25]), ([26, 18], [18, 26]), ([23, 27, 18], [18, 23, 27]), ([18, 28], [18, 28])])
def spec_l9Good.B6 : List Nat := [0, 0, 3, 7, 15, 31, 63, 127, 127, 511, 1023, 2047, 127, 4223, 12415, 28799, 65535, 131071, 262143, 524287, 524287, 2097151, 4194303, 8388607, 524287, 17301503, 50855935, 117964799, 268435455, 536870911]
theorem spec_l9Good.tab6 : rtab .any (opsOf Try.f24 6) = spec_l9Good.T6 := by kernel_rfl
theorem spec_l9Good.bits6 : waitsOk spec_l9Good.T6.2 spec_l9Good.B6 = true := by kernel_rfl
theorem spec_l9Good.calls (k : Nat) (A0 : Option Addr) (c0 : Nat) (l0 : List (S29)) (r : Bool) (w : World) (hr0 : Kd.C k29 w A0 l0.length l0) (hc0 : l0.length ≤ c0) (h : spec_l9Good.f k l0 = some r) :
  Calls Try.prog 24 #[.slice A0 l0.length c0] w fun e w' => e = .returned (.bool r) ∧ Below w.heap.size w w' := by
 have hu29 := Try.underlying29
 have HR0 := aK hr0
 have HC0 := aK hc0
 clear hr0 hc0
 have HB := aK (Below.refl w.heap.size w)
 have H : ((spec_l1In.f (l0.length : Int) 1 8).bind fun t101 => (if t101 = true then (spec_l9Good.l0 k l0 0) else (some false))) = some r := h
 clear h
 replace H := oA H
 obtain ⟨t101, A2, H⟩ := H
 replace H : (if t101 = true then (spec_l9Good.l0 k l0 0) else (some false)) = some r := H
 by_cases c3 : t101 = true
 rotate_left
 ·
  replace c3 := Bool.eq_false_iff.mpr c3; subst c3
  have H1 : (some false) = some r := by rw [if_neg (show ¬ (false = true) by decide)] at H; exact H
  clear H; have H := H1; clear H1
  obtain rfl := Option.some.inj H
  go_enter Try.func24, Try.ntmps24
  go_wp2_with (first | ((with_reducible refine gc 40 rfl ?_); refine gl (some 6) Try.func40 #[.int .i64 (l0.length : Int), .int .i64 1, .int .i64 8] ?_; (with_reducible refine (spec_l1In.calls (l0.length : Int) 1 8 false _ A2.out).mono ?_); rintro e w' ⟨rfl, ⟨nd, rfl⟩⟩; refine ⟨_, rfl, ?_⟩))
  go_ret
  exact ⟨er, pT HB.out⟩
 subst c3
 have H1 : (spec_l9Good.l0 k l0 0) = some r := by rw [if_pos rfl] at H; exact H
 clear H
 have H := H1
 clear H1
 have H' := aK H
 clear H
 go_enter Try.func24, Try.ntmps24
 go_wp2_with (first | ((with_reducible refine gc 40 rfl ?_); refine gl (some 6) Try.func40 #[.int .i64 (l0.length : Int), .int .i64 1, .int .i64 8] ?_; (with_reducible refine (spec_l1In.calls (l0.length : Int) 1 8 true _ A2.out).mono ?_); rintro e w' ⟨rfl, ⟨nd, rfl⟩⟩; refine ⟨_, rfl, ?_⟩))
 go_loopg [3] k (fun kq v3 w' => ∃ (x3_1 : Int), v3 = .int .i64 x3_1 ∧ Aside0 (spec_l9Good.l0 kq l0 x3_1 = some r) ∧ Aside0 (kq ≤ k) ∧ Aside0 (Below w.heap.size w w'))
 case atStart => exact ⟨(0), (by first | rfl | (simp; done) | (simp [*]; done)), H', ⟨Nat.le_refl _⟩, ⟨pT HB.out⟩⟩
 case round =>
 clear H'
 try clear c2
 try clear p2
 try clear c3
 obtain ⟨x3_1, rfl, HA, HK1, HB⟩ := hrel
 cases gk with
 | zero => exact absurd HA.out (by simp [spec_l9Good.l0])
 | succ k1 =>
 have H := HA.out
 clear HA
 simp only [spec_l9Good.l0] at H
 by_cases c4 : x3_1 < (l0.length : Int)
 rotate_left
 ·
  rw [if_neg c4] at H
  have c4b0 : decide (x3_1 < (l0.length : Int)) = false := decide_eq_false c4
  clear c4
  obtain rfl := Option.some.inj H
  go_wp2
  go_ret
  exact ⟨er, pT HB.out⟩
 rw [if_pos c4] at H
 have c4b0 : decide (x3_1 < (l0.length : Int)) = true := decide_eq_true c4
 clear c4
 by_cases c5 : 0 ≤ x3_1
 rotate_left
 ·
  rw [if_neg c5] at H
  exact absurd H (by simp)
 rw [if_pos c5] at H
 have c5b0 : decide (0 ≤ x3_1) = true := decide_eq_true c5
 clear c5
 replace H := oA H
 obtain ⟨t103, A6, H⟩ := H
 replace H : (if t103 = true then (if 0 < (l0.length : Int) then (if ((rd_T29 l0 x3_1).f0) = ((rd_T29 l0 0).f0) then (if ((rd_T29 l0 x3_1).f1) = ((rd_T29 l0 0).f1) then (spec_l9Good.l0 k1 l0 (wrap64 (x3_1 + 1))) else (some false)) else (some false)) else (none)) else (some false)) = some r := H
 by_cases c7 : t103 = true
 rotate_left
 ·
  replace c7 := Bool.eq_false_iff.mpr c7; subst c7
  have H1 : (some false) = some r := by rw [if_neg (show ¬ (false = true) by decide)] at H; exact H
  clear H; have H := H1; clear H1
  obtain rfl := Option.some.inj H
  try go_wp2
  replace HB := aK (below_drew1 HB.out)
  have p102 : 0 ≤ (x3_1 : Int) := dA
  have q102 : x3_1 < (l0.length : Int) := dA
  obtain ⟨ad102, A102_2, c102_2, e102, hx102_0, hx102_1, hx102_2, hl102_2, hi102_2⟩ := at_T29 HR0.out x3_1 p102 q102; have hw102_2 := hx102_2; have hw102_1 := hx102_1; have hw102_0 := hx102_0; cases e102; replace hx102_0 := (HB.out.cell (World.block_lt_of_cell? w _ hx102_0)).trans hx102_0; replace hx102_1 := (HB.out.cell (World.block_lt_of_cell? w _ hx102_1)).trans hx102_1; replace hx102_2 := (HB.out.cell (World.block_lt_of_cell? w _ hx102_2)).trans hx102_2; have HR102_2 := aK hi102_2; have HC102_2 := aK hl102_2; clear hi102_2 hl102_2; replace p102 := eq_true p102; replace q102 := eq_true q102
  refine start_ (n := 30) (S := fun w' => w'.cell? (ad102.add ((x3_1).toNat * 3)) = some (.int .i64 ((rd_T29 l0 x3_1).f0)) ∧ w'.cell? ⟨(ad102.add ((x3_1).toNat * 3)).block, (ad102.add ((x3_1).toNat * 3)).off + 1, none⟩ = some (.int .i64 ((rd_T29 l0 x3_1).f1)) ∧ w'.cell? ⟨(ad102.add ((x3_1).toNat * 3)).block, (ad102.add ((x3_1).toNat * 3)).off + 2, none⟩ = some (.slice A102_2 ((rd_T29 l0 x3_1).f2).length c102_2)) (ds := []) (bz [0, 30]) (by kernel_rfl) rfl rfl ⟨((HB.out.cell (World.block_lt_of_cell? w _ hw102_0)).trans hw102_0), ((HB.out.cell (World.block_lt_of_cell? w _ hw102_1)).trans hw102_1), ((HB.out.cell (World.block_lt_of_cell? w _ hw102_2)).trans hw102_2)⟩ (fun hHeld => ?_); refine with_tabW spec_l9Good.tab6 spec_l9Good.bits6 (fun HT_ HW_ => ?_)
  generalize wr.drew = w17 at HB HR102_2 hx102_0 hx102_1 hx102_2 hHeld ⊢
  refine pz 0 14 [1, 29] HT_ ?_
  refine pz 1 15 [2, 28] HT_ ?_
  refine pz 2 16 [3, 27] HT_ ?_
  refine tz 3 17 [4, 26] HT_ HW_ rfl (by rintro w' ⟨s0, s1, s2⟩; go_simp; with_reducible rfl) hHeld ?_
  refine oz 4 18 [5, 25] HT_ fun K hK => ?_
  refine gs Try.func47 #[.agg #[.int .i64 ((rd_T29 l0 x3_1).f0), .int .i64 ((rd_T29 l0 x3_1).f1), .slice A102_2 ((rd_T29 l0 x3_1).f2).length c102_2]] ?_
  with_reducible refine (spec_l2Good.calls k1 ((rd_T29 l0 x3_1).f0) ((rd_T29 l0 x3_1).f1) _ _ ((rd_T29 l0 x3_1).f2) false _ ?side1 ?side2 A6.out).mono ?_
  (case side1 => exact cB HR102_2 HB)
  (case side2 => exact HC102_2.out)
  rintro e w18 ⟨rfl, hb⟩
  refine ⟨_, rfl, ?_⟩
  replace HB := bS HB hb
  (try clear hb)
  (try clear hb2)
  (try clear hk)
  (try clear hi)
  refine hK.out _ _ ⟨((HB.out.cell (World.block_lt_of_cell? w _ hw102_0)).trans hw102_0), ((HB.out.cell (World.block_lt_of_cell? w _ hw102_1)).trans hw102_1), ((HB.out.cell (World.block_lt_of_cell? w _ hw102_2)).trans hw102_2)⟩ (fun hHeld => ?_)
  clear hK K
  refine nm 18 ?_
  refine pz 5 19 [6, 24] HT_ ?_
  refine pz 6 20 [7, 23] HT_ ?_
  refine pd 7 21 [8, 22] HT_ ?_
  refine pd 8 22 [9, 21] HT_ ?_
  refine pd 9 23 [10, 20] HT_ ?_
  refine pd 10 24 [11, 19] HT_ ?_
  refine pd 11 25 [12, 18] HT_ ?_
  refine pd 12 26 [13, 17] HT_ ?_
  refine pd 13 27 [14, 16] HT_ ?_
  refine pd 14 28 [15, 15] HT_ ?_
  refine pd 15 29 [16, 14] HT_ ?_
  refine pd 16 30 [17, 13] HT_ ?_
  refine pz 17 31 [18, 12] HT_ ?_
  refine pz 18 32 [19, 11] HT_ ?_
  refine pd 19 33 [20, 10] HT_ ?_
  refine pd 20 34 [21, 9] HT_ ?_
  refine pd 21 35 [22, 8] HT_ ?_
  refine pd 22 36 [23, 7] HT_ ?_
  refine pd 23 37 [24, 6] HT_ ?_
  refine pd 24 38 [25, 5] HT_ ?_
  refine pd 25 39 [26, 4] HT_ ?_
  refine pd 26 40 [27, 3] HT_ ?_
  refine pd 27 41 [28, 2] HT_ ?_
  refine pd 28 42 [29, 1] HT_ ?_
  refine pz 29 43 [30, 0] HT_ ?_
  refine done_ (done_of HT_.out (by kernel_rfl)) ?_
  try go_wp2
  go_ret
  exact ⟨er, pT HB.out⟩
 subst c7
 have H1 : (if 0 < (l0.length : Int) then (if ((rd_T29 l0 x3_1).f0) = ((rd_T29 l0 0).f0) then (if ((rd_T29 l0 x3_1).f1) = ((rd_T29 l0 0).f1) then (spec_l9Good.l0 k1 l0 (wrap64 (x3_1 + 1))) else (some false)) else (some false)) else (none)) = some r := by rw [if_pos rfl] at H; exact H
 clear H
 have H := H1
 clear H1
 by_cases c8 : 0 < (l0.length : Int)
 rotate_left
 ·
  rw [if_neg c8] at H
  exact absurd H (by simp)
 rw [if_pos c8] at H
 have c8b0 : decide (0 < (l0.length : Int)) = true := decide_eq_true c8
 have c8b1 : decide (0 < l0.length) = true := decide_eq_true (by omega)
 clear c8
 by_cases c9 : ((rd_T29 l0 x3_1).f0) = ((rd_T29 l0 0).f0)
 rotate_left
 ·
  rw [if_neg c9] at H
  have c9b0 : (((rd_T29 l0 x3_1).f0) == ((rd_T29 l0 0).f0)) = false := beq_eq_false_iff_ne.mpr c9
  have c9b1 : (((rd_T29 l0 x3_1).f0) != ((rd_T29 l0 0).f0)) = true := bne_iff_ne.mpr c9
  obtain rfl := Option.some.inj H
  try go_wp2
  replace HB := aK (below_drew1 HB.out)
  have p102 : 0 ≤ (x3_1 : Int) := dA
  have q102 : x3_1 < (l0.length : Int) := dA
  obtain ⟨ad102, A102_2, c102_2, e102, hx102_0, hx102_1, hx102_2, hl102_2, hi102_2⟩ := at_T29 HR0.out x3_1 p102 q102; have hw102_2 := hx102_2; have hw102_1 := hx102_1; have hw102_0 := hx102_0; cases e102; replace hx102_0 := (HB.out.cell (World.block_lt_of_cell? w _ hx102_0)).trans hx102_0; replace hx102_1 := (HB.out.cell (World.block_lt_of_cell? w _ hx102_1)).trans hx102_1; replace hx102_2 := (HB.out.cell (World.block_lt_of_cell? w _ hx102_2)).trans hx102_2; have HR102_2 := aK hi102_2; have HC102_2 := aK hl102_2; clear hi102_2 hl102_2; replace p102 := eq_true p102; replace q102 := eq_true q102
  have p104 : 0 ≤ (x3_1 : Int) := dA
  have q104 : x3_1 < (l0.length : Int) := dA
  obtain ⟨ad104, A104_2, c104_2, e104, hx104_0, hx104_1, hx104_2, hl104_2, hi104_2⟩ := at_T29 HR0.out x3_1 p104 q104; have hw104_2 := hx104_2; have hw104_1 := hx104_1; have hw104_0 := hx104_0
  obtain rfl : ad102 = ad104 := (by injection e104)
  replace hx104_0 := (HB.out.cell (World.block_lt_of_cell? w _ hx104_0)).trans hx104_0; replace hx104_1 := (HB.out.cell (World.block_lt_of_cell? w _ hx104_1)).trans hx104_1; replace hx104_2 := (HB.out.cell (World.block_lt_of_cell? w _ hx104_2)).trans hx104_2; have HR104_2 := aK hi104_2; have HC104_2 := aK hl104_2; clear hi104_2 hl104_2; replace p104 := eq_true p104; replace q104 := eq_true q104
  have p105 : 0 ≤ (0 : Int) := (by omega)
  have q105 : 0 < (l0.length : Int) := dA
  obtain ⟨ad105, A105_2, c105_2, e105, hx105_0, hx105_1, hx105_2, hl105_2, hi105_2⟩ := at_T29 HR0.out 0 p105 q105; have hw105_2 := hx105_2
  (try rw [show ((0 : Int)).toNat = 0 from rfl] at hw105_2)
  (try rw [show 0 * 3 = 0 from rfl] at hw105_2)
  (try rw [Addr.add_zero'] at hw105_2)
  have hw105_1 := hx105_1
  (try rw [show ((0 : Int)).toNat = 0 from rfl] at hw105_1)
  (try rw [show 0 * 3 = 0 from rfl] at hw105_1)
  (try rw [Addr.add_zero'] at hw105_1)
  have hw105_0 := hx105_0
  (try rw [show ((0 : Int)).toNat = 0 from rfl] at hw105_0)
  (try rw [show 0 * 3 = 0 from rfl] at hw105_0)
  (try rw [Addr.add_zero'] at hw105_0)
  obtain rfl : ad102 = ad105 := (by injection e105)
  have qi105 : (0 < l0.length) = True := eq_true (by omega)
  (try rw [show ((0 : Int)).toNat = 0 from rfl] at hx105_0)
  (try rw [show 0 * 3 = 0 from rfl] at hx105_0)
  (try rw [Addr.add_zero'] at hx105_0)
  (try rw [show ((0 : Int)).toNat = 0 from rfl] at hx105_1)
  (try rw [show 0 * 3 = 0 from rfl] at hx105_1)
  (try rw [Addr.add_zero'] at hx105_1)
  (try rw [show ((0 : Int)).toNat = 0 from rfl] at hx105_2)
  (try rw [show 0 * 3 = 0 from rfl] at hx105_2)
  (try rw [Addr.add_zero'] at hx105_2)
  replace hx105_0 := (HB.out.cell (World.block_lt_of_cell? w _ hx105_0)).trans hx105_0; replace hx105_1 := (HB.out.cell (World.block_lt_of_cell? w _ hx105_1)).trans hx105_1; replace hx105_2 := (HB.out.cell (World.block_lt_of_cell? w _ hx105_2)).trans hx105_2; have HR105_2 := aK hi105_2; have HC105_2 := aK hl105_2; clear hi105_2 hl105_2; replace p105 := eq_true p105; replace q105 := eq_true q105
  refine start_ (n := 30) (S := fun w' => w'.cell? (ad102.add ((x3_1).toNat * 3)) = some (.int .i64 ((rd_T29 l0 x3_1).f0)) ∧ w'.cell? ⟨(ad102.add ((x3_1).toNat * 3)).block, (ad102.add ((x3_1).toNat * 3)).off + 1, none⟩ = some (.int .i64 ((rd_T29 l0 x3_1).f1)) ∧ w'.cell? ⟨(ad102.add ((x3_1).toNat * 3)).block, (ad102.add ((x3_1).toNat * 3)).off + 2, none⟩ = some (.slice A102_2 ((rd_T29 l0 x3_1).f2).length c102_2) ∧ w'.cell? (ad102.add ((x3_1).toNat * 3)) = some (.int .i64 ((rd_T29 l0 x3_1).f0)) ∧ w'.cell? ⟨(ad102.add ((x3_1).toNat * 3)).block, (ad102.add ((x3_1).toNat * 3)).off + 1, none⟩ = some (.int .i64 ((rd_T29 l0 x3_1).f1)) ∧ w'.cell? ⟨(ad102.add ((x3_1).toNat * 3)).block, (ad102.add ((x3_1).toNat * 3)).off + 2, none⟩ = some (.slice A104_2 ((rd_T29 l0 x3_1).f2).length c104_2) ∧ w'.cell? ad102 = some (.int .i64 ((rd_T29 l0 0).f0)) ∧ w'.cell? ⟨ad102.block, ad102.off + 1, none⟩ = some (.int .i64 ((rd_T29 l0 0).f1)) ∧ w'.cell? ⟨ad102.block, ad102.off + 2, none⟩ = some (.slice A105_2 ((rd_T29 l0 0).f2).length c105_2)) (ds := []) (bz [0, 30]) (by kernel_rfl) rfl rfl ⟨((HB.out.cell (World.block_lt_of_cell? w _ hw102_0)).trans hw102_0), ((HB.out.cell (World.block_lt_of_cell? w _ hw102_1)).trans hw102_1), ((HB.out.cell (World.block_lt_of_cell? w _ hw102_2)).trans hw102_2), ((HB.out.cell (World.block_lt_of_cell? w _ hw104_0)).trans hw104_0), ((HB.out.cell (World.block_lt_of_cell? w _ hw104_1)).trans hw104_1), ((HB.out.cell (World.block_lt_of_cell? w _ hw104_2)).trans hw104_2), ((HB.out.cell (World.block_lt_of_cell? w _ hw105_0)).trans hw105_0), ((HB.out.cell (World.block_lt_of_cell? w _ hw105_1)).trans hw105_1), ((HB.out.cell (World.block_lt_of_cell? w _ hw105_2)).trans hw105_2)⟩ (fun hHeld => ?_); refine with_tabW spec_l9Good.tab6 spec_l9Good.bits6 (fun HT_ HW_ => ?_)
  generalize wr.drew = w15 at HB HR102_2 HR104_2 HR105_2 hx102_0 hx102_1 hx102_2 hx104_0 hx104_1 hx104_2 hx105_0 hx105_1 hx105_2 hHeld ⊢
  refine pz 0 14 [1, 29] HT_ ?_
  refine pz 1 15 [2, 28] HT_ ?_
  refine pz 2 16 [3, 27] HT_ ?_
  refine tz 3 17 [4, 26] HT_ HW_ rfl (by rintro w' ⟨s0, s1, s2, s3, s4, s5, s6, s7, s8⟩; go_simp; with_reducible rfl) hHeld ?_
  refine oz 4 18 [5, 25] HT_ fun K hK => ?_
  refine gs Try.func47 #[.agg #[.int .i64 ((rd_T29 l0 x3_1).f0), .int .i64 ((rd_T29 l0 x3_1).f1), .slice A102_2 ((rd_T29 l0 x3_1).f2).length c102_2]] ?_
  with_reducible refine (spec_l2Good.calls k1 ((rd_T29 l0 x3_1).f0) ((rd_T29 l0 x3_1).f1) _ _ ((rd_T29 l0 x3_1).f2) true _ ?side1 ?side2 A6.out).mono ?_
  (case side1 => exact cB HR102_2 HB)
  (case side2 => exact HC102_2.out)
  rintro e w16 ⟨rfl, hb⟩
  refine ⟨_, rfl, ?_⟩
  replace HB := bS HB hb
  (try clear hb)
  (try clear hb2)
  (try clear hk)
  (try clear hi)
  refine hK.out _ _ ⟨((HB.out.cell (World.block_lt_of_cell? w _ hw102_0)).trans hw102_0), ((HB.out.cell (World.block_lt_of_cell? w _ hw102_1)).trans hw102_1), ((HB.out.cell (World.block_lt_of_cell? w _ hw102_2)).trans hw102_2), ((HB.out.cell (World.block_lt_of_cell? w _ hw104_0)).trans hw104_0), ((HB.out.cell (World.block_lt_of_cell? w _ hw104_1)).trans hw104_1), ((HB.out.cell (World.block_lt_of_cell? w _ hw104_2)).trans hw104_2), ((HB.out.cell (World.block_lt_of_cell? w _ hw105_0)).trans hw105_0), ((HB.out.cell (World.block_lt_of_cell? w _ hw105_1)).trans hw105_1), ((HB.out.cell (World.block_lt_of_cell? w _ hw105_2)).trans hw105_2)⟩ (fun hHeld => ?_)
  clear hK K
  refine nm 18 ?_
  refine pz 5 19 [6, 24] HT_ ?_
  refine pz 6 20 [7, 23] HT_ ?_
  refine pz 7 21 [8, 22] HT_ ?_
  refine pz 8 22 [9, 21] HT_ ?_
  refine pz 9 23 [10, 20] HT_ ?_
  refine pz 10 24 [11, 19] HT_ ?_
  refine pz 12 26 [11, 1, 1, 17] HT_ ?_
  refine pz 13 27 [11, 1, 2, 16] HT_ ?_
  refine pz 14 28 [11, 1, 3, 15] HT_ ?_
  refine tz 11 25 [15, 15] HT_ HW_ rfl (by rintro w' ⟨s0, s1, s2, s3, s4, s5, s6, s7, s8⟩; go_simp; with_reducible rfl) hHeld ?_
  refine tz 15 29 [16, 14] HT_ HW_ rfl (by rintro w' ⟨s0, s1, s2, s3, s4, s5, s6, s7, s8⟩; go_simp; with_reducible rfl) hHeld ?_
  refine pz 16 30 [17, 13] HT_ ?_
  refine pz 17 31 [18, 12] HT_ ?_
  refine pz 18 32 [19, 11] HT_ ?_
  refine pd 19 33 [20, 10] HT_ ?_
  refine pd 20 34 [21, 9] HT_ ?_
  refine pd 21 35 [22, 8] HT_ ?_
  refine pd 22 36 [23, 7] HT_ ?_
  refine pd 23 37 [24, 6] HT_ ?_
  refine pd 24 38 [25, 5] HT_ ?_
  refine pd 25 39 [26, 4] HT_ ?_
  refine pd 26 40 [27, 3] HT_ ?_
  refine pd 27 41 [28, 2] HT_ ?_
  refine pd 28 42 [29, 1] HT_ ?_
  refine pz 29 43 [30, 0] HT_ ?_
  refine done_ (done_of HT_.out (by kernel_rfl)) ?_
  try go_wp2
  go_ret
  exact ⟨er, pT HB.out⟩
 rw [if_pos c9] at H
 have c9b0 : (((rd_T29 l0 x3_1).f0) == ((rd_T29 l0 0).f0)) = true := beq_iff_eq.mpr c9
 have c9b1 : (((rd_T29 l0 x3_1).f0) != ((rd_T29 l0 0).f0)) = false := bne_eq_false_iff_eq.mpr c9
 clear c9
 by_cases c10 : ((rd_T29 l0 x3_1).f1) = ((rd_T29 l0 0).f1)
 ·
  rw [if_pos c10] at H
  have c10b0 : (((rd_T29 l0 x3_1).f1) == ((rd_T29 l0 0).f1)) = true := beq_iff_eq.mpr c10
  have c10b1 : (((rd_T29 l0 x3_1).f1) != ((rd_T29 l0 0).f1)) = false := bne_eq_false_iff_eq.mpr c10
  clear c10; have H' := aK H; clear H
  try go_wp2
  replace HB := aK (below_drew1 HB.out)
  have p102 : 0 ≤ (x3_1 : Int) := dA
  have q102 : x3_1 < (l0.length : Int) := dA
  obtain ⟨ad102, A102_2, c102_2, e102, hx102_0, hx102_1, hx102_2, hl102_2, hi102_2⟩ := at_T29 HR0.out x3_1 p102 q102; have hw102_2 := hx102_2; have hw102_1 := hx102_1; have hw102_0 := hx102_0; cases e102; replace hx102_0 := (HB.out.cell (World.block_lt_of_cell? w _ hx102_0)).trans hx102_0; replace hx102_1 := (HB.out.cell (World.block_lt_of_cell? w _ hx102_1)).trans hx102_1; replace hx102_2 := (HB.out.cell (World.block_lt_of_cell? w _ hx102_2)).trans hx102_2; have HR102_2 := aK hi102_2; have HC102_2 := aK hl102_2; clear hi102_2 hl102_2; replace p102 := eq_true p102; replace q102 := eq_true q102
  have p104 : 0 ≤ (x3_1 : Int) := dA
  have q104 : x3_1 < (l0.length : Int) := dA
  obtain ⟨ad104, A104_2, c104_2, e104, hx104_0, hx104_1, hx104_2, hl104_2, hi104_2⟩ := at_T29 HR0.out x3_1 p104 q104; have hw104_2 := hx104_2; have hw104_1 := hx104_1; have hw104_0 := hx104_0
  obtain rfl : ad102 = ad104 := (by injection e104)
  replace hx104_0 := (HB.out.cell (World.block_lt_of_cell? w _ hx104_0)).trans hx104_0; replace hx104_1 := (HB.out.cell (World.block_lt_of_cell? w _ hx104_1)).trans hx104_1; replace hx104_2 := (HB.out.cell (World.block_lt_of_cell? w _ hx104_2)).trans hx104_2; have HR104_2 := aK hi104_2; have HC104_2 := aK hl104_2; clear hi104_2 hl104_2; replace p104 := eq_true p104; replace q104 := eq_true q104
  have p105 : 0 ≤ (0 : Int) := (by omega)
  have q105 : 0 < (l0.length : Int) := dA
  obtain ⟨ad105, A105_2, c105_2, e105, hx105_0, hx105_1, hx105_2, hl105_2, hi105_2⟩ := at_T29 HR0.out 0 p105 q105; have hw105_2 := hx105_2
  (try rw [show ((0 : Int)).toNat = 0 from rfl] at hw105_2)
  (try rw [show 0 * 3 = 0 from rfl] at hw105_2)
  (try rw [Addr.add_zero'] at hw105_2)
  have hw105_1 := hx105_1
  (try rw [show ((0 : Int)).toNat = 0 from rfl] at hw105_1)
  (try rw [show 0 * 3 = 0 from rfl] at hw105_1)
  (try rw [Addr.add_zero'] at hw105_1)
  have hw105_0 := hx105_0
  (try rw [show ((0 : Int)).toNat = 0 from rfl] at hw105_0)
  (try rw [show 0 * 3 = 0 from rfl] at hw105_0)
  (try rw [Addr.add_zero'] at hw105_0)
  obtain rfl : ad102 = ad105 := (by injection e105)
  have qi105 : (0 < l0.length) = True := eq_true (by omega)
  (try rw [show ((0 : Int)).toNat = 0 from rfl] at hx105_0)
  (try rw [show 0 * 3 = 0 from rfl] at hx105_0)
  (try rw [Addr.add_zero'] at hx105_0)
  (try rw [show ((0 : Int)).toNat = 0 from rfl] at hx105_1)
  (try rw [show 0 * 3 = 0 from rfl] at hx105_1)
  (try rw [Addr.add_zero'] at hx105_1)
  (try rw [show ((0 : Int)).toNat = 0 from rfl] at hx105_2)
  (try rw [show 0 * 3 = 0 from rfl] at hx105_2)
  (try rw [Addr.add_zero'] at hx105_2)
  replace hx105_0 := (HB.out.cell (World.block_lt_of_cell? w _ hx105_0)).trans hx105_0; replace hx105_1 := (HB.out.cell (World.block_lt_of_cell? w _ hx105_1)).trans hx105_1; replace hx105_2 := (HB.out.cell (World.block_lt_of_cell? w _ hx105_2)).trans hx105_2; have HR105_2 := aK hi105_2; have HC105_2 := aK hl105_2; clear hi105_2 hl105_2; replace p105 := eq_true p105; replace q105 := eq_true q105
  have p106 : 0 ≤ (x3_1 : Int) := dA
  have q106 : x3_1 < (l0.length : Int) := dA
  obtain ⟨ad106, A106_2, c106_2, e106, hx106_0, hx106_1, hx106_2, hl106_2, hi106_2⟩ := at_T29 HR0.out x3_1 p106 q106; have hw106_2 := hx106_2; have hw106_1 := hx106_1; have hw106_0 := hx106_0
  obtain rfl : ad102 = ad106 := (by injection e106)
  replace hx106_0 := (HB.out.cell (World.block_lt_of_cell? w _ hx106_0)).trans hx106_0; replace hx106_1 := (HB.out.cell (World.block_lt_of_cell? w _ hx106_1)).trans hx106_1; replace hx106_2 := (HB.out.cell (World.block_lt_of_cell? w _ hx106_2)).trans hx106_2; have HR106_2 := aK hi106_2; have HC106_2 := aK hl106_2; clear hi106_2 hl106_2; replace p106 := eq_true p106; replace q106 := eq_true q106; have ea_ := Option.some.inj (hx104_2.symm.trans hx106_2)
  injection ea_ with ea_ en_ ec_
  subst ea_; subst ec_; clear en_
  have p107 : 0 ≤ (0 : Int) := (by omega)
  have q107 : 0 < (l0.length : Int) := dA
  obtain ⟨ad107, A107_2, c107_2, e107, hx107_0, hx107_1, hx107_2, hl107_2, hi107_2⟩ := at_T29 HR0.out 0 p107 q107; have hw107_2 := hx107_2
  (try rw [show ((0 : Int)).toNat = 0 from rfl] at hw107_2)
  (try rw [show 0 * 3 = 0 from rfl] at hw107_2)
  (try rw [Addr.add_zero'] at hw107_2)
  have hw107_1 := hx107_1
  (try rw [show ((0 : Int)).toNat = 0 from rfl] at hw107_1)
  (try rw [show 0 * 3 = 0 from rfl] at hw107_1)
  (try rw [Addr.add_zero'] at hw107_1)
  have hw107_0 := hx107_0
  (try rw [show ((0 : Int)).toNat = 0 from rfl] at hw107_0)
  (try rw [show 0 * 3 = 0 from rfl] at hw107_0)
  (try rw [Addr.add_zero'] at hw107_0)
  obtain rfl : ad102 = ad107 := (by injection e107)
  have qi107 : (0 < l0.length) = True := eq_true (by omega)
  (try rw [show ((0 : Int)).toNat = 0 from rfl] at hx107_0)
  (try rw [show 0 * 3 = 0 from rfl] at hx107_0)
  (try rw [Addr.add_zero'] at hx107_0)
  (try rw [show ((0 : Int)).toNat = 0 from rfl] at hx107_1)
  (try rw [show 0 * 3 = 0 from rfl] at hx107_1)
  (try rw [Addr.add_zero'] at hx107_1)
  (try rw [show ((0 : Int)).toNat = 0 from rfl] at hx107_2)
  (try rw [show 0 * 3 = 0 from rfl] at hx107_2)
  (try rw [Addr.add_zero'] at hx107_2)
  replace hx107_0 := (HB.out.cell (World.block_lt_of_cell? w _ hx107_0)).trans hx107_0; replace hx107_1 := (HB.out.cell (World.block_lt_of_cell? w _ hx107_1)).trans hx107_1; replace hx107_2 := (HB.out.cell (World.block_lt_of_cell? w _ hx107_2)).trans hx107_2; have HR107_2 := aK hi107_2; have HC107_2 := aK hl107_2; clear hi107_2 hl107_2; replace p107 := eq_true p107; replace q107 := eq_true q107; have ea_ := Option.some.inj (hx105_2.symm.trans hx107_2)
  injection ea_ with ea_ en_ ec_
  subst ea_; subst ec_; clear en_
  refine start_ (n := 30) (S := fun w' => w'.cell? (ad102.add ((x3_1).toNat * 3)) = some (.int .i64 ((rd_T29 l0 x3_1).f0)) ∧ w'.cell? ⟨(ad102.add ((x3_1).toNat * 3)).block, (ad102.add ((x3_1).toNat * 3)).off + 1, none⟩ = some (.int .i64 ((rd_T29 l0 x3_1).f1)) ∧ w'.cell? ⟨(ad102.add ((x3_1).toNat * 3)).block, (ad102.add ((x3_1).toNat * 3)).off + 2, none⟩ = some (.slice A102_2 ((rd_T29 l0 x3_1).f2).length c102_2) ∧ w'.cell? (ad102.add ((x3_1).toNat * 3)) = some (.int .i64 ((rd_T29 l0 x3_1).f0)) ∧ w'.cell? ⟨(ad102.add ((x3_1).toNat * 3)).block, (ad102.add ((x3_1).toNat * 3)).off + 1, none⟩ = some (.int .i64 ((rd_T29 l0 x3_1).f1)) ∧ w'.cell? ⟨(ad102.add ((x3_1).toNat * 3)).block, (ad102.add ((x3_1).toNat * 3)).off + 2, none⟩ = some (.slice A104_2 ((rd_T29 l0 x3_1).f2).length c104_2) ∧ w'.cell? ad102 = some (.int .i64 ((rd_T29 l0 0).f0)) ∧ w'.cell? ⟨ad102.block, ad102.off + 1, none⟩ = some (.int .i64 ((rd_T29 l0 0).f1)) ∧ w'.cell? ⟨ad102.block, ad102.off + 2, none⟩ = some (.slice A105_2 ((rd_T29 l0 0).f2).length c105_2) ∧ w'.cell? (ad102.add ((x3_1).toNat * 3)) = some (.int .i64 ((rd_T29 l0 x3_1).f0)) ∧ w'.cell? ⟨(ad102.add ((x3_1).toNat * 3)).block, (ad102.add ((x3_1).toNat * 3)).off + 1, none⟩ = some (.int .i64 ((rd_T29 l0 x3_1).f1)) ∧ w'.cell? ⟨(ad102.add ((x3_1).toNat * 3)).block, (ad102.add ((x3_1).toNat * 3)).off + 2, none⟩ = some (.slice A104_2 ((rd_T29 l0 x3_1).f2).length c104_2) ∧ w'.cell? ad102 = some (.int .i64 ((rd_T29 l0 0).f0)) ∧ w'.cell? ⟨ad102.block, ad102.off + 1, none⟩ = some (.int .i64 ((rd_T29 l0 0).f1)) ∧ w'.cell? ⟨ad102.block, ad102.off + 2, none⟩ = some (.slice A105_2 ((rd_T29 l0 0).f2).length c105_2)) (ds := []) (bz [0, 30]) (by kernel_rfl) rfl rfl ⟨((HB.out.cell (World.block_lt_of_cell? w _ hw102_0)).trans hw102_0), ((HB.out.cell (World.block_lt_of_cell? w _ hw102_1)).trans hw102_1), ((HB.out.cell (World.block_lt_of_cell? w _ hw102_2)).trans hw102_2), ((HB.out.cell (World.block_lt_of_cell? w _ hw104_0)).trans hw104_0), ((HB.out.cell (World.block_lt_of_cell? w _ hw104_1)).trans hw104_1), ((HB.out.cell (World.block_lt_of_cell? w _ hw104_2)).trans hw104_2), ((HB.out.cell (World.block_lt_of_cell? w _ hw105_0)).trans hw105_0), ((HB.out.cell (World.block_lt_of_cell? w _ hw105_1)).trans hw105_1), ((HB.out.cell (World.block_lt_of_cell? w _ hw105_2)).trans hw105_2), ((HB.out.cell (World.block_lt_of_cell? w _ hw106_0)).trans hw106_0), ((HB.out.cell (World.block_lt_of_cell? w _ hw106_1)).trans hw106_1), ((HB.out.cell (World.block_lt_of_cell? w _ hw106_2)).trans hw106_2), ((HB.out.cell (World.block_lt_of_cell? w _ hw107_0)).trans hw107_0), ((HB.out.cell (World.block_lt_of_cell? w _ hw107_1)).trans hw107_1), ((HB.out.cell (World.block_lt_of_cell? w _ hw107_2)).trans hw107_2)⟩ (fun hHeld => ?_); refine with_tabW spec_l9Good.tab6 spec_l9Good.bits6 (fun HT_ HW_ => ?_)
  generalize wr.drew = w11 at HB HR102_2 HR104_2 HR105_2 HR106_2 HR107_2 hx102_0 hx102_1 hx102_2 hx104_0 hx104_1 hx104_2 hx105_0 hx105_1 hx105_2 hx106_0 hx106_1 hx106_2 hx107_0 hx107_1 hx107_2 hHeld ⊢
  refine pz 0 14 [1, 29] HT_ ?_
  refine pz 1 15 [2, 28] HT_ ?_
  refine pz 2 16 [3, 27] HT_ ?_
  refine tz 3 17 [4, 26] HT_ HW_ rfl (by rintro w' ⟨s0, s1, s2, s3, s4, s5, s6, s7, s8, s9, s10, s11, s12, s13, s14⟩; go_simp; with_reducible rfl) hHeld ?_
  refine oz 4 18 [5, 25] HT_ fun K hK => ?_
  refine gs Try.func47 #[.agg #[.int .i64 ((rd_T29 l0 x3_1).f0), .int .i64 ((rd_T29 l0 x3_1).f1), .slice A102_2 ((rd_T29 l0 x3_1).f2).length c102_2]] ?_
  with_reducible refine (spec_l2Good.calls k1 ((rd_T29 l0 x3_1).f0) ((rd_T29 l0 x3_1).f1) _ _ ((rd_T29 l0 x3_1).f2) true _ ?side1 ?side2 A6.out).mono ?_
  (case side1 => exact cB HR102_2 HB)
  (case side2 => exact HC102_2.out)
  rintro e w12 ⟨rfl, hb⟩
  refine ⟨_, rfl, ?_⟩
  replace HB := bS HB hb
  (try clear hb)
  (try clear hb2)
  (try clear hk)
  (try clear hi)
  refine hK.out _ _ ⟨((HB.out.cell (World.block_lt_of_cell? w _ hw102_0)).trans hw102_0), ((HB.out.cell (World.block_lt_of_cell? w _ hw102_1)).trans hw102_1), ((HB.out.cell (World.block_lt_of_cell? w _ hw102_2)).trans hw102_2), ((HB.out.cell (World.block_lt_of_cell? w _ hw104_0)).trans hw104_0), ((HB.out.cell (World.block_lt_of_cell? w _ hw104_1)).trans hw104_1), ((HB.out.cell (World.block_lt_of_cell? w _ hw104_2)).trans hw104_2), ((HB.out.cell (World.block_lt_of_cell? w _ hw105_0)).trans hw105_0), ((HB.out.cell (World.block_lt_of_cell? w _ hw105_1)).trans hw105_1), ((HB.out.cell (World.block_lt_of_cell? w _ hw105_2)).trans hw105_2), ((HB.out.cell (World.block_lt_of_cell? w _ hw106_0)).trans hw106_0), ((HB.out.cell (World.block_lt_of_cell? w _ hw106_1)).trans hw106_1), ((HB.out.cell (World.block_lt_of_cell? w _ hw106_2)).trans hw106_2), ((HB.out.cell (World.block_lt_of_cell? w _ hw107_0)).trans hw107_0), ((HB.out.cell (World.block_lt_of_cell? w _ hw107_1)).trans hw107_1), ((HB.out.cell (World.block_lt_of_cell? w _ hw107_2)).trans hw107_2)⟩ (fun hHeld => ?_)
  clear hK K
  refine nm 18 ?_
  refine pz 5 19 [6, 24] HT_ ?_
  refine pz 6 20 [7, 23] HT_ ?_
  refine pz 7 21 [8, 22] HT_ ?_
  refine pz 8 22 [9, 21] HT_ ?_
  refine pz 9 23 [10, 20] HT_ ?_
  refine pz 10 24 [11, 19] HT_ ?_
  refine pz 12 26 [11, 1, 1, 17] HT_ ?_
  refine pz 13 27 [11, 1, 2, 16] HT_ ?_
  refine pz 14 28 [11, 1, 3, 15] HT_ ?_
  refine tz 11 25 [15, 15] HT_ HW_ rfl (by rintro w' ⟨s0, s1, s2, s3, s4, s5, s6, s7, s8, s9, s10, s11, s12, s13, s14⟩; go_simp; with_reducible rfl) hHeld ?_
  refine tz 15 29 [16, 14] HT_ HW_ rfl (by rintro w' ⟨s0, s1, s2, s3, s4, s5, s6, s7, s8, s9, s10, s11, s12, s13, s14⟩; go_simp; with_reducible rfl) hHeld ?_
  refine pz 16 30 [17, 13] HT_ ?_
  refine pz 17 31 [18, 12] HT_ ?_
  refine pz 18 32 [19, 11] HT_ ?_
  refine pz 19 33 [20, 10] HT_ ?_
  refine pz 20 34 [21, 9] HT_ ?_
  refine pz 21 35 [22, 8] HT_ ?_
  refine pz 22 36 [23, 7] HT_ ?_
  refine pz 24 38 [23, 1, 1, 5] HT_ ?_
  refine pz 25 39 [23, 1, 2, 4] HT_ ?_
  refine pz 26 40 [23, 1, 3, 3] HT_ ?_
  refine tz 23 37 [27, 3] HT_ HW_ rfl (by rintro w' ⟨s0, s1, s2, s3, s4, s5, s6, s7, s8, s9, s10, s11, s12, s13, s14⟩; go_simp; with_reducible rfl) hHeld ?_
  refine tz 27 41 [28, 2] HT_ HW_ rfl (by rintro w' ⟨s0, s1, s2, s3, s4, s5, s6, s7, s8, s9, s10, s11, s12, s13, s14⟩; go_simp; with_reducible rfl) hHeld ?_
  refine pz 28 42 [29, 1] HT_ ?_
  refine pz 29 43 [30, 0] HT_ ?_
  refine done_ (done_of HT_.out (by kernel_rfl)) ?_
  try go_wp2
  go_roundg k1
  case measure => have := HK1.out; omega
  case rel => exact ⟨(wrap64 (x3_1 + 1)), (by first | rfl | (simp; done) | (simp [*]; done)), H', ⟨by have := HK1.out; omega⟩, ⟨pT HB.out⟩⟩
 rw [if_neg c10] at H
 have c10b0 : (((rd_T29 l0 x3_1).f1) == ((rd_T29 l0 0).f1)) = false := beq_eq_false_iff_ne.mpr c10
 have c10b1 : (((rd_T29 l0 x3_1).f1) != ((rd_T29 l0 0).f1)) = true := bne_iff_ne.mpr c10
 obtain rfl := Option.some.inj H
 try go_wp2
 replace HB := aK (below_drew1 HB.out)
 have p102 : 0 ≤ (x3_1 : Int) := dA
 have q102 : x3_1 < (l0.length : Int) := dA
 obtain ⟨ad102, A102_2, c102_2, e102, hx102_0, hx102_1, hx102_2, hl102_2, hi102_2⟩ := at_T29 HR0.out x3_1 p102 q102
 have hw102_2 := hx102_2
 have hw102_1 := hx102_1
 have hw102_0 := hx102_0
 cases e102
 replace hx102_0 := (HB.out.cell (World.block_lt_of_cell? w _ hx102_0)).trans hx102_0
 replace hx102_1 := (HB.out.cell (World.block_lt_of_cell? w _ hx102_1)).trans hx102_1
 replace hx102_2 := (HB.out.cell (World.block_lt_of_cell? w _ hx102_2)).trans hx102_2
 have HR102_2 := aK hi102_2
 have HC102_2 := aK hl102_2
 clear hi102_2 hl102_2
 replace p102 := eq_true p102
 replace q102 := eq_true q102
 have p104 : 0 ≤ (x3_1 : Int) := dA
 have q104 : x3_1 < (l0.length : Int) := dA
 obtain ⟨ad104, A104_2, c104_2, e104, hx104_0, hx104_1, hx104_2, hl104_2, hi104_2⟩ := at_T29 HR0.out x3_1 p104 q104
 have hw104_2 := hx104_2
 have hw104_1 := hx104_1
 have hw104_0 := hx104_0
 obtain rfl : ad102 = ad104 := (by injection e104)
 replace hx104_0 := (HB.out.cell (World.block_lt_of_cell? w _ hx104_0)).trans hx104_0
 replace hx104_1 := (HB.out.cell (World.block_lt_of_cell? w _ hx104_1)).trans hx104_1
 replace hx104_2 := (HB.out.cell (World.block_lt_of_cell? w _ hx104_2)).trans hx104_2
 have HR104_2 := aK hi104_2
 have HC104_2 := aK hl104_2
 clear hi104_2 hl104_2
 replace p104 := eq_true p104
 replace q104 := eq_true q104
 have p105 : 0 ≤ (0 : Int) := (by omega)
 have q105 : 0 < (l0.length : Int) := dA
 obtain ⟨ad105, A105_2, c105_2, e105, hx105_0, hx105_1, hx105_2, hl105_2, hi105_2⟩ := at_T29 HR0.out 0 p105 q105
 have hw105_2 := hx105_2
 (try rw [show ((0 : Int)).toNat = 0 from rfl] at hw105_2)
 (try rw [show 0 * 3 = 0 from rfl] at hw105_2)
 (try rw [Addr.add_zero'] at hw105_2)
 have hw105_1 := hx105_1
 (try rw [show ((0 : Int)).toNat = 0 from rfl] at hw105_1)
 (try rw [show 0 * 3 = 0 from rfl] at hw105_1)
 (try rw [Addr.add_zero'] at hw105_1)
 have hw105_0 := hx105_0
 (try rw [show ((0 : Int)).toNat = 0 from rfl] at hw105_0)
 (try rw [show 0 * 3 = 0 from rfl] at hw105_0)
 (try rw [Addr.add_zero'] at hw105_0)
 obtain rfl : ad102 = ad105 := (by injection e105)
 have qi105 : (0 < l0.length) = True := eq_true (by omega)
 (try rw [show ((0 : Int)).toNat = 0 from rfl] at hx105_0)
 (try rw [show 0 * 3 = 0 from rfl] at hx105_0)
 (try rw [Addr.add_zero'] at hx105_0)
 (try rw [show ((0 : Int)).toNat = 0 from rfl] at hx105_1)
 (try rw [show 0 * 3 = 0 from rfl] at hx105_1)
 (try rw [Addr.add_zero'] at hx105_1)
 (try rw [show ((0 : Int)).toNat = 0 from rfl] at hx105_2)
 (try rw [show 0 * 3 = 0 from rfl] at hx105_2)
 (try rw [Addr.add_zero'] at hx105_2)
 replace hx105_0 := (HB.out.cell (World.block_lt_of_cell? w _ hx105_0)).trans hx105_0
 replace hx105_1 := (HB.out.cell (World.block_lt_of_cell? w _ hx105_1)).trans hx105_1
 replace hx105_2 := (HB.out.cell (World.block_lt_of_cell? w _ hx105_2)).trans hx105_2
 have HR105_2 := aK hi105_2
 have HC105_2 := aK hl105_2
 clear hi105_2 hl105_2
 replace p105 := eq_true p105
 replace q105 := eq_true q105
 have p106 : 0 ≤ (x3_1 : Int) := dA
 have q106 : x3_1 < (l0.length : Int) := dA
 obtain ⟨ad106, A106_2, c106_2, e106, hx106_0, hx106_1, hx106_2, hl106_2, hi106_2⟩ := at_T29 HR0.out x3_1 p106 q106
 have hw106_2 := hx106_2
 have hw106_1 := hx106_1
 have hw106_0 := hx106_0
 obtain rfl : ad102 = ad106 := (by injection e106)
 replace hx106_0 := (HB.out.cell (World.block_lt_of_cell? w _ hx106_0)).trans hx106_0
 replace hx106_1 := (HB.out.cell (World.block_lt_of_cell? w _ hx106_1)).trans hx106_1
 replace hx106_2 := (HB.out.cell (World.block_lt_of_cell? w _ hx106_2)).trans hx106_2
 have HR106_2 := aK hi106_2
 have HC106_2 := aK hl106_2
 clear hi106_2 hl106_2
 replace p106 := eq_true p106
 replace q106 := eq_true q106
 have ea_ := Option.some.inj (hx104_2.symm.trans hx106_2)
 injection ea_ with ea_ en_ ec_
 subst ea_
 subst ec_
 clear en_
 have p107 : 0 ≤ (0 : Int) := (by omega)
 have q107 : 0 < (l0.length : Int) := dA
 obtain ⟨ad107, A107_2, c107_2, e107, hx107_0, hx107_1, hx107_2, hl107_2, hi107_2⟩ := at_T29 HR0.out 0 p107 q107
 have hw107_2 := hx107_2
 (try rw [show ((0 : Int)).toNat = 0 from rfl] at hw107_2)
 (try rw [show 0 * 3 = 0 from rfl] at hw107_2)
 (try rw [Addr.add_zero'] at hw107_2)
 have hw107_1 := hx107_1
 (try rw [show ((0 : Int)).toNat = 0 from rfl] at hw107_1)
 (try rw [show 0 * 3 = 0 from rfl] at hw107_1)
 (try rw [Addr.add_zero'] at hw107_1)
 have hw107_0 := hx107_0
 (try rw [show ((0 : Int)).toNat = 0 from rfl] at hw107_0)
 (try rw [show 0 * 3 = 0 from rfl] at hw107_0)
 (try rw [Addr.add_zero'] at hw107_0)
 obtain rfl : ad102 = ad107 := (by injection e107)
 have qi107 : (0 < l0.length) = True := eq_true (by omega)
 (try rw [show ((0 : Int)).toNat = 0 from rfl] at hx107_0)
 (try rw [show 0 * 3 = 0 from rfl] at hx107_0)
 (try rw [Addr.add_zero'] at hx107_0)
 (try rw [show ((0 : Int)).toNat = 0 from rfl] at hx107_1)
 (try rw [show 0 * 3 = 0 from rfl] at hx107_1)
 (try rw [Addr.add_zero'] at hx107_1)
 (try rw [show ((0 : Int)).toNat = 0 from rfl] at hx107_2)
 (try rw [show 0 * 3 = 0 from rfl] at hx107_2)
 (try rw [Addr.add_zero'] at hx107_2)
 replace hx107_0 := (HB.out.cell (World.block_lt_of_cell? w _ hx107_0)).trans hx107_0
 replace hx107_1 := (HB.out.cell (World.block_lt_of_cell? w _ hx107_1)).trans hx107_1
 replace hx107_2 := (HB.out.cell (World.block_lt_of_cell? w _ hx107_2)).trans hx107_2
 have HR107_2 := aK hi107_2
 have HC107_2 := aK hl107_2
 clear hi107_2 hl107_2
 replace p107 := eq_true p107
 replace q107 := eq_true q107
 have ea_ := Option.some.inj (hx105_2.symm.trans hx107_2)
 injection ea_ with ea_ en_ ec_
 subst ea_
 subst ec_
 clear en_
 refine start_ (n := 30) (S := fun w' => w'.cell? (ad102.add ((x3_1).toNat * 3)) = some (.int .i64 ((rd_T29 l0 x3_1).f0)) ∧ w'.cell? ⟨(ad102.add ((x3_1).toNat * 3)).block, (ad102.add ((x3_1).toNat * 3)).off + 1, none⟩ = some (.int .i64 ((rd_T29 l0 x3_1).f1)) ∧ w'.cell? ⟨(ad102.add ((x3_1).toNat * 3)).block, (ad102.add ((x3_1).toNat * 3)).off + 2, none⟩ = some (.slice A102_2 ((rd_T29 l0 x3_1).f2).length c102_2) ∧ w'.cell? (ad102.add ((x3_1).toNat * 3)) = some (.int .i64 ((rd_T29 l0 x3_1).f0)) ∧ w'.cell? ⟨(ad102.add ((x3_1).toNat * 3)).block, (ad102.add ((x3_1).toNat * 3)).off + 1, none⟩ = some (.int .i64 ((rd_T29 l0 x3_1).f1)) ∧ w'.cell? ⟨(ad102.add ((x3_1).toNat * 3)).block, (ad102.add ((x3_1).toNat * 3)).off + 2, none⟩ = some (.slice A104_2 ((rd_T29 l0 x3_1).f2).length c104_2) ∧ w'.cell? ad102 = some (.int .i64 ((rd_T29 l0 0).f0)) ∧ w'.cell? ⟨ad102.block, ad102.off + 1, none⟩ = some (.int .i64 ((rd_T29 l0 0).f1)) ∧ w'.cell? ⟨ad102.block, ad102.off + 2, none⟩ = some (.slice A105_2 ((rd_T29 l0 0).f2).length c105_2) ∧ w'.cell? (ad102.add ((x3_1).toNat * 3)) = some (.int .i64 ((rd_T29 l0 x3_1).f0)) ∧ w'.cell? ⟨(ad102.add ((x3_1).toNat * 3)).block, (ad102.add ((x3_1).toNat * 3)).off + 1, none⟩ = some (.int .i64 ((rd_T29 l0 x3_1).f1)) ∧ w'.cell? ⟨(ad102.add ((x3_1).toNat * 3)).block, (ad102.add ((x3_1).toNat * 3)).off + 2, none⟩ = some (.slice A104_2 ((rd_T29 l0 x3_1).f2).length c104_2) ∧ w'.cell? ad102 = some (.int .i64 ((rd_T29 l0 0).f0)) ∧ w'.cell? ⟨ad102.block, ad102.off + 1, none⟩ = some (.int .i64 ((rd_T29 l0 0).f1)) ∧ w'.cell? ⟨ad102.block, ad102.off + 2, none⟩ = some (.slice A105_2 ((rd_T29 l0 0).f2).length c105_2)) (ds := []) (bz [0, 30]) (by kernel_rfl) rfl rfl ⟨((HB.out.cell (World.block_lt_of_cell? w _ hw102_0)).trans hw102_0), ((HB.out.cell (World.block_lt_of_cell? w _ hw102_1)).trans hw102_1), ((HB.out.cell (World.block_lt_of_cell? w _ hw102_2)).trans hw102_2), ((HB.out.cell (World.block_lt_of_cell? w _ hw104_0)).trans hw104_0), ((HB.out.cell (World.block_lt_of_cell? w _ hw104_1)).trans hw104_1), ((HB.out.cell (World.block_lt_of_cell? w _ hw104_2)).trans hw104_2), ((HB.out.cell (World.block_lt_of_cell? w _ hw105_0)).trans hw105_0), ((HB.out.cell (World.block_lt_of_cell? w _ hw105_1)).trans hw105_1), ((HB.out.cell (World.block_lt_of_cell? w _ hw105_2)).trans hw105_2), ((HB.out.cell (World.block_lt_of_cell? w _ hw106_0)).trans hw106_0), ((HB.out.cell (World.block_lt_of_cell? w _ hw106_1)).trans hw106_1), ((HB.out.cell (World.block_lt_of_cell? w _ hw106_2)).trans hw106_2), ((HB.out.cell (World.block_lt_of_cell? w _ hw107_0)).trans hw107_0), ((HB.out.cell (World.block_lt_of_cell? w _ hw107_1)).trans hw107_1), ((HB.out.cell (World.block_lt_of_cell? w _ hw107_2)).trans hw107_2)⟩ (fun hHeld => ?_); refine with_tabW spec_l9Good.tab6 spec_l9Good.bits6 (fun HT_ HW_ => ?_)
 generalize wr.drew = w13 at HB HR102_2 HR104_2 HR105_2 HR106_2 HR107_2 hx102_0 hx102_1 hx102_2 hx104_0 hx104_1 hx104_2 hx105_0 hx105_1 hx105_2 hx106_0 hx106_1 hx106_2 hx107_0 hx107_1 hx107_2 hHeld ⊢
 refine pz 0 14 [1, 29] HT_ ?_
 refine pz 1 15 [2, 28] HT_ ?_
 refine pz 2 16 [3, 27] HT_ ?_
 refine tz 3 17 [4, 26] HT_ HW_ rfl (by rintro w' ⟨s0, s1, s2, s3, s4, s5, s6, s7, s8, s9, s10, s11, s12, s13, s14⟩; go_simp; with_reducible rfl) hHeld ?_
 refine oz 4 18 [5, 25] HT_ fun K hK => ?_
 refine gs Try.func47 #[.agg #[.int .i64 ((rd_T29 l0 x3_1).f0), .int .i64 ((rd_T29 l0 x3_1).f1), .slice A102_2 ((rd_T29 l0 x3_1).f2).length c102_2]] ?_
 with_reducible refine (spec_l2Good.calls k1 ((rd_T29 l0 x3_1).f0) ((rd_T29 l0 x3_1).f1) _ _ ((rd_T29 l0 x3_1).f2) true _ ?side1 ?side2 A6.out).mono ?_
 (case side1 => exact cB HR102_2 HB)
 (case side2 => exact HC102_2.out)
 rintro e w14 ⟨rfl, hb⟩
 refine ⟨_, rfl, ?_⟩
 replace HB := bS HB hb
 (try clear hb)
 (try clear hb2)
 (try clear hk)
 (try clear hi)
 refine hK.out _ _ ⟨((HB.out.cell (World.block_lt_of_cell? w _ hw102_0)).trans hw102_0), ((HB.out.cell (World.block_lt_of_cell? w _ hw102_1)).trans hw102_1), ((HB.out.cell (World.block_lt_of_cell? w _ hw102_2)).trans hw102_2), ((HB.out.cell (World.block_lt_of_cell? w _ hw104_0)).trans hw104_0), ((HB.out.cell (World.block_lt_of_cell? w _ hw104_1)).trans hw104_1), ((HB.out.cell (World.block_lt_of_cell? w _ hw104_2)).trans hw104_2), ((HB.out.cell (World.block_lt_of_cell? w _ hw105_0)).trans hw105_0), ((HB.out.cell (World.block_lt_of_cell? w _ hw105_1)).trans hw105_1), ((HB.out.cell (World.block_lt_of_cell? w _ hw105_2)).trans hw105_2), ((HB.out.cell (World.block_lt_of_cell? w _ hw106_0)).trans hw106_0), ((HB.out.cell (World.block_lt_of_cell? w _ hw106_1)).trans hw106_1), ((HB.out.cell (World.block_lt_of_cell? w _ hw106_2)).trans hw106_2), ((HB.out.cell (World.block_lt_of_cell? w _ hw107_0)).trans hw107_0), ((HB.out.cell (World.block_lt_of_cell? w _ hw107_1)).trans hw107_1), ((HB.out.cell (World.block_lt_of_cell? w _ hw107_2)).trans hw107_2)⟩ (fun hHeld => ?_)
 clear hK K
 refine nm 18 ?_
 refine pz 5 19 [6, 24] HT_ ?_
 refine pz 6 20 [7, 23] HT_ ?_
 refine pz 7 21 [8, 22] HT_ ?_
 refine pz 8 22 [9, 21] HT_ ?_
 refine pz 9 23 [10, 20] HT_ ?_
 refine pz 10 24 [11, 19] HT_ ?_
 refine pz 12 26 [11, 1, 1, 17] HT_ ?_
 refine pz 13 27 [11, 1, 2, 16] HT_ ?_
 refine pz 14 28 [11, 1, 3, 15] HT_ ?_
 refine tz 11 25 [15, 15] HT_ HW_ rfl (by rintro w' ⟨s0, s1, s2, s3, s4, s5, s6, s7, s8, s9, s10, s11, s12, s13, s14⟩; go_simp; with_reducible rfl) hHeld ?_
 refine tz 15 29 [16, 14] HT_ HW_ rfl (by rintro w' ⟨s0, s1, s2, s3, s4, s5, s6, s7, s8, s9, s10, s11, s12, s13, s14⟩; go_simp; with_reducible rfl) hHeld ?_
 refine pz 16 30 [17, 13] HT_ ?_
 refine pz 17 31 [18, 12] HT_ ?_
 refine pz 18 32 [19, 11] HT_ ?_
 refine pz 19 33 [20, 10] HT_ ?_
 refine pz 20 34 [21, 9] HT_ ?_
 refine pz 21 35 [22, 8] HT_ ?_
 refine pz 22 36 [23, 7] HT_ ?_
 refine pz 24 38 [23, 1, 1, 5] HT_ ?_
 refine pz 25 39 [23, 1, 2, 4] HT_ ?_
 refine pz 26 40 [23, 1, 3, 3] HT_ ?_
 refine tz 23 37 [27, 3] HT_ HW_ rfl (by rintro w' ⟨s0, s1, s2, s3, s4, s5, s6, s7, s8, s9, s10, s11, s12, s13, s14⟩; go_simp; with_reducible rfl) hHeld ?_
 refine tz 27 41 [28, 2] HT_ HW_ rfl (by rintro w' ⟨s0, s1, s2, s3, s4, s5, s6, s7, s8, s9, s10, s11, s12, s13, s14⟩; go_simp; with_reducible rfl) hHeld ?_
 refine pz 28 42 [29, 1] HT_ ?_
 refine pz 29 43 [30, 0] HT_ ?_
 refine done_ (done_of HT_.out (by kernel_rfl)) ?_
 try go_wp2
 go_ret
 exact ⟨er, pT HB.out⟩
mutual
def spec_l9Values.l0 : Nat → List (S29) → Int → List Int → Int → Option (List Int)
 | 0, _, _, _, _ => none
 | k + 1, x0, x1, x5, x6 => if x6 < (x0.length : Int) then (if 0 ≤ x6 then (if 0 ≤ x1 then (if x1 < (((rd_T29 x0 x6).f2).length : Int) then (if (rd ((rd_T29 x0 x6).f2) x1) = (-9999) then (spec_l9Values.l0 k x0 x1 x5 (wrap64 (x6 + 1))) else (spec_l9Values.l1 k x0 x1 x5 x6 (rd ((rd_T29 x0 x6).f2) x1) (x5.length : Int))) else (none)) else (none)) else (none)) else (some x5)
def spec_l9Values.l1 : Nat → List (S29) → Int → List Int → Int → Int → Int → Option (List Int)
 | 0, _, _, _, _, _, _ => none
 | k + 1, x0, x1, x5, x6, x7, x8 => if x8 > 0 then (if 0 ≤ (wrap64 (x8 - 1)) then (if (wrap64 (x8 - 1)) < (x5.length : Int) then (if (rd x5 (wrap64 (x8 - 1))) > x7 then (spec_l9Values.l1 k x0 x1 x5 x6 x7 (wrap64 (x8 - 1))) else ((some (([] : List Int) : List Int)).bind fun y107 => (if 0 ≤ x8 then (if x8 ≤ (x5.length : Int) then ((some (x5.take (x8 : Int).toNat : List Int)).bind fun y110 => (if y107.length + y110.length < 17592186044416 then ((some (y107 ++ y110 : List Int)).bind fun y114 => ((some (([x7] : List Int) : List Int)).bind fun y117 => (if y114.length + y117.length < 17592186044416 then ((some (y114 ++ y117 : List Int)).bind fun y120 => ((some (x5.drop (x8 : Int).toNat : List Int)).bind fun y123 => (if y120.length + y123.length < 17592186044416 then (spec_l9Values.l0 k x0 x1 (y120 ++ y123) (wrap64 (x6 + 1))) else (none)))) else (none)))) else (none))) else (none)) else (none)))) else (none)) else (none)) else ((some (([] : List Int) : List Int)).bind fun y130 => (if 0 ≤ x8 then (if x8 ≤ (x5.length : Int) then ((some (x5.take (x8 : Int).toNat : List Int)).bind fun y133 => (if y130.length + y133.length < 17592186044416 then ((some (y130 ++ y133 : List Int)).bind fun y137 => ((some (([x7] : List Int) : List Int)).bind fun y140 => (if y137.length + y140.length < 17592186044416 then ((some (y137 ++ y140 : List Int)).bind fun y143 => ((some (x5.drop (x8 : Int).toNat : List Int)).bind fun y146 => (if y143.length + y146.length < 17592186044416 then (spec_l9Values.l0 k x0 x1 (y143 ++ y146) (wrap64 (x6 + 1))) else (none)))) else (none)))) else (none))) else (none)) else (none)))
end
def spec_l9Values.f (k : Nat) (l0 : List (S29)) (a1 : Int) : Option (List Int) := spec_l9Values.l0 k l0 a1 (([] : List Int)) 0
def spec_l9Values.T10 : Bool × List (List Nat × List Nat) := (true, [([], []), ([], []), ([], []), ([1, 2], [1, 2]), ([0, 3], [0, 3]), ([], []), ([5], [5]), ([4, 6, 4], [4, 6]), ([], []), ([], []), ([8, 9], [8, 9]), ([7, 10, 7], [7, 10]), ([11, 11, 0, 1, 2, 3, 4, 5, 6, 7, 8, 9, 10, 11], [1, 8, 11])])
def spec_l9Values.B10 : List Nat := [0, 0, 0, 6, 15, 0, 32, 127, 0, 0, 768, 2047, 4095]
theorem spec_l9Values.tab10 : rtab .any (opsOf Try.f27 10) = spec_l9Values.T10 := by kernel_rfl
theorem spec_l9Values.bits10 : waitsOk spec_l9Values.T10.2 spec_l9Values.B10 = true := by kernel_rfl
theorem spec_l9Values.calls (k : Nat) (A0 : Option Addr) (c0 : Nat) (l0 : List (S29)) (a1 : Int) (r : List Int) (w : World) (hr0 : Kd.C k29 w A0 l0.length l0) (hc0 : l0.length ≤ c0) (h : spec_l9Values.f k l0 a1 = some r) :
  Calls Try.prog 27 #[.slice A0 l0.length c0, .int .i64 a1] w fun e w' => ∃ v0_ : Value, e = .returned (v0_) ∧ Kd.R (Kd.int .i64) 3 w' w.heap.size (fun _ => True) v0_ r ∧ Below w.heap.size w w' := by
 have HR0 := aK hr0
 have HC0 := aK hc0
 clear hr0 hc0
 have HB := aK (Below.refl w.heap.size w)
 have H : (spec_l9Values.l0 k l0 a1 (([] : List Int)) 0) = some r := h
 clear h
 obtain ⟨y101, hy101⟩ : ∃ y_ : List Int, y_ = (([] : List Int)) := ⟨_, rfl⟩
 replace H : (spec_l9Values.l0 k l0 a1 y101 0) = some r := by first | (rw [hy101]; first | with_reducible exact H | with_reducible exact (oS H :)) | with_reducible exact (oS H :) | with_reducible exact H | exact H
 have Ny101 := aK hy101
 clear hy101
 have H' := aK H
 clear H
 go_enter Try.func27, Try.ntmps27
 go_wp2_with (first | ((with_reducible refine ga 9 rfl ?_); refine Kd.R_lit (Kd.int .i64) _ 3 ?hg (N := 9) ?hd (xs := ([] : List Int)) (inner := []) (ok := fun _ => True) (okp := fun _ => True) ?hr ?hp (fun _ hk => hk) trivial (Below.refl _ _) (Nat.le_refl _) (by simp) ?_; (case hd => rfl); (case hg => rfl); (case hr => first | (go_simp; done) | (go_simp; rfl)); (case hp => exact (Reps.none _ _)); intro v102 w3 ho4 hb hg_ hnew_; clear hg_ hnew_; (first | rw [← Ny101.out] at ho4 | (simp only [Int.reduceToNat] at ho4; rw [← Ny101.out] at ho4)); have HO103 := aK (Kd.R_lower ho4 (below_size (pS HB.out))); replace HB := bS HB hb; clear hb ho4))
 go_loopg [5, 6] k (fun kq v5 v6 w' => ∃ (x5_1 : List Int) (x6_1 : Int), v6 = .int .i64 x6_1 ∧ Aside0 (spec_l9Values.l0 kq l0 a1 x5_1 x6_1 = some r) ∧ Aside0 (kq ≤ k) ∧ Aside0 (Kd.R (Kd.int .i64) 3 w' w.heap.size (fun _ => True) v5 x5_1) ∧ Aside0 (Below w.heap.size w w'))
 case atStart => exact ⟨(y101), (0), (by first | rfl | (simp; done) | (simp [*]; done)), H', ⟨Nat.le_refl _⟩, ⟨pR HO103.out⟩, ⟨pT HB.out⟩⟩
 case round =>
 clear H'
 try clear c2
 try clear p2
 obtain ⟨x5_1, x6_1, rfl, HA, HK1, HO_5, HB⟩ := hrel
 cases gk with
 | zero => exact absurd HA.out (by simp [spec_l9Values.l0])
 | succ k1 =>
 have H := HA.out
 clear HA
 simp only [spec_l9Values.l0] at H
 by_cases c5 : x6_1 < (l0.length : Int)
 rotate_left
 ·
  rw [if_neg c5] at H
  have c5b0 : decide (x6_1 < (l0.length : Int)) = false := decide_eq_false c5
  clear c5
  obtain rfl := Option.some.inj H
  go_wp2
  go_ret
  exact ⟨_, er, by (with_reducible repeat (first | apply Kd.R_alloc | apply Kd.R_drewN | apply Kd.R_drew)); exact HO_5.out, pT HB.out⟩
 rw [if_pos c5] at H
 have c5b0 : decide (x6_1 < (l0.length : Int)) = true := decide_eq_true c5
 clear c5
 by_cases c6 : 0 ≤ x6_1
 rotate_left
 ·
  rw [if_neg c6] at H
  exact absurd H (by simp)
 rw [if_pos c6] at H
 have c6b0 : decide (0 ≤ x6_1) = true := decide_eq_true c6
 clear c6
 by_cases c7 : 0 ≤ a1
 rotate_left
 ·
  rw [if_neg c7] at H
  exact absurd H (by simp)
 rw [if_pos c7] at H
 have c7b0 : decide (0 ≤ a1) = true := decide_eq_true c7
 clear c7
 by_cases c8 : a1 < (((rd_T29 l0 x6_1).f2).length : Int)
 rotate_left
 ·
  rw [if_neg c8] at H
  exact absurd H (by simp)
 rw [if_pos c8] at H
 have c8b0 : decide (a1 < (((rd_T29 l0 x6_1).f2).length : Int)) = true := decide_eq_true c8
 clear c8
 by_cases c9 : (rd ((rd_T29 l0 x6_1).f2) a1) = (-9999)
 ·
  rw [if_pos c9] at H
  have c9b0 : ((rd ((rd_T29 l0 x6_1).f2) a1) == (-9999)) = true := beq_iff_eq.mpr c9
  have c9b1 : ((rd ((rd_T29 l0 x6_1).f2) a1) != (-9999)) = false := bne_eq_false_iff_eq.mpr c9
  clear c9; have H' := aK H; clear H
  have p104 : 0 ≤ (x6_1 : Int) := dA
  have q104 : x6_1 < (l0.length : Int) := dA
  obtain ⟨ad104, A104_2, c104_2, e104, hx104_0, hx104_1, hx104_2, hl104_2, hi104_2⟩ := at_T29 HR0.out x6_1 p104 q104; cases e104; replace hx104_0 := (HB.out.cell (World.block_lt_of_cell? w _ hx104_0)).trans hx104_0; replace hx104_1 := (HB.out.cell (World.block_lt_of_cell? w _ hx104_1)).trans hx104_1; replace hx104_2 := (HB.out.cell (World.block_lt_of_cell? w _ hx104_2)).trans hx104_2; have HR104_2 := aK hi104_2; have HC104_2 := aK hl104_2; clear hi104_2 hl104_2; replace p104 := eq_true p104; replace q104 := eq_true q104
  have p105 : 0 ≤ (a1 : Int) := dA
  have q105 : a1 < (((rd_T29 l0 x6_1).f2).length : Int) := dA
  obtain ⟨ad105, e105, hx105_0⟩ := Kd.at_int HR104_2.out a1 p105 q105; cases e105; replace hx105_0 := (HB.out.cell (World.block_lt_of_cell? w _ hx105_0)).trans hx105_0; replace p105 := eq_true p105; replace q105 := eq_true q105
  go_wp2
  go_roundg k1
  case measure => have := HK1.out; omega
  case rel => exact ⟨(x5_1), (wrap64 (x6_1 + 1)), (by first | rfl | (simp; done) | (simp [*]; done)), H', ⟨by have := HK1.out; omega⟩, ⟨pR HO_5.out⟩, ⟨pT HB.out⟩⟩
 rw [if_neg c9] at H
 have c9b0 : ((rd ((rd_T29 l0 x6_1).f2) a1) == (-9999)) = false := beq_eq_false_iff_ne.mpr c9
 have c9b1 : ((rd ((rd_T29 l0 x6_1).f2) a1) != (-9999)) = true := bne_iff_ne.mpr c9
 have H' := aK H
 clear H
 have p104 : 0 ≤ (x6_1 : Int) := dA
 have q104 : x6_1 < (l0.length : Int) := dA
 obtain ⟨ad104, A104_2, c104_2, e104, hx104_0, hx104_1, hx104_2, hl104_2, hi104_2⟩ := at_T29 HR0.out x6_1 p104 q104
 cases e104
 replace hx104_0 := (HB.out.cell (World.block_lt_of_cell? w _ hx104_0)).trans hx104_0
 replace hx104_1 := (HB.out.cell (World.block_lt_of_cell? w _ hx104_1)).trans hx104_1
 replace hx104_2 := (HB.out.cell (World.block_lt_of_cell? w _ hx104_2)).trans hx104_2
 have HR104_2 := aK hi104_2
 have HC104_2 := aK hl104_2
 clear hi104_2 hl104_2
 replace p104 := eq_true p104
 replace q104 := eq_true q104
 have p105 : 0 ≤ (a1 : Int) := dA
 have q105 : a1 < (((rd_T29 l0 x6_1).f2).length : Int) := dA
 obtain ⟨ad105, e105, hx105_0⟩ := Kd.at_int HR104_2.out a1 p105 q105
 cases e105
 replace hx105_0 := (HB.out.cell (World.block_lt_of_cell? w _ hx105_0)).trans hx105_0
 replace p105 := eq_true p105
 replace q105 := eq_true q105
 obtain ⟨Ao10, co10, eo10⟩ := Kd.R_slice HO_5.out
 subst eo10
 go_wp2
 go_loopg [8] k1 (fun kq v8 w' => ∃ (x8_2 : Int), v8 = .int .i64 x8_2 ∧ Aside0 (spec_l9Values.l1 kq l0 a1 x5_1 x6_1 (rd ((rd_T29 l0 x6_1).f2) a1) x8_2 = some r) ∧ Aside0 (kq ≤ k1) ∧ Aside0 (Kd.R (Kd.int .i64) 3 w' w.heap.size (fun _ => True) (.slice Ao10 x5_1.length co10) x5_1) ∧ Aside0 (Below w.heap.size w w'))
 case atStart => exact ⟨((x5_1.length : Int)), (by first | rfl | (simp; done) | (simp [*]; done)), H', ⟨Nat.le_refl _⟩, ⟨pR HO_5.out⟩, ⟨pT HB.out⟩⟩
 case round =>
 clear H'
 try clear c1
 try clear p1
 try clear q1
 try clear hx1
 try clear c2
 try clear p2
 try clear c5
 try clear c5b0
 try clear c6
 try clear c6b0
 try clear p6
 try clear c7
 try clear c7b0
 try clear c8
 try clear c8b0
 try clear c9
 try clear c9b0
 try clear c9b1
 try clear c10
 try clear p10
 try clear q10
 try clear hx10
 try clear hx104_0
 try clear hx104_1
 try clear hx104_2
 try clear hx105_0
 try clear p104
 try clear p105
 try clear p2
 try clear q104
 try clear q105
 obtain ⟨x8_2, rfl, HA, HK2, HO_5, HB⟩ := hrel
 cases gk with
 | zero => exact absurd HA.out (by simp [spec_l9Values.l1])
 | succ k2 =>
 have H := HA.out
 clear HA
 simp only [spec_l9Values.l1] at H
 by_cases c11 : x8_2 > 0
 rotate_left
 ·
  rw [if_neg c11] at H
  have c11b0 : decide (0 < x8_2) = false := decide_eq_false c11
  clear c11
  obtain ⟨y130, hy130⟩ : ∃ y_ : List Int, y_ = (([] : List Int)) := ⟨_, rfl⟩
  replace H : (if 0 ≤ x8_2 then (if x8_2 ≤ (x5_1.length : Int) then ((some (x5_1.take (x8_2 : Int).toNat : List Int)).bind fun y133 => (if y130.length + y133.length < 17592186044416 then ((some (y130 ++ y133 : List Int)).bind fun y137 => ((some (([(rd ((rd_T29 l0 x6_1).f2) a1)] : List Int) : List Int)).bind fun y140 => (if y137.length + y140.length < 17592186044416 then ((some (y137 ++ y140 : List Int)).bind fun y143 => ((some (x5_1.drop (x8_2 : Int).toNat : List Int)).bind fun y146 => (if y143.length + y146.length < 17592186044416 then (spec_l9Values.l0 k2 l0 a1 (y143 ++ y146) (wrap64 (x6_1 + 1))) else (none)))) else (none)))) else (none))) else (none)) else (none)) = some r := by first | (rw [hy130]; first | with_reducible exact H | with_reducible exact (oS H :)) | with_reducible exact (oS H :) | with_reducible exact H | exact H
  have Ny130 := aK hy130; clear hy130
  by_cases c35 : 0 ≤ x8_2
  rotate_left
  ·
   rw [if_neg c35] at H
   exact absurd H (by simp)
  rw [if_pos c35] at H; have c35b0 := eq_true c35
  have c35b1 : decide (0 ≤ x8_2) = true := decide_eq_true c35
  clear c35
  by_cases c36 : x8_2 ≤ (x5_1.length : Int)
  rotate_left
  ·
   rw [if_neg c36] at H
   exact absurd H (by simp)
  rw [if_pos c36] at H; have c36b0 := eq_true c36
  have c36b1 : decide (x8_2 ≤ (x5_1.length : Int)) = true := decide_eq_true c36
  clear c36
  obtain ⟨y133, hy133⟩ : ∃ y_ : List Int, y_ = (x5_1.take (x8_2 : Int).toNat) := ⟨_, rfl⟩
  replace H : (if y130.length + y133.length < 17592186044416 then ((some (y130 ++ y133 : List Int)).bind fun y137 => ((some (([(rd ((rd_T29 l0 x6_1).f2) a1)] : List Int) : List Int)).bind fun y140 => (if y137.length + y140.length < 17592186044416 then ((some (y137 ++ y140 : List Int)).bind fun y143 => ((some (x5_1.drop (x8_2 : Int).toNat : List Int)).bind fun y146 => (if y143.length + y146.length < 17592186044416 then (spec_l9Values.l0 k2 l0 a1 (y143 ++ y146) (wrap64 (x6_1 + 1))) else (none)))) else (none)))) else (none)) = some r := by first | (rw [hy133]; first | with_reducible exact H | with_reducible exact (oS H :)) | with_reducible exact (oS H :) | with_reducible exact H | exact H
  have Ny133 := aK hy133; clear hy133
  by_cases c37 : y130.length + y133.length < 17592186044416
  rotate_left
  ·
   rw [if_neg c37] at H
   exact absurd H (by simp)
  rw [if_pos c37] at H; have LMc37 := aK c37; clear c37
  obtain ⟨y137, hy137⟩ : ∃ y_ : List Int, y_ = (y130 ++ y133) := ⟨_, rfl⟩
  replace H : ((some (([(rd ((rd_T29 l0 x6_1).f2) a1)] : List Int) : List Int)).bind fun y140 => (if y137.length + y140.length < 17592186044416 then ((some (y137 ++ y140 : List Int)).bind fun y143 => ((some (x5_1.drop (x8_2 : Int).toNat : List Int)).bind fun y146 => (if y143.length + y146.length < 17592186044416 then (spec_l9Values.l0 k2 l0 a1 (y143 ++ y146) (wrap64 (x6_1 + 1))) else (none)))) else (none))) = some r := by first | (rw [hy137]; first | with_reducible exact H | with_reducible exact (oS H :)) | with_reducible exact (oS H :) | with_reducible exact H | exact H
  have Ny137 := aK hy137; clear hy137
  obtain ⟨y140, hy140⟩ : ∃ y_ : List Int, y_ = (([(rd ((rd_T29 l0 x6_1).f2) a1)] : List Int)) := ⟨_, rfl⟩
  replace H : (if y137.length + y140.length < 17592186044416 then ((some (y137 ++ y140 : List Int)).bind fun y143 => ((some (x5_1.drop (x8_2 : Int).toNat : List Int)).bind fun y146 => (if y143.length + y146.length < 17592186044416 then (spec_l9Values.l0 k2 l0 a1 (y143 ++ y146) (wrap64 (x6_1 + 1))) else (none)))) else (none)) = some r := by first | (rw [hy140]; first | with_reducible exact H | with_reducible exact (oS H :)) | with_reducible exact (oS H :) | with_reducible exact H | exact H
  have Ny140 := aK hy140; clear hy140
  by_cases c38 : y137.length + y140.length < 17592186044416
  rotate_left
  ·
   rw [if_neg c38] at H
   exact absurd H (by simp)
  rw [if_pos c38] at H; have LMc38 := aK c38; clear c38
  obtain ⟨y143, hy143⟩ : ∃ y_ : List Int, y_ = (y137 ++ y140) := ⟨_, rfl⟩
  replace H : ((some (x5_1.drop (x8_2 : Int).toNat : List Int)).bind fun y146 => (if y143.length + y146.length < 17592186044416 then (spec_l9Values.l0 k2 l0 a1 (y143 ++ y146) (wrap64 (x6_1 + 1))) else (none))) = some r := by first | (rw [hy143]; first | with_reducible exact H | with_reducible exact (oS H :)) | with_reducible exact (oS H :) | with_reducible exact H | exact H
  have Ny143 := aK hy143; clear hy143; have c39b0 := eq_true (dA : 0 ≤ x8_2); have c40b0 := eq_true (dA : x8_2 ≤ (x5_1.length : Int))
  obtain ⟨y146, hy146⟩ : ∃ y_ : List Int, y_ = (x5_1.drop (x8_2 : Int).toNat) := ⟨_, rfl⟩
  replace H : (if y143.length + y146.length < 17592186044416 then (spec_l9Values.l0 k2 l0 a1 (y143 ++ y146) (wrap64 (x6_1 + 1))) else (none)) = some r := by first | (rw [hy146]; first | with_reducible exact H | with_reducible exact (oS H :)) | with_reducible exact (oS H :) | with_reducible exact H | exact H
  have Ny146 := aK hy146; clear hy146
  by_cases c41 : y143.length + y146.length < 17592186044416
  rotate_left
  ·
   rw [if_neg c41] at H
   exact absurd H (by simp)
  rw [if_pos c41] at H; have LMc41 := aK c41; clear c41
  obtain ⟨y150, hy150⟩ : ∃ y_ : List Int, y_ = (y143 ++ y146) := ⟨_, rfl⟩
  replace H : (spec_l9Values.l0 k2 l0 a1 y150 (wrap64 (x6_1 + 1))) = some r := by first | (rw [hy150]; first | with_reducible exact H | with_reducible exact (oS H :)) | with_reducible exact (oS H :) | with_reducible exact H | exact H
  have Ny150 := aK hy150; clear hy150; have H' := aK H; clear H
  try go_wp2
  replace HO_5 := rdw HO_5; replace HB := aK (below_drew1 HB.out)
  have q43 : (x8_2 : Int) ≤ ((x5_1.length : Int) : Int) := dA
  obtain ⟨i043, hi043, _, hsz43, _⟩ := info_parts info3
  have hroom43 : x5_1.length ≤ co10 := (Kd.R_reads' HO_5.out).2.1
  have hC43 : Kd.C (Kd.int .i64) _ Ao10 x5_1.length x5_1 := (Kd.R_reads' HO_5.out).2.2
  have hcut43 := cut_to (P := Try.prog) 27 3 .i64 Try.underlying27 hi043 Ao10 x5_1.length co10 x8_2 (dA) q43 hroom43
  have hr43 := Kd.C_take (m := (x8_2 : Int).toNat) hC43 (by omega)
  have hy43 : y133.length = (x8_2 : Int).toNat := (by rw [Ny133.out, List.length_take]; omega)
  rw [← Ny133.out] at hr43; rw [← hy43] at hcut43; have HR136 := aK hr43
  have HC136 := aK (show y133.length ≤ co10 from by omega)
  clear hr43 hC43 hroom43 hi043 hsz43; have KY43 := aK hy43; clear hy43
  have KL43 := aK (show (x8_2 : Int).toNat ≤ x5_1.length from by omega)
  replace q43 := eq_true q43
  have q44 : (x8_2 : Int) ≤ ((x5_1.length : Int) : Int) := dA
  obtain ⟨i044, hi044, _, hsz44, _⟩ := info_parts info3
  have hroom44 : x5_1.length ≤ co10 := (Kd.R_reads' HO_5.out).2.1
  have hC44 : Kd.C (Kd.int .i64) _ Ao10 x5_1.length x5_1 := (Kd.R_reads' HO_5.out).2.2
  have q044 : (0 : Int) ≤ (x8_2 : Int) := dA
  have hcut44 := cut_from (P := Try.prog) 27 3 .i64 Try.underlying27 hi044 1 hsz44 Ao10 x5_1.length co10 x8_2 q044 q44
  have hr44 := Kd.C_drop (m := (x8_2 : Int).toNat) (c := co10) hC44 (by omega) hroom44
  obtain ⟨A44, hA44⟩ : ∃ A1, A1 = (if co10 = (x8_2 : Int).toNat then Ao10 else (Ao10 : Option Addr).map (·.add ((x8_2 : Int).toNat * 1))) := ⟨_, rfl⟩
  obtain ⟨c44, hc44⟩ : ∃ c1, c1 = co10 - (x8_2 : Int).toNat := ⟨_, rfl⟩
  have hy44 : y146.length = x5_1.length - (x8_2 : Int).toNat := (by rw [Ny146.out, List.length_drop] <;> omega)
  rw [show (x5_1).drop (x8_2 : Int).toNat = y146 from Ny146.out.symm] at hr44
  replace hr44 : Kd.C (Kd.int .i64) _ A44 y146.length y146 := (by rw [hA44]; exact hr44)
  rw [← hy44, ← hA44, ← hc44] at hcut44; have HR149 := aK hr44
  have HC149 := aK (show y146.length ≤ c44 from by rw [hy44, hc44]; exact Nat.sub_le_sub_right hroom44 _)
  clear hr44 hC44 hroom44 hi044 hsz44 hc44; have KY44 := aK hy44; have KA44 := aK hA44; clear hy44 hA44
  have KL44 := aK (show (x8_2 : Int).toNat ≤ x5_1.length from by omega)
  replace q44 := eq_true q44
  refine start_ (n := 13) (S := fun w' => True) (ds := []) (bz [0, 13]) (by kernel_rfl) rfl rfl trivial (fun hHeld => ?_); refine with_tabW spec_l9Values.tab10 spec_l9Values.bits10 (fun HT_ HW_ => ?_)
  generalize wr.drew = w42 at HO_5 HB HR136 HR149 hHeld ⊢
  refine pz 1 42 [0, 1, 1, 11] HT_ ?_
  refine pz 2 43 [0, 1, 2, 10] HT_ ?_
  refine pz 3 44 [0, 1, 3, 9] HT_ ?_
  refine pz 5 46 [0, 1, 3, 1, 1, 7] HT_ ?_
  refine pz 8 49 [0, 1, 3, 1, 1, 2, 1, 4] HT_ ?_
  refine pz 9 50 [0, 1, 3, 1, 1, 2, 2, 3] HT_ ?_
  refine pz 10 51 [0, 1, 3, 1, 1, 2, 3, 2] HT_ ?_
  refine join_ (σ := Value × Value × Value) 3 (bz [7, 1, 3, 2]) (fun s_ => [(41, s_.1), (45, s_.2.1), (47, s_.2.2)]) (fun s_ w' => (Kd.R (Kd.int .i64) 3 w' w.heap.size (fun k_ => some k_ ≠ (s_.2.2 : Value).ownBlock ∧ some k_ ≠ (.slice Ao10 x5_1.length co10 : Value).ownBlock) s_.2.1 y137) ∧ (Kd.R (Kd.int .i64) 3 w' w.heap.size (fun k_ => some k_ ≠ (s_.2.1 : Value).ownBlock ∧ some k_ ≠ (.slice Ao10 x5_1.length co10 : Value).ownBlock) s_.2.2 y140) ∧ (Kd.R (Kd.int .i64) 3 w' w.heap.size (fun k_ => some k_ ≠ (s_.2.1 : Value).ownBlock ∧ some k_ ≠ (s_.2.2 : Value).ownBlock) (.slice Ao10 x5_1.length co10) x5_1) ∧ (Below w.heap.size w w')) ?_ ?_
  rotate_left
  ·
   intro hCont
   refine two_ (i := 0) (j := 6) (Ni := some 41) (Nj := some 47) (bz [4, 1, 1, 2, 3, 2]) (bz [0, 1, 3, 1, 2, 1, 3, 2]) rfl rfl rfl rfl (two_of HT_.out (by kernel_rfl)) (by decide) (by decide) (fun K hK => ?_) (fun K hK => ?_)
   ·
    skip
    refine Kd.R_lit_step (Kd.int .i64) _ 3 ?hg (N := 41) ?hd (xs := ([] : List Int)) (inner := []) (ok := fun _ => True) (okp := fun _ => True) ?hr ?hp (fun _ hk => hk) trivial (Below.refl _ _) (Nat.le_refl _) (by simp) ?_; (case hd => rfl); (case hg => rfl); (case hr => first | (go_simp; done) | (go_simp; rfl)); (case hp => exact (Reps.none _ _))
    intro v131 w45 ho46 hb hg_ hnew_
    clear hg_ hnew_
    (first | rw [← Ny130.out] at ho46 | (simp only [Int.reduceToNat] at ho46; rw [← Ny130.out] at ho46))
    have n0_ := aK (Kd.R_elder' (pR HO_5.out) (Kd.R_base ho46) hb); have HO132 := aK (Kd.R_lower (nw1 ho46 (pR HO_5.out)) (below_size (pS HB.out))); replace HR136 := aK (Kd.C_below (pC HR136.out) hb); replace HR149 := aK (Kd.C_below (pC HR149.out) hb); replace HB := bS HB hb; clear HO_5; have HO_5 := n0_; clear n0_ hb ho46
    refine hK.out _ _ trivial (fun hHeld => ?_)
    clear hK K
    refine nm 41 ?_
    refine two_ (i := 4) (j := 6) (Ni := some 45) (Nj := some 47) (bz [6, 2, 3, 2]) (bz [4, 1, 2, 1, 3, 2]) rfl rfl rfl rfl (two_of HT_.out (by kernel_rfl)) (by decide) (by decide) (fun K hK => ?_) (fun K hK => ?_)
    ·
     skip
     refine Kd.R_append_rows_step (Kd.int .i64) (w0 := w) w.heap.size (by rfl) (.tmp 41) (.tmp 44) 27 3 (.int .i64 0) 8 rfl Try.underlying27 info3 rfl (by decide) (by omega) v131 y130 y133 _ _ _ (fun k_ => some k_ ≠ (.slice Ao10 x5_1.length co10 : Value).ownBlock) (fun _ => False) rfl rfl ?aO ?aR (fun _ _ h => h) (fun _ h => h.elim) ?aF ?aB ?aS ?aL ?_
     (case aR => repeat (first | exact (pC HR136.out) | (with_reducible refine Kd.C_alloc ?_ _) | (with_reducible refine Kd.C_drewN ?_ _) | (with_reducible refine Kd.C_drew ?_)))
     (case aB => exact (pS HB.out))
     (case aF => exact (fun k_ hk => Kd.fresh' (Kd.R_lt (pR HO_5.out)) k_ hk))
     (case aO => exact (pR (Kd.R_mono HO132.out (fun _ hk => hk.2))))
     (case aS => exact (below_size (pS HB.out)))
     (case aL => have := LMc37.out; omega)
     intro v138 w47 ho hb hg hat
     rw [← Ny137.out] at ho
     have n0_ := aK (Kd.R_after (ok := (fun _ => True)) (pR HO_5.out) hg hat)
     replace HB := aK (hb)
     replace HR136 := aK ((show Kd.C (Kd.int .i64) w47 Ao10 y133.length y133 from by rw [Ny133.out]; exact Kd.C_take (m := (x8_2 : Int).toNat) ((Kd.R_reads' (Kd.R_after (ok := (fun _ => True)) (pR HO_5.out) hg hat)).2.2) KL43.out))
     replace HR149 := aK ((show Kd.C (Kd.int .i64) w47 A44 y146.length y146 from by rw [Ny146.out, KA44.out]; exact Kd.C_drop (m := (x8_2 : Int).toNat) (c := co10) ((Kd.R_reads' (Kd.R_after (ok := (fun _ => True)) (pR HO_5.out) hg hat)).2.2) KL44.out ((Kd.R_reads' (Kd.R_after (ok := (fun _ => True)) (pR HO_5.out) hg hat)).2.1)))
     have HO139 := aK (ho); clear HO_5 HO132; have HO_5 := n0_; clear n0_ ho hb hg hat
     refine hK.out _ _ trivial (fun hHeld => ?_)
     clear hK K
     refine nm 45 ?_
     refine oz 6 47 [7, 1, 3, 2] HT_ fun K hK => ?_
     refine Kd.R_lit_step (Kd.int .i64) _ 3 ?hg (N := 47) ?hd (xs := ([(rd ((rd_T29 l0 x6_1).f2) a1)] : List Int)) (inner := [.int .i64 (rd ((rd_T29 l0 x6_1).f2) a1)]) (ok := fun _ => True) (okp := fun _ => True) ?hr ?hp (fun _ hk => hk) trivial (Below.refl _ _) (Nat.le_refl _) (by simp) ?_; (case hd => rfl); (case hg => rfl); (case hr => first | (go_simp; done) | (go_simp; rfl)); (case hp => exact (Reps.one (show Kd.M (Kd.int .i64) _ _ _ (rd ((rd_T29 l0 x6_1).f2) a1) [.int .i64 (rd ((rd_T29 l0 x6_1).f2) a1)] from rfl) (Reps.none _ _)))
     intro v141 w48 ho49 hb hg_ hnew_
     clear hg_ hnew_
     (first | rw [← Ny140.out] at ho49 | (simp only [Int.reduceToNat] at ho49; rw [← Ny140.out] at ho49))
     have n0_ := aK (Kd.R_elder' (pR HO_5.out) (Kd.R_base ho49) hb); have n1_ := aK (Kd.R_elder' (pR HO139.out) (Kd.R_base ho49) hb); have HO142 := aK (Kd.R_lower (nw2 ho49 (pR HO_5.out) (pR HO139.out)) (below_size (pS HB.out))); replace HR136 := aK (Kd.C_below (pC HR136.out) hb); replace HR149 := aK (Kd.C_below (pC HR149.out) hb); replace HB := bS HB hb; clear HO_5 HO139; have HO_5 := n0_; have HO139 := n1_; clear n0_ n1_ hb ho49
     refine hK.out _ _ trivial (fun hHeld => ?_)
     clear hK K
     refine nm 47 ?_
     exact norm_ (by simp only [putAll, Act.put, List.setIfInBounds_toArray, List.set_cons_zero, List.set_cons_succ]) (hCont (v131, v138, v141) _ ⟨(pR (rP HO139.out)), (pR (rP HO142.out)), (pR (rP HO_5.out)), (pS HB.out)⟩)
    skip
    refine Kd.R_lit_step (Kd.int .i64) _ 3 ?hg (N := 47) ?hd (xs := ([(rd ((rd_T29 l0 x6_1).f2) a1)] : List Int)) (inner := [.int .i64 (rd ((rd_T29 l0 x6_1).f2) a1)]) (ok := fun _ => True) (okp := fun _ => True) ?hr ?hp (fun _ hk => hk) trivial (Below.refl _ _) (Nat.le_refl _) (by simp) ?_; (case hd => rfl); (case hg => rfl); (case hr => first | (go_simp; done) | (go_simp; rfl)); (case hp => exact (Reps.one (show Kd.M (Kd.int .i64) _ _ _ (rd ((rd_T29 l0 x6_1).f2) a1) [.int .i64 (rd ((rd_T29 l0 x6_1).f2) a1)] from rfl) (Reps.none _ _)))
    intro v141 w47 ho48 hb hg_ hnew_
    clear hg_ hnew_
    (first | rw [← Ny140.out] at ho48 | (simp only [Int.reduceToNat] at ho48; rw [← Ny140.out] at ho48))
    have n0_ := aK (Kd.R_elder' (pR HO_5.out) (Kd.R_base ho48) hb); have n1_ := aK (Kd.R_elder' (pR HO132.out) (Kd.R_base ho48) hb); have HO142 := aK (Kd.R_lower (nw2 ho48 (pR HO_5.out) (pR HO132.out)) (below_size (pS HB.out))); replace HR136 := aK (Kd.C_below (pC HR136.out) hb); replace HR149 := aK (Kd.C_below (pC HR149.out) hb); replace HB := bS HB hb; clear HO_5 HO132; have HO_5 := n0_; have HO132 := n1_; clear n0_ n1_ hb ho48
    refine hK.out _ _ trivial (fun hHeld => ?_)
    clear hK K
    refine nm 47 ?_
    refine oz 4 45 [7, 1, 3, 2] HT_ fun K hK => ?_
    refine Kd.R_append_rows_step (Kd.int .i64) (w0 := w) w.heap.size (by rfl) (.tmp 41) (.tmp 44) 27 3 (.int .i64 0) 8 rfl Try.underlying27 info3 rfl (by decide) (by omega) v131 y130 y133 _ _ _ (fun k_ => some k_ ≠ (.slice Ao10 x5_1.length co10 : Value).ownBlock ∧ some k_ ≠ (v141 : Value).ownBlock) (fun _ => False) rfl rfl ?aO ?aR (fun _ _ h => h) (fun _ h => h.elim) ?aF ?aB ?aS ?aL ?_
    (case aR => repeat (first | exact (pC HR136.out) | (with_reducible refine Kd.C_alloc ?_ _) | (with_reducible refine Kd.C_drewN ?_ _) | (with_reducible refine Kd.C_drew ?_)))
    (case aB => exact (pS HB.out))
    (case aF => exact (fun k_ hk => ⟨Kd.fresh' (Kd.R_lt (pR HO_5.out)) k_ hk, Kd.fresh' (Kd.R_lt (pR HO142.out)) k_ hk⟩))
    (case aO => exact (pR (rP HO132.out)))
    (case aS => exact (below_size (pS HB.out)))
    (case aL => have := LMc37.out; omega)
    intro v138 w49 ho hb hg hat
    rw [← Ny137.out] at ho
    have n0_ := aK (Kd.R_after (ok := (fun k_ => some k_ ≠ (v141 : Value).ownBlock)) (pR (rP HO_5.out)) hg hat)
    replace HO142 := aK (Kd.R_after (ok := (fun k_ => some k_ ≠ (.slice Ao10 x5_1.length co10 : Value).ownBlock)) (pR (rP HO142.out)) hg hat)
    replace HB := aK (hb)
    replace HR136 := aK ((show Kd.C (Kd.int .i64) w49 Ao10 y133.length y133 from by rw [Ny133.out]; exact Kd.C_take (m := (x8_2 : Int).toNat) ((Kd.R_reads' (Kd.R_after (ok := (fun k_ => some k_ ≠ (v141 : Value).ownBlock)) (pR (rP HO_5.out)) hg hat)).2.2) KL43.out))
    replace HR149 := aK ((show Kd.C (Kd.int .i64) w49 A44 y146.length y146 from by rw [Ny146.out, KA44.out]; exact Kd.C_drop (m := (x8_2 : Int).toNat) (c := co10) ((Kd.R_reads' (Kd.R_after (ok := (fun k_ => some k_ ≠ (v141 : Value).ownBlock)) (pR (rP HO_5.out)) hg hat)).2.2) KL44.out ((Kd.R_reads' (Kd.R_after (ok := (fun k_ => some k_ ≠ (v141 : Value).ownBlock)) (pR (rP HO_5.out)) hg hat)).2.1)))
    have HO139 := aK (ho); clear HO_5 HO132; have HO_5 := n0_; clear n0_ ho hb hg hat
    refine hK.out _ _ trivial (fun hHeld => ?_)
    clear hK K
    refine nm 45 ?_
    exact norm_ (by simp only [putAll, Act.put, List.setIfInBounds_toArray, List.set_cons_zero, List.set_cons_succ]) (hCont (v131, v138, v141) _ ⟨(pR (rP HO139.out)), (pR (rP HO142.out)), (pR (rP HO_5.out)), (pS HB.out)⟩)
   skip
   refine Kd.R_lit_step (Kd.int .i64) _ 3 ?hg (N := 47) ?hd (xs := ([(rd ((rd_T29 l0 x6_1).f2) a1)] : List Int)) (inner := [.int .i64 (rd ((rd_T29 l0 x6_1).f2) a1)]) (ok := fun _ => True) (okp := fun _ => True) ?hr ?hp (fun _ hk => hk) trivial (Below.refl _ _) (Nat.le_refl _) (by simp) ?_; (case hd => rfl); (case hg => rfl); (case hr => first | (go_simp; done) | (go_simp; rfl)); (case hp => exact (Reps.one (show Kd.M (Kd.int .i64) _ _ _ (rd ((rd_T29 l0 x6_1).f2) a1) [.int .i64 (rd ((rd_T29 l0 x6_1).f2) a1)] from rfl) (Reps.none _ _)))
   intro v141 w45 ho46 hb hg_ hnew_
   clear hg_ hnew_
   (first | rw [← Ny140.out] at ho46 | (simp only [Int.reduceToNat] at ho46; rw [← Ny140.out] at ho46))
   have n0_ := aK (Kd.R_elder' (pR HO_5.out) (Kd.R_base ho46) hb); have HO142 := aK (Kd.R_lower (nw1 ho46 (pR HO_5.out)) (below_size (pS HB.out))); replace HR136 := aK (Kd.C_below (pC HR136.out) hb); replace HR149 := aK (Kd.C_below (pC HR149.out) hb); replace HB := bS HB hb; clear HO_5; have HO_5 := n0_; clear n0_ hb ho46
   refine hK.out _ _ trivial (fun hHeld => ?_)
   clear hK K
   refine nm 47 ?_
   refine oz 0 41 [4, 1, 2, 1, 3, 2] HT_ fun K hK => ?_
   refine Kd.R_lit_step (Kd.int .i64) _ 3 ?hg (N := 41) ?hd (xs := ([] : List Int)) (inner := []) (ok := fun _ => True) (okp := fun _ => True) ?hr ?hp (fun _ hk => hk) trivial (Below.refl _ _) (Nat.le_refl _) (by simp) ?_; (case hd => rfl); (case hg => rfl); (case hr => first | (go_simp; done) | (go_simp; rfl)); (case hp => exact (Reps.none _ _))
   intro v131 w47 ho48 hb hg_ hnew_
   clear hg_ hnew_
   (first | rw [← Ny130.out] at ho48 | (simp only [Int.reduceToNat] at ho48; rw [← Ny130.out] at ho48))
   have n0_ := aK (Kd.R_elder' (pR HO_5.out) (Kd.R_base ho48) hb); have n1_ := aK (Kd.R_elder' (pR HO142.out) (Kd.R_base ho48) hb); have HO132 := aK (Kd.R_lower (nw2 ho48 (pR HO_5.out) (pR HO142.out)) (below_size (pS HB.out))); replace HR136 := aK (Kd.C_below (pC HR136.out) hb); replace HR149 := aK (Kd.C_below (pC HR149.out) hb); replace HB := bS HB hb; clear HO_5 HO142; have HO_5 := n0_; have HO142 := n1_; clear n0_ n1_ hb ho48
   refine hK.out _ _ trivial (fun hHeld => ?_)
   clear hK K
   refine nm 41 ?_
   refine oz 4 45 [7, 1, 3, 2] HT_ fun K hK => ?_
   refine Kd.R_append_rows_step (Kd.int .i64) (w0 := w) w.heap.size (by rfl) (.tmp 41) (.tmp 44) 27 3 (.int .i64 0) 8 rfl Try.underlying27 info3 rfl (by decide) (by omega) v131 y130 y133 _ _ _ (fun k_ => some k_ ≠ (.slice Ao10 x5_1.length co10 : Value).ownBlock ∧ some k_ ≠ (v141 : Value).ownBlock) (fun _ => False) rfl rfl ?aO ?aR (fun _ _ h => h) (fun _ h => h.elim) ?aF ?aB ?aS ?aL ?_
   (case aR => repeat (first | exact (pC HR136.out) | (with_reducible refine Kd.C_alloc ?_ _) | (with_reducible refine Kd.C_drewN ?_ _) | (with_reducible refine Kd.C_drew ?_)))
   (case aB => exact (pS HB.out))
   (case aF => exact (fun k_ hk => ⟨Kd.fresh' (Kd.R_lt (pR HO_5.out)) k_ hk, Kd.fresh' (Kd.R_lt (pR HO142.out)) k_ hk⟩))
   (case aO => exact (pR (rP HO132.out)))
   (case aS => exact (below_size (pS HB.out)))
   (case aL => have := LMc37.out; omega)
   intro v138 w49 ho hb hg hat
   rw [← Ny137.out] at ho
   have n0_ := aK (Kd.R_after (ok := (fun k_ => some k_ ≠ (v141 : Value).ownBlock)) (pR (rP HO_5.out)) hg hat)
   replace HO142 := aK (Kd.R_after (ok := (fun k_ => some k_ ≠ (.slice Ao10 x5_1.length co10 : Value).ownBlock)) (pR (rP HO142.out)) hg hat)
   replace HB := aK (hb)
   replace HR136 := aK ((show Kd.C (Kd.int .i64) w49 Ao10 y133.length y133 from by rw [Ny133.out]; exact Kd.C_take (m := (x8_2 : Int).toNat) ((Kd.R_reads' (Kd.R_after (ok := (fun k_ => some k_ ≠ (v141 : Value).ownBlock)) (pR (rP HO_5.out)) hg hat)).2.2) KL43.out))
   replace HR149 := aK ((show Kd.C (Kd.int .i64) w49 A44 y146.length y146 from by rw [Ny146.out, KA44.out]; exact Kd.C_drop (m := (x8_2 : Int).toNat) (c := co10) ((Kd.R_reads' (Kd.R_after (ok := (fun k_ => some k_ ≠ (v141 : Value).ownBlock)) (pR (rP HO_5.out)) hg hat)).2.2) KL44.out ((Kd.R_reads' (Kd.R_after (ok := (fun k_ => some k_ ≠ (v141 : Value).ownBlock)) (pR (rP HO_5.out)) hg hat)).2.1)))
   have HO139 := aK (ho); clear HO_5 HO132; have HO_5 := n0_; clear n0_ ho hb hg hat
   refine hK.out _ _ trivial (fun hHeld => ?_)
   clear hK K
   refine nm 45 ?_
   exact norm_ (by simp only [putAll, Act.put, List.setIfInBounds_toArray, List.set_cons_zero, List.set_cons_succ]) (hCont (v131, v138, v141) _ ⟨(pR (rP HO139.out)), (pR (rP HO142.out)), (pR (rP HO_5.out)), (pS HB.out)⟩)
  rintro ⟨v131, v138, v141⟩ w50 ⟨h0_, h1_, h2_, h3_⟩
  have n0_ : Aside0 (Kd.R (Kd.int .i64) 3 w50 w.heap.size (fun k_ => some k_ ≠ (v141 : Value).ownBlock ∧ some k_ ≠ (.slice Ao10 x5_1.length co10 : Value).ownBlock) v138 y137) := ⟨h0_⟩
  have n1_ : Aside0 (Kd.R (Kd.int .i64) 3 w50 w.heap.size (fun k_ => some k_ ≠ (v138 : Value).ownBlock ∧ some k_ ≠ (.slice Ao10 x5_1.length co10 : Value).ownBlock) v141 y140) := ⟨h1_⟩
  replace HO_5 : Aside0 (Kd.R (Kd.int .i64) 3 w50 w.heap.size (fun k_ => some k_ ≠ (v138 : Value).ownBlock ∧ some k_ ≠ (v141 : Value).ownBlock) (.slice Ao10 x5_1.length co10) x5_1) := ⟨h2_⟩
  replace HB : Aside0 (Below w.heap.size w w50) := ⟨h3_⟩
  clear h0_ h1_ h2_ h3_; have HO139 := n0_; have HO142 := n1_; clear n0_ n1_; have hHeld := trivial
  have HR136 := aK (show Kd.C (Kd.int .i64) _ Ao10 y133.length y133 from by rw [Ny133.out]; exact Kd.C_take (m := (x8_2 : Int).toNat) ((Kd.R_reads' HO_5.out).2.2) KL43.out)
  have HR149 := aK (show Kd.C (Kd.int .i64) _ A44 y146.length y146 from by rw [Ny146.out, KA44.out]; exact Kd.C_drop (m := (x8_2 : Int).toNat) (c := co10) ((Kd.R_reads' HO_5.out).2.2) KL44.out ((Kd.R_reads' HO_5.out).2.1))
  obtain ⟨Ao52, co52, eo52⟩ := Kd.R_slice HO142.out
  (first | subst eo52 | (obtain ⟨f4_, f5_⟩ := sI eo52; subst f4_; subst f5_))
  refine norm_ (a' := ?_) ?_ ?_
  rotate_left
  ·
   simp only [putAll, Act.put, List.setIfInBounds_toArray, List.set_cons_zero, List.set_cons_succ]
   rfl
  refine oz 7 48 [11, 2] HT_ fun K hK => ?_
  refine Kd.R_append_rows_step (Kd.int .i64) (w0 := w) w.heap.size (by rfl) (.tmp 45) (.tmp 47) 27 3 (.int .i64 0) 8 rfl Try.underlying27 info3 rfl (by decide) (by omega) v138 y137 y140 _ _ _ (fun k_ => some k_ ≠ (.slice Ao10 x5_1.length co10 : Value).ownBlock ∧ some k_ ≠ (.slice Ao52 y140.length co52 : Value).ownBlock) (fun _ => False) rfl rfl ?aO ?aR (fun _ _ h => h) (fun _ h => h.elim) ?aF ?aB ?aS ?aL ?_
  (case aR => exact pC (Kd.R_reads' HO142.out).2.2)
  (case aB => exact (pS HB.out))
  (case aF => exact (fun k_ hk => ⟨Kd.fresh' (Kd.R_lt (pR HO_5.out)) k_ hk, Kd.fresh' (Kd.R_lt (pR HO142.out)) k_ hk⟩))
  (case aO => exact (pR (rP HO139.out)))
  (case aS => exact (below_size (pS HB.out)))
  (case aL => have := LMc38.out; omega)
  intro v144 w51 ho hb hg hat
  rw [← Ny143.out] at ho
  have n0_ := aK (Kd.R_after (ok := (fun k_ => some k_ ≠ (.slice Ao52 y140.length co52 : Value).ownBlock)) (pR (rP HO_5.out)) hg hat)
  replace HO142 := aK (Kd.R_after (ok := (fun k_ => some k_ ≠ (.slice Ao10 x5_1.length co10 : Value).ownBlock)) (pR (rP HO142.out)) hg hat)
  replace HB := aK (hb)
  replace HR136 := aK ((show Kd.C (Kd.int .i64) w51 Ao10 y133.length y133 from by rw [Ny133.out]; exact Kd.C_take (m := (x8_2 : Int).toNat) ((Kd.R_reads' (Kd.R_after (ok := (fun k_ => some k_ ≠ (.slice Ao52 y140.length co52 : Value).ownBlock)) (pR (rP HO_5.out)) hg hat)).2.2) KL43.out))
  replace HR149 := aK ((show Kd.C (Kd.int .i64) w51 A44 y146.length y146 from by rw [Ny146.out, KA44.out]; exact Kd.C_drop (m := (x8_2 : Int).toNat) (c := co10) ((Kd.R_reads' (Kd.R_after (ok := (fun k_ => some k_ ≠ (.slice Ao52 y140.length co52 : Value).ownBlock)) (pR (rP HO_5.out)) hg hat)).2.2) KL44.out ((Kd.R_reads' (Kd.R_after (ok := (fun k_ => some k_ ≠ (.slice Ao52 y140.length co52 : Value).ownBlock)) (pR (rP HO_5.out)) hg hat)).2.1)))
  have HO145 := aK (ho); clear HO_5 HO139; have HO_5 := n0_; clear n0_ ho hb hg hat
  refine hK.out _ _ trivial (fun hHeld => ?_)
  clear hK K
  refine nm 48 ?_
  refine oz 11 52 [12, 1] HT_ fun K hK => ?_
  refine Kd.R_append_rows_step (Kd.int .i64) (w0 := w) w.heap.size (by rfl) (.tmp 48) (.tmp 51) 27 3 (.int .i64 0) 8 rfl Try.underlying27 info3 rfl (by decide) (by omega) v144 y143 y146 _ _ _ (fun k_ => some k_ ≠ (.slice Ao10 x5_1.length co10 : Value).ownBlock ∧ some k_ ≠ (.slice Ao52 y140.length co52 : Value).ownBlock) (fun _ => False) rfl rfl ?aO ?aR (fun _ _ h => h) (fun _ h => h.elim) ?aF ?aB ?aS ?aL ?_
  (case aR => repeat (first | exact (pC HR149.out) | (with_reducible refine Kd.C_alloc ?_ _) | (with_reducible refine Kd.C_drewN ?_ _) | (with_reducible refine Kd.C_drew ?_)))
  (case aB => exact (pS HB.out))
  (case aF => exact (fun k_ hk => ⟨Kd.fresh' (Kd.R_lt (pR HO_5.out)) k_ hk, Kd.fresh' (Kd.R_lt (pR HO142.out)) k_ hk⟩))
  (case aO => exact (pR HO145.out))
  (case aS => exact (below_size (pS HB.out)))
  (case aL => have := LMc41.out; omega)
  intro v151 w53 ho hb hg hat
  rw [← Ny150.out] at ho
  have n0_ := aK (Kd.R_after (ok := (fun k_ => some k_ ≠ (.slice Ao52 y140.length co52 : Value).ownBlock)) (pR HO_5.out) hg hat)
  replace HO142 := aK (Kd.R_after (ok := (fun k_ => some k_ ≠ (.slice Ao10 x5_1.length co10 : Value).ownBlock)) (pR HO142.out) hg hat)
  replace HB := aK (hb)
  replace HR136 := aK ((show Kd.C (Kd.int .i64) w53 Ao10 y133.length y133 from by rw [Ny133.out]; exact Kd.C_take (m := (x8_2 : Int).toNat) ((Kd.R_reads' (Kd.R_after (ok := (fun k_ => some k_ ≠ (.slice Ao52 y140.length co52 : Value).ownBlock)) (pR HO_5.out) hg hat)).2.2) KL43.out))
  replace HR149 := aK ((show Kd.C (Kd.int .i64) w53 A44 y146.length y146 from by rw [Ny146.out, KA44.out]; exact Kd.C_drop (m := (x8_2 : Int).toNat) (c := co10) ((Kd.R_reads' (Kd.R_after (ok := (fun k_ => some k_ ≠ (.slice Ao52 y140.length co52 : Value).ownBlock)) (pR HO_5.out) hg hat)).2.2) KL44.out ((Kd.R_reads' (Kd.R_after (ok := (fun k_ => some k_ ≠ (.slice Ao52 y140.length co52 : Value).ownBlock)) (pR HO_5.out) hg hat)).2.1)))
  have HO152 := aK (ho); clear HO_5 HO145; have HO_5 := n0_; clear n0_ ho hb hg hat
  refine hK.out _ _ trivial (fun hHeld => ?_)
  clear hK K
  refine nm 52 ?_
  refine pz 12 5 [13, 0] HT_ ?_
  refine done_ (done_of HT_.out (by kernel_rfl)) ?_
  try go_wp2
  go_roundg k2
  case measure => have := HK1.out; have := HK2.out; omega
  case rel => exact ⟨(y150), (wrap64 (x6_1 + 1)), (by first | rfl | (simp; done) | (simp [*]; done)), H', ⟨by have := HK1.out; have := HK2.out; omega⟩, ⟨pR (Kd.R_mono HO152.out (fun _ hk => trivial))⟩, ⟨pT HB.out⟩⟩
 rw [if_pos c11] at H
 have c11b0 : decide (0 < x8_2) = true := decide_eq_true c11
 clear c11
 obtain ⟨ji12, hji12⟩ : ∃ j_ : Int, (wrap64 (x8_2 - 1)) = j_ := ⟨_, rfl⟩
 replace H : (if 0 ≤ (ji12) then (if (ji12) < (x5_1.length : Int) then (if (rd x5_1 (ji12)) > (rd ((rd_T29 l0 x6_1).f2) a1) then (spec_l9Values.l1 k2 l0 a1 x5_1 x6_1 (rd ((rd_T29 l0 x6_1).f2) a1) ji12) else ((some (([] : List Int) : List Int)).bind fun y107 => (if 0 ≤ x8_2 then (if x8_2 ≤ (x5_1.length : Int) then ((some (x5_1.take (x8_2 : Int).toNat : List Int)).bind fun y110 => (if y107.length + y110.length < 17592186044416 then ((some (y107 ++ y110 : List Int)).bind fun y114 => ((some (([(rd ((rd_T29 l0 x6_1).f2) a1)] : List Int) : List Int)).bind fun y117 => (if y114.length + y117.length < 17592186044416 then ((some (y114 ++ y117 : List Int)).bind fun y120 => ((some (x5_1.drop (x8_2 : Int).toNat : List Int)).bind fun y123 => (if y120.length + y123.length < 17592186044416 then (spec_l9Values.l0 k2 l0 a1 (y120 ++ y123) (wrap64 (x6_1 + 1))) else (none)))) else (none)))) else (none))) else (none)) else (none)))) else (none)) else (none)) = some r := by first | (rw [hji12] at H; exact H) | (simp only [hji12] at H ⊢; exact H)
 have hji12w : (IntKind.i64.wrap (x8_2 - 1)) = ji12 := (i64_w _).trans hji12
 by_cases c13 : 0 ≤ (ji12)
 rotate_left
 ·
  rw [if_neg c13] at H
  exact absurd H (by simp)
 rw [if_pos c13] at H
 have c13b0 : decide (0 ≤ (ji12)) = true := decide_eq_true c13
 clear c13
 by_cases c14 : (ji12) < (x5_1.length : Int)
 rotate_left
 ·
  rw [if_neg c14] at H
  exact absurd H (by simp)
 rw [if_pos c14] at H
 have c14b0 : decide ((ji12) < (x5_1.length : Int)) = true := decide_eq_true c14
 clear c14
 by_cases c15 : (rd x5_1 (ji12)) > (rd ((rd_T29 l0 x6_1).f2) a1)
 ·
  rw [if_pos c15] at H
  have c15b0 : decide ((rd ((rd_T29 l0 x6_1).f2) a1) < (rd x5_1 (ji12))) = true := decide_eq_true c15
  clear c15; have H' := aK H; clear H
  have p106 : 0 ≤ ((ji12) : Int) := dA
  have q106 : (ji12) < (x5_1.length : Int) := dA
  obtain ⟨ad106, e106, hx106_0⟩ := Kd.at_int (Kd.R_reads' HO_5.out).2.2 (ji12) p106 q106; cases e106; replace p106 := eq_true p106; replace q106 := eq_true q106
  go_wp2
  go_roundg k2
  case measure => have := HK1.out; have := HK2.out; omega
  case rel => exact ⟨(ji12), (by first | rfl | (simp; done) | (simp only [← hji12] <;> (first | rfl | simp)) | (simp [*]; done)), H', ⟨by have := HK1.out; have := HK2.out; omega⟩, ⟨pR HO_5.out⟩, ⟨pT HB.out⟩⟩
 rw [if_neg c15] at H
 have c15b0 : decide ((rd ((rd_T29 l0 x6_1).f2) a1) < (rd x5_1 (ji12))) = false := decide_eq_false c15
 clear c15
 obtain ⟨y107, hy107⟩ : ∃ y_ : List Int, y_ = (([] : List Int)) := ⟨_, rfl⟩
 replace H : (if 0 ≤ x8_2 then (if x8_2 ≤ (x5_1.length : Int) then ((some (x5_1.take (x8_2 : Int).toNat : List Int)).bind fun y110 => (if y107.length + y110.length < 17592186044416 then ((some (y107 ++ y110 : List Int)).bind fun y114 => ((some (([(rd ((rd_T29 l0 x6_1).f2) a1)] : List Int) : List Int)).bind fun y117 => (if y114.length + y117.length < 17592186044416 then ((some (y114 ++ y117 : List Int)).bind fun y120 => ((some (x5_1.drop (x8_2 : Int).toNat : List Int)).bind fun y123 => (if y120.length + y123.length < 17592186044416 then (spec_l9Values.l0 k2 l0 a1 (y120 ++ y123) (wrap64 (x6_1 + 1))) else (none)))) else (none)))) else (none))) else (none)) else (none)) = some r := by first | (rw [hy107]; first | with_reducible exact H | with_reducible exact (oS H :)) | with_reducible exact (oS H :) | with_reducible exact H | exact H
 have Ny107 := aK hy107
 clear hy107
 by_cases c16 : 0 ≤ x8_2
 rotate_left
 ·
  rw [if_neg c16] at H
  exact absurd H (by simp)
 rw [if_pos c16] at H
 have c16b0 := eq_true c16
 have c16b1 : decide (0 ≤ x8_2) = true := decide_eq_true c16
 clear c16
 by_cases c17 : x8_2 ≤ (x5_1.length : Int)
 rotate_left
 ·
  rw [if_neg c17] at H
  exact absurd H (by simp)
 rw [if_pos c17] at H
 have c17b0 := eq_true c17
 have c17b1 : decide (x8_2 ≤ (x5_1.length : Int)) = true := decide_eq_true c17
 clear c17
 obtain ⟨y110, hy110⟩ : ∃ y_ : List Int, y_ = (x5_1.take (x8_2 : Int).toNat) := ⟨_, rfl⟩
 replace H : (if y107.length + y110.length < 17592186044416 then ((some (y107 ++ y110 : List Int)).bind fun y114 => ((some (([(rd ((rd_T29 l0 x6_1).f2) a1)] : List Int) : List Int)).bind fun y117 => (if y114.length + y117.length < 17592186044416 then ((some (y114 ++ y117 : List Int)).bind fun y120 => ((some (x5_1.drop (x8_2 : Int).toNat : List Int)).bind fun y123 => (if y120.length + y123.length < 17592186044416 then (spec_l9Values.l0 k2 l0 a1 (y120 ++ y123) (wrap64 (x6_1 + 1))) else (none)))) else (none)))) else (none)) = some r := by first | (rw [hy110]; first | with_reducible exact H | with_reducible exact (oS H :)) | with_reducible exact (oS H :) | with_reducible exact H | exact H
 have Ny110 := aK hy110
 clear hy110
 by_cases c18 : y107.length + y110.length < 17592186044416
 rotate_left
 ·
  rw [if_neg c18] at H
  exact absurd H (by simp)
 rw [if_pos c18] at H
 have LMc18 := aK c18
 clear c18
 obtain ⟨y114, hy114⟩ : ∃ y_ : List Int, y_ = (y107 ++ y110) := ⟨_, rfl⟩
 replace H : ((some (([(rd ((rd_T29 l0 x6_1).f2) a1)] : List Int) : List Int)).bind fun y117 => (if y114.length + y117.length < 17592186044416 then ((some (y114 ++ y117 : List Int)).bind fun y120 => ((some (x5_1.drop (x8_2 : Int).toNat : List Int)).bind fun y123 => (if y120.length + y123.length < 17592186044416 then (spec_l9Values.l0 k2 l0 a1 (y120 ++ y123) (wrap64 (x6_1 + 1))) else (none)))) else (none))) = some r := by first | (rw [hy114]; first | with_reducible exact H | with_reducible exact (oS H :)) | with_reducible exact (oS H :) | with_reducible exact H | exact H
 have Ny114 := aK hy114
 clear hy114
 obtain ⟨y117, hy117⟩ : ∃ y_ : List Int, y_ = (([(rd ((rd_T29 l0 x6_1).f2) a1)] : List Int)) := ⟨_, rfl⟩
 replace H : (if y114.length + y117.length < 17592186044416 then ((some (y114 ++ y117 : List Int)).bind fun y120 => ((some (x5_1.drop (x8_2 : Int).toNat : List Int)).bind fun y123 => (if y120.length + y123.length < 17592186044416 then (spec_l9Values.l0 k2 l0 a1 (y120 ++ y123) (wrap64 (x6_1 + 1))) else (none)))) else (none)) = some r := by first | (rw [hy117]; first | with_reducible exact H | with_reducible exact (oS H :)) | with_reducible exact (oS H :) | with_reducible exact H | exact H
 have Ny117 := aK hy117
 clear hy117
 by_cases c19 : y114.length + y117.length < 17592186044416
 rotate_left
 ·
  rw [if_neg c19] at H
  exact absurd H (by simp)
 rw [if_pos c19] at H
 have LMc19 := aK c19
 clear c19
 obtain ⟨y120, hy120⟩ : ∃ y_ : List Int, y_ = (y114 ++ y117) := ⟨_, rfl⟩
 replace H : ((some (x5_1.drop (x8_2 : Int).toNat : List Int)).bind fun y123 => (if y120.length + y123.length < 17592186044416 then (spec_l9Values.l0 k2 l0 a1 (y120 ++ y123) (wrap64 (x6_1 + 1))) else (none))) = some r := by first | (rw [hy120]; first | with_reducible exact H | with_reducible exact (oS H :)) | with_reducible exact (oS H :) | with_reducible exact H | exact H
 have Ny120 := aK hy120
 clear hy120
 have c20b0 := eq_true (dA : 0 ≤ x8_2)
 have c21b0 := eq_true (dA : x8_2 ≤ (x5_1.length : Int))
 obtain ⟨y123, hy123⟩ : ∃ y_ : List Int, y_ = (x5_1.drop (x8_2 : Int).toNat) := ⟨_, rfl⟩
 replace H : (if y120.length + y123.length < 17592186044416 then (spec_l9Values.l0 k2 l0 a1 (y120 ++ y123) (wrap64 (x6_1 + 1))) else (none)) = some r := by first | (rw [hy123]; first | with_reducible exact H | with_reducible exact (oS H :)) | with_reducible exact (oS H :) | with_reducible exact H | exact H
 have Ny123 := aK hy123
 clear hy123
 by_cases c22 : y120.length + y123.length < 17592186044416
 rotate_left
 ·
  rw [if_neg c22] at H
  exact absurd H (by simp)
 rw [if_pos c22] at H
 have LMc22 := aK c22
 clear c22
 obtain ⟨y127, hy127⟩ : ∃ y_ : List Int, y_ = (y120 ++ y123) := ⟨_, rfl⟩
 replace H : (spec_l9Values.l0 k2 l0 a1 y127 (wrap64 (x6_1 + 1))) = some r := by first | (rw [hy127]; first | with_reducible exact H | with_reducible exact (oS H :)) | with_reducible exact (oS H :) | with_reducible exact H | exact H
 have Ny127 := aK hy127
 clear hy127
 have H' := aK H
 clear H
 have p106 : 0 ≤ ((ji12) : Int) := dA
 have q106 : (ji12) < (x5_1.length : Int) := dA
 obtain ⟨ad106, e106, hx106_0⟩ := Kd.at_int (Kd.R_reads' HO_5.out).2.2 (ji12) p106 q106
 cases e106
 replace p106 := eq_true p106
 replace q106 := eq_true q106
 try go_wp2
 replace HO_5 := rdw HO_5
 replace HB := aK (below_drew1 HB.out)
 have q24 : (x8_2 : Int) ≤ ((x5_1.length : Int) : Int) := dA
 obtain ⟨i024, hi024, _, hsz24, _⟩ := info_parts info3
 have hroom24 : x5_1.length ≤ co10 := (Kd.R_reads' HO_5.out).2.1
 have hC24 : Kd.C (Kd.int .i64) _ (some ad106) x5_1.length x5_1 := (Kd.R_reads' HO_5.out).2.2
 have hcut24 := cut_to (P := Try.prog) 27 3 .i64 Try.underlying27 hi024 (some ad106) x5_1.length co10 x8_2 (dA) q24 hroom24
 have hr24 := Kd.C_take (m := (x8_2 : Int).toNat) hC24 (by omega)
 have hy24 : y110.length = (x8_2 : Int).toNat := (by rw [Ny110.out, List.length_take]; omega)
 rw [← Ny110.out] at hr24
 rw [← hy24] at hcut24
 have HR113 := aK hr24
 have HC113 := aK (show y110.length ≤ co10 from by omega)
 clear hr24 hC24 hroom24 hi024 hsz24
 have KY24 := aK hy24
 clear hy24
 have KL24 := aK (show (x8_2 : Int).toNat ≤ x5_1.length from by omega)
 replace q24 := eq_true q24
 have q25 : (x8_2 : Int) ≤ ((x5_1.length : Int) : Int) := dA
 obtain ⟨i025, hi025, _, hsz25, _⟩ := info_parts info3
 have hroom25 : x5_1.length ≤ co10 := (Kd.R_reads' HO_5.out).2.1
 have hC25 : Kd.C (Kd.int .i64) _ (some ad106) x5_1.length x5_1 := (Kd.R_reads' HO_5.out).2.2
 have q025 : (0 : Int) ≤ (x8_2 : Int) := dA
 have hcut25 := cut_from (P := Try.prog) 27 3 .i64 Try.underlying27 hi025 1 hsz25 (some ad106) x5_1.length co10 x8_2 q025 q25
 have hr25 := Kd.C_drop (m := (x8_2 : Int).toNat) (c := co10) hC25 (by omega) hroom25
 obtain ⟨A25, hA25⟩ : ∃ A1, A1 = (if co10 = (x8_2 : Int).toNat then (some ad106) else ((some ad106) : Option Addr).map (·.add ((x8_2 : Int).toNat * 1))) := ⟨_, rfl⟩
 obtain ⟨c25, hc25⟩ : ∃ c1, c1 = co10 - (x8_2 : Int).toNat := ⟨_, rfl⟩
 have hy25 : y123.length = x5_1.length - (x8_2 : Int).toNat := (by rw [Ny123.out, List.length_drop] <;> omega)
 rw [show (x5_1).drop (x8_2 : Int).toNat = y123 from Ny123.out.symm] at hr25
 replace hr25 : Kd.C (Kd.int .i64) _ A25 y123.length y123 := (by rw [hA25]; exact hr25)
 rw [← hy25, ← hA25, ← hc25] at hcut25
 have HR126 := aK hr25
 have HC126 := aK (show y123.length ≤ c25 from by rw [hy25, hc25]; exact Nat.sub_le_sub_right hroom25 _)
 clear hr25 hC25 hroom25 hi025 hsz25 hc25
 have KY25 := aK hy25
 have KA25 := aK hA25
 clear hy25 hA25
 have KL25 := aK (show (x8_2 : Int).toNat ≤ x5_1.length from by omega)
 replace q25 := eq_true q25
 refine start_ (n := 13) (S := fun w' => True) (ds := []) (bz [0, 13]) (by kernel_rfl) rfl rfl trivial (fun hHeld => ?_); refine with_tabW spec_l9Values.tab10 spec_l9Values.bits10 (fun HT_ HW_ => ?_)
 generalize wr.drew = w23 at HO_5 HB HR113 HR126 hHeld ⊢
 refine pz 1 42 [0, 1, 1, 11] HT_ ?_
 refine pz 2 43 [0, 1, 2, 10] HT_ ?_
 refine pz 3 44 [0, 1, 3, 9] HT_ ?_
 refine pz 5 46 [0, 1, 3, 1, 1, 7] HT_ ?_
 refine pz 8 49 [0, 1, 3, 1, 1, 2, 1, 4] HT_ ?_
 refine pz 9 50 [0, 1, 3, 1, 1, 2, 2, 3] HT_ ?_
 refine pz 10 51 [0, 1, 3, 1, 1, 2, 3, 2] HT_ ?_
 refine join_ (σ := Value × Value × Value) 3 (bz [7, 1, 3, 2]) (fun s_ => [(41, s_.1), (45, s_.2.1), (47, s_.2.2)]) (fun s_ w' => (Kd.R (Kd.int .i64) 3 w' w.heap.size (fun k_ => some k_ ≠ (s_.2.2 : Value).ownBlock ∧ some k_ ≠ (.slice (some ad106) x5_1.length co10 : Value).ownBlock) s_.2.1 y114) ∧ (Kd.R (Kd.int .i64) 3 w' w.heap.size (fun k_ => some k_ ≠ (s_.2.1 : Value).ownBlock ∧ some k_ ≠ (.slice (some ad106) x5_1.length co10 : Value).ownBlock) s_.2.2 y117) ∧ (Kd.R (Kd.int .i64) 3 w' w.heap.size (fun k_ => some k_ ≠ (s_.2.1 : Value).ownBlock ∧ some k_ ≠ (s_.2.2 : Value).ownBlock) (.slice (some ad106) x5_1.length co10) x5_1) ∧ (Below w.heap.size w w')) ?_ ?_
 rotate_left
 ·
  intro hCont
  refine two_ (i := 0) (j := 6) (Ni := some 41) (Nj := some 47) (bz [4, 1, 1, 2, 3, 2]) (bz [0, 1, 3, 1, 2, 1, 3, 2]) rfl rfl rfl rfl (two_of HT_.out (by kernel_rfl)) (by decide) (by decide) (fun K hK => ?_) (fun K hK => ?_)
  ·
   skip
   refine Kd.R_lit_step (Kd.int .i64) _ 3 ?hg (N := 41) ?hd (xs := ([] : List Int)) (inner := []) (ok := fun _ => True) (okp := fun _ => True) ?hr ?hp (fun _ hk => hk) trivial (Below.refl _ _) (Nat.le_refl _) (by simp) ?_; (case hd => rfl); (case hg => rfl); (case hr => first | (go_simp; done) | (go_simp; rfl)); (case hp => exact (Reps.none _ _))
   intro v108 w26 ho27 hb hg_ hnew_
   clear hg_ hnew_
   (first | rw [← Ny107.out] at ho27 | (simp only [Int.reduceToNat] at ho27; rw [← Ny107.out] at ho27))
   have n0_ := aK (Kd.R_elder' (pR HO_5.out) (Kd.R_base ho27) hb); have HO109 := aK (Kd.R_lower (nw1 ho27 (pR HO_5.out)) (below_size (pS HB.out))); replace HR113 := aK (Kd.C_below (pC HR113.out) hb); replace HR126 := aK (Kd.C_below (pC HR126.out) hb); replace HB := bS HB hb; clear HO_5; have HO_5 := n0_; clear n0_ hb ho27
   refine hK.out _ _ trivial (fun hHeld => ?_)
   clear hK K
   refine nm 41 ?_
   refine two_ (i := 4) (j := 6) (Ni := some 45) (Nj := some 47) (bz [6, 2, 3, 2]) (bz [4, 1, 2, 1, 3, 2]) rfl rfl rfl rfl (two_of HT_.out (by kernel_rfl)) (by decide) (by decide) (fun K hK => ?_) (fun K hK => ?_)
   ·
    skip
    refine Kd.R_append_rows_step (Kd.int .i64) (w0 := w) w.heap.size (by rfl) (.tmp 41) (.tmp 44) 27 3 (.int .i64 0) 8 rfl Try.underlying27 info3 rfl (by decide) (by omega) v108 y107 y110 _ _ _ (fun k_ => some k_ ≠ (.slice (some ad106) x5_1.length co10 : Value).ownBlock) (fun _ => False) rfl rfl ?aO ?aR (fun _ _ h => h) (fun _ h => h.elim) ?aF ?aB ?aS ?aL ?_
    (case aR => repeat (first | exact (pC HR113.out) | (with_reducible refine Kd.C_alloc ?_ _) | (with_reducible refine Kd.C_drewN ?_ _) | (with_reducible refine Kd.C_drew ?_)))
    (case aB => exact (pS HB.out))
    (case aF => exact (fun k_ hk => Kd.fresh' (Kd.R_lt (pR HO_5.out)) k_ hk))
    (case aO => exact (pR (Kd.R_mono HO109.out (fun _ hk => hk.2))))
    (case aS => exact (below_size (pS HB.out)))
    (case aL => have := LMc18.out; omega)
    intro v115 w28 ho hb hg hat
    rw [← Ny114.out] at ho
    have n0_ := aK (Kd.R_after (ok := (fun _ => True)) (pR HO_5.out) hg hat)
    replace HB := aK (hb)
    replace HR113 := aK ((show Kd.C (Kd.int .i64) w28 (some ad106) y110.length y110 from by rw [Ny110.out]; exact Kd.C_take (m := (x8_2 : Int).toNat) ((Kd.R_reads' (Kd.R_after (ok := (fun _ => True)) (pR HO_5.out) hg hat)).2.2) KL24.out))
    replace HR126 := aK ((show Kd.C (Kd.int .i64) w28 A25 y123.length y123 from by rw [Ny123.out, KA25.out]; exact Kd.C_drop (m := (x8_2 : Int).toNat) (c := co10) ((Kd.R_reads' (Kd.R_after (ok := (fun _ => True)) (pR HO_5.out) hg hat)).2.2) KL25.out ((Kd.R_reads' (Kd.R_after (ok := (fun _ => True)) (pR HO_5.out) hg hat)).2.1)))
    have HO116 := aK (ho); clear HO_5 HO109; have HO_5 := n0_; clear n0_ ho hb hg hat
    refine hK.out _ _ trivial (fun hHeld => ?_)
    clear hK K
    refine nm 45 ?_
    refine oz 6 47 [7, 1, 3, 2] HT_ fun K hK => ?_
    refine Kd.R_lit_step (Kd.int .i64) _ 3 ?hg (N := 47) ?hd (xs := ([(rd ((rd_T29 l0 x6_1).f2) a1)] : List Int)) (inner := [.int .i64 (rd ((rd_T29 l0 x6_1).f2) a1)]) (ok := fun _ => True) (okp := fun _ => True) ?hr ?hp (fun _ hk => hk) trivial (Below.refl _ _) (Nat.le_refl _) (by simp) ?_; (case hd => rfl); (case hg => rfl); (case hr => first | (go_simp; done) | (go_simp; rfl)); (case hp => exact (Reps.one (show Kd.M (Kd.int .i64) _ _ _ (rd ((rd_T29 l0 x6_1).f2) a1) [.int .i64 (rd ((rd_T29 l0 x6_1).f2) a1)] from rfl) (Reps.none _ _)))
    intro v118 w29 ho30 hb hg_ hnew_
    clear hg_ hnew_
    (first | rw [← Ny117.out] at ho30 | (simp only [Int.reduceToNat] at ho30; rw [← Ny117.out] at ho30))
    have n0_ := aK (Kd.R_elder' (pR HO_5.out) (Kd.R_base ho30) hb); have n1_ := aK (Kd.R_elder' (pR HO116.out) (Kd.R_base ho30) hb); have HO119 := aK (Kd.R_lower (nw2 ho30 (pR HO_5.out) (pR HO116.out)) (below_size (pS HB.out))); replace HR113 := aK (Kd.C_below (pC HR113.out) hb); replace HR126 := aK (Kd.C_below (pC HR126.out) hb); replace HB := bS HB hb; clear HO_5 HO116; have HO_5 := n0_; have HO116 := n1_; clear n0_ n1_ hb ho30
    refine hK.out _ _ trivial (fun hHeld => ?_)
    clear hK K
    refine nm 47 ?_
    exact norm_ (by simp only [putAll, Act.put, List.setIfInBounds_toArray, List.set_cons_zero, List.set_cons_succ]) (hCont (v108, v115, v118) _ ⟨(pR (rP HO116.out)), (pR (rP HO119.out)), (pR (rP HO_5.out)), (pS HB.out)⟩)
   skip
   refine Kd.R_lit_step (Kd.int .i64) _ 3 ?hg (N := 47) ?hd (xs := ([(rd ((rd_T29 l0 x6_1).f2) a1)] : List Int)) (inner := [.int .i64 (rd ((rd_T29 l0 x6_1).f2) a1)]) (ok := fun _ => True) (okp := fun _ => True) ?hr ?hp (fun _ hk => hk) trivial (Below.refl _ _) (Nat.le_refl _) (by simp) ?_; (case hd => rfl); (case hg => rfl); (case hr => first | (go_simp; done) | (go_simp; rfl)); (case hp => exact (Reps.one (show Kd.M (Kd.int .i64) _ _ _ (rd ((rd_T29 l0 x6_1).f2) a1) [.int .i64 (rd ((rd_T29 l0 x6_1).f2) a1)] from rfl) (Reps.none _ _)))
   intro v118 w28 ho29 hb hg_ hnew_
   clear hg_ hnew_
   (first | rw [← Ny117.out] at ho29 | (simp only [Int.reduceToNat] at ho29; rw [← Ny117.out] at ho29))
   have n0_ := aK (Kd.R_elder' (pR HO_5.out) (Kd.R_base ho29) hb); have n1_ := aK (Kd.R_elder' (pR HO109.out) (Kd.R_base ho29) hb); have HO119 := aK (Kd.R_lower (nw2 ho29 (pR HO_5.out) (pR HO109.out)) (below_size (pS HB.out))); replace HR113 := aK (Kd.C_below (pC HR113.out) hb); replace HR126 := aK (Kd.C_below (pC HR126.out) hb); replace HB := bS HB hb; clear HO_5 HO109; have HO_5 := n0_; have HO109 := n1_; clear n0_ n1_ hb ho29
   refine hK.out _ _ trivial (fun hHeld => ?_)
   clear hK K
   refine nm 47 ?_
   refine oz 4 45 [7, 1, 3, 2] HT_ fun K hK => ?_
   refine Kd.R_append_rows_step (Kd.int .i64) (w0 := w) w.heap.size (by rfl) (.tmp 41) (.tmp 44) 27 3 (.int .i64 0) 8 rfl Try.underlying27 info3 rfl (by decide) (by omega) v108 y107 y110 _ _ _ (fun k_ => some k_ ≠ (.slice (some ad106) x5_1.length co10 : Value).ownBlock ∧ some k_ ≠ (v118 : Value).ownBlock) (fun _ => False) rfl rfl ?aO ?aR (fun _ _ h => h) (fun _ h => h.elim) ?aF ?aB ?aS ?aL ?_
   (case aR => repeat (first | exact (pC HR113.out) | (with_reducible refine Kd.C_alloc ?_ _) | (with_reducible refine Kd.C_drewN ?_ _) | (with_reducible refine Kd.C_drew ?_)))
   (case aB => exact (pS HB.out))
   (case aF => exact (fun k_ hk => ⟨Kd.fresh' (Kd.R_lt (pR HO_5.out)) k_ hk, Kd.fresh' (Kd.R_lt (pR HO119.out)) k_ hk⟩))
   (case aO => exact (pR (rP HO109.out)))
   (case aS => exact (below_size (pS HB.out)))
   (case aL => have := LMc18.out; omega)
   intro v115 w30 ho hb hg hat
   rw [← Ny114.out] at ho
   have n0_ := aK (Kd.R_after (ok := (fun k_ => some k_ ≠ (v118 : Value).ownBlock)) (pR (rP HO_5.out)) hg hat)
   replace HO119 := aK (Kd.R_after (ok := (fun k_ => some k_ ≠ (.slice (some ad106) x5_1.length co10 : Value).ownBlock)) (pR (rP HO119.out)) hg hat)
   replace HB := aK (hb)
   replace HR113 := aK ((show Kd.C (Kd.int .i64) w30 (some ad106) y110.length y110 from by rw [Ny110.out]; exact Kd.C_take (m := (x8_2 : Int).toNat) ((Kd.R_reads' (Kd.R_after (ok := (fun k_ => some k_ ≠ (v118 : Value).ownBlock)) (pR (rP HO_5.out)) hg hat)).2.2) KL24.out))
   replace HR126 := aK ((show Kd.C (Kd.int .i64) w30 A25 y123.length y123 from by rw [Ny123.out, KA25.out]; exact Kd.C_drop (m := (x8_2 : Int).toNat) (c := co10) ((Kd.R_reads' (Kd.R_after (ok := (fun k_ => some k_ ≠ (v118 : Value).ownBlock)) (pR (rP HO_5.out)) hg hat)).2.2) KL25.out ((Kd.R_reads' (Kd.R_after (ok := (fun k_ => some k_ ≠ (v118 : Value).ownBlock)) (pR (rP HO_5.out)) hg hat)).2.1)))
   have HO116 := aK (ho); clear HO_5 HO109; have HO_5 := n0_; clear n0_ ho hb hg hat
   refine hK.out _ _ trivial (fun hHeld => ?_)
   clear hK K
   refine nm 45 ?_
   exact norm_ (by simp only [putAll, Act.put, List.setIfInBounds_toArray, List.set_cons_zero, List.set_cons_succ]) (hCont (v108, v115, v118) _ ⟨(pR (rP HO116.out)), (pR (rP HO119.out)), (pR (rP HO_5.out)), (pS HB.out)⟩)
  skip
  refine Kd.R_lit_step (Kd.int .i64) _ 3 ?hg (N := 47) ?hd (xs := ([(rd ((rd_T29 l0 x6_1).f2) a1)] : List Int)) (inner := [.int .i64 (rd ((rd_T29 l0 x6_1).f2) a1)]) (ok := fun _ => True) (okp := fun _ => True) ?hr ?hp (fun _ hk => hk) trivial (Below.refl _ _) (Nat.le_refl _) (by simp) ?_; (case hd => rfl); (case hg => rfl); (case hr => first | (go_simp; done) | (go_simp; rfl)); (case hp => exact (Reps.one (show Kd.M (Kd.int .i64) _ _ _ (rd ((rd_T29 l0 x6_1).f2) a1) [.int .i64 (rd ((rd_T29 l0 x6_1).f2) a1)] from rfl) (Reps.none _ _)))
  intro v118 w26 ho27 hb hg_ hnew_
  clear hg_ hnew_
  (first | rw [← Ny117.out] at ho27 | (simp only [Int.reduceToNat] at ho27; rw [← Ny117.out] at ho27))
  have n0_ := aK (Kd.R_elder' (pR HO_5.out) (Kd.R_base ho27) hb); have HO119 := aK (Kd.R_lower (nw1 ho27 (pR HO_5.out)) (below_size (pS HB.out))); replace HR113 := aK (Kd.C_below (pC HR113.out) hb); replace HR126 := aK (Kd.C_below (pC HR126.out) hb); replace HB := bS HB hb; clear HO_5; have HO_5 := n0_; clear n0_ hb ho27
  refine hK.out _ _ trivial (fun hHeld => ?_)
  clear hK K
  refine nm 47 ?_
  refine oz 0 41 [4, 1, 2, 1, 3, 2] HT_ fun K hK => ?_
  refine Kd.R_lit_step (Kd.int .i64) _ 3 ?hg (N := 41) ?hd (xs := ([] : List Int)) (inner := []) (ok := fun _ => True) (okp := fun _ => True) ?hr ?hp (fun _ hk => hk) trivial (Below.refl _ _) (Nat.le_refl _) (by simp) ?_; (case hd => rfl); (case hg => rfl); (case hr => first | (go_simp; done) | (go_simp; rfl)); (case hp => exact (Reps.none _ _))
  intro v108 w28 ho29 hb hg_ hnew_
  clear hg_ hnew_
  (first | rw [← Ny107.out] at ho29 | (simp only [Int.reduceToNat] at ho29; rw [← Ny107.out] at ho29))
  have n0_ := aK (Kd.R_elder' (pR HO_5.out) (Kd.R_base ho29) hb); have n1_ := aK (Kd.R_elder' (pR HO119.out) (Kd.R_base ho29) hb); have HO109 := aK (Kd.R_lower (nw2 ho29 (pR HO_5.out) (pR HO119.out)) (below_size (pS HB.out))); replace HR113 := aK (Kd.C_below (pC HR113.out) hb); replace HR126 := aK (Kd.C_below (pC HR126.out) hb); replace HB := bS HB hb; clear HO_5 HO119; have HO_5 := n0_; have HO119 := n1_; clear n0_ n1_ hb ho29
  refine hK.out _ _ trivial (fun hHeld => ?_)
  clear hK K
  refine nm 41 ?_
  refine oz 4 45 [7, 1, 3, 2] HT_ fun K hK => ?_
  refine Kd.R_append_rows_step (Kd.int .i64) (w0 := w) w.heap.size (by rfl) (.tmp 41) (.tmp 44) 27 3 (.int .i64 0) 8 rfl Try.underlying27 info3 rfl (by decide) (by omega) v108 y107 y110 _ _ _ (fun k_ => some k_ ≠ (.slice (some ad106) x5_1.length co10 : Value).ownBlock ∧ some k_ ≠ (v118 : Value).ownBlock) (fun _ => False) rfl rfl ?aO ?aR (fun _ _ h => h) (fun _ h => h.elim) ?aF ?aB ?aS ?aL ?_
  (case aR => repeat (first | exact (pC HR113.out) | (with_reducible refine Kd.C_alloc ?_ _) | (with_reducible refine Kd.C_drewN ?_ _) | (with_reducible refine Kd.C_drew ?_)))
  (case aB => exact (pS HB.out))
  (case aF => exact (fun k_ hk => ⟨Kd.fresh' (Kd.R_lt (pR HO_5.out)) k_ hk, Kd.fresh' (Kd.R_lt (pR HO119.out)) k_ hk⟩))
  (case aO => exact (pR (rP HO109.out)))
  (case aS => exact (below_size (pS HB.out)))
  (case aL => have := LMc18.out; omega)
  intro v115 w30 ho hb hg hat
  rw [← Ny114.out] at ho
  have n0_ := aK (Kd.R_after (ok := (fun k_ => some k_ ≠ (v118 : Value).ownBlock)) (pR (rP HO_5.out)) hg hat)
  replace HO119 := aK (Kd.R_after (ok := (fun k_ => some k_ ≠ (.slice (some ad106) x5_1.length co10 : Value).ownBlock)) (pR (rP HO119.out)) hg hat)
  replace HB := aK (hb)
  replace HR113 := aK ((show Kd.C (Kd.int .i64) w30 (some ad106) y110.length y110 from by rw [Ny110.out]; exact Kd.C_take (m := (x8_2 : Int).toNat) ((Kd.R_reads' (Kd.R_after (ok := (fun k_ => some k_ ≠ (v118 : Value).ownBlock)) (pR (rP HO_5.out)) hg hat)).2.2) KL24.out))
  replace HR126 := aK ((show Kd.C (Kd.int .i64) w30 A25 y123.length y123 from by rw [Ny123.out, KA25.out]; exact Kd.C_drop (m := (x8_2 : Int).toNat) (c := co10) ((Kd.R_reads' (Kd.R_after (ok := (fun k_ => some k_ ≠ (v118 : Value).ownBlock)) (pR (rP HO_5.out)) hg hat)).2.2) KL25.out ((Kd.R_reads' (Kd.R_after (ok := (fun k_ => some k_ ≠ (v118 : Value).ownBlock)) (pR (rP HO_5.out)) hg hat)).2.1)))
  have HO116 := aK (ho); clear HO_5 HO109; have HO_5 := n0_; clear n0_ ho hb hg hat
  refine hK.out _ _ trivial (fun hHeld => ?_)
  clear hK K
  refine nm 45 ?_
  exact norm_ (by simp only [putAll, Act.put, List.setIfInBounds_toArray, List.set_cons_zero, List.set_cons_succ]) (hCont (v108, v115, v118) _ ⟨(pR (rP HO116.out)), (pR (rP HO119.out)), (pR (rP HO_5.out)), (pS HB.out)⟩)
 rintro ⟨v108, v115, v118⟩ w31 ⟨h0_, h1_, h2_, h3_⟩
 have n0_ : Aside0 (Kd.R (Kd.int .i64) 3 w31 w.heap.size (fun k_ => some k_ ≠ (v118 : Value).ownBlock ∧ some k_ ≠ (.slice (some ad106) x5_1.length co10 : Value).ownBlock) v115 y114) := ⟨h0_⟩
 have n1_ : Aside0 (Kd.R (Kd.int .i64) 3 w31 w.heap.size (fun k_ => some k_ ≠ (v115 : Value).ownBlock ∧ some k_ ≠ (.slice (some ad106) x5_1.length co10 : Value).ownBlock) v118 y117) := ⟨h1_⟩
 replace HO_5 : Aside0 (Kd.R (Kd.int .i64) 3 w31 w.heap.size (fun k_ => some k_ ≠ (v115 : Value).ownBlock ∧ some k_ ≠ (v118 : Value).ownBlock) (.slice (some ad106) x5_1.length co10) x5_1) := ⟨h2_⟩
 replace HB : Aside0 (Below w.heap.size w w31) := ⟨h3_⟩
 clear h0_ h1_ h2_ h3_
 have HO116 := n0_
 have HO119 := n1_
 clear n0_ n1_
 have hHeld := trivial
 have HR113 := aK (show Kd.C (Kd.int .i64) _ (some ad106) y110.length y110 from by rw [Ny110.out]; exact Kd.C_take (m := (x8_2 : Int).toNat) ((Kd.R_reads' HO_5.out).2.2) KL24.out)
 have HR126 := aK (show Kd.C (Kd.int .i64) _ A25 y123.length y123 from by rw [Ny123.out, KA25.out]; exact Kd.C_drop (m := (x8_2 : Int).toNat) (c := co10) ((Kd.R_reads' HO_5.out).2.2) KL25.out ((Kd.R_reads' HO_5.out).2.1))
 obtain ⟨Ao33, co33, eo33⟩ := Kd.R_slice HO119.out
 (first | subst eo33 | (obtain ⟨f4_, f5_⟩ := sI eo33; subst f4_; subst f5_))
 refine norm_ (a' := ?_) ?_ ?_
 rotate_left
 ·
  simp only [putAll, Act.put, List.setIfInBounds_toArray, List.set_cons_zero, List.set_cons_succ]
  rfl
 refine oz 7 48 [11, 2] HT_ fun K hK => ?_
 refine Kd.R_append_rows_step (Kd.int .i64) (w0 := w) w.heap.size (by rfl) (.tmp 45) (.tmp 47) 27 3 (.int .i64 0) 8 rfl Try.underlying27 info3 rfl (by decide) (by omega) v115 y114 y117 _ _ _ (fun k_ => some k_ ≠ (.slice (some ad106) x5_1.length co10 : Value).ownBlock ∧ some k_ ≠ (.slice Ao33 y117.length co33 : Value).ownBlock) (fun _ => False) rfl rfl ?aO ?aR (fun _ _ h => h) (fun _ h => h.elim) ?aF ?aB ?aS ?aL ?_
 (case aR => exact pC (Kd.R_reads' HO119.out).2.2)
 (case aB => exact (pS HB.out))
 (case aF => exact (fun k_ hk => ⟨Kd.fresh' (Kd.R_lt (pR HO_5.out)) k_ hk, Kd.fresh' (Kd.R_lt (pR HO119.out)) k_ hk⟩))
 (case aO => exact (pR (rP HO116.out)))
 (case aS => exact (below_size (pS HB.out)))
 (case aL => have := LMc19.out; omega)
 intro v121 w32 ho hb hg hat
 rw [← Ny120.out] at ho
 have n0_ := aK (Kd.R_after (ok := (fun k_ => some k_ ≠ (.slice Ao33 y117.length co33 : Value).ownBlock)) (pR (rP HO_5.out)) hg hat)
 replace HO119 := aK (Kd.R_after (ok := (fun k_ => some k_ ≠ (.slice (some ad106) x5_1.length co10 : Value).ownBlock)) (pR (rP HO119.out)) hg hat)
 replace HB := aK (hb)
 replace HR113 := aK ((show Kd.C (Kd.int .i64) w32 (some ad106) y110.length y110 from by rw [Ny110.out]; exact Kd.C_take (m := (x8_2 : Int).toNat) ((Kd.R_reads' (Kd.R_after (ok := (fun k_ => some k_ ≠ (.slice Ao33 y117.length co33 : Value).ownBlock)) (pR (rP HO_5.out)) hg hat)).2.2) KL24.out))
 replace HR126 := aK ((show Kd.C (Kd.int .i64) w32 A25 y123.length y123 from by rw [Ny123.out, KA25.out]; exact Kd.C_drop (m := (x8_2 : Int).toNat) (c := co10) ((Kd.R_reads' (Kd.R_after (ok := (fun k_ => some k_ ≠ (.slice Ao33 y117.length co33 : Value).ownBlock)) (pR (rP HO_5.out)) hg hat)).2.2) KL25.out ((Kd.R_reads' (Kd.R_after (ok := (fun k_ => some k_ ≠ (.slice Ao33 y117.length co33 : Value).ownBlock)) (pR (rP HO_5.out)) hg hat)).2.1)))
 have HO122 := aK (ho)
 clear HO_5 HO116
 have HO_5 := n0_
 clear n0_ ho hb hg hat
 refine hK.out _ _ trivial (fun hHeld => ?_)
 clear hK K
 refine nm 48 ?_
 refine oz 11 52 [12, 1] HT_ fun K hK => ?_
 refine Kd.R_append_rows_step (Kd.int .i64) (w0 := w) w.heap.size (by rfl) (.tmp 48) (.tmp 51) 27 3 (.int .i64 0) 8 rfl Try.underlying27 info3 rfl (by decide) (by omega) v121 y120 y123 _ _ _ (fun k_ => some k_ ≠ (.slice (some ad106) x5_1.length co10 : Value).ownBlock ∧ some k_ ≠ (.slice Ao33 y117.length co33 : Value).ownBlock) (fun _ => False) rfl rfl ?aO ?aR (fun _ _ h => h) (fun _ h => h.elim) ?aF ?aB ?aS ?aL ?_
 (case aR => repeat (first | exact (pC HR126.out) | (with_reducible refine Kd.C_alloc ?_ _) | (with_reducible refine Kd.C_drewN ?_ _) | (with_reducible refine Kd.C_drew ?_)))
 (case aB => exact (pS HB.out))
 (case aF => exact (fun k_ hk => ⟨Kd.fresh' (Kd.R_lt (pR HO_5.out)) k_ hk, Kd.fresh' (Kd.R_lt (pR HO119.out)) k_ hk⟩))
 (case aO => exact (pR HO122.out))
 (case aS => exact (below_size (pS HB.out)))
 (case aL => have := LMc22.out; omega)
 intro v128 w34 ho hb hg hat
 rw [← Ny127.out] at ho
 have n0_ := aK (Kd.R_after (ok := (fun k_ => some k_ ≠ (.slice Ao33 y117.length co33 : Value).ownBlock)) (pR HO_5.out) hg hat)
 replace HO119 := aK (Kd.R_after (ok := (fun k_ => some k_ ≠ (.slice (some ad106) x5_1.length co10 : Value).ownBlock)) (pR HO119.out) hg hat)
 replace HB := aK (hb)
 replace HR113 := aK ((show Kd.C (Kd.int .i64) w34 (some ad106) y110.length y110 from by rw [Ny110.out]; exact Kd.C_take (m := (x8_2 : Int).toNat) ((Kd.R_reads' (Kd.R_after (ok := (fun k_ => some k_ ≠ (.slice Ao33 y117.length co33 : Value).ownBlock)) (pR HO_5.out) hg hat)).2.2) KL24.out))
 replace HR126 := aK ((show Kd.C (Kd.int .i64) w34 A25 y123.length y123 from by rw [Ny123.out, KA25.out]; exact Kd.C_drop (m := (x8_2 : Int).toNat) (c := co10) ((Kd.R_reads' (Kd.R_after (ok := (fun k_ => some k_ ≠ (.slice Ao33 y117.length co33 : Value).ownBlock)) (pR HO_5.out) hg hat)).2.2) KL25.out ((Kd.R_reads' (Kd.R_after (ok := (fun k_ => some k_ ≠ (.slice Ao33 y117.length co33 : Value).ownBlock)) (pR HO_5.out) hg hat)).2.1)))
 have HO129 := aK (ho)
 clear HO_5 HO122
 have HO_5 := n0_
 clear n0_ ho hb hg hat
 refine hK.out _ _ trivial (fun hHeld => ?_)
 clear hK K
 refine nm 52 ?_
 refine pz 12 5 [13, 0] HT_ ?_
 refine done_ (done_of HT_.out (by kernel_rfl)) ?_
 try go_wp2
 go_roundg k2
 case measure => have := HK1.out; have := HK2.out; omega
 case rel => exact ⟨(y127), (wrap64 (x6_1 + 1)), (by first | rfl | (simp; done) | (simp [*]; done)), H', ⟨by have := HK1.out; have := HK2.out; omega⟩, ⟨pR (Kd.R_mono HO129.out (fun _ hk => trivial))⟩, ⟨pT HB.out⟩⟩
def spec_l1Most.f (a0 : Int) (a1 : Int) : Option (Int) := if a0 > a1 then (some a0) else (some a1)
theorem spec_l1Most.calls (a0 : Int) (a1 : Int) (r : Int) (w : World) (h : spec_l1Most.f a0 a1 = some r) :
  Calls Try.prog 41 #[.int .i64 a0, .int .i64 a1] w fun e w' => e = .returned (.int .i64 r) ∧ Drawn0 w w' := by
 have H : (if a0 > a1 then (some a0) else (some a1)) = some r := h
 clear h
 by_cases c3 : a0 > a1
 ·
  rw [if_pos c3] at H
  have c3b0 : decide (a1 < a0) = true := decide_eq_true c3
  clear c3
  obtain rfl := Option.some.inj H
  go_enter Try.func41, Try.ntmps41
  go_wp2
  go_ret
  exact ⟨by first | rfl | (simp; done) | (simp [*]; done), by repeat (first | exact Drawn0.refl _ | apply Drawn0.step)⟩
 rw [if_neg c3] at H
 have c3b0 : decide (a1 < a0) = false := decide_eq_false c3
 clear c3
 obtain rfl := Option.some.inj H
 go_enter Try.func41, Try.ntmps41
 go_wp2
 go_ret
 exact ⟨by first | rfl | (simp; done) | (simp [*]; done), by repeat (first | exact Drawn0.refl _ | apply Drawn0.step)⟩
end Go.Proofs.Ytpggcolcabmdeaa.P
