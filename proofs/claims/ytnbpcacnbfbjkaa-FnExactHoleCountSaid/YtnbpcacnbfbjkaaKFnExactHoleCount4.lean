/- Texts of the claim FnExactHoleCount, merged: part 4 of 10: the program's and the reference's functions as Lean functions, the walks that show it, and plain lemmas; no conditions. -/
import Derived.Test.YtnbpcacnbfbjkaaKFnExactHoleCount3
import Derived.Shelf.SlSortCmp.Insertion1
import Derived.Sort.Lot0
set_option linter.unusedVariables false
set_option linter.unusedSimpArgs false
open Go.RowKit Go.Shelf Go.Lib Go.Sort Go.Proofs Go.Proofs.YtnbpcacnbfbjkaaW.PrintWords Go.Proofs.YtnbpcacnbfbjkaaW.PrintLast Go.Proofs.YtnbpcacnbfbjkaaW.PrintMore
namespace Go.Proofs.Ytnbpcacnbfbjkaa.P
open Go.RowKit Go.Proofs.YtnbpcacnbfbjkaaW.PrintWords Go.Proofs.YtnbpcacnbfbjkaaW.PrintLast Go.Proofs.YtnbpcacnbfbjkaaW.PrintMore
attribute [local go_sem] max2_int min2_int max_two min_two max_three min_three max_four min_four
set_option maxHeartbeats 8000000
set_option maxRecDepth 100000
mutual
def spec_l8Next.l0 : Nat → List (S64) → Int → Int → Int → Int → Int → Option (Int)
 | 0, _, _, _, _, _, _ => none
 | k + 1, x0, x1, x6, x7, r0, r1 => if x7 < (x0.length : Int) then (if 0 ≤ x7 then (if ((rd_T64 x0 x7).f0) = r0 then (spec_l8Next.j1 k x0 x1 x6 x7 (((rd_T64 x0 x7).f1) != r1) r0 r1) else (spec_l8Next.j1 k x0 x1 x6 x7 true r0 r1)) else (none)) else (some x6)
def spec_l8Next.j1 : Nat → List (S64) → Int → Int → Int → Bool → Int → Int → Option (Int)
 | 0, _, _, _, _, _, _, _ => none
 | k + 1, x0, x1, x6, x7, x36, r0, r1 => if x36 = true then (spec_l8Next.l0 k x0 x1 x6 (wrap64 (x7 + 1)) r0 r1) else (if x6 < 0 then (spec_l8Next.l0 k x0 x1 x7 (wrap64 (x7 + 1)) r0 r1) else (if 0 ≤ x7 then (if x7 < (x0.length : Int) then (if 0 ≤ x1 then (if x1 < (x0.length : Int) then (if ((rd_T64 x0 x7).f2) = (Int.tmod (wrap64 (((rd_T64 x0 x1).f2) + 1)) 4) then (spec_l8Next.l0 k x0 x1 x7 (wrap64 (x7 + 1)) r0 r1) else (spec_l8Next.l0 k x0 x1 x6 (wrap64 (x7 + 1)) r0 r1)) else (none)) else (none)) else (none)) else (none)))
end
def spec_l8Next.f (k : Nat) (l0 : List (S64)) (a1 : Int) : Option (Int) := if 0 ≤ a1 then (if a1 < (l0.length : Int) then ((spec_l8End.f ((rd_T64 l0 a1).f0) ((rd_T64 l0 a1).f1) ((rd_T64 l0 a1).f2)).bind fun bt102 => (spec_l8Next.l0 k l0 a1 (-1) 0 bt102.1 bt102.2)) else (none)) else (none)
theorem spec_l8Next.calls (k : Nat) (A0 : Option Addr) (c0 : Nat) (l0 : List (S64)) (a1 : Int) (r : Int) (w : World) (hr0 : Kd.C k64 w A0 l0.length l0) (hc0 : l0.length ≤ c0) (h : spec_l8Next.f k l0 a1 = some r) :
  Calls Try.prog 43 #[.slice A0 l0.length c0, .int .i64 a1] w fun e w' => e = .returned (.int .i64 r) ∧ Below w.heap.size w w' := by
 have hu64 := Try.underlying64
 have hu48 := Try.underlying48
 have HR0 := aK hr0
 have HC0 := aK hc0
 clear hr0 hc0
 have HB := aK (Below.refl w.heap.size w)
 have H : (if 0 ≤ a1 then (if a1 < (l0.length : Int) then ((spec_l8End.f ((rd_T64 l0 a1).f0) ((rd_T64 l0 a1).f1) ((rd_T64 l0 a1).f2)).bind fun bt102 => (spec_l8Next.l0 k l0 a1 (-1) 0 bt102.1 bt102.2)) else (none)) else (none)) = some r := h
 clear h
 by_cases c3 : 0 ≤ a1
 rotate_left
 ·
  rw [if_neg c3] at H
  exact absurd H (by simp)
 rw [if_pos c3] at H
 have c3b0 : decide (0 ≤ a1) = true := decide_eq_true c3
 clear c3
 by_cases c4 : a1 < (l0.length : Int)
 rotate_left
 ·
  rw [if_neg c4] at H
  exact absurd H (by simp)
 rw [if_pos c4] at H
 have c4b0 : decide (a1 < (l0.length : Int)) = true := decide_eq_true c4
 clear c4
 replace H := oA H
 obtain ⟨⟨t102, t103⟩, A5, H⟩ := H
 replace H : (spec_l8Next.l0 k l0 a1 (-1) 0 t102 t103) = some r := H
 have H' := aK H
 clear H
 have p101 : 0 ≤ (a1 : Int) := dA
 have q101 : a1 < (l0.length : Int) := dA
 obtain ⟨ad101, e101, hx101_0, hx101_1, hx101_2⟩ := at_T64 HR0.out a1 p101 q101
 cases e101
 replace p101 := eq_true p101
 replace q101 := eq_true q101
 go_enter Try.func43, Try.ntmps43
 go_wp2_with (first | (go_at_call 51; (with_reducible refine (spec_l8End.calls ((rd_T64 l0 a1).f0) ((rd_T64 l0 a1).f1) ((rd_T64 l0 a1).f2) t102 t103 _ A5.out).mono ?_); rintro e w6 ⟨rfl, hb⟩; replace HB := bS HB hb; (try clear hb)) | ((with_reducible refine ga 5 rfl ?_); refine bxa #[.int .i64 0, .int .i64 0] 48 ?_; intro g104 hg w7 B104 hb; have GW104 := gA hg HB; replace HB := bS HB hb; clear hb hg; obtain ⟨z8_0, z8_1, y8_0, y8_1⟩ := bc2 B104.out))
 repeat (go_quiet (first | (go_at_call 51; (with_reducible refine (spec_l8End.calls ((rd_T64 l0 a1).f0) ((rd_T64 l0 a1).f1) ((rd_T64 l0 a1).f2) t102 t103 _ A5.out).mono ?_); rintro e w6 ⟨rfl, hb⟩; replace HB := bS HB hb; (try clear hb)) | ((with_reducible refine ga 5 rfl ?_); refine bxa #[.int .i64 0, .int .i64 0] 48 ?_; intro g104 hg w7 B104 hb; have GW104 := gA hg HB; replace HB := bS HB hb; clear hb hg; obtain ⟨z8_0, z8_1, y8_0, y8_1⟩ := bc2 B104.out)); try go_wp2_with (first | (go_at_call 51; (with_reducible refine (spec_l8End.calls ((rd_T64 l0 a1).f0) ((rd_T64 l0 a1).f1) ((rd_T64 l0 a1).f2) t102 t103 _ A5.out).mono ?_); rintro e w6 ⟨rfl, hb⟩; replace HB := bS HB hb; (try clear hb)) | ((with_reducible refine ga 5 rfl ?_); refine bxa #[.int .i64 0, .int .i64 0] 48 ?_; intro g104 hg w7 B104 hb; have GW104 := gA hg HB; replace HB := bS HB hb; clear hb hg; obtain ⟨z8_0, z8_1, y8_0, y8_1⟩ := bc2 B104.out)))
 go_loopg [6, 7] k (fun kq v6 v7 w' => ∃ (x6_1 : Int) (x7_1 : Int), v6 = .int .i64 x6_1 ∧ v7 = .int .i64 x7_1 ∧ Aside0 (spec_l8Next.l0 kq l0 a1 x6_1 x7_1 t102 t103 = some r) ∧ Aside0 (kq ≤ k) ∧ Aside0 (w'.heap[g104]? = some (.cells #[.int .i64 t102, .int .i64 t103] 48 (0, 0))) ∧ Aside0 (Below w.heap.size w w'))
 case atStart => exact ⟨((-1)), (0), (by first | rfl | (simp; done) | (simp [*]; done)), (by first | rfl | (simp; done) | (simp [*]; done)), H', ⟨Nat.le_refl _⟩, ⟨by refine bq #[.int .i64 t102, .int .i64 0] 1 ?_; refine bq #[.int .i64 0, .int .i64 0] 0 ?_; refine bk ?_; exact B104.out⟩, ⟨pT HB.out⟩⟩
 case round =>
 clear H'
 try clear p1
 try clear q1
 try clear hx1
 try clear p2
 try clear c3
 try clear c3b0
 try clear c4
 try clear c4b0
 try clear z8_0
 try clear z8_1
 try clear y8_0
 try clear y8_1
 try clear hx101_0
 try clear hx101_1
 try clear hx101_2
 try clear p101
 try clear q101
 obtain ⟨x6_1, x7_1, rfl, rfl, HA, HK1, B104, HB⟩ := hrel
 cases gk with
 | zero => exact absurd HA.out (by simp [spec_l8Next.l0])
 | succ k1 =>
 have H := HA.out
 clear HA
 simp only [spec_l8Next.l0] at H
 by_cases c9 : x7_1 < (l0.length : Int)
 rotate_left
 ·
  rw [if_neg c9] at H
  have c9b0 : decide (x7_1 < (l0.length : Int)) = false := decide_eq_false c9
  clear c9
  obtain rfl := Option.some.inj H
  go_wp2
  repeat (go_quiet (fail); try go_wp2)
  go_ret
  exact ⟨er, pT HB.out⟩
 rw [if_pos c9] at H
 have c9b0 : decide (x7_1 < (l0.length : Int)) = true := decide_eq_true c9
 clear c9
 have HC10 := aK H
 clear H
 go_upto_region 6 with (fail)
 repeat (go_quiet (fail); go_upto_region 6 with (fail))
 go_cut [36] (fun v36 wc => ∃ (kq : Nat) (x36_9 : Bool), v36 = .bool x36_9 ∧ Aside0 (spec_l8Next.j1 kq l0 a1 x6_1 x7_1 x36_9 t102 t103 = some r) ∧ Aside0 (kq ≤ k1) ∧ Aside0 (wc.heap[g104]? = some (.cells #[.int .i64 t102, .int .i64 t103] 48 (0, 0))) ∧ Aside0 (Below w.heap.size w wc))
 case first =>
  have H := HC10.out; clear HC10
  by_cases c11 : 0 ≤ x7_1
  rotate_left
  ·
   rw [if_neg c11] at H
   exact absurd H (by simp)
  rw [if_pos c11] at H
  have c11b0 : decide (0 ≤ x7_1) = true := decide_eq_true c11
  clear c11
  (first | rw [c11b0] | (simp only [i64_w, i32_w]; rw [c11b0]) | skip)
  by_cases c12 : ((rd_T64 l0 x7_1).f0) = t102
  rotate_left
  ·
   rw [if_neg c12] at H
   have c12b0 : (((rd_T64 l0 x7_1).f0) == t102) = false := beq_eq_false_iff_ne.mpr c12
   have c12b1 : (((rd_T64 l0 x7_1).f0) != t102) = true := bne_iff_ne.mpr c12
   have H' := aK H; clear H
   have p105 : 0 ≤ (x7_1 : Int) := dA
   have q105 : x7_1 < (l0.length : Int) := dA
   obtain ⟨ad105, e105, hx105_0, hx105_1, hx105_2⟩ := at_T64 HR0.out x7_1 p105 q105
   obtain rfl : ad101 = ad105 := (by injection e105)
   replace hx105_0 := (HB.out.cell (World.block_lt_of_cell? w _ hx105_0)).trans hx105_0; replace hx105_1 := (HB.out.cell (World.block_lt_of_cell? w _ hx105_1)).trans hx105_1; replace hx105_2 := (HB.out.cell (World.block_lt_of_cell? w _ hx105_2)).trans hx105_2; replace p105 := eq_true p105; replace q105 := eq_true q105; obtain ⟨z14_0, z14_1, y14_0, y14_1⟩ := bc2 B104.out
   go_wp2
   repeat (go_quiet (fail); try go_wp2)
   go_meet
   case rel => exact ⟨_, (true), (by first | rfl | (simp; done) | (simp [*]; done)), H', ⟨by have := HK1.out; first | omega | exact Nat.le_refl _⟩, ⟨by refine bk ?_; exact B104.out⟩, ⟨pT HB.out⟩⟩
  rw [if_pos c12] at H
  have c12b0 : (((rd_T64 l0 x7_1).f0) == t102) = true := beq_iff_eq.mpr c12
  have c12b1 : (((rd_T64 l0 x7_1).f0) != t102) = false := bne_eq_false_iff_eq.mpr c12
  clear c12; have H' := aK H; clear H
  have p105 : 0 ≤ (x7_1 : Int) := dA
  have q105 : x7_1 < (l0.length : Int) := dA
  obtain ⟨ad105, e105, hx105_0, hx105_1, hx105_2⟩ := at_T64 HR0.out x7_1 p105 q105
  obtain rfl : ad101 = ad105 := (by injection e105)
  replace hx105_0 := (HB.out.cell (World.block_lt_of_cell? w _ hx105_0)).trans hx105_0; replace hx105_1 := (HB.out.cell (World.block_lt_of_cell? w _ hx105_1)).trans hx105_1; replace hx105_2 := (HB.out.cell (World.block_lt_of_cell? w _ hx105_2)).trans hx105_2; replace p105 := eq_true p105; replace q105 := eq_true q105; obtain ⟨z13_0, z13_1, y13_0, y13_1⟩ := bc2 B104.out
  have p106 : 0 ≤ (x7_1 : Int) := dA
  have q106 : x7_1 < (l0.length : Int) := dA
  obtain ⟨ad106, e106, hx106_0, hx106_1, hx106_2⟩ := at_T64 HR0.out x7_1 p106 q106
  obtain rfl : ad101 = ad106 := (by injection e106)
  replace hx106_0 := (HB.out.cell (World.block_lt_of_cell? w _ hx106_0)).trans hx106_0; replace hx106_1 := (HB.out.cell (World.block_lt_of_cell? w _ hx106_1)).trans hx106_1; replace hx106_2 := (HB.out.cell (World.block_lt_of_cell? w _ hx106_2)).trans hx106_2; replace p106 := eq_true p106; replace q106 := eq_true q106
  go_wp2
  repeat (go_quiet (fail); try go_wp2)
  go_meet
  case rel => exact ⟨_, ((((rd_T64 l0 x7_1).f1) != t103)), (by first | rfl | (simp; done) | (simp [*]; done)), H', ⟨by have := HK1.out; first | omega | exact Nat.le_refl _⟩, ⟨by refine bk ?_; exact B104.out⟩, ⟨pT HB.out⟩⟩
 case rest =>
 clear HC10
 try clear c1
 try clear p1
 try clear q1
 try clear hx1
 try clear p2
 try clear c3
 try clear c3b0
 try clear c4
 try clear c4b0
 try clear c9
 try clear c9b0
 try clear p10
 try clear q10
 try clear hx10
 try clear c11
 try clear c11b0
 try clear c12
 try clear c12b0
 try clear c12b1
 try clear z13_0
 try clear z13_1
 try clear z14_0
 try clear z14_1
 try clear z8_0
 try clear z8_1
 try clear y13_0
 try clear y13_1
 try clear y14_0
 try clear y14_1
 try clear y8_0
 try clear y8_1
 try clear hx101_0
 try clear hx101_1
 try clear hx101_2
 try clear hx105_0
 try clear hx105_1
 try clear hx105_2
 try clear hx106_0
 try clear hx106_1
 try clear hx106_2
 try clear p1
 try clear p101
 try clear p105
 try clear p106
 try clear p2
 try clear q1
 try clear q101
 try clear q105
 try clear q106
 obtain ⟨kq, x36_9, rfl, HA, HJ9, B104, HB⟩ := hcut
 cases kq with
 | zero => exact absurd HA.out (by simp [spec_l8Next.j1])
 | succ kj9 =>
 have H := HA.out
 clear HA
 simp only [spec_l8Next.j1] at H
 by_cases c15 : x36_9 = true
 ·
  subst c15
  have H1 : (spec_l8Next.l0 kj9 l0 a1 x6_1 (wrap64 (x7_1 + 1)) t102 t103) = some r := by rw [if_pos rfl] at H; exact H
  clear H; have H := H1; clear H1; have H' := aK H; clear H
  go_wp2
  repeat (go_quiet (fail); try go_wp2)
  go_roundg kj9
  case measure => have := HK1.out; have := HJ9.out; omega
  case rel => exact ⟨(x6_1), (wrap64 (x7_1 + 1)), (by first | rfl | (simp; done) | (simp [*]; done)), (by first | rfl | (simp; done) | (simp [*]; done)), H', ⟨by have := HK1.out; have := HJ9.out; omega⟩, ⟨by refine bk ?_; exact B104.out⟩, ⟨pT HB.out⟩⟩
 replace c15 := Bool.eq_false_iff.mpr c15
 subst c15
 have H1 : (if x6_1 < 0 then (spec_l8Next.l0 kj9 l0 a1 x7_1 (wrap64 (x7_1 + 1)) t102 t103) else (if 0 ≤ x7_1 then (if x7_1 < (l0.length : Int) then (if 0 ≤ a1 then (if a1 < (l0.length : Int) then (if ((rd_T64 l0 x7_1).f2) = (Int.tmod (wrap64 (((rd_T64 l0 a1).f2) + 1)) 4) then (spec_l8Next.l0 kj9 l0 a1 x7_1 (wrap64 (x7_1 + 1)) t102 t103) else (spec_l8Next.l0 kj9 l0 a1 x6_1 (wrap64 (x7_1 + 1)) t102 t103)) else (none)) else (none)) else (none)) else (none))) = some r := by rw [if_neg (show ¬ (false = true) by decide)] at H; exact H
 clear H
 have H := H1
 clear H1
 by_cases c16 : x6_1 < 0
 ·
  rw [if_pos c16] at H
  have c16b0 : decide (x6_1 < 0) = true := decide_eq_true c16
  clear c16; have H' := aK H; clear H
  go_wp2
  repeat (go_quiet (fail); try go_wp2)
  go_roundg kj9
  case measure => have := HK1.out; have := HJ9.out; omega
  case rel => exact ⟨(x7_1), (wrap64 (x7_1 + 1)), (by first | rfl | (simp; done) | (simp [*]; done)), (by first | rfl | (simp; done) | (simp [*]; done)), H', ⟨by have := HK1.out; have := HJ9.out; omega⟩, ⟨by refine bk ?_; exact B104.out⟩, ⟨pT HB.out⟩⟩
 rw [if_neg c16] at H
 have c16b0 : decide (x6_1 < 0) = false := decide_eq_false c16
 clear c16
 by_cases c17 : 0 ≤ x7_1
 rotate_left
 ·
  rw [if_neg c17] at H
  exact absurd H (by simp)
 rw [if_pos c17] at H
 have c17b0 : decide (0 ≤ x7_1) = true := decide_eq_true c17
 clear c17
 by_cases c18 : x7_1 < (l0.length : Int)
 rotate_left
 ·
  rw [if_neg c18] at H
  exact absurd H (by simp)
 rw [if_pos c18] at H
 have c18b0 : decide (x7_1 < (l0.length : Int)) = true := decide_eq_true c18
 clear c18
 by_cases c19 : 0 ≤ a1
 rotate_left
 ·
  rw [if_neg c19] at H
  exact absurd H (by simp)
 rw [if_pos c19] at H
 have c19b0 : decide (0 ≤ a1) = true := decide_eq_true c19
 clear c19
 by_cases c20 : a1 < (l0.length : Int)
 rotate_left
 ·
  rw [if_neg c20] at H
  exact absurd H (by simp)
 rw [if_pos c20] at H
 have c20b0 : decide (a1 < (l0.length : Int)) = true := decide_eq_true c20
 clear c20
 by_cases c21 : ((rd_T64 l0 x7_1).f2) = (Int.tmod (wrap64 (((rd_T64 l0 a1).f2) + 1)) 4)
 ·
  rw [if_pos c21] at H
  have c21b0 : (((rd_T64 l0 x7_1).f2) == (Int.tmod (wrap64 (((rd_T64 l0 a1).f2) + 1)) 4)) = true := beq_iff_eq.mpr c21
  have c21b1 : (((rd_T64 l0 x7_1).f2) != (Int.tmod (wrap64 (((rd_T64 l0 a1).f2) + 1)) 4)) = false := bne_eq_false_iff_eq.mpr c21
  clear c21; have H' := aK H; clear H
  have p107 : 0 ≤ (x7_1 : Int) := dA
  have q107 : x7_1 < (l0.length : Int) := dA
  obtain ⟨ad107, e107, hx107_0, hx107_1, hx107_2⟩ := at_T64 HR0.out x7_1 p107 q107
  obtain rfl : ad101 = ad107 := (by injection e107)
  replace hx107_0 := (HB.out.cell (World.block_lt_of_cell? w _ hx107_0)).trans hx107_0; replace hx107_1 := (HB.out.cell (World.block_lt_of_cell? w _ hx107_1)).trans hx107_1; replace hx107_2 := (HB.out.cell (World.block_lt_of_cell? w _ hx107_2)).trans hx107_2; replace p107 := eq_true p107; replace q107 := eq_true q107
  have p108 : 0 ≤ (a1 : Int) := dA
  have q108 : a1 < (l0.length : Int) := dA
  obtain ⟨ad108, e108, hx108_0, hx108_1, hx108_2⟩ := at_T64 HR0.out a1 p108 q108
  obtain rfl : ad101 = ad108 := (by injection e108)
  replace hx108_0 := (HB.out.cell (World.block_lt_of_cell? w _ hx108_0)).trans hx108_0; replace hx108_1 := (HB.out.cell (World.block_lt_of_cell? w _ hx108_1)).trans hx108_1; replace hx108_2 := (HB.out.cell (World.block_lt_of_cell? w _ hx108_2)).trans hx108_2; replace p108 := eq_true p108; replace q108 := eq_true q108
  go_wp2
  repeat (go_quiet (fail); try go_wp2)
  go_roundg kj9
  case measure => have := HK1.out; have := HJ9.out; omega
  case rel => exact ⟨(x7_1), (wrap64 (x7_1 + 1)), (by first | rfl | (simp; done) | (simp [*]; done)), (by first | rfl | (simp; done) | (simp [*]; done)), H', ⟨by have := HK1.out; have := HJ9.out; omega⟩, ⟨by refine bk ?_; exact B104.out⟩, ⟨pT HB.out⟩⟩
 rw [if_neg c21] at H
 have c21b0 : (((rd_T64 l0 x7_1).f2) == (Int.tmod (wrap64 (((rd_T64 l0 a1).f2) + 1)) 4)) = false := beq_eq_false_iff_ne.mpr c21
 have c21b1 : (((rd_T64 l0 x7_1).f2) != (Int.tmod (wrap64 (((rd_T64 l0 a1).f2) + 1)) 4)) = true := bne_iff_ne.mpr c21
 have H' := aK H
 clear H
 have p107 : 0 ≤ (x7_1 : Int) := dA
 have q107 : x7_1 < (l0.length : Int) := dA
 obtain ⟨ad107, e107, hx107_0, hx107_1, hx107_2⟩ := at_T64 HR0.out x7_1 p107 q107
 obtain rfl : ad101 = ad107 := (by injection e107)
 replace hx107_0 := (HB.out.cell (World.block_lt_of_cell? w _ hx107_0)).trans hx107_0
 replace hx107_1 := (HB.out.cell (World.block_lt_of_cell? w _ hx107_1)).trans hx107_1
 replace hx107_2 := (HB.out.cell (World.block_lt_of_cell? w _ hx107_2)).trans hx107_2
 replace p107 := eq_true p107
 replace q107 := eq_true q107
 have p108 : 0 ≤ (a1 : Int) := dA
 have q108 : a1 < (l0.length : Int) := dA
 obtain ⟨ad108, e108, hx108_0, hx108_1, hx108_2⟩ := at_T64 HR0.out a1 p108 q108
 obtain rfl : ad101 = ad108 := (by injection e108)
 replace hx108_0 := (HB.out.cell (World.block_lt_of_cell? w _ hx108_0)).trans hx108_0
 replace hx108_1 := (HB.out.cell (World.block_lt_of_cell? w _ hx108_1)).trans hx108_1
 replace hx108_2 := (HB.out.cell (World.block_lt_of_cell? w _ hx108_2)).trans hx108_2
 replace p108 := eq_true p108
 replace q108 := eq_true q108
 go_wp2
 repeat (go_quiet (fail); try go_wp2)
 go_roundg kj9
 case measure => have := HK1.out; have := HJ9.out; omega
 case rel => exact ⟨(x6_1), (wrap64 (x7_1 + 1)), (by first | rfl | (simp; done) | (simp [*]; done)), (by first | rfl | (simp; done) | (simp [*]; done)), H', ⟨by have := HK1.out; have := HJ9.out; omega⟩, ⟨by refine bk ?_; exact B104.out⟩, ⟨pT HB.out⟩⟩
mutual
def spec_l8Loop.l0 : Nat → List (S64) → List Bool → List (S48) → Int → Option ((List (S48)) × List Bool)
 | 0, _, _, _, _ => none
 | k + 1, x0, x2, x7, x8 => if 0 ≤ x8 then (if x8 < (x2.length : Int) then (if rdOf false x2 x8 = true then (spec_l8Loop.l1 k x2 x7 0 1) else ((some (x2.set (x8 : Int).toNat true : List Bool)).bind fun y105 => ((spec_l8Next.f k x0 x8).bind fun t106 => (if 0 ≤ t106 then (if t106 < (x0.length : Int) then (if x8 < (x0.length : Int) then (if ((rd_T64 x0 t106).f2) = ((rd_T64 x0 x8).f2) then (spec_l8Loop.l0 k x0 y105 x7 t106) else (if x7.length < 8796093022208 then (spec_l8Loop.l0 k x0 y105 (x7 ++ [(⟨(rd_T64 x0 t106).f0, (rd_T64 x0 t106).f1⟩ : S48)]) t106) else (none))) else (none)) else (none)) else (none))))) else (none)) else (none)
def spec_l8Loop.l1 : Nat → List Bool → List (S48) → Int → Int → Option ((List (S48)) × List Bool)
 | 0, _, _, _, _ => none
 | k + 1, x2, x7, x10, x11 => if x11 < (x7.length : Int) then (if 0 ≤ x11 then (if 0 ≤ x10 then (if x10 < (x7.length : Int) then ((spec_l8Before.f ((rd_T48 x7 x11).f0) ((rd_T48 x7 x11).f1) ((rd_T48 x7 x10).f0) ((rd_T48 x7 x10).f1)).bind fun t116 => (if t116 = true then (spec_l8Loop.l1 k x2 x7 x11 (wrap64 (x11 + 1))) else (spec_l8Loop.l1 k x2 x7 x10 (wrap64 (x11 + 1))))) else (none)) else (none)) else (none)) else ((some (([] : List (S48)) : List (S48))).bind fun y117 => (if 0 ≤ x10 then (if x10 ≤ (x7.length : Int) then ((some (x7.drop (x10 : Int).toNat : List (S48))).bind fun y120 => (if y117.length + y120.length < 8796093022208 then ((some (y117 ++ y120 : List (S48))).bind fun y124 => ((some (x7.take (x10 : Int).toNat : List (S48))).bind fun y127 => (if y124.length + y127.length < 8796093022208 then (some ((y124 ++ y127), x2)) else (none)))) else (none))) else (none)) else (none)))
end
def spec_l8Loop.f (k : Nat) (l0 : List (S64)) (a1 : Int) (l2 : List Bool) : Option ((List (S48)) × List Bool) := spec_l8Loop.l0 k l0 l2 (([] : List (S48))) a1
def spec_l8Loop.T6 : Bool × List (List Nat × List Nat) := (true, [([], []), ([], []), ([0, 1], [0, 1]), ([2], [2]), ([3], [3]), ([], []), ([], []), ([5, 6], [5, 6]), ([7], [7]), ([8], [8]), ([4, 9], [4, 9])])
def spec_l8Loop.B6 : List Nat := [0, 0, 3, 7, 15, 0, 0, 96, 224, 480, 1023]
theorem spec_l8Loop.tab6 : rtab .any (opsOf Try.f27 6) = spec_l8Loop.T6 := by kernel_rfl
theorem spec_l8Loop.bits6 : waitsOk spec_l8Loop.T6.2 spec_l8Loop.B6 = true := by kernel_rfl
def spec_l8Loop.T7 : Bool × List (List Nat × List Nat) := (true, [([], []), ([], []), ([], []), ([1, 2], [1, 2]), ([3], [3]), ([4], [4]), ([], []), ([], []), ([6, 7], [6, 7]), ([8], [8]), ([9], [9]), ([5, 10], [5, 10]), ([11], [11]), ([0, 12], [0, 12]), ([13, 13, 0, 1, 2, 3, 4, 5, 6, 7, 8, 9, 10, 11, 12, 13], [0, 13])])
def spec_l8Loop.B7 : List Nat := [0, 0, 0, 6, 14, 30, 0, 0, 192, 448, 960, 2046, 4094, 8191, 16383]
theorem spec_l8Loop.tab7 : rtab .any (opsOf Try.f27 7) = spec_l8Loop.T7 := by kernel_rfl
theorem spec_l8Loop.bits7 : waitsOk spec_l8Loop.T7.2 spec_l8Loop.B7 = true := by kernel_rfl
def spec_l8Loop.T13 : Bool × List (List Nat × List Nat) := (true, [([], []), ([], []), ([0, 1], [0, 1]), ([2], [2]), ([], []), ([], []), ([4, 5], [4, 5]), ([6], [6]), ([3, 7], [3, 7])])
def spec_l8Loop.B13 : List Nat := [0, 0, 3, 7, 0, 0, 48, 112, 255]
theorem spec_l8Loop.tab13 : rtab .any (opsOf Try.f27 13) = spec_l8Loop.T13 := by kernel_rfl
theorem spec_l8Loop.bits13 : waitsOk spec_l8Loop.T13.2 spec_l8Loop.B13 = true := by kernel_rfl
def spec_l8Loop.T15 : Bool × List (List Nat × List Nat) := (true, [([], []), ([], []), ([], []), ([1, 2], [1, 2]), ([0, 3], [0, 3]), ([], []), ([], []), ([5, 6], [5, 6]), ([4, 7, 4], [4, 7]), ([8, 8, 0, 1, 2, 3, 4, 5, 6, 7, 8], [8])])
def spec_l8Loop.B15 : List Nat := [0, 0, 0, 6, 15, 0, 0, 96, 255, 511]
theorem spec_l8Loop.tab15 : rtab .any (opsOf Try.f27 15) = spec_l8Loop.T15 := by kernel_rfl
theorem spec_l8Loop.bits15 : waitsOk spec_l8Loop.T15.2 spec_l8Loop.B15 = true := by kernel_rfl
theorem spec_l8Loop.calls (k : Nat) (A0 : Option Addr) (c0 : Nat) (l0 : List (S64)) (a1 : Int) (P2_ : Nat → Prop) (u9000_ : Value) (l2 : List Bool) (r1 : List (S48)) (r2 : List Bool) (w0 w : World) (hB : Below w0.heap.size w0 w) (hr0 : ∀ W_, Kept w W_ (fun k_ => P2_ k_) → Kd.C k64 W_ A0 l0.length l0) (hc0 : l0.length ≤ c0) (ho2 : Kd.R Kd.bool 4 w w0.heap.size P2_ u9000_ l2) (h : spec_l8Loop.f k l0 a1 l2 = some (r1, r2)) :
  Calls Try.prog 27 #[.slice A0 l0.length c0, .int .i64 a1, u9000_] w fun e w' => ∃ v0_ : Value, e = .returned (v0_) ∧ Kd.R k48 48 w' w0.heap.size (fun k_ => (P2_ k_ ∨ w.heap.size ≤ k_)) v0_ r1 ∧ Kd.R Kd.bool 4 w' w0.heap.size (fun k_ => (P2_ k_ ∨ w.heap.size ≤ k_)) u9000_ r2 ∧ Below w0.heap.size w0 w' ∧ Kept w w' (fun k_ => P2_ k_) := by
 have hu48 := Try.underlying48
 have HR0 := aK hr0
 have HC0 := aK hc0
 clear hr0 hc0
 have HO2 := aK (show Kd.R Kd.bool 4 w w0.heap.size (fun k_ => (P2_ k_ ∨ w.heap.size ≤ k_)) u9000_ l2 from Kd.R_mono ho2 (fun k_ hk => (.inl hk)))
 have HK := aK (Kept.refl w (fun k_ => P2_ k_))
 have HW0 := aK hB.size
 have HB := aK hB
 clear hB
 have H : (spec_l8Loop.l0 k l0 l2 (([] : List (S48))) a1) = some (r1, r2) := h
 clear h
 obtain ⟨y101, hy101⟩ : ∃ y_ : List (S48), y_ = (([] : List (S48))) := ⟨_, rfl⟩
 replace H : (spec_l8Loop.l0 k l0 l2 y101 a1) = some (r1, r2) := by first | (rw [hy101]; first | with_reducible exact H | with_reducible exact (oS H :)) | with_reducible exact (oS H :) | with_reducible exact H | exact H
 have Ny101 := aK hy101
 clear hy101
 have H' := aK H
 clear H
 go_enter Try.func27, Try.ntmps27
 go_wp2_with (first | ((with_reducible refine ga 12 rfl ?_); refine Kd.R_lit k48 _ 48 ?hg (N := 12) ?hd (xs := ([] : List (S48))) (inner := []) (ok := fun _ => True) (okp := fun _ => True) ?hr ?hp (fun _ hk => hk) trivial (Below.refl _ _) (Nat.le_refl _) (by simp) ?_; (case hd => rfl); (case hg => rfl); (case hr => first | (go_simp; done) | (go_simp; rfl)); (case hp => exact (Reps.none _ _)); intro v102 w4 ho5 hb hg_ hnew_; clear hg_ hnew_; (first | rw [← Ny101.out] at ho5 | (simp only [Int.reduceToNat] at ho5; rw [← Ny101.out] at ho5)); replace HO2 := rb HO2 hb; have HO103 := aK (Kd.R_lower (Kd.R_newM (M := fun k_ => (P2_ k_ ∨ w.heap.size ≤ k_)) ho5 (by first | exact HK.out.1 | exact (show Kept w _ (fun k_ => P2_ k_) from by repeat (first | (with_reducible first | exact HK.out | apply Kept.alloc | apply Kept.drewN | apply Kept.drew) | exact HK.out)).1) (fun k_ h_ => .inr h_)) (below_size (pS HB.out))); replace HK := aK (Kept.below (S := (fun k_ => P2_ k_)) (by repeat (first | (with_reducible first | exact HK.out | apply Kept.alloc | apply Kept.drewN | apply Kept.drew) | exact HK.out)) hb); replace HB := bS HB hb; clear hb ho5))
 go_loopg [7, 8] k (fun kq v7 v8 w' => ∃ (x2_1 : List Bool) (x7_1 : List (S48)) (x8_1 : Int), v8 = .int .i64 x8_1 ∧ Aside0 (spec_l8Loop.l0 kq l0 x2_1 x7_1 x8_1 = some (r1, r2)) ∧ Aside0 (kq ≤ k) ∧ Aside0 (Kd.R Kd.bool 4 w' w0.heap.size (fun k_ => (P2_ k_ ∨ w.heap.size ≤ k_)) u9000_ x2_1) ∧ Aside0 (Kd.R k48 48 w' w0.heap.size (fun k_ => (P2_ k_ ∨ w.heap.size ≤ k_)) v7 x7_1) ∧ Aside0 (Kept w w' (fun k_ => P2_ k_)) ∧ Aside0 (Below w0.heap.size w0 w'))
 case atStart => exact ⟨(l2), (y101), (a1), (by first | rfl | (simp; done) | (simp [*]; done)), H', ⟨Nat.le_refl _⟩, ⟨pR HO2.out⟩, ⟨pR (Kd.R_mono HO103.out (fun _ hk => hk.1))⟩, ⟨by repeat (first | (with_reducible first | exact HK.out | apply Kept.alloc | apply Kept.drewN | apply Kept.drew) | exact HK.out)⟩, ⟨pT HB.out⟩⟩
 case round =>
 clear H'
 try clear c2
 try clear p2
 obtain ⟨x2_1, x7_1, x8_1, rfl, HA, HK1, HO_2, HO_7, HK, HB⟩ := hrel
 cases gk with
 | zero => exact absurd HA.out (by simp [spec_l8Loop.l0])
 | succ k1 =>
 have H := HA.out
 clear HA
 simp only [spec_l8Loop.l0] at H
 by_cases c6 : 0 ≤ x8_1
 rotate_left
 ·
  rw [if_neg c6] at H
  exact absurd H (by simp)
 rw [if_pos c6] at H
 have c6b0 : decide (0 ≤ x8_1) = true := decide_eq_true c6
 clear c6
 by_cases c7 : x8_1 < (x2_1.length : Int)
 rotate_left
 ·
  rw [if_neg c7] at H
  exact absurd H (by simp)
 rw [if_pos c7] at H
 have c7b0 : decide (x8_1 < (x2_1.length : Int)) = true := decide_eq_true c7
 clear c7
 obtain ⟨bq8, hbq8⟩ : ∃ b_ : Bool, b_ = (rdOf false x2_1 x8_1) := ⟨_, rfl⟩
 replace H : (if bq8 = true then (spec_l8Loop.l1 k1 x2_1 x7_1 0 1) else ((some (x2_1.set (x8_1 : Int).toNat true : List Bool)).bind fun y105 => ((spec_l8Next.f k1 l0 x8_1).bind fun t106 => (if 0 ≤ t106 then (if t106 < (l0.length : Int) then (if x8_1 < (l0.length : Int) then (if ((rd_T64 l0 t106).f2) = ((rd_T64 l0 x8_1).f2) then (spec_l8Loop.l0 k1 l0 y105 x7_1 t106) else (if x7_1.length < 8796093022208 then (spec_l8Loop.l0 k1 l0 y105 (x7_1 ++ [(⟨(rd_T64 l0 t106).f0, (rd_T64 l0 t106).f1⟩ : S48)]) t106) else (none))) else (none)) else (none)) else (none))))) = some (r1, r2) := by rw [← hbq8] at H; exact H
 have Nbq8 := aK hbq8
 clear hbq8
 by_cases c9 : bq8 = true
 rotate_left
 ·
  replace c9 := Bool.eq_false_iff.mpr c9; subst c9
  have H1 : ((some (x2_1.set (x8_1 : Int).toNat true : List Bool)).bind fun y105 => ((spec_l8Next.f k1 l0 x8_1).bind fun t106 => (if 0 ≤ t106 then (if t106 < (l0.length : Int) then (if x8_1 < (l0.length : Int) then (if ((rd_T64 l0 t106).f2) = ((rd_T64 l0 x8_1).f2) then (spec_l8Loop.l0 k1 l0 y105 x7_1 t106) else (if x7_1.length < 8796093022208 then (spec_l8Loop.l0 k1 l0 y105 (x7_1 ++ [(⟨(rd_T64 l0 t106).f0, (rd_T64 l0 t106).f1⟩ : S48)]) t106) else (none))) else (none)) else (none)) else (none)))) = some (r1, r2) := by rw [if_neg (show ¬ (false = true) by decide)] at H; exact H
  clear H; have H := H1; clear H1
  obtain ⟨y105, hy105⟩ : ∃ y_ : List Bool, y_ = (x2_1.set (x8_1 : Int).toNat true) := ⟨_, rfl⟩
  replace H : ((spec_l8Next.f k1 l0 x8_1).bind fun t106 => (if 0 ≤ t106 then (if t106 < (l0.length : Int) then (if x8_1 < (l0.length : Int) then (if ((rd_T64 l0 t106).f2) = ((rd_T64 l0 x8_1).f2) then (spec_l8Loop.l0 k1 l0 y105 x7_1 t106) else (if x7_1.length < 8796093022208 then (spec_l8Loop.l0 k1 l0 y105 (x7_1 ++ [(⟨(rd_T64 l0 t106).f0, (rd_T64 l0 t106).f1⟩ : S48)]) t106) else (none))) else (none)) else (none)) else (none))) = some (r1, r2) := by first | (rw [hy105]; first | with_reducible exact H | with_reducible exact (oS H :)) | with_reducible exact (oS H :) | with_reducible exact H | exact H
  have Ny105 := aK hy105; clear hy105; replace H := oA H; obtain ⟨t106, A38, H⟩ := H
  replace H : (if 0 ≤ t106 then (if t106 < (l0.length : Int) then (if x8_1 < (l0.length : Int) then (if ((rd_T64 l0 t106).f2) = ((rd_T64 l0 x8_1).f2) then (spec_l8Loop.l0 k1 l0 y105 x7_1 t106) else (if x7_1.length < 8796093022208 then (spec_l8Loop.l0 k1 l0 y105 (x7_1 ++ [(⟨(rd_T64 l0 t106).f0, (rd_T64 l0 t106).f1⟩ : S48)]) t106) else (none))) else (none)) else (none)) else (none)) = some (r1, r2) := H
  by_cases c39 : 0 ≤ t106
  rotate_left
  ·
   rw [if_neg c39] at H
   exact absurd H (by simp)
  rw [if_pos c39] at H
  have c39b0 : decide (0 ≤ t106) = true := decide_eq_true c39
  clear c39
  by_cases c40 : t106 < (l0.length : Int)
  rotate_left
  ·
   rw [if_neg c40] at H
   exact absurd H (by simp)
  rw [if_pos c40] at H
  have c40b0 : decide (t106 < (l0.length : Int)) = true := decide_eq_true c40
  clear c40
  by_cases c41 : x8_1 < (l0.length : Int)
  rotate_left
  ·
   rw [if_neg c41] at H
   exact absurd H (by simp)
  rw [if_pos c41] at H
  have c41b0 : decide (x8_1 < (l0.length : Int)) = true := decide_eq_true c41
  clear c41
  by_cases c42 : ((rd_T64 l0 t106).f2) = ((rd_T64 l0 x8_1).f2)
  ·
   rw [if_pos c42] at H
   have c42b0 : (((rd_T64 l0 t106).f2) == ((rd_T64 l0 x8_1).f2)) = true := beq_iff_eq.mpr c42
   have c42b1 : (((rd_T64 l0 t106).f2) != ((rd_T64 l0 x8_1).f2)) = false := bne_eq_false_iff_eq.mpr c42
   clear c42; have H' := aK H; clear H; obtain ⟨Ao43, co43, eo43⟩ := Kd.R_slice HO_2.out; subst eo43
   have p104 : 0 ≤ (x8_1 : Int) := dA
   have q104 : x8_1 < (x2_1.length : Int) := dA
   obtain ⟨ad104, e104, hx104_0⟩ := Kd.at_bool (Kd.R_reads' HO_2.out).2.2 x8_1 p104 q104
   (try rw [← Nbq8.out] at hx104_0)
   cases e104; replace p104 := eq_true p104; replace q104 := eq_true q104
   have p37 : 0 ≤ (x8_1 : Int) := dA
   have q37 : (x8_1 : Int) < ((x2_1.length : Int) : Int) := dA
   obtain ⟨go37, co37, eo37, g37, gl37, cl37, HG37⟩ := Kd.R_form HO_2.out (by omega)
   (first | cases eo37 | (injection eo37 with ea_ en_ ec_; (first | subst ea_ | (injection ea_ with ea_; subst ea_)); subst ec_; clear en_))
   have GB37 := aK g37; have GG37 := aK HG37; clear g37 gl37 HG37
   have HMgo37 := aK (show (P2_ go37 ∨ w.heap.size ≤ go37) from (HO_2.out.1 _ rfl))
   (first | simp only [add_plain] at hx104_0 | skip)
   obtain ⟨hx37_0, hf37_0⟩ := Kd.R_celln false HO_2.out (x8_1 : Int) p37 q37; replace p37 := eq_true p37; replace q37 := eq_true q37; have HP44 := Kd.R_putg HO_2.out (x8_1 : Int) true
   try go_wp2_with (first | ((with_reducible refine gate_store (t := 4) (p := 21) rfl ?_); refine store_event (t := 4) (p := 21) (v := ?vo_w45) (w1 := (wr.setCell ⟨go37, (x8_1 : Int).toNat, none⟩ (.bool true))) ?hg ?ho ?hn ?hr ?_; (case ho => rfl); (case hg => rfl); (case hn => rfl); (case hr => first | (go_simp; done) | (go_simp; rfl)); intro w45 hw; have hg : wr.grownBy w45 (some go37) := (by rw [hw]; exact HP44.2); have hp_ : Kd.R Kd.bool 4 w45 w0.heap.size (fun k_ => (P2_ k_ ∨ w.heap.size ≤ k_)) (.slice (some ⟨go37, 0, none⟩) x2_1.length co43) y105 := (by rw [hw, Ny105.out]; exact HP44.1); clear HP44; have n0_ := aK (hp_); replace HO_7 := aK (Kd.R_over' (v := (.slice (some ⟨go37, 0, none⟩) x2_1.length co43)) (pR HO_7.out) (Kd.R_typed HO_2.out) (by decide) hg); replace HB := aK ((by rw [hw]; exact below_set (HB.out) GB37.out : Below w0.heap.size w0 w45)); replace HK := aK (Kept.of_grown (S := (fun k_ => P2_ k_)) hg (by repeat (first | (with_reducible first | exact HK.out | apply Kept.alloc | apply Kept.drewN | apply Kept.drew) | exact HK.out)) (fun k_ e_ => (HO_2.out.1 k_ e_))); clear HO_2; have HO_2 := n0_; clear n0_; clear hg hw hp_) | ((with_reducible refine gc 43 rfl ?_); refine gl (some 24) Try.func43 #[.slice A0 l0.length c0, .int .i64 x8_1] ?_; (with_reducible refine (spec_l8Next.calls k1 _ _ l0 x8_1 t106 _ ?side1 ?side2 A38.out).mono ?_); (case side1 => exact Kd.C_kept_now HR0.out (by repeat (first | (with_reducible first | exact HK.out | apply Kept.alloc | apply Kept.drewN | apply Kept.drew) | exact HK.out))); (case side2 => exact HC0.out); rintro e w46 ⟨rfl, hb⟩; refine ⟨_, rfl, ?_⟩; replace HO_2 := rb HO_2 hb; replace HO_7 := rb HO_7 hb; replace HK := aK (Kept.below (S := (fun k_ => P2_ k_)) (by repeat (first | (with_reducible first | exact HK.out | apply Kept.alloc | apply Kept.drewN | apply Kept.drew) | exact HK.out)) hb); replace HB := bS HB hb; (try clear hb)))
   replace HO_2 := rdw HO_2; replace HO_7 := rdw HO_7; replace HK := aK (Kept.drew HK.out); replace HB := aK (below_drew1 HB.out)
   have p107 : 0 ≤ (t106 : Int) := dA
   have q107 : t106 < (l0.length : Int) := dA
   obtain ⟨ad107, e107, hx107_0, hx107_1, hx107_2⟩ := at_T64 (Kd.C_kept_now HR0.out HK.out) t106 p107 q107; have hw107_2 := hx107_2; have hw107_1 := hx107_1; have hw107_0 := hx107_0; cases e107; replace p107 := eq_true p107; replace q107 := eq_true q107
   have p108 : 0 ≤ (x8_1 : Int) := dA
   have q108 : x8_1 < (l0.length : Int) := dA
   obtain ⟨ad108, e108, hx108_0, hx108_1, hx108_2⟩ := at_T64 (Kd.C_kept_now HR0.out HK.out) x8_1 p108 q108; have hw108_2 := hx108_2; have hw108_1 := hx108_1; have hw108_0 := hx108_0
   obtain rfl : ad107 = ad108 := (by injection e108)
   replace p108 := eq_true p108; replace q108 := eq_true q108
   refine start_ (n := 11) (S := fun w' => w'.cell? (ad107.add ((t106).toNat * 3)) = some (.int .i64 ((rd_T64 l0 t106).f0)) ∧ w'.cell? ⟨(ad107.add ((t106).toNat * 3)).block, (ad107.add ((t106).toNat * 3)).off + 1, none⟩ = some (.int .i64 ((rd_T64 l0 t106).f1)) ∧ w'.cell? ⟨(ad107.add ((t106).toNat * 3)).block, (ad107.add ((t106).toNat * 3)).off + 2, none⟩ = some (.int .i64 ((rd_T64 l0 t106).f2)) ∧ w'.cell? (ad107.add ((x8_1).toNat * 3)) = some (.int .i64 ((rd_T64 l0 x8_1).f0)) ∧ w'.cell? ⟨(ad107.add ((x8_1).toNat * 3)).block, (ad107.add ((x8_1).toNat * 3)).off + 1, none⟩ = some (.int .i64 ((rd_T64 l0 x8_1).f1)) ∧ w'.cell? ⟨(ad107.add ((x8_1).toNat * 3)).block, (ad107.add ((x8_1).toNat * 3)).off + 2, none⟩ = some (.int .i64 ((rd_T64 l0 x8_1).f2))) (ds := []) (bz [0, 11]) (by kernel_rfl) rfl rfl ⟨hx107_0, hx107_1, hx107_2, hx108_0, hx108_1, hx108_2⟩ (fun hHeld => ?_); refine with_tabW spec_l8Loop.tab6 spec_l8Loop.bits6 (fun HT_ HW_ => ?_)
   generalize w46.drew = w47 at HO_2 HO_7 HK HB hx107_0 hx107_1 hx107_2 hx108_0 hx108_1 hx108_2 hHeld ⊢
   refine pz 0 25 [1, 10] HT_ ?_
   refine pz 1 26 [2, 9] HT_ ?_
   refine pz 2 27 [3, 8] HT_ ?_
   refine pz 3 28 [4, 7] HT_ ?_
   refine pz 5 30 [4, 1, 1, 5] HT_ ?_
   refine pz 6 31 [4, 1, 2, 4] HT_ ?_
   refine pz 7 32 [4, 1, 3, 3] HT_ ?_
   refine pz 8 33 [4, 1, 4, 2] HT_ ?_
   refine tz 4 29 [9, 2] HT_ HW_ rfl (by rintro w' ⟨s0, s1, s2, s3, s4, s5⟩; go_simp; with_reducible rfl) hHeld ?_
   refine tz 9 34 [10, 1] HT_ HW_ rfl (by rintro w' ⟨s0, s1, s2, s3, s4, s5⟩; go_simp; with_reducible rfl) hHeld ?_
   refine pz 10 35 [11, 0] HT_ ?_
   refine done_ (done_of HT_.out (by kernel_rfl)) ?_
   try go_wp2
   go_roundg k1
   case measure => have := HK1.out; omega
   case rel => exact ⟨(y105), (x7_1), (t106), (by first | rfl | (simp; done) | (simp [*]; done)), H', ⟨by have := HK1.out; omega⟩, ⟨pR HO_2.out⟩, ⟨pR HO_7.out⟩, ⟨by repeat (first | (with_reducible first | exact HK.out | apply Kept.alloc | apply Kept.drewN | apply Kept.drew) | exact HK.out)⟩, ⟨pT HB.out⟩⟩
  rw [if_neg c42] at H
  have c42b0 : (((rd_T64 l0 t106).f2) == ((rd_T64 l0 x8_1).f2)) = false := beq_eq_false_iff_ne.mpr c42
  have c42b1 : (((rd_T64 l0 t106).f2) != ((rd_T64 l0 x8_1).f2)) = true := bne_iff_ne.mpr c42
  by_cases c48 : x7_1.length < 8796093022208
  rotate_left
  ·
   rw [if_neg c48] at H
   exact absurd H (by simp)
  rw [if_pos c48] at H; have LMc48 := aK c48; clear c48
  obtain ⟨y111, hy111⟩ : ∃ y_ : List (S48), y_ = (x7_1 ++ [(⟨(rd_T64 l0 t106).f0, (rd_T64 l0 t106).f1⟩ : S48)]) := ⟨_, rfl⟩
  replace H : (spec_l8Loop.l0 k1 l0 y105 y111 t106) = some (r1, r2) := by first | (rw [hy111]; first | with_reducible exact H | with_reducible exact (oS H :)) | with_reducible exact (oS H :) | with_reducible exact H | exact H
  have Ny111 := aK hy111; clear hy111; have H' := aK H; clear H; obtain ⟨Ao49, co49, eo49⟩ := Kd.R_slice HO_2.out; subst eo49
  have p104 : 0 ≤ (x8_1 : Int) := dA
  have q104 : x8_1 < (x2_1.length : Int) := dA
  obtain ⟨ad104, e104, hx104_0⟩ := Kd.at_bool (Kd.R_reads' HO_2.out).2.2 x8_1 p104 q104
  (try rw [← Nbq8.out] at hx104_0)
  cases e104; replace p104 := eq_true p104; replace q104 := eq_true q104
  have p37 : 0 ≤ (x8_1 : Int) := dA
  have q37 : (x8_1 : Int) < ((x2_1.length : Int) : Int) := dA
  obtain ⟨go37, co37, eo37, g37, gl37, cl37, HG37⟩ := Kd.R_form HO_2.out (by omega)
  (first | cases eo37 | (injection eo37 with ea_ en_ ec_; (first | subst ea_ | (injection ea_ with ea_; subst ea_)); subst ec_; clear en_))
  have GB37 := aK g37; have GG37 := aK HG37; clear g37 gl37 HG37
  have HMgo37 := aK (show (P2_ go37 ∨ w.heap.size ≤ go37) from (HO_2.out.1 _ rfl))
  (first | simp only [add_plain] at hx104_0 | skip)
  obtain ⟨hx37_0, hf37_0⟩ := Kd.R_celln false HO_2.out (x8_1 : Int) p37 q37; replace p37 := eq_true p37; replace q37 := eq_true q37; have HP50 := Kd.R_putg HO_2.out (x8_1 : Int) true
  try go_wp2_with (first | ((with_reducible refine gate_store (t := 4) (p := 21) rfl ?_); refine store_event (t := 4) (p := 21) (v := ?vo_w51) (w1 := (wr.setCell ⟨go37, (x8_1 : Int).toNat, none⟩ (.bool true))) ?hg ?ho ?hn ?hr ?_; (case ho => rfl); (case hg => rfl); (case hn => rfl); (case hr => first | (go_simp; done) | (go_simp; rfl)); intro w51 hw; have hg : wr.grownBy w51 (some go37) := (by rw [hw]; exact HP50.2); have hp_ : Kd.R Kd.bool 4 w51 w0.heap.size (fun k_ => (P2_ k_ ∨ w.heap.size ≤ k_)) (.slice (some ⟨go37, 0, none⟩) x2_1.length co49) y105 := (by rw [hw, Ny105.out]; exact HP50.1); clear HP50; have n0_ := aK (hp_); replace HO_7 := aK (Kd.R_over' (v := (.slice (some ⟨go37, 0, none⟩) x2_1.length co49)) (pR HO_7.out) (Kd.R_typed HO_2.out) (by decide) hg); replace HB := aK ((by rw [hw]; exact below_set (HB.out) GB37.out : Below w0.heap.size w0 w51)); replace HK := aK (Kept.of_grown (S := (fun k_ => P2_ k_)) hg (by repeat (first | (with_reducible first | exact HK.out | apply Kept.alloc | apply Kept.drewN | apply Kept.drew) | exact HK.out)) (fun k_ e_ => (HO_2.out.1 k_ e_))); clear HO_2; have HO_2 := n0_; clear n0_; clear hg hw hp_) | ((with_reducible refine gc 43 rfl ?_); refine gl (some 24) Try.func43 #[.slice A0 l0.length c0, .int .i64 x8_1] ?_; (with_reducible refine (spec_l8Next.calls k1 _ _ l0 x8_1 t106 _ ?side1 ?side2 A38.out).mono ?_); (case side1 => exact Kd.C_kept_now HR0.out (by repeat (first | (with_reducible first | exact HK.out | apply Kept.alloc | apply Kept.drewN | apply Kept.drew) | exact HK.out))); (case side2 => exact HC0.out); rintro e w52 ⟨rfl, hb⟩; refine ⟨_, rfl, ?_⟩; replace HO_2 := rb HO_2 hb; replace HO_7 := rb HO_7 hb; replace HK := aK (Kept.below (S := (fun k_ => P2_ k_)) (by repeat (first | (with_reducible first | exact HK.out | apply Kept.alloc | apply Kept.drewN | apply Kept.drew) | exact HK.out)) hb); replace HB := bS HB hb; (try clear hb)))
  replace HO_2 := rdw HO_2; replace HO_7 := rdw HO_7; replace HK := aK (Kept.drew HK.out); replace HB := aK (below_drew1 HB.out)
  have p107 : 0 ≤ (t106 : Int) := dA
  have q107 : t106 < (l0.length : Int) := dA
  obtain ⟨ad107, e107, hx107_0, hx107_1, hx107_2⟩ := at_T64 (Kd.C_kept_now HR0.out HK.out) t106 p107 q107; have hw107_2 := hx107_2; have hw107_1 := hx107_1; have hw107_0 := hx107_0; cases e107; replace p107 := eq_true p107; replace q107 := eq_true q107
  have p108 : 0 ≤ (x8_1 : Int) := dA
  have q108 : x8_1 < (l0.length : Int) := dA
  obtain ⟨ad108, e108, hx108_0, hx108_1, hx108_2⟩ := at_T64 (Kd.C_kept_now HR0.out HK.out) x8_1 p108 q108; have hw108_2 := hx108_2; have hw108_1 := hx108_1; have hw108_0 := hx108_0
  obtain rfl : ad107 = ad108 := (by injection e108)
  replace p108 := eq_true p108; replace q108 := eq_true q108
  refine start_ (n := 11) (S := fun w' => w'.cell? (ad107.add ((t106).toNat * 3)) = some (.int .i64 ((rd_T64 l0 t106).f0)) ∧ w'.cell? ⟨(ad107.add ((t106).toNat * 3)).block, (ad107.add ((t106).toNat * 3)).off + 1, none⟩ = some (.int .i64 ((rd_T64 l0 t106).f1)) ∧ w'.cell? ⟨(ad107.add ((t106).toNat * 3)).block, (ad107.add ((t106).toNat * 3)).off + 2, none⟩ = some (.int .i64 ((rd_T64 l0 t106).f2)) ∧ w'.cell? (ad107.add ((x8_1).toNat * 3)) = some (.int .i64 ((rd_T64 l0 x8_1).f0)) ∧ w'.cell? ⟨(ad107.add ((x8_1).toNat * 3)).block, (ad107.add ((x8_1).toNat * 3)).off + 1, none⟩ = some (.int .i64 ((rd_T64 l0 x8_1).f1)) ∧ w'.cell? ⟨(ad107.add ((x8_1).toNat * 3)).block, (ad107.add ((x8_1).toNat * 3)).off + 2, none⟩ = some (.int .i64 ((rd_T64 l0 x8_1).f2))) (ds := []) (bz [0, 11]) (by kernel_rfl) rfl rfl ⟨hx107_0, hx107_1, hx107_2, hx108_0, hx108_1, hx108_2⟩ (fun hHeld => ?_); refine with_tabW spec_l8Loop.tab6 spec_l8Loop.bits6 (fun HT_ HW_ => ?_)
  generalize w52.drew = w53 at HO_2 HO_7 HK HB hx107_0 hx107_1 hx107_2 hx108_0 hx108_1 hx108_2 hHeld ⊢
  refine pz 0 25 [1, 10] HT_ ?_
  refine pz 1 26 [2, 9] HT_ ?_
  refine pz 2 27 [3, 8] HT_ ?_
  refine pz 3 28 [4, 7] HT_ ?_
  refine pz 5 30 [4, 1, 1, 5] HT_ ?_
  refine pz 6 31 [4, 1, 2, 4] HT_ ?_
  refine pz 7 32 [4, 1, 3, 3] HT_ ?_
  refine pz 8 33 [4, 1, 4, 2] HT_ ?_
  refine tz 4 29 [9, 2] HT_ HW_ rfl (by rintro w' ⟨s0, s1, s2, s3, s4, s5⟩; go_simp; with_reducible rfl) hHeld ?_
  refine tz 9 34 [10, 1] HT_ HW_ rfl (by rintro w' ⟨s0, s1, s2, s3, s4, s5⟩; go_simp; with_reducible rfl) hHeld ?_
  refine pz 10 35 [11, 0] HT_ ?_
  refine done_ (done_of HT_.out (by kernel_rfl)) ?_
  try go_wp2
  replace HO_2 := rdw HO_2; replace HO_7 := rdw HO_7; replace HK := aK (Kept.drew HK.out); replace HB := aK (below_drew1 HB.out)
  have p109 : 0 ≤ (t106 : Int) := dA
  have q109 : t106 < (l0.length : Int) := dA
  obtain ⟨ad109, e109, hx109_0, hx109_1, hx109_2⟩ := at_T64 (Kd.C_kept_now HR0.out HK.out) t106 p109 q109; have hw109_2 := hx109_2; have hw109_1 := hx109_1; have hw109_0 := hx109_0
  obtain rfl : ad107 = ad109 := (by injection e109)
  replace p109 := eq_true p109; replace q109 := eq_true q109
  have p110 : 0 ≤ (t106 : Int) := dA
  have q110 : t106 < (l0.length : Int) := dA
  obtain ⟨ad110, e110, hx110_0, hx110_1, hx110_2⟩ := at_T64 (Kd.C_kept_now HR0.out HK.out) t106 p110 q110; have hw110_2 := hx110_2; have hw110_1 := hx110_1; have hw110_0 := hx110_0
  obtain rfl : ad107 = ad110 := (by injection e110)
  replace p110 := eq_true p110; replace q110 := eq_true q110
  refine start_ (n := 15) (S := fun w' => w'.cell? (ad107.add ((t106).toNat * 3)) = some (.int .i64 ((rd_T64 l0 t106).f0)) ∧ w'.cell? ⟨(ad107.add ((t106).toNat * 3)).block, (ad107.add ((t106).toNat * 3)).off + 1, none⟩ = some (.int .i64 ((rd_T64 l0 t106).f1)) ∧ w'.cell? ⟨(ad107.add ((t106).toNat * 3)).block, (ad107.add ((t106).toNat * 3)).off + 2, none⟩ = some (.int .i64 ((rd_T64 l0 t106).f2)) ∧ w'.cell? (ad107.add ((t106).toNat * 3)) = some (.int .i64 ((rd_T64 l0 t106).f0)) ∧ w'.cell? ⟨(ad107.add ((t106).toNat * 3)).block, (ad107.add ((t106).toNat * 3)).off + 1, none⟩ = some (.int .i64 ((rd_T64 l0 t106).f1)) ∧ w'.cell? ⟨(ad107.add ((t106).toNat * 3)).block, (ad107.add ((t106).toNat * 3)).off + 2, none⟩ = some (.int .i64 ((rd_T64 l0 t106).f2))) (ds := [12, 13]) (bz [0, 15]) (by kernel_rfl) rfl rfl ⟨hx109_0, hx109_1, hx109_2, hx110_0, hx110_1, hx110_2⟩ (fun hHeld => ?_); refine with_tabW spec_l8Loop.tab7 spec_l8Loop.bits7 (fun HT_ HW_ => ?_)
  generalize w53.drew = w54 at HO_2 HO_7 HK HB hx109_0 hx109_1 hx109_2 hx110_0 hx110_1 hx110_2 hHeld ⊢
  refine pz 0 36 [1, 14] HT_ ?_
  refine pz 1 37 [2, 13] HT_ ?_
  refine pz 2 38 [3, 12] HT_ ?_
  refine pz 3 39 [4, 11] HT_ ?_
  refine pz 4 40 [5, 10] HT_ ?_
  refine pz 6 42 [5, 1, 1, 8] HT_ ?_
  refine pz 7 43 [5, 1, 2, 7] HT_ ?_
  refine pz 8 44 [5, 1, 3, 6] HT_ ?_
  refine pz 9 45 [5, 1, 4, 5] HT_ ?_
  refine tz 5 41 [10, 5] HT_ HW_ rfl (by rintro w' ⟨s0, s1, s2, s3, s4, s5⟩; go_simp; with_reducible rfl) hHeld ?_
  refine tz 10 46 [11, 4] HT_ HW_ rfl (by rintro w' ⟨s0, s1, s2, s3, s4, s5⟩; go_simp; with_reducible rfl) hHeld ?_
  refine pz 11 47 [12, 3] HT_ ?_
  refine last_ (i := 12) (N := some 48) (bz [13, 2]) rfl rfl (one_of HT_.out (by kernel_rfl)) (by decide) (fun K hK => ?_)
  refine value_ (w1 := ?_) (v := ?_) (by rfl) rfl ?_ ?_
  rotate_left 2
  ·
   go_simp
   constructor
   ·
    rfl
   rfl
  refine hK.out _ _ ?_
  clear hK K
  refine nm 48 ?_
  refine last_ (i := 13) (N := some 49) (bz [14, 1]) rfl rfl (one_of HT_.out (by kernel_rfl)) (by decide) (fun K hK => ?_)
  refine Kd.R_append_step k48 (w0 := w0) w0.heap.size (by rfl) (.tmp 36) (.tmp 48) 36 48 (.agg #[(.int .i64 0), (.int .i64 0)]) 16 rfl Try.underlying36 info48 rfl (by decide) (by omega) u7 x7_1 (⟨(rd_T64 l0 t106).f0, (rd_T64 l0 t106).f1⟩ : S48) [.int .i64 ((rd_T64 l0 t106).f0), .int .i64 ((rd_T64 l0 t106).f1)] (fun k_ => (P2_ k_ ∨ w.heap.size ≤ k_)) (fun _ => False) rfl rfl ?aP (fun _ hk => hk.elim) ?aF ?aO ?aB ?aS ?aL ?_
  (case aP => exact k48_mkM _ _ _ (⟨(rd_T64 l0 t106).f0, (rd_T64 l0 t106).f1⟩ : S48))
  (case aB => exact (pS HB.out))
  (case aF => exact (fun k_ hk => (.inr (Nat.le_trans (by first | exact HK.out.1 | exact (show Kept w _ (fun k_ => P2_ k_) from by repeat (first | (with_reducible first | exact HK.out | apply Kept.alloc | apply Kept.drewN | apply Kept.drew) | exact HK.out)).1) hk))))
  (case aO => exact (pR HO_7.out))
  (case aS => exact (below_size (pS HB.out)))
  (case aL => have := LMc48.out; omega)
  intro v112 w55 ho hb hg hat
  rw [← Ny111.out] at ho
  replace HO_2 := aK (Kd.R_over' (pR HO_2.out) (Kd.R_typed (pR HO_7.out)) (by decide) hg)
  replace HB := aK (hb)
  replace HK := aK (Kept.of_grown (S := (fun k_ => P2_ k_)) hg (by repeat (first | (with_reducible first | exact HK.out | apply Kept.alloc | apply Kept.drewN | apply Kept.drew) | exact HK.out)) (fun k_ e_ => (HO_7.out.1 k_ e_)))
  have HO113 := aK (ho); clear HO_7; clear ho hb hg hat
  refine hK.out _ _ ?_
  clear hK K
  refine nm 49 ?_
  refine pz 14 7 [15, 0] HT_ ?_
  refine done_ (done_of HT_.out (by kernel_rfl)) ?_
  try go_wp2
  go_roundg k1
  case measure => have := HK1.out; omega
  case rel => exact ⟨(y105), (y111), (t106), (by first | rfl | (simp; done) | (simp [*]; done)), H', ⟨by have := HK1.out; omega⟩, ⟨pR HO_2.out⟩, ⟨pR HO113.out⟩, ⟨by repeat (first | (with_reducible first | exact HK.out | apply Kept.alloc | apply Kept.drewN | apply Kept.drew) | exact HK.out)⟩, ⟨pT HB.out⟩⟩
 subst c9
 have H1 : (spec_l8Loop.l1 k1 x2_1 x7_1 0 1) = some (r1, r2) := by rw [if_pos rfl] at H; exact H
 clear H
 have H := H1
 clear H1
 have H' := aK H
 clear H
 obtain ⟨Ao10, co10, eo10⟩ := Kd.R_slice HO_2.out
 subst eo10
 have p104 : 0 ≤ (x8_1 : Int) := dA
 have q104 : x8_1 < (x2_1.length : Int) := dA
 obtain ⟨ad104, e104, hx104_0⟩ := Kd.at_bool (Kd.R_reads' HO_2.out).2.2 x8_1 p104 q104
 (try rw [← Nbq8.out] at hx104_0)
 cases e104
 replace p104 := eq_true p104
 replace q104 := eq_true q104
 go_wp2
 go_loopg [10, 11] k1 (fun kq v10 v11 w' => ∃ (x10_2 : Int) (x11_2 : Int), v10 = .int .i64 x10_2 ∧ v11 = .int .i64 x11_2 ∧ Aside0 (spec_l8Loop.l1 kq x2_1 x7_1 x10_2 x11_2 = some (r1, r2)) ∧ Aside0 (kq ≤ k1) ∧ Aside0 (Kd.R Kd.bool 4 w' w0.heap.size (fun k_ => (P2_ k_ ∨ w.heap.size ≤ k_)) (.slice (some ad104) x2_1.length co10) x2_1) ∧ Aside0 (Kd.R k48 48 w' w0.heap.size (fun k_ => (P2_ k_ ∨ w.heap.size ≤ k_)) u7 x7_1) ∧ Aside0 (Kept w w' (fun k_ => P2_ k_)) ∧ Aside0 (Below w0.heap.size w0 w'))
 case atStart => exact ⟨(0), (1), (by first | rfl | (simp; done) | (simp [*]; done)), (by first | rfl | (simp; done) | (simp [*]; done)), H', ⟨Nat.le_refl _⟩, ⟨pR HO_2.out⟩, ⟨pR HO_7.out⟩, ⟨by repeat (first | (with_reducible first | exact HK.out | apply Kept.alloc | apply Kept.drewN | apply Kept.drew) | exact HK.out)⟩, ⟨pT HB.out⟩⟩
 case round =>
 clear H'
 try clear p1
 try clear q1
 try clear hx1
 try clear c2
 try clear p2
 try clear c6
 try clear c6b0
 try clear c7
 try clear c7b0
 try clear q8
 try clear c9
 try clear p10
 try clear q10
 try clear hx10
 try clear hx104_0
 try clear p104
 try clear p2
 try clear q104
 obtain ⟨x10_2, x11_2, rfl, rfl, HA, HK2, HO_2, HO_7, HK, HB⟩ := hrel
 cases gk with
 | zero => exact absurd HA.out (by simp [spec_l8Loop.l1])
 | succ k2 =>
 have H := HA.out
 clear HA
 simp only [spec_l8Loop.l1] at H
 by_cases c11 : x11_2 < (x7_1.length : Int)
 ·
  rw [if_pos c11] at H
  have c11b0 : decide (x11_2 < (x7_1.length : Int)) = true := decide_eq_true c11
  clear c11
  by_cases c12 : 0 ≤ x11_2
  rotate_left
  ·
   rw [if_neg c12] at H
   exact absurd H (by simp)
  rw [if_pos c12] at H
  have c12b0 : decide (0 ≤ x11_2) = true := decide_eq_true c12
  clear c12
  by_cases c13 : 0 ≤ x10_2
  rotate_left
  ·
   rw [if_neg c13] at H
   exact absurd H (by simp)
  rw [if_pos c13] at H
  have c13b0 : decide (0 ≤ x10_2) = true := decide_eq_true c13
  clear c13
  by_cases c14 : x10_2 < (x7_1.length : Int)
  rotate_left
  ·
   rw [if_neg c14] at H
   exact absurd H (by simp)
  rw [if_pos c14] at H
  have c14b0 : decide (x10_2 < (x7_1.length : Int)) = true := decide_eq_true c14
  clear c14; replace H := oA H; obtain ⟨t116, A15, H⟩ := H
  replace H : (if t116 = true then (spec_l8Loop.l1 k2 x2_1 x7_1 x11_2 (wrap64 (x11_2 + 1))) else (spec_l8Loop.l1 k2 x2_1 x7_1 x10_2 (wrap64 (x11_2 + 1)))) = some (r1, r2) := H
  by_cases c16 : t116 = true
  ·
   subst c16
   have H1 : (spec_l8Loop.l1 k2 x2_1 x7_1 x11_2 (wrap64 (x11_2 + 1))) = some (r1, r2) := by rw [if_pos rfl] at H; exact H
   clear H; have H := H1; clear H1; have H' := aK H; clear H; obtain ⟨Ao17, co17, eo17⟩ := Kd.R_slice HO_7.out; subst eo17
   try go_wp2
   replace HO_2 := rdw HO_2; replace HO_7 := rdw HO_7; replace HK := aK (Kept.drew HK.out); replace HB := aK (below_drew1 HB.out)
   have p114 : 0 ≤ (x11_2 : Int) := dA
   have q114 : x11_2 < (x7_1.length : Int) := dA
   obtain ⟨ad114, e114, hx114_0, hx114_1⟩ := at_T48 (Kd.R_reads' HO_7.out).2.2 x11_2 p114 q114; cases e114; replace p114 := eq_true p114; replace q114 := eq_true q114
   have p115 : 0 ≤ (x10_2 : Int) := dA
   have q115 : x10_2 < (x7_1.length : Int) := dA
   obtain ⟨ad115, e115, hx115_0, hx115_1⟩ := at_T48 (Kd.R_reads' HO_7.out).2.2 x10_2 p115 q115
   obtain rfl : ad114 = ad115 := (by injection e115)
   replace p115 := eq_true p115; replace q115 := eq_true q115
   refine start_ (n := 9) (S := fun w' => w'.cell? (ad114.add ((x11_2).toNat * 2)) = some (.int .i64 ((rd_T48 x7_1 x11_2).f0)) ∧ w'.cell? ⟨(ad114.add ((x11_2).toNat * 2)).block, (ad114.add ((x11_2).toNat * 2)).off + 1, none⟩ = some (.int .i64 ((rd_T48 x7_1 x11_2).f1)) ∧ w'.cell? (ad114.add ((x10_2).toNat * 2)) = some (.int .i64 ((rd_T48 x7_1 x10_2).f0)) ∧ w'.cell? ⟨(ad114.add ((x10_2).toNat * 2)).block, (ad114.add ((x10_2).toNat * 2)).off + 1, none⟩ = some (.int .i64 ((rd_T48 x7_1 x10_2).f1))) (ds := []) (bz [0, 9]) (by kernel_rfl) rfl rfl ⟨hx114_0, hx114_1, hx115_0, hx115_1⟩ (fun hHeld => ?_); refine with_tabW spec_l8Loop.tab13 spec_l8Loop.bits13 (fun HT_ HW_ => ?_)
   generalize wr.drew = w18 at HO_2 HO_7 HK HB hx114_0 hx114_1 hx115_0 hx115_1 hHeld ⊢
   refine pz 0 57 [1, 8] HT_ ?_
   refine pz 1 58 [2, 7] HT_ ?_
   refine pz 2 59 [3, 6] HT_ ?_
   refine pz 4 61 [3, 1, 1, 4] HT_ ?_
   refine pz 5 62 [3, 1, 2, 3] HT_ ?_
   refine pz 6 63 [3, 1, 3, 2] HT_ ?_
   refine tz 3 60 [7, 2] HT_ HW_ rfl (by rintro w' ⟨s0, s1, s2, s3⟩; go_simp; with_reducible rfl) hHeld ?_
   refine tz 7 64 [8, 1] HT_ HW_ rfl (by rintro w' ⟨s0, s1, s2, s3⟩; go_simp; with_reducible rfl) hHeld ?_
   refine oz 8 65 [9, 0] HT_ fun K hK => ?_
   refine gs Try.func28 #[.agg #[.int .i64 ((rd_T48 x7_1 x11_2).f0), .int .i64 ((rd_T48 x7_1 x11_2).f1)], .agg #[.int .i64 ((rd_T48 x7_1 x10_2).f0), .int .i64 ((rd_T48 x7_1 x10_2).f1)]] ?_
   with_reducible refine (spec_l8Before.calls ((rd_T48 x7_1 x11_2).f0) ((rd_T48 x7_1 x11_2).f1) ((rd_T48 x7_1 x10_2).f0) ((rd_T48 x7_1 x10_2).f1) true _ A15.out).mono ?_
   rintro e w19 ⟨rfl, hb⟩
   have HS0_ := hs hb hHeld.1; have HS1_ := hs hb hHeld.2.1; have HS2_ := hs hb hHeld.2.2.1; have HS3_ := hs hb hHeld.2.2.2
   refine ⟨_, rfl, ?_⟩
   replace HO_2 := rb HO_2 hb; replace HO_7 := rb HO_7 hb
   replace HK := aK (Kept.below (S := (fun k_ => P2_ k_)) (by repeat (first | (with_reducible first | exact HK.out | apply Kept.alloc | apply Kept.drewN | apply Kept.drew) | exact HK.out)) hb)
   replace HB := bS HB hb
   (try clear hb)
   (try clear hb2)
   (try clear hk)
   (try clear hi)
   refine hK.out _ _ ⟨HS0_, HS1_, HS2_, HS3_⟩ (fun hHeld => ?_)
   clear hK K
   refine nm 65 ?_
   refine done_ (done_of HT_.out (by kernel_rfl)) ?_
   try go_wp2
   go_roundg k2
   case measure => have := HK1.out; have := HK2.out; omega
   case rel => exact ⟨(x11_2), (wrap64 (x11_2 + 1)), (by first | rfl | (simp; done) | (simp [*]; done)), (by first | rfl | (simp; done) | (simp [*]; done)), H', ⟨by have := HK1.out; have := HK2.out; omega⟩, ⟨pR HO_2.out⟩, ⟨pR HO_7.out⟩, ⟨by repeat (first | (with_reducible first | exact HK.out | apply Kept.alloc | apply Kept.drewN | apply Kept.drew) | exact HK.out)⟩, ⟨pT HB.out⟩⟩
  replace c16 := Bool.eq_false_iff.mpr c16; subst c16
  have H1 : (spec_l8Loop.l1 k2 x2_1 x7_1 x10_2 (wrap64 (x11_2 + 1))) = some (r1, r2) := by rw [if_neg (show ¬ (false = true) by decide)] at H; exact H
  clear H; have H := H1; clear H1; have H' := aK H; clear H; obtain ⟨Ao20, co20, eo20⟩ := Kd.R_slice HO_7.out; subst eo20
  try go_wp2
  replace HO_2 := rdw HO_2; replace HO_7 := rdw HO_7; replace HK := aK (Kept.drew HK.out); replace HB := aK (below_drew1 HB.out)
  have p114 : 0 ≤ (x11_2 : Int) := dA
  have q114 : x11_2 < (x7_1.length : Int) := dA
  obtain ⟨ad114, e114, hx114_0, hx114_1⟩ := at_T48 (Kd.R_reads' HO_7.out).2.2 x11_2 p114 q114; cases e114; replace p114 := eq_true p114; replace q114 := eq_true q114
  have p115 : 0 ≤ (x10_2 : Int) := dA
  have q115 : x10_2 < (x7_1.length : Int) := dA
  obtain ⟨ad115, e115, hx115_0, hx115_1⟩ := at_T48 (Kd.R_reads' HO_7.out).2.2 x10_2 p115 q115
  obtain rfl : ad114 = ad115 := (by injection e115)
  replace p115 := eq_true p115; replace q115 := eq_true q115
  refine start_ (n := 9) (S := fun w' => w'.cell? (ad114.add ((x11_2).toNat * 2)) = some (.int .i64 ((rd_T48 x7_1 x11_2).f0)) ∧ w'.cell? ⟨(ad114.add ((x11_2).toNat * 2)).block, (ad114.add ((x11_2).toNat * 2)).off + 1, none⟩ = some (.int .i64 ((rd_T48 x7_1 x11_2).f1)) ∧ w'.cell? (ad114.add ((x10_2).toNat * 2)) = some (.int .i64 ((rd_T48 x7_1 x10_2).f0)) ∧ w'.cell? ⟨(ad114.add ((x10_2).toNat * 2)).block, (ad114.add ((x10_2).toNat * 2)).off + 1, none⟩ = some (.int .i64 ((rd_T48 x7_1 x10_2).f1))) (ds := []) (bz [0, 9]) (by kernel_rfl) rfl rfl ⟨hx114_0, hx114_1, hx115_0, hx115_1⟩ (fun hHeld => ?_); refine with_tabW spec_l8Loop.tab13 spec_l8Loop.bits13 (fun HT_ HW_ => ?_)
  generalize wr.drew = w21 at HO_2 HO_7 HK HB hx114_0 hx114_1 hx115_0 hx115_1 hHeld ⊢
  refine pz 0 57 [1, 8] HT_ ?_
  refine pz 1 58 [2, 7] HT_ ?_
  refine pz 2 59 [3, 6] HT_ ?_
  refine pz 4 61 [3, 1, 1, 4] HT_ ?_
  refine pz 5 62 [3, 1, 2, 3] HT_ ?_
  refine pz 6 63 [3, 1, 3, 2] HT_ ?_
  refine tz 3 60 [7, 2] HT_ HW_ rfl (by rintro w' ⟨s0, s1, s2, s3⟩; go_simp; with_reducible rfl) hHeld ?_
  refine tz 7 64 [8, 1] HT_ HW_ rfl (by rintro w' ⟨s0, s1, s2, s3⟩; go_simp; with_reducible rfl) hHeld ?_
  refine oz 8 65 [9, 0] HT_ fun K hK => ?_
  refine gs Try.func28 #[.agg #[.int .i64 ((rd_T48 x7_1 x11_2).f0), .int .i64 ((rd_T48 x7_1 x11_2).f1)], .agg #[.int .i64 ((rd_T48 x7_1 x10_2).f0), .int .i64 ((rd_T48 x7_1 x10_2).f1)]] ?_
  with_reducible refine (spec_l8Before.calls ((rd_T48 x7_1 x11_2).f0) ((rd_T48 x7_1 x11_2).f1) ((rd_T48 x7_1 x10_2).f0) ((rd_T48 x7_1 x10_2).f1) false _ A15.out).mono ?_
  rintro e w22 ⟨rfl, hb⟩
  have HS0_ := hs hb hHeld.1; have HS1_ := hs hb hHeld.2.1; have HS2_ := hs hb hHeld.2.2.1; have HS3_ := hs hb hHeld.2.2.2
  refine ⟨_, rfl, ?_⟩
  replace HO_2 := rb HO_2 hb; replace HO_7 := rb HO_7 hb
  replace HK := aK (Kept.below (S := (fun k_ => P2_ k_)) (by repeat (first | (with_reducible first | exact HK.out | apply Kept.alloc | apply Kept.drewN | apply Kept.drew) | exact HK.out)) hb)
  replace HB := bS HB hb
  (try clear hb)
  (try clear hb2)
  (try clear hk)
  (try clear hi)
  refine hK.out _ _ ⟨HS0_, HS1_, HS2_, HS3_⟩ (fun hHeld => ?_)
  clear hK K
  refine nm 65 ?_
  refine done_ (done_of HT_.out (by kernel_rfl)) ?_
  try go_wp2
  go_roundg k2
  case measure => have := HK1.out; have := HK2.out; omega
  case rel => exact ⟨(x10_2), (wrap64 (x11_2 + 1)), (by first | rfl | (simp; done) | (simp [*]; done)), (by first | rfl | (simp; done) | (simp [*]; done)), H', ⟨by have := HK1.out; have := HK2.out; omega⟩, ⟨pR HO_2.out⟩, ⟨pR HO_7.out⟩, ⟨by repeat (first | (with_reducible first | exact HK.out | apply Kept.alloc | apply Kept.drewN | apply Kept.drew) | exact HK.out)⟩, ⟨pT HB.out⟩⟩
 rw [if_neg c11] at H
 have c11b0 : decide (x11_2 < (x7_1.length : Int)) = false := decide_eq_false c11
 clear c11
 obtain ⟨y117, hy117⟩ : ∃ y_ : List (S48), y_ = (([] : List (S48))) := ⟨_, rfl⟩
 replace H : (if 0 ≤ x10_2 then (if x10_2 ≤ (x7_1.length : Int) then ((some (x7_1.drop (x10_2 : Int).toNat : List (S48))).bind fun y120 => (if y117.length + y120.length < 8796093022208 then ((some (y117 ++ y120 : List (S48))).bind fun y124 => ((some (x7_1.take (x10_2 : Int).toNat : List (S48))).bind fun y127 => (if y124.length + y127.length < 8796093022208 then (some ((y124 ++ y127), x2_1)) else (none)))) else (none))) else (none)) else (none)) = some (r1, r2) := by first | (rw [hy117]; first | with_reducible exact H | with_reducible exact (oS H :)) | with_reducible exact (oS H :) | with_reducible exact H | exact H
 have Ny117 := aK hy117
 clear hy117
 by_cases c23 : 0 ≤ x10_2
 rotate_left
 ·
  rw [if_neg c23] at H
  exact absurd H (by simp)
 rw [if_pos c23] at H
 have c23b0 := eq_true c23
 have c23b1 : decide (0 ≤ x10_2) = true := decide_eq_true c23
 clear c23
 by_cases c24 : x10_2 ≤ (x7_1.length : Int)
 rotate_left
 ·
  rw [if_neg c24] at H
  exact absurd H (by simp)
 rw [if_pos c24] at H
 have c24b0 := eq_true c24
 have c24b1 : decide (x10_2 ≤ (x7_1.length : Int)) = true := decide_eq_true c24
 clear c24
 obtain ⟨y120, hy120⟩ : ∃ y_ : List (S48), y_ = (x7_1.drop (x10_2 : Int).toNat) := ⟨_, rfl⟩
 replace H : (if y117.length + y120.length < 8796093022208 then ((some (y117 ++ y120 : List (S48))).bind fun y124 => ((some (x7_1.take (x10_2 : Int).toNat : List (S48))).bind fun y127 => (if y124.length + y127.length < 8796093022208 then (some ((y124 ++ y127), x2_1)) else (none)))) else (none)) = some (r1, r2) := by first | (rw [hy120]; first | with_reducible exact H | with_reducible exact (oS H :)) | with_reducible exact (oS H :) | with_reducible exact H | exact H
 have Ny120 := aK hy120
 clear hy120
 by_cases c25 : y117.length + y120.length < 8796093022208
 rotate_left
 ·
  rw [if_neg c25] at H
  exact absurd H (by simp)
 rw [if_pos c25] at H
 have LMc25 := aK c25
 clear c25
 obtain ⟨y124, hy124⟩ : ∃ y_ : List (S48), y_ = (y117 ++ y120) := ⟨_, rfl⟩
 replace H : ((some (x7_1.take (x10_2 : Int).toNat : List (S48))).bind fun y127 => (if y124.length + y127.length < 8796093022208 then (some ((y124 ++ y127), x2_1)) else (none))) = some (r1, r2) := by first | (rw [hy124]; first | with_reducible exact H | with_reducible exact (oS H :)) | with_reducible exact (oS H :) | with_reducible exact H | exact H
 have Ny124 := aK hy124
 clear hy124
 have c26b0 := eq_true (dA : 0 ≤ x10_2)
 have c27b0 := eq_true (dA : x10_2 ≤ (x7_1.length : Int))
 obtain ⟨y127, hy127⟩ : ∃ y_ : List (S48), y_ = (x7_1.take (x10_2 : Int).toNat) := ⟨_, rfl⟩
 replace H : (if y124.length + y127.length < 8796093022208 then (some ((y124 ++ y127), x2_1)) else (none)) = some (r1, r2) := by first | (rw [hy127]; first | with_reducible exact H | with_reducible exact (oS H :)) | with_reducible exact (oS H :) | with_reducible exact H | exact H
 have Ny127 := aK hy127
 clear hy127
 by_cases c28 : y124.length + y127.length < 8796093022208
 rotate_left
 ·
  rw [if_neg c28] at H
  exact absurd H (by simp)
 rw [if_pos c28] at H
 have LMc28 := aK c28
 clear c28
 obtain ⟨y131, hy131⟩ : ∃ y_ : List (S48), y_ = (y124 ++ y127) := ⟨_, rfl⟩
 replace H : (some (y131, x2_1)) = some (r1, r2) := by first | (rw [hy131]; first | with_reducible exact H | with_reducible exact (oS H :)) | with_reducible exact (oS H :) | with_reducible exact H | exact H
 have Ny131 := aK hy131
 clear hy131
 simp only [Option.some.injEq, Prod.mk.injEq] at H
 obtain ⟨rfl, rfl⟩ := H
 obtain ⟨Ao29, co29, eo29⟩ := Kd.R_slice HO_7.out
 subst eo29
 try go_wp2
 replace HO_2 := rdw HO_2
 replace HO_7 := rdw HO_7
 replace HK := aK (Kept.drew HK.out)
 replace HB := aK (below_drew1 HB.out)
 have q31 : (x10_2 : Int) ≤ ((x7_1.length : Int) : Int) := dA
 obtain ⟨i031, hi031, _, hsz31, _⟩ := info_parts info48
 have hroom31 : x7_1.length ≤ co29 := (Kd.R_reads' HO_7.out).2.1
 have hC31 : Kd.C k48 _ Ao29 x7_1.length x7_1 := (Kd.R_reads' HO_7.out).2.2
 have q031 : (0 : Int) ≤ (x10_2 : Int) := dA
 have hcut31 := cut_from (P := Try.prog) 36 48 .i64 Try.underlying36 hi031 2 hsz31 Ao29 x7_1.length co29 x10_2 q031 q31
 have hr31 := Kd.C_drop (m := (x10_2 : Int).toNat) (c := co29) hC31 (by omega) hroom31
 obtain ⟨A31, hA31⟩ : ∃ A1, A1 = (if co29 = (x10_2 : Int).toNat then Ao29 else (Ao29 : Option Addr).map (·.add ((x10_2 : Int).toNat * 2))) := ⟨_, rfl⟩
 obtain ⟨c31, hc31⟩ : ∃ c1, c1 = co29 - (x10_2 : Int).toNat := ⟨_, rfl⟩
 have hy31 : y120.length = x7_1.length - (x10_2 : Int).toNat := (by rw [Ny120.out, List.length_drop] <;> omega)
 rw [show (x7_1).drop (x10_2 : Int).toNat = y120 from Ny120.out.symm] at hr31
 replace hr31 : Kd.C k48 _ A31 y120.length y120 := (by rw [hA31]; exact hr31)
 rw [← hy31, ← hA31, ← hc31] at hcut31
 have HR123 := aK hr31
 have HC123 := aK (show y120.length ≤ c31 from by rw [hy31, hc31]; exact Nat.sub_le_sub_right hroom31 _)
 clear hr31 hC31 hroom31 hi031 hsz31 hc31
 have KY31 := aK hy31
 have KA31 := aK hA31
 clear hy31 hA31
 have KL31 := aK (show (x10_2 : Int).toNat ≤ x7_1.length from by omega)
 replace q31 := eq_true q31
 have q32 : (x10_2 : Int) ≤ ((x7_1.length : Int) : Int) := dA
 obtain ⟨i032, hi032, _, hsz32, _⟩ := info_parts info48
 have hroom32 : x7_1.length ≤ co29 := (Kd.R_reads' HO_7.out).2.1
 have hC32 : Kd.C k48 _ Ao29 x7_1.length x7_1 := (Kd.R_reads' HO_7.out).2.2
 have hcut32 := cut_to (P := Try.prog) 36 48 .i64 Try.underlying36 hi032 Ao29 x7_1.length co29 x10_2 (dA) q32 hroom32
 have hr32 := Kd.C_take (m := (x10_2 : Int).toNat) hC32 (by omega)
 have hy32 : y127.length = (x10_2 : Int).toNat := (by rw [Ny127.out, List.length_take]; omega)
 rw [← Ny127.out] at hr32
 rw [← hy32] at hcut32
 have HR130 := aK hr32
 have HC130 := aK (show y127.length ≤ co29 from by omega)
 clear hr32 hC32 hroom32 hi032 hsz32
 have KY32 := aK hy32
 clear hy32
 have KL32 := aK (show (x10_2 : Int).toNat ≤ x7_1.length from by omega)
 replace q32 := eq_true q32
 refine start_ (n := 10) (S := fun w' => True) (ds := []) (bz [0, 10]) (by kernel_rfl) rfl rfl trivial (fun hHeld => ?_); refine with_tabW spec_l8Loop.tab15 spec_l8Loop.bits15 (fun HT_ HW_ => ?_)
 generalize wr.drew = w30 at HO_2 HO_7 HK HB HR123 HR130 hHeld ⊢
 refine pz 1 68 [0, 1, 1, 8] HT_ ?_
 refine pz 2 69 [0, 1, 2, 7] HT_ ?_
 refine pz 3 70 [0, 1, 3, 6] HT_ ?_
 refine pz 5 72 [0, 1, 3, 1, 1, 4] HT_ ?_
 refine pz 6 73 [0, 1, 3, 1, 2, 3] HT_ ?_
 refine pz 7 74 [0, 1, 3, 1, 3, 2] HT_ ?_
 refine oz 0 67 [4, 1, 3, 2] HT_ fun K hK => ?_
 refine Kd.R_lit_step k48 _ 48 ?hg (N := 67) ?hd (xs := ([] : List (S48))) (inner := []) (ok := fun _ => True) (okp := fun _ => True) ?hr ?hp (fun _ hk => hk) trivial (Below.refl _ _) (Nat.le_refl _) (by simp) ?_; (case hd => rfl); (case hg => rfl); (case hr => first | (go_simp; done) | (go_simp; rfl)); (case hp => exact (Reps.none _ _))
 intro v118 w33 ho34 hb hg_ hnew_
 clear hg_ hnew_
 (first | rw [← Ny117.out] at ho34 | (simp only [Int.reduceToNat] at ho34; rw [← Ny117.out] at ho34))
 replace HO_2 := rb HO_2 hb
 have n1_ := aK (Kd.R_elder' (pR HO_7.out) (Kd.R_base ho34) hb)
 have HO119 := aK (Kd.R_lower (nw1 (Kd.R_newM (M := fun k_ => (P2_ k_ ∨ w.heap.size ≤ k_)) ho34 (by first | exact HK.out.1 | exact (show Kept w _ (fun k_ => P2_ k_) from by repeat (first | (with_reducible first | exact HK.out | apply Kept.alloc | apply Kept.drewN | apply Kept.drew) | exact HK.out)).1) (fun k_ h_ => .inr h_)) (pR HO_7.out)) (below_size (pS HB.out)))
 replace HR123 := aK (Kd.C_below (pC HR123.out) hb)
 replace HR130 := aK (Kd.C_below (pC HR130.out) hb)
 replace HK := aK (Kept.below (S := (fun k_ => P2_ k_)) (by repeat (first | (with_reducible first | exact HK.out | apply Kept.alloc | apply Kept.drewN | apply Kept.drew) | exact HK.out)) hb)
 replace HB := bS HB hb
 clear HO_7
 have HO_7 := n1_
 clear n1_ hb ho34
 refine hK.out _ _ trivial (fun hHeld => ?_)
 clear hK K
 refine nm 67 ?_
 refine oz 4 71 [8, 2] HT_ fun K hK => ?_
 refine Kd.R_append_rows_step k48 (w0 := w0) w0.heap.size (by rfl) (.tmp 67) (.tmp 70) 36 48 (.agg #[(.int .i64 0), (.int .i64 0)]) 16 rfl Try.underlying36 info48 rfl (by decide) (by omega) v118 y117 y120 _ _ _ (fun k_ => (P2_ k_ ∨ w.heap.size ≤ k_) ∧ some k_ ≠ (.slice Ao29 x7_1.length co29 : Value).ownBlock) (fun _ => False) rfl rfl ?aO ?aR (fun _ _ h => h) (fun _ h => h.elim) ?aF ?aB ?aS ?aL ?_
 (case aR => repeat (first | exact (pC HR123.out) | (with_reducible refine Kd.C_alloc ?_ _) | (with_reducible refine Kd.C_drewN ?_ _) | (with_reducible refine Kd.C_drew ?_)))
 (case aB => exact (pS HB.out))
 (case aF => exact (fun k_ hk => ⟨(.inr (Nat.le_trans (by first | exact HK.out.1 | exact (show Kept w _ (fun k_ => P2_ k_) from by repeat (first | (with_reducible first | exact HK.out | apply Kept.alloc | apply Kept.drewN | apply Kept.drew) | exact HK.out)).1) hk)), Kd.fresh' (Kd.R_lt (pR HO_7.out)) k_ hk⟩))
 (case aO => exact (pR (rP HO119.out)))
 (case aS => exact (below_size (pS HB.out)))
 (case aL => have := LMc25.out; omega)
 intro v125 w35 ho hb hg hat
 rw [← Ny124.out] at ho
 replace HO_2 := aK (Kd.R_over' (pR HO_2.out) (Kd.R_typed (pR HO119.out)) (by decide) hg)
 have n1_ := aK (Kd.R_after (ok := (fun k_ => (P2_ k_ ∨ w.heap.size ≤ k_))) (pR HO_7.out) hg hat)
 replace HB := aK (hb)
 replace HK := aK (Kept.of_grown (S := (fun k_ => P2_ k_)) hg (by repeat (first | (with_reducible first | exact HK.out | apply Kept.alloc | apply Kept.drewN | apply Kept.drew) | exact HK.out)) (fun k_ e_ => (HO119.out.1 k_ e_).1.1))
 replace HR123 := aK ((show Kd.C k48 w35 A31 y120.length y120 from by rw [Ny120.out, KA31.out]; exact Kd.C_drop (m := (x10_2 : Int).toNat) (c := co29) ((Kd.R_reads' (Kd.R_after (ok := (fun k_ => (P2_ k_ ∨ w.heap.size ≤ k_))) (pR HO_7.out) hg hat)).2.2) KL31.out ((Kd.R_reads' (Kd.R_after (ok := (fun k_ => (P2_ k_ ∨ w.heap.size ≤ k_))) (pR HO_7.out) hg hat)).2.1)))
 replace HR130 := aK ((show Kd.C k48 w35 Ao29 y127.length y127 from by rw [Ny127.out]; exact Kd.C_take (m := (x10_2 : Int).toNat) ((Kd.R_reads' (Kd.R_after (ok := (fun k_ => (P2_ k_ ∨ w.heap.size ≤ k_))) (pR HO_7.out) hg hat)).2.2) KL32.out))
 have HO126 := aK (ho)
 clear HO_7 HO119
 have HO_7 := n1_
 clear n1_ ho hb hg hat
 refine hK.out _ _ trivial (fun hHeld => ?_)
 clear hK K
 refine nm 71 ?_
 refine oz 8 75 [9, 1] HT_ fun K hK => ?_
 refine Kd.R_append_rows_step k48 (w0 := w0) w0.heap.size (by rfl) (.tmp 71) (.tmp 74) 36 48 (.agg #[(.int .i64 0), (.int .i64 0)]) 16 rfl Try.underlying36 info48 rfl (by decide) (by omega) v125 y124 y127 _ _ _ (fun k_ => (P2_ k_ ∨ w.heap.size ≤ k_) ∧ some k_ ≠ (.slice Ao29 x7_1.length co29 : Value).ownBlock) (fun _ => False) rfl rfl ?aO ?aR (fun _ _ h => h) (fun _ h => h.elim) ?aF ?aB ?aS ?aL ?_
 (case aR => repeat (first | exact (pC HR130.out) | (with_reducible refine Kd.C_alloc ?_ _) | (with_reducible refine Kd.C_drewN ?_ _) | (with_reducible refine Kd.C_drew ?_)))
 (case aB => exact (pS HB.out))
 (case aF => exact (fun k_ hk => ⟨(.inr (Nat.le_trans (by first | exact HK.out.1 | exact (show Kept w _ (fun k_ => P2_ k_) from by repeat (first | (with_reducible first | exact HK.out | apply Kept.alloc | apply Kept.drewN | apply Kept.drew) | exact HK.out)).1) hk)), Kd.fresh' (Kd.R_lt (pR HO_7.out)) k_ hk⟩))
 (case aO => exact (pR HO126.out))
 (case aS => exact (below_size (pS HB.out)))
 (case aL => have := LMc28.out; omega)
 intro v132 w36 ho hb hg hat
 rw [← Ny131.out] at ho
 replace HO_2 := aK (Kd.R_over' (pR HO_2.out) (Kd.R_typed (pR HO126.out)) (by decide) hg)
 have n1_ := aK (Kd.R_after (ok := (fun k_ => (P2_ k_ ∨ w.heap.size ≤ k_))) (pR HO_7.out) hg hat)
 replace HB := aK (hb)
 replace HK := aK (Kept.of_grown (S := (fun k_ => P2_ k_)) hg (by repeat (first | (with_reducible first | exact HK.out | apply Kept.alloc | apply Kept.drewN | apply Kept.drew) | exact HK.out)) (fun k_ e_ => (HO126.out.1 k_ e_).1))
 replace HR123 := aK ((show Kd.C k48 w36 A31 y120.length y120 from by rw [Ny120.out, KA31.out]; exact Kd.C_drop (m := (x10_2 : Int).toNat) (c := co29) ((Kd.R_reads' (Kd.R_after (ok := (fun k_ => (P2_ k_ ∨ w.heap.size ≤ k_))) (pR HO_7.out) hg hat)).2.2) KL31.out ((Kd.R_reads' (Kd.R_after (ok := (fun k_ => (P2_ k_ ∨ w.heap.size ≤ k_))) (pR HO_7.out) hg hat)).2.1)))
 replace HR130 := aK ((show Kd.C k48 w36 Ao29 y127.length y127 from by rw [Ny127.out]; exact Kd.C_take (m := (x10_2 : Int).toNat) ((Kd.R_reads' (Kd.R_after (ok := (fun k_ => (P2_ k_ ∨ w.heap.size ≤ k_))) (pR HO_7.out) hg hat)).2.2) KL32.out))
 have HO133 := aK (ho)
 clear HO_7 HO126
 have HO_7 := n1_
 clear n1_ ho hb hg hat
 refine hK.out _ _ trivial (fun hHeld => ?_)
 clear hK K
 refine nm 75 ?_
 refine pz 9 6 [10, 0] HT_ ?_
 refine done_ (done_of HT_.out (by kernel_rfl)) ?_
 try go_wp2
 go_ret
 exact ⟨_, er, by (with_reducible repeat (first | apply Kd.R_alloc | apply Kd.R_drewN | apply Kd.R_drew)); exact Kd.R_mono HO133.out (fun _ hk => hk.1), by (with_reducible repeat (first | apply Kd.R_alloc | apply Kd.R_drewN | apply Kd.R_drew)); exact HO_2.out, pT HB.out, by repeat (first | (with_reducible first | exact HK.out | apply Kept.alloc | apply Kept.drewN | apply Kept.drew) | exact HK.out)⟩
end Go.Proofs.Ytnbpcacnbfbjkaa.P
namespace Go.Proofs.Ytnbpcacnbfbjkaa.P
section
variable {α : Type} [Inhabited α]
def swR (a b : Nat) : Nat → Nat → Array α → Array α
  | _, 0, d => d
  | i, k + 1, d => swR a b (i + 1) k (swp d (a + i) (b + i))
set_option maxHeartbeats 16000000 in
set_option maxRecDepth 1000000 in
theorem swapRange_s (enc : α → Value) (blk off cap a b n : Nat) (d0 d : Array α) (w0 w : World) (fv : Value) (R : Row1 enc w0 blk off d0) (hs : d0.size = d.size) (S : SW enc w0 blk off d w) (ha : a + n ≤ d.size) (hb : b + n ≤ d.size) (hsz : d.size < 4611686018427387904) :
    Calls Try.prog 57 #[.slice (some ⟨blk, off, none⟩) d.size cap, .int .i64 a, .int .i64 b, .int .i64 n, fv] w fun e w' => e = .returned (.tuple #[]) ∧ SW enc w0 blk off (swR a b 0 n d) w' := by
  have mixed : Try.prog.follows Departure.mixedOrders = true := by kernel_rfl
  have hcl0 := R.hO.cells
  simp only [Value.cells] at hcl0
  have hst := R.hO.store Try.prog
  have S0 : Aside (SW enc w0 blk off d w) := S
  clear S
  go_enter Try.func57, Try.ntmps57
  go_wp2
  go_loopg [10] n (fun g1 vi wr => ∃ (i : Nat) (dk : Array α), vi = .int .i64 i ∧ i ≤ n ∧ n - i ≤ g1 ∧ dk.size = d.size ∧ Aside (SW enc w0 blk off dk wr) ∧ Hid (swR a b i (n - i) dk = swR a b 0 n d))
  case atStart => exact ⟨0, d, rfl, by omega, by omega, rfl, S0, rfl⟩
  case round =>
    clear S0
    obtain ⟨i, dk, rfl, hin, hg1, hsk, SJ, HO⟩ := hrel
    by_cases hlt : i < n
    · have hltz : (i : Int) < (n : Int) := by omega
      obtain ⟨iN, hiN⟩ : ∃ q, q = a + i := ⟨_, rfl⟩
      obtain ⟨jN, hjN⟩ : ∃ q, q = b + i := ⟨_, rfl⟩
      have ea : ((a : Int) + (i : Int)).toNat = iN := by omega
      have pa : (0 : Int) ≤ (a : Int) + (i : Int) := by omega
      have ba : (a : Int) + (i : Int) < (d.size : Int) := by omega
      have ra : IntKind.i64.wrap ((a : Int) + (i : Int)) = (a : Int) + (i : Int) := by rw [IntKind.wrap_i64]; omega
      have eb : ((b : Int) + (i : Int)).toNat = jN := by omega
      have pb : (0 : Int) ≤ (b : Int) + (i : Int) := by omega
      have bb : (b : Int) + (i : Int) < (d.size : Int) := by omega
      have rb : IntKind.i64.wrap ((b : Int) + (i : Int)) = (b : Int) + (i : Int) := by rw [IntKind.wrap_i64]; omega
      obtain ⟨x, hx⟩ : ∃ x, x = dk[a + i]! := ⟨_, rfl⟩
      obtain ⟨y, hy⟩ : ∃ x, x = dk[b + i]! := ⟨_, rfl⟩
      have S3 : Aside (SW enc w0 blk off (swp dk (a + i) (b + i)) ((wr.setCell ⟨blk, off + iN, none⟩ (enc y)).setCell ⟨blk, off + jN, none⟩ (enc x)).drew) := by rw [hiN, hjN, hx, hy]; exact SJ.out.swapped R (a + i) (b + i) (by omega) (by omega)
      have ca := SJ.out.c1 R (by omega) (a + i) (by omega)
      have cb := SJ.out.c1 R (by omega) (b + i) (by omega)
      have fa := SJ.out.f1 R (by omega) (a + i) (by omega)
      have fb := SJ.out.f1 R (by omega) (b + i) (by omega)
      obtain ⟨u, cc⟩ := SJ.out.c2 R (by omega) (a + i) (b + i) (by omega) (by omega) (enc y)
      rw [← hjN, ← hiN] at cc
      rw [← hx, ← hiN] at ca
      rw [← hy, ← hjN] at cb
      rw [← hiN] at fa
      rw [← hjN] at fb
      clear SJ hx hy hiN hjN
      go_wp2_with fail
      go_big_region_o
      clear ca cb cc fa fb
      generalize ((wr.setCell ⟨blk, off + iN, none⟩ (enc y)).setCell ⟨blk, off + jN, none⟩ (enc x)).drew = w3 at S3 ⊢
      clear ea eb
      go_wp2
      go_roundg (n - (i + 1))
      case measure => omega
      case rel => exact ⟨i + 1, swp dk (a + i) (b + i), by go_num, by omega, by omega, by rw [size_swp]; exact hsk, S3, (show Hid _ from by rw [← HO.out, show n - i = (n - (i + 1)) + 1 by omega]; exact rfl)⟩
    · have hltz : ¬ (i : Int) < (n : Int) := by omega
      have hltz' : decide ((i : Int) < (n : Int)) = false := decide_eq_false hltz
      go_wp2
      go_end0
      exact ⟨rfl, by rw [← HO.out, show n - i = 0 by omega]; exact SJ.out⟩
end
section
variable {α : Type} [Inhabited α]
theorem size_swR (a b : Nat) : ∀ (k i : Nat) (d : Array α), (swR a b i k d).size = d.size
  | 0, _, _ => rfl
  | k + 1, i, d => by
    show (swR a b (i + 1) k (swp d (a + i) (b + i))).size = _
    rw [size_swR a b k, size_swp]
def rotL (m : Nat) : Nat → Nat → Nat → Array α → Array α
  | 0, _, _, d => d
  | k + 1, i, j, d => if i = j then swR (m - i) m 0 i d else if i > j then rotL m k (i - j) j (swR (m - i) m 0 j d) else rotL m k i (j - i) (swR (m - i) (m + j - i) 0 i d)
set_option maxHeartbeats 16000000 in
set_option maxRecDepth 1000000 in
theorem rotate_s (enc : α → Value) (blk off cap a m b : Nat) (d0 d : Array α) (w0 w : World) (fv : Value) (R : Row1 enc w0 blk off d0) (hs : d0.size = d.size) (S : SW enc w0 blk off d w) (ham : a < m) (hmb : m < b) (hb : b ≤ d.size) (hsz : d.size < 4611686018427387904) :
    Calls Try.prog 56 #[.slice (some ⟨blk, off, none⟩) d.size cap, .int .i64 a, .int .i64 m, .int .i64 b, fv] w fun e w' => e = .returned (.tuple #[]) ∧ SW enc w0 blk off (rotL m (b - a) (m - a) (b - m) d) w' := by
  have mixed : Try.prog.follows Departure.mixedOrders = true := by kernel_rfl
  have S0 : Aside (SW enc w0 blk off d w) := S
  clear S
  have z1 : (m : Int) - (a : Int) = ((m - a : Nat) : Int) := by omega
  have z2 : (b : Int) - (m : Int) = ((b - m : Nat) : Int) := by omega
  have G : Aside0 (a < m ∧ m < b ∧ b ≤ d.size ∧ d.size < 4611686018427387904) := ⟨ham, hmb, hb, hsz⟩
  go_enter Try.func56, Try.ntmps56
  go_wp2
  go_loopg [10, 11] (b - a) (fun g1 vi vj wr => ∃ (i j k : Nat) (dk : Array α), vi = .int .i64 i ∧ vj = .int .i64 j ∧ Aside0 (1 ≤ i ∧ 1 ≤ j ∧ i ≤ m ∧ m + j ≤ d.size ∧ i + j ≤ k ∧ i + j ≤ g1) ∧ dk.size = d.size ∧ Aside (SW enc w0 blk off dk wr) ∧ Hid (rotL m k i j dk = rotL m (b - a) (m - a) (b - m) d))
  case atStart =>
    refine ⟨m - a, b - m, b - a, d, by first | rfl | go_num, by first | rfl | go_num, ⟨by omega, by omega, by omega, by omega, by omega, by omega⟩, rfl, S0, ?_⟩
    rfl
  case round =>
    clear S0 z1 z2
    obtain ⟨i, j, k, dk, rfl, rfl, AA, hsk, SJ, HO⟩ := hrel
    cases k with
    | zero => have := AA.out; omega
    | succ k =>
    have hA := AA.out
    by_cases hij : i = j
    · subst hij
      have z1 : (m : Int) - (i : Int) = ((m - i : Nat) : Int) := by omega
      have hc := swapRange_s enc blk off cap (m - i) m i d0 dk w0 wr fv R (by omega) SJ.out (by omega) (by omega) (by omega)
      rw [hsk] at hc
      have HC := aK hc
      have n2 : ((i : Int) != (i : Int)) = false := by simp
      clear hc hA
      go_wp2_with (first | (go_at_call 57; refine HC.out.mono ?_; rintro e w' ⟨rfl, hS⟩))
      go_end0
      exact ⟨rfl, by rw [← HO.out, rotL, if_pos rfl]; exact hS⟩
    · have n1 : ¬ (i : Int) = (j : Int) := by omega
      have n2 : ((i : Int) != (j : Int)) = true := bne_iff_ne.mpr n1
      have n3 : ((i : Int) == (j : Int)) = false := beq_eq_false_iff_ne.mpr n1
      by_cases hgt : j < i
      · have g1 : (j : Int) < (i : Int) := by omega
        have g2 : decide ((j : Int) < (i : Int)) = true := decide_eq_true g1
        have z1 : (m : Int) - (i : Int) = ((m - i : Nat) : Int) := by omega
        have z2 : (i : Int) - (j : Int) = ((i - j : Nat) : Int) := by omega
        have hc := swapRange_s enc blk off cap (m - i) m j d0 dk w0 wr fv R (by omega) SJ.out (by omega) (by omega) (by omega)
        rw [hsk] at hc
        have HC := aK hc
        clear hc hA
        go_wp2_with (first | (go_at_call 57; refine HC.out.mono ?_; rintro e w' ⟨rfl, hS⟩; have S2 : Aside (SW _ _ _ _ _ _) := hS; clear hS))
        go_roundg (i - j + j)
        case measure => have := AA.out; omega
        case rel =>
          have hA := AA.out
          exact ⟨i - j, j, k, swR (m - i) m 0 j dk, by first | rfl | go_num, rfl, ⟨by omega, by omega, by omega, by omega, by omega, by omega⟩, by rw [size_swR]; exact hsk, S2, (show Hid _ from by rw [← HO.out, rotL, if_neg hij, if_pos hgt]; exact rfl)⟩
      · have g1 : ¬ (j : Int) < (i : Int) := by omega
        have g2 : decide ((j : Int) < (i : Int)) = false := decide_eq_false g1
        have z1 : (m : Int) - (i : Int) = ((m - i : Nat) : Int) := by omega
        have z2 : (j : Int) - (i : Int) = ((j - i : Nat) : Int) := by omega
        obtain ⟨q, hq⟩ : ∃ q, q = m + j - i := ⟨_, rfl⟩
        obtain ⟨s, hs2⟩ : ∃ q, q = m + j := ⟨_, rfl⟩
        have z3 : (m : Int) + (j : Int) = (s : Int) := by omega
        have z4 : (s : Int) - (i : Int) = (q : Int) := by omega
        have sb : s < 9223372036854775807 := by omega
        have QQ : Aside0 (q = m + j - i) := ⟨hq⟩
        have hc := swapRange_s enc blk off cap (m - i) q i d0 dk w0 wr fv R (by omega) SJ.out (by omega) (by omega) (by omega)
        rw [hsk] at hc
        have HC := aK hc
        clear hc hA hq hs2
        go_wp2_with (first | (go_at_call 57; refine HC.out.mono ?_; rintro e w' ⟨rfl, hS⟩; have S2 : Aside (SW _ _ _ _ _ _) := hS; clear hS))
        go_roundg (i + (j - i))
        case measure => have := AA.out; omega
        case rel =>
          have hA := AA.out
          exact ⟨i, j - i, k, swR (m - i) q 0 i dk, rfl, by first | rfl | go_num, ⟨by omega, by omega, by omega, by omega, by omega, by omega⟩, by rw [size_swR]; exact hsk, S2, (show Hid _ from by rw [← HO.out, rotL, if_neg hij, if_neg hgt, ← QQ.out]; exact rfl)⟩
end
section
variable {α : Type} [Inhabited α]
theorem get_swp (d : Array α) {i j : Nat} (t : Nat) (hi : i < d.size) (hj : j < d.size) : (swp d i j)[t]! = if t = j then d[i]! else if t = i then d[j]! else d[t]! := by
  by_cases h1 : t = j
  · rw [if_pos h1, h1]; exact swp_right d i j hj
  · rw [if_neg h1]
    by_cases h2 : t = i
    · rw [if_pos h2, h2]; exact swp_left d i j hi (fun e => h1 (h2.trans e))
    · rw [if_neg h2]; exact swp_other d i j t h2 h1
theorem get_swR (a b : Nat) : ∀ (k i : Nat) (d : Array α) (t : Nat), a + i + k ≤ d.size → b + i + k ≤ d.size → (a + (i + k) ≤ b ∨ b + (i + k) ≤ a) →
    (swR a b i k d)[t]! = if a + i ≤ t ∧ t < a + i + k then d[t - a + b]! else if b + i ≤ t ∧ t < b + i + k then d[t - b + a]! else d[t]!
  | 0, i, d, t, _, _, _ => by
    rw [if_neg (by omega), if_neg (by omega)]
    rfl
  | k + 1, i, d, t, h1, h2, h3 => by
    show (swR a b (i + 1) k (swp d (a + i) (b + i)))[t]! = _
    rw [get_swR a b k (i + 1) _ t (by rw [size_swp]; omega) (by rw [size_swp]; omega) (by omega)]
    rw [get_swp d _ (by omega) (by omega), get_swp d _ (by omega) (by omega), get_swp d _ (by omega) (by omega)]
    by_cases c1 : a + i ≤ t ∧ t < a + i + (k + 1)
    · rw [if_pos c1]
      by_cases c2 : t = a + i
      · rw [if_neg (by omega), if_neg (by omega), if_neg (by omega), if_pos c2]
        congr 1
        omega
      · rw [if_pos (by omega), if_neg (by omega), if_neg (by omega)]
    · rw [if_neg c1, if_neg (by omega)]
      by_cases c3 : b + i ≤ t ∧ t < b + i + (k + 1)
      · rw [if_pos c3]
        by_cases c4 : t = b + i
        · rw [if_neg (by omega), if_pos c4]
          congr 1
          omega
        · rw [if_pos (by omega), if_neg (by omega), if_neg (by omega)]
      · rw [if_neg c3, if_neg (by omega), if_neg (by omega), if_neg (by omega)]
theorem size_rotL (m : Nat) : ∀ (k i j : Nat) (d : Array α), (rotL m k i j d).size = d.size
  | 0, _, _, _ => rfl
  | k + 1, i, j, d => by
    unfold rotL
    split
    · exact size_swR _ _ _ _ _
    · split
      · rw [size_rotL m k, size_swR]
      · rw [size_rotL m k, size_swR]
theorem get_rotL (m : Nat) : ∀ (k i j : Nat) (d : Array α) (t : Nat), 1 ≤ i → 1 ≤ j → i ≤ m → m + j ≤ d.size → i + j ≤ k →
    (rotL m k i j d)[t]! = if m - i ≤ t ∧ t < m - i + j then d[t + i]! else if m - i + j ≤ t ∧ t < m + j then d[t - j]! else d[t]!
  | 0, i, j, d, t, h1, h2, _, _, h5 => by omega
  | k + 1, i, j, d, t, h1, h2, h3, h4, h5 => by
    unfold rotL
    by_cases e : i = j
    · subst e
      rw [if_pos rfl, get_swR _ _ _ _ _ _ (by omega) (by omega) (by omega)]
      by_cases c1 : m - i ≤ t ∧ t < m - i + i
      · rw [if_pos (by omega), if_pos c1]
        congr 1
        omega
      · rw [if_neg (by omega), if_neg c1]
        by_cases c2 : m - i + i ≤ t ∧ t < m + i
        · rw [if_pos (by omega), if_pos c2]
          congr 1
          omega
        · rw [if_neg (by omega), if_neg c2]
    · rw [if_neg e]
      by_cases g : i > j
      · rw [if_pos g, get_rotL m k (i - j) j _ t (by omega) h2 (by omega) (by rw [size_swR]; omega) (by omega)]
        rw [get_swR _ _ _ _ _ _ (by omega) (by omega) (by omega), get_swR _ _ _ _ _ _ (by omega) (by omega) (by omega), get_swR _ _ _ _ _ _ (by omega) (by omega) (by omega)]
        by_cases c1 : m - i ≤ t ∧ t < m - i + j
        · rw [if_neg (by omega), if_neg (by omega), if_pos (by omega), if_pos c1]
          congr 1
          omega
        · rw [if_neg c1]
          by_cases c2 : m - i + j ≤ t ∧ t < m + j
          · rw [if_pos c2]
            by_cases c3 : t < m - (i - j) + j
            · rw [if_pos (by omega)]
              by_cases c4 : t + (i - j) < m
              · rw [if_neg (by omega), if_neg (by omega)]
                omega
              · rw [if_neg (by omega), if_pos (by omega)]
                congr 1
                omega
            · rw [if_neg (by omega), if_pos (by omega), if_neg (by omega), if_neg (by omega)]
          · rw [if_neg c2, if_neg (by omega), if_neg (by omega), if_neg (by omega), if_neg (by omega)]
      · rw [if_neg g, get_rotL m k i (j - i) _ t h1 (by omega) h3 (by rw [size_swR]; omega) (by omega)]
        rw [get_swR _ _ _ _ _ _ (by omega) (by omega) (by omega), get_swR _ _ _ _ _ _ (by omega) (by omega) (by omega), get_swR _ _ _ _ _ _ (by omega) (by omega) (by omega)]
        by_cases c1 : m - i ≤ t ∧ t < m - i + j
        · rw [if_pos c1]
          by_cases c2 : t < m - i + (j - i)
          · rw [if_pos (by omega), if_neg (by omega), if_neg (by omega)]
          · rw [if_neg (by omega), if_pos (by omega), if_pos (by omega)]
            congr 1
            omega
        · rw [if_neg c1, if_neg (by omega), if_neg (by omega), if_neg (by omega)]
          by_cases c3 : m - i + j ≤ t ∧ t < m + j
          · rw [if_pos c3, if_pos (by omega)]
            congr 1
            omega
          · rw [if_neg c3, if_neg (by omega)]
def shUp : Nat → Nat → Array α → Array α
  | _, 0, d => d
  | k, n + 1, d => shUp (k + 1) n (swp d k (k + 1))
theorem get_shUp : ∀ (n k : Nat) (d : Array α) (t : Nat), k + n < d.size → (shUp k n d)[t]! = if k ≤ t ∧ t < k + n then d[t + 1]! else if t = k + n then d[k]! else d[t]!
  | 0, k, d, t, h => by
    rw [if_neg (by omega)]
    by_cases e : t = k + 0
    · rw [if_pos e, e]; rfl
    · rw [if_neg e]; rfl
  | n + 1, k, d, t, h => by
    show (shUp (k + 1) n (swp d k (k + 1)))[t]! = _
    rw [get_shUp n (k + 1) _ t (by rw [size_swp]; omega), get_swp d _ (by omega) (by omega), get_swp d _ (by omega) (by omega), get_swp d _ (by omega) (by omega)]
    by_cases c1 : k ≤ t ∧ t < k + (n + 1)
    · rw [if_pos c1]
      by_cases c2 : t = k
      · rw [if_neg (by omega), if_neg (by omega), if_neg (by omega), if_pos c2, c2]
      · rw [if_pos (by omega), if_neg (by omega), if_neg (by omega)]
    · rw [if_neg c1, if_neg (by omega)]
      by_cases c2 : t = k + (n + 1)
      · rw [if_pos (by omega), if_pos c2, if_pos rfl]
      · rw [if_neg (by omega), if_neg c2, if_neg (by omega), if_neg (by omega)]
def shDn : Nat → Nat → Array α → Array α
  | _, 0, d => d
  | k, n + 1, d => shDn (k - 1) n (swp d k (k - 1))
theorem get_shDn : ∀ (n k : Nat) (d : Array α) (t : Nat), k < d.size → n ≤ k → (shDn k n d)[t]! = if k - n < t ∧ t ≤ k then d[t - 1]! else if t = k - n then d[k]! else d[t]!
  | 0, k, d, t, h, _ => by
    rw [if_neg (by omega)]
    by_cases e : t = k - 0
    · rw [if_pos e, e]; rfl
    · rw [if_neg e]; rfl
  | n + 1, k, d, t, h, hn => by
    show (shDn (k - 1) n (swp d k (k - 1)))[t]! = _
    rw [get_shDn n (k - 1) _ t (by rw [size_swp]; omega) (by omega), get_swp d _ (by omega) (by omega), get_swp d _ (by omega) (by omega), get_swp d _ (by omega) (by omega)]
    by_cases c1 : k - (n + 1) < t ∧ t ≤ k
    · rw [if_pos c1]
      by_cases c2 : t = k
      · rw [if_neg (by omega), if_neg (by omega), if_neg (by omega), if_pos c2, c2]
      · rw [if_pos (by omega), if_neg (by omega), if_neg (by omega)]
    · rw [if_neg c1, if_neg (by omega)]
      by_cases c2 : t = k - (n + 1)
      · rw [if_pos (by omega), if_pos c2, if_pos rfl]
      · rw [if_neg (by omega), if_neg c2, if_neg (by omega), if_neg (by omega)]
end
end Go.Proofs.Ytnbpcacnbfbjkaa.P
namespace Go.Proofs.Ytnbpcacnbfbjkaa.P
set_option linter.unusedSectionVars false
section
variable {α : Type} [Inhabited α]
theorem permIn_swR (lo hi a b : Nat) : ∀ (k i : Nat) (d : Array α), lo ≤ a + i → lo ≤ b + i → a + i + k ≤ hi → b + i + k ≤ hi → hi ≤ d.size → PermIn lo hi d (swR a b i k d)
  | 0, _, d, _, _, _, _, _ => permIn_refl d lo hi
  | k + 1, i, d, h1, h2, h3, h4, h5 =>
    permIn_trans _ _ _ _ _ (swp_permIn d lo hi (a + i) (b + i) h1 (by omega) h2 (by omega) h5) (permIn_swR lo hi a b k (i + 1) _ (by omega) (by omega) (by omega) (by omega) (by rw [size_swp]; exact h5))
theorem permIn_rotL (lo hi m : Nat) : ∀ (k i j : Nat) (d : Array α), lo + i ≤ m → m + j ≤ hi → hi ≤ d.size → PermIn lo hi d (rotL m k i j d)
  | 0, _, _, d, _, _, _ => permIn_refl d lo hi
  | k + 1, i, j, d, h1, h2, h3 => by
    unfold rotL
    by_cases e : i = j
    · rw [if_pos e]
      exact permIn_swR lo hi _ _ _ _ _ (by omega) (by omega) (by omega) (by omega) h3
    · rw [if_neg e]
      by_cases g : i > j
      · rw [if_pos g]
        exact permIn_trans _ _ _ _ _ (permIn_swR lo hi _ _ _ _ _ (by omega) (by omega) (by omega) (by omega) h3) (permIn_rotL lo hi m k _ _ _ (by omega) (by omega) (by rw [size_swR]; exact h3))
      · rw [if_neg g]
        exact permIn_trans _ _ _ _ _ (permIn_swR lo hi _ _ _ _ _ (by omega) (by omega) (by omega) (by omega) h3) (permIn_rotL lo hi m k _ _ _ (by omega) (by omega) (by rw [size_swR]; exact h3))
theorem permIn_shUp (lo hi : Nat) : ∀ (n k : Nat) (d : Array α), lo ≤ k → k + n < hi → hi ≤ d.size → PermIn lo hi d (shUp k n d)
  | 0, _, d, _, _, _ => permIn_refl d lo hi
  | n + 1, k, d, h1, h2, h3 => permIn_trans _ _ _ _ _ (swp_permIn d lo hi k (k + 1) h1 (by omega) (by omega) (by omega) h3) (permIn_shUp lo hi n (k + 1) _ (by omega) (by omega) (by rw [size_swp]; exact h3))
theorem permIn_shDn (lo hi : Nat) : ∀ (n k : Nat) (d : Array α), lo + n ≤ k → k < hi → hi ≤ d.size → PermIn lo hi d (shDn k n d)
  | 0, _, d, _, _, _ => permIn_refl d lo hi
  | n + 1, k, d, h1, h2, h3 => permIn_trans _ _ _ _ _ (swp_permIn d lo hi k (k - 1) (by omega) h2 (by omega) (by omega) h3) (permIn_shDn lo hi n (k - 1) _ (by omega) (by omega) (by rw [size_swp]; exact h3))
variable {lt : α → α → Bool} (W : SWO lt)
include W
theorem swo_asym {x y : α} (h : lt x y = true) : lt y x = false := by
  cases e : lt y x with
  | false => rfl
  | true =>
    have := W.trans x y x h e
    rw [W.irrefl] at this
    cases this
theorem swo_low {x y z : α} (h : lt y x = false) (h2 : lt y z = true) : lt x z = true := by
  cases e : lt x z with
  | true => rfl
  | false =>
    have := W.ntrans y x z h e
    rw [h2] at this
    cases this
theorem swo_high {x y z : α} (h : lt x y = true) (h2 : lt z y = false) : lt x z = true := by
  cases e : lt x z with
  | true => rfl
  | false =>
    have := W.ntrans x z y e h2
    rw [h] at this
    cases this
theorem sorted_le {a b : Nat} {d : Array α} (h : SortedIn lt a b d) {i j : Nat} (h1 : a ≤ i) (h2 : i ≤ j) (h3 : j < b) : lt d[j]! d[i]! = false := by
  by_cases e : i = j
  · rw [e]; exact W.irrefl _
  · exact h i j h1 (by omega) h3
theorem merge_one {a b i : Nat} {d : Array α} (hs : SortedIn lt (a + 1) b d) (hb : b ≤ d.size) (h0 : a + 1 ≤ i) (h1 : i ≤ b) (hl : i = a + 1 ∨ lt d[i - 1]! d[a]! = true) (hr : i = b ∨ lt d[i]! d[a]! = false) (hab : a < b) :
    SortedIn lt a b (shUp a (i - 1 - a) d) := by
  intro p q hp hpq hq
  have g := fun t => get_shUp (i - 1 - a) a d t (by omega)
  rw [g, g]
  by_cases c1 : q < i - 1
  · rw [if_pos (by omega), if_pos (by omega)]
    exact hs _ _ (by omega) (by omega) (by omega)
  · rw [if_neg (by omega)]
    by_cases c2 : q = i - 1
    · rw [if_pos (by omega), if_pos (by omega)]
      have h2 := hl.resolve_left (by omega)
      exact swo_asym W (swo_low W (sorted_le W hs (i := p + 1) (j := i - 1) (by omega) (by omega) (by omega)) h2)
    · rw [if_neg (by omega)]
      have h2 := hr.resolve_left (by omega)
      by_cases c3 : p < i - 1
      · rw [if_pos (by omega)]
        exact hs _ _ (by omega) (by omega) hq
      · rw [if_neg (by omega)]
        by_cases c4 : p = i - 1
        · rw [if_pos (by omega)]
          exact W.ntrans _ _ _ (sorted_le W hs (i := i) (j := q) (by omega) (by omega) hq) h2
        · rw [if_neg (by omega)]
          exact hs _ _ (by omega) hpq hq
theorem merge_last {a m i : Nat} {d : Array α} (hs : SortedIn lt a m d) (hb : m < d.size) (h0 : a ≤ i) (h1 : i ≤ m) (hl : i = a ∨ lt d[m]! d[i - 1]! = false) (hr : i = m ∨ lt d[m]! d[i]! = true) :
    SortedIn lt a (m + 1) (shDn m (m - i) d) := by
  intro p q hp hpq hq
  have g := fun t => get_shDn (m - i) m d t hb (by omega)
  rw [g, g]
  by_cases c1 : i < q
  · rw [if_pos (by omega)]
    by_cases c2 : i < p
    · rw [if_pos (by omega)]
      exact hs _ _ (by omega) (by omega) (by omega)
    · rw [if_neg (by omega)]
      by_cases c3 : p = i
      · rw [if_pos (by omega)]
        have h2 := hr.resolve_left (by omega)
        exact swo_asym W (swo_high W h2 (sorted_le W hs (i := i) (j := q - 1) (by omega) (by omega) (by omega)))
      · rw [if_neg (by omega)]
        exact hs _ _ (by omega) (by omega) (by omega)
  · rw [if_neg (by omega)]
    by_cases c2 : q = i
    · rw [if_pos (by omega), if_neg (by omega), if_neg (by omega)]
      have h2 := hl.resolve_left (by omega)
      exact W.ntrans _ _ _ h2 (sorted_le W hs (i := p) (j := i - 1) (by omega) (by omega) (by omega))
    · rw [if_neg (by omega), if_neg (by omega), if_neg (by omega)]
      exact hs _ _ (by omega) hpq (by omega)
structure CutAt (lt : α → α → Bool) (a m b mid lo r0 s : Nat) (d : Array α) : Prop where
  ab : a < m ∧ m < b ∧ b ≤ d.size
  mid_ : a + b = 2 * mid ∨ a + b = 2 * mid + 1
  lo_ : (mid < m ∧ lo + b = mid + m ∧ r0 = mid) ∨ (m ≤ mid ∧ lo = a ∧ r0 = m)
  s_ : lo ≤ s ∧ s ≤ r0
  low : s = lo ∨ lt d[mid + m - s]! d[s - 1]! = false
  high : s = r0 ∨ lt d[mid + m - 1 - s]! d[s]! = true
omit W in
theorem CutAt.num {a m b mid lo r0 s : Nat} {d : Array α} (h : CutAt lt a m b mid lo r0 s d) : a ≤ s ∧ s ≤ m ∧ s ≤ mid ∧ m ≤ mid + m - s ∧ mid + m - s ≤ b ∧ mid ≤ mid + m - s ∧ a < mid ∧ mid < b := by
  have h1 := h.ab
  have h2 := h.mid_
  have h3 := h.lo_
  have h4 := h.s_
  omega
theorem CutAt.cross {a m b mid lo r0 s : Nat} {d : Array α} (h : CutAt lt a m b mid lo r0 s d) (h1 : SortedIn lt a m d) (h2 : SortedIn lt m b d) {x y : Nat} (hx : (a ≤ x ∧ x < s) ∨ (m ≤ x ∧ x < mid + m - s)) (hy : (s ≤ y ∧ y < m) ∨ (mid + m - s ≤ y ∧ y < b)) : lt d[y]! d[x]! = false := by
  have n := h.num
  have h3 := h.lo_
  have h4 := h.s_
  have h5 := h.mid_
  have h6 := h.ab
  rcases hx with hx | hx
  · rcases hy with hy | hy
    · exact h1 _ _ hx.1 (by omega) hy.2
    · have l := h.low.resolve_left (by omega)
      exact W.ntrans _ _ _ (sorted_le W h2 (i := mid + m - s) (j := y) (by omega) (by omega) hy.2) (W.ntrans _ _ _ l (sorted_le W h1 (i := x) (j := s - 1) (by omega) (by omega) (by omega)))
  · rcases hy with hy | hy
    · have l := h.high.resolve_left (by omega)
      have e1 := swo_low W (sorted_le W h2 (i := x) (j := mid + m - 1 - s) (by omega) (by omega) (by omega)) l
      exact swo_asym W (swo_high W e1 (sorted_le W h1 (i := s) (j := y) (by omega) (by omega) (by omega)))
    · exact h2 _ _ (by omega) (by omega) hy.2
end
section
variable {α : Type} [Inhabited α] {lt : α → α → Bool}
def rotd (s m e : Nat) (d : Array α) : Array α := if s < m ∧ m < e then rotL m (e - s) (m - s) (e - m) d else d
theorem size_rotd (s m e : Nat) (d : Array α) : (rotd s m e d).size = d.size := by
  unfold rotd
  split
  · exact size_rotL _ _ _ _ _
  · rfl
theorem CutAt.get {a m b mid lo r0 s : Nat} {d : Array α} (h : CutAt lt a m b mid lo r0 s d) (t : Nat) :
    (rotd s m (mid + m - s) d)[t]! = if s ≤ t ∧ t < mid then d[t + (m - s)]! else if mid ≤ t ∧ t < mid + m - s then d[t - (mid - s)]! else d[t]! := by
  have n := h.num
  have h1 := h.ab
  unfold rotd
  by_cases c : s < m ∧ m < mid + m - s
  · rw [if_pos c, get_rotL m _ _ _ d t (by omega) (by omega) (by omega) (by omega) (by omega)]
    by_cases c1 : s ≤ t ∧ t < mid
    · rw [if_pos (by omega), if_pos c1]
    · rw [if_neg (by omega), if_neg c1]
      by_cases c2 : mid ≤ t ∧ t < mid + m - s
      · rw [if_pos (by omega), if_pos c2]
        congr 1
        omega
      · rw [if_neg (by omega), if_neg c2]
  · rw [if_neg c]
    by_cases c1 : s ≤ t ∧ t < mid
    · rw [if_pos c1]
      congr 1
      omega
    · rw [if_neg c1]
      by_cases c2 : mid ≤ t ∧ t < mid + m - s
      · rw [if_pos c2]
        congr 1
        omega
      · rw [if_neg c2]
theorem CutAt.perm {a m b mid lo r0 s : Nat} {d : Array α} (h : CutAt lt a m b mid lo r0 s d) : PermIn a b d (rotd s m (mid + m - s) d) := by
  have n := h.num
  have h1 := h.ab
  unfold rotd
  split
  · exact permIn_rotL a b m _ _ _ d (by omega) (by omega) h1.2.2
  · exact permIn_refl d a b
theorem CutAt.four {a m b mid lo r0 s : Nat} {d : Array α} (h : CutAt lt a m b mid lo r0 s d) (h1 : SortedIn lt a m d) (h2 : SortedIn lt m b d) :
    SortedIn lt a s (rotd s m (mid + m - s) d) ∧ SortedIn lt s mid (rotd s m (mid + m - s) d) ∧ SortedIn lt mid (mid + m - s) (rotd s m (mid + m - s) d) ∧ SortedIn lt (mid + m - s) b (rotd s m (mid + m - s) d) := by
  have n := h.num
  have h3 := h.ab
  refine ⟨fun i j hi hij hj => ?_, fun i j hi hij hj => ?_, fun i j hi hij hj => ?_, fun i j hi hij hj => ?_⟩
  · rw [h.get, h.get, if_neg (by omega), if_neg (by omega), if_neg (by omega), if_neg (by omega)]
    exact h1 _ _ hi hij (by omega)
  · rw [h.get, h.get, if_pos (by omega), if_pos (by omega)]
    exact h2 _ _ (by omega) (by omega) (by omega)
  · rw [h.get, h.get, if_neg (by omega), if_pos (by omega), if_neg (by omega), if_pos (by omega)]
    exact h1 _ _ (by omega) (by omega) (by omega)
  · rw [h.get, h.get, if_neg (by omega), if_neg (by omega), if_neg (by omega), if_neg (by omega)]
    exact h2 _ _ (by omega) hij hj
theorem CutAt.over (W : SWO lt) {a m b mid lo r0 s : Nat} {d : Array α} (h : CutAt lt a m b mid lo r0 s d) (h1 : SortedIn lt a m d) (h2 : SortedIn lt m b d) {i j : Nat} (hi : a ≤ i ∧ i < mid) (hj : mid ≤ j ∧ j < b) :
    lt (rotd s m (mid + m - s) d)[j]! (rotd s m (mid + m - s) d)[i]! = false := by
  have n := h.num
  have h3 := h.ab
  rw [h.get, h.get, if_neg (by omega)]
  by_cases c1 : j < mid + m - s
  · rw [if_pos (by omega)]
    by_cases c2 : s ≤ i
    · rw [if_pos (by omega)]
      exact h.cross W h1 h2 (.inr (by omega)) (.inl (by omega))
    · rw [if_neg (by omega), if_neg (by omega)]
      exact h.cross W h1 h2 (.inl (by omega)) (.inl (by omega))
  · rw [if_neg (by omega)]
    by_cases c2 : s ≤ i
    · rw [if_pos (by omega)]
      exact h.cross W h1 h2 (.inr (by omega)) (.inr (by omega))
    · rw [if_neg (by omega), if_neg (by omega)]
      exact h.cross W h1 h2 (.inl (by omega)) (.inr (by omega))
theorem sorted_of_perm_out {a b c e : Nat} {d d' : Array α} (h : SortedIn lt a b d) (hp : PermIn c e d d') (ho : b ≤ c ∨ e ≤ a) : SortedIn lt a b d' := by
  intro i j hi hij hj
  rw [hp.2.1 i (by omega), hp.2.1 j (by omega)]
  exact h i j hi hij hj
theorem CutAt.fin (W : SWO lt) {a m b mid lo r0 s : Nat} {d d2 d3 : Array α} (h : CutAt lt a m b mid lo r0 s d) (h1 : SortedIn lt a m d) (h2 : SortedIn lt m b d) (p2 : PermIn a mid (rotd s m (mid + m - s) d) d2) (s2 : SortedIn lt a mid d2) (p3 : PermIn mid b d2 d3) (s3 : SortedIn lt mid b d3) :
    PermIn a b d d3 ∧ SortedIn lt a b d3 := by
  have n := h.num
  have h3 := h.ab
  have z1 := size_rotd s m (mid + m - s) d
  have z2 := p2.1
  have z3 := p3.1
  refine ⟨permIn_trans _ _ _ _ _ h.perm (permIn_trans _ _ _ _ _ (permIn_mono _ _ _ _ _ _ (Nat.le_refl _) (by omega) (by omega) p2) (permIn_mono _ _ _ _ _ _ (by omega) (Nat.le_refl _) (by omega) p3)), fun i j hi hij hj => ?_⟩
  by_cases c1 : j < mid
  · rw [p3.2.1 i (by omega), p3.2.1 j (by omega)]
    exact s2 i j hi hij c1
  · by_cases c2 : mid ≤ i
    · exact s3 i j c2 hij hj
    · rw [p3.2.1 i (by omega)]
      have e1 : ∀ x, mid ≤ x → x < b → ∀ y, a ≤ y → y < mid → lt d2[x]! d2[y]! = false := fun x hx1 hx2 => permIn_all _ _ a mid (fun v => lt d2[x]! v = false) (by omega) p2 (fun y hy1 hy2 => by
        rw [p2.2.1 x (by omega)]
        exact h.over W h1 h2 ⟨hy1, hy2⟩ ⟨hx1, hx2⟩)
      exact permIn_all _ _ mid b (fun v => lt v d2[i]! = false) (by omega) p3 (fun x hx1 hx2 => e1 x hx1 hx2 i hi (by omega)) j (by omega) hj
theorem CutAt.first {a m b mid lo r0 s : Nat} {d : Array α} (h : CutAt lt a m b mid lo r0 s d) (h1 : SortedIn lt a m d) (h2 : SortedIn lt m b d) (c : ¬ (a < s ∧ s < mid)) : SortedIn lt a mid (rotd s m (mid + m - s) d) := by
  have n := h.num
  obtain ⟨f1, f2, f3, f4⟩ := h.four h1 h2
  by_cases e : a = s
  · subst e; exact f2
  · have e2 : s = mid := by omega
    subst e2; exact f1
theorem CutAt.second {a m b mid lo r0 s : Nat} {d d2 : Array α} (h : CutAt lt a m b mid lo r0 s d) (h1 : SortedIn lt a m d) (h2 : SortedIn lt m b d) (p2 : PermIn a mid (rotd s m (mid + m - s) d) d2) :
    SortedIn lt mid (mid + m - s) d2 ∧ SortedIn lt (mid + m - s) b d2 ∧ (¬ (mid < mid + m - s ∧ mid + m - s < b) → SortedIn lt mid b d2) := by
  have n := h.num
  obtain ⟨f1, f2, f3, f4⟩ := h.four h1 h2
  have g3 := sorted_of_perm_out f3 p2 (.inr (by omega))
  have g4 := sorted_of_perm_out f4 p2 (.inr (by omega))
  refine ⟨g3, g4, fun c => ?_⟩
  by_cases e : mid = mid + m - s
  · rw [← e] at g4; exact g4
  · have e2 : mid + m - s = b := by omega
    rw [e2] at g3; exact g3
end
end Go.Proofs.Ytnbpcacnbfbjkaa.P
namespace Go.Proofs.Ytnbpcacnbfbjkaa.P
section
variable {α : Type} [Inhabited α]
def SymPost (enc : α → Value) (w0 : World) (blk off a b : Nat) (cf : α → α → Int) (d : Array α) (e : Ending) (w' : World) : Prop := e = .returned (.tuple #[]) ∧ ∃ d', PermIn a b d d' ∧ SortedIn (ltOf cf) a b d' ∧ SW enc w0 blk off d' w'
set_option maxHeartbeats 16000000 in
set_option maxRecDepth 1000000 in
theorem symMerge_one (enc : α → Value) (cf : α → α → Int) (g : Nat) (cb : Array Value) (blk off cap : Nat) (d0 : Array α) (w0 : World) (eg : ∀ args w, (callFunc g args).run Try.prog w = .ok (.enter g args) w)
    (hcmp : CmpLays1 Try.prog g cb enc cf blk off d0.size w0) (R : Row1 enc w0 blk off d0) (W : SWO (ltOf cf)) (a b : Nat) (d : Array α) (w : World) (hs : d0.size = d.size) (S : SW enc w0 blk off d w) (hmb : a + 1 < b) (hb : b ≤ d.size) (hsz : d.size < 4611686018427387904)
    (h2 : SortedIn (ltOf cf) (a + 1) b d) :
    Calls Try.prog 55 #[.slice (some ⟨blk, off, none⟩) d.size cap, .int .i64 a, .int .i64 ((a + 1 : Nat) : Int), .int .i64 b, .func (.func g) #[] cb] w (SymPost enc w0 blk off a b cf d) := by
  have mixed : Try.prog.follows Departure.mixedOrders = true := by kernel_rfl
  have hcl0 := R.hO.cells
  simp only [Value.cells] at hcl0
  have hst := R.hO.store Try.prog
  have HC : Aside _ := hcmp
  have S0 : Aside (SW enc w0 blk off d w) := S
  have WW := aK W
  have SO := aK h2
  clear S hcmp W h2
  obtain ⟨m, hm⟩ : ∃ m, m = a + 1 := ⟨_, rfl⟩
  rw [← hm]
  have z1 : (m : Int) - (a : Int) = 1 := by omega
  have G : Aside0 (m = a + 1 ∧ a + 1 < b ∧ b ≤ d.size ∧ d.size < 4611686018427387904) := ⟨hm, hmb, hb, hsz⟩
  have sa : a < d.size := by omega
  have sb : b < 9223372036854775807 := by omega
  have sm : m < 9223372036854775807 := by omega
  clear hm
  go_enter Try.func55, Try.ntmps55
  go_wp2
  go_loopg [10, 11] b (fun g1 vi vj wr => ∃ i j : Nat, vi = .int .i64 i ∧ vj = .int .i64 j ∧ Aside0 (m ≤ i ∧ i ≤ j ∧ j ≤ b ∧ j - i ≤ g1 ∧ (i = m ∨ ltOf cf d[i - 1]! d[a]! = true) ∧ (j = b ∨ ltOf cf d[j]! d[a]! = false)) ∧ Aside (SW enc w0 blk off d wr))
  case atStart => exact ⟨m, b, rfl, rfl, ⟨by omega, by have := G.out; omega, by omega, by omega, .inl rfl, .inl rfl⟩, S0⟩
  case round =>
    clear S0 z1
    obtain ⟨i, j, rfl, rfl, AA, SJ⟩ := hrel
    have hA := AA.out
    have hG := G.out
    by_cases hlt : i < j
    · have hltz : (i : Int) < (j : Int) := by omega
      have hltd : decide ((i : Int) < (j : Int)) = true := decide_eq_true hltz
      obtain ⟨h, hh⟩ : ∃ h, h = (i + j) / 2 := ⟨_, rfl⟩
      have zh : ((i : Int) + (j : Int)) / 2 = (h : Int) := by omega
      have H := aK hh
      have hb2 : h < d.size := by omega
      clear hh
      go_wp2_with fail
      have l1a := SJ.out.cl R (by omega) h (by omega)
      have l1b := SJ.out.cl R (by omega) a (by omega)
      obtain ⟨x, hx⟩ : ∃ x, x = d[h]! := ⟨_, rfl⟩
      obtain ⟨y, hy⟩ : ∃ x, x = d[a]! := ⟨_, rfl⟩
      rw [← hx] at l1a
      rw [← hy] at l1b
      have hc := SJ.out.cmp HC.out (by omega) x y
      cases hlv : ltOf cf x y with
      | true =>
        have HV : Aside0 (ltOf cf d[h]! d[a]! = true) := ⟨by rw [← hx, ← hy]; exact hlv⟩
        have hv : cf x y < 0 := of_decide_eq_true hlv
        have hd : decide (cf x y < 0) = true := decide_eq_true hv
        clear hx hy hA hG hlv
        go_quiet_grown (first | (go_at_fn g; refine Calls.grown_of (hc _ _)))
        have S2 : Aside (SW enc w0 blk off d (grow (wr.drewN nq) osq)) := SJ.out.grown nq osq
        clear l1a l1b hc SJ
        generalize grow (wr.drewN nq) osq = w2 at S2 ⊢
        clear nq osq
        go_wp2
        go_roundg (j - (h + 1))
        case measure => have := AA.out; have := H.out; omega
        case rel =>
          have hA := AA.out
          have hh := H.out
          exact ⟨h + 1, j, by first | rfl | go_num, rfl, ⟨by omega, by omega, hA.2.2.1, Nat.le_refl _, .inr (by rw [Nat.add_sub_cancel]; exact HV.out), hA.2.2.2.2.2⟩, S2⟩
      | false =>
        have HV : Aside0 (ltOf cf d[h]! d[a]! = false) := ⟨by rw [← hx, ← hy]; exact hlv⟩
        have hv : ¬ cf x y < 0 := of_decide_eq_false hlv
        have hd : decide (cf x y < 0) = false := decide_eq_false hv
        clear hx hy hA hG hlv
        go_quiet_grown (first | (go_at_fn g; refine Calls.grown_of (hc _ _)))
        have S2 : Aside (SW enc w0 blk off d (grow (wr.drewN nq) osq)) := SJ.out.grown nq osq
        clear l1a l1b hc SJ
        generalize grow (wr.drewN nq) osq = w2 at S2 ⊢
        clear nq osq
        go_wp2
        go_roundg (h - i)
        case measure => have := AA.out; have := H.out; omega
        case rel =>
          have hA := AA.out
          have hh := H.out
          exact ⟨i, h, rfl, rfl, ⟨hA.1, by omega, by omega, Nat.le_refl _, hA.2.2.2.2.1, .inr HV.out⟩, S2⟩
    · have hltz : ¬ (i : Int) < (j : Int) := by omega
      have hltd : decide ((i : Int) < (j : Int)) = false := decide_eq_false hltz
      have eij : i = j := by omega
      subst eij
      obtain ⟨ip, hip⟩ : ∃ q, q + 1 = i := ⟨i - 1, by omega⟩
      have z5 : (i : Int) - 1 = (ip : Int) := by omega
      have IP := aK hip
      have ib : ip < 9223372036854775807 := by omega
      clear hip hA hG hlt
      go_wp2
      go_loopg [13] ip (fun g2 vk wk => ∃ (k : Nat) (dk : Array α), vk = .int .i64 k ∧ Aside0 (a ≤ k ∧ k ≤ ip ∧ ip - k ≤ g2 ∧ dk.size = d.size ∧ shUp k (ip - k) dk = shUp a (i - 1 - a) d) ∧ Aside (SW enc w0 blk off dk wk))
      case atStart =>
        have hA := AA.out
        have hG := G.out
        have h1 := IP.out
        exact ⟨a, d, rfl, ⟨by omega, by omega, by omega, rfl, by rw [show ip - a = i - 1 - a by omega]⟩, SJ⟩
      case round =>
        clear SJ z5
        obtain ⟨k, dk, rfl, BB, SK⟩ := hrel
        have hA := AA.out
        have hG := G.out
        have hB := BB.out
        have h1 := IP.out
        by_cases hk : k < ip
        · have hkz : (k : Int) < (ip : Int) := by omega
          have hkd : decide ((k : Int) < (ip : Int)) = true := decide_eq_true hkz
          have z5 : (i : Int) - 1 = (ip : Int) := by omega
          obtain ⟨kp, hkp⟩ : ∃ q, q = k + 1 := ⟨_, rfl⟩
          have z6 : (k : Int) + 1 = (kp : Int) := by omega
          have ba : k < d.size := by omega
          have bb : kp < d.size := by omega
          have bw : kp < 9223372036854775807 := by omega
          obtain ⟨x, hx⟩ : ∃ x, x = dk[k]! := ⟨_, rfl⟩
          obtain ⟨y, hy⟩ : ∃ x, x = dk[kp]! := ⟨_, rfl⟩
          have S3 : Aside (SW enc w0 blk off (swp dk k kp) ((wr.setCell ⟨blk, off + k, none⟩ (enc y)).setCell ⟨blk, off + kp, none⟩ (enc x)).drew) := by rw [hx, hy]; exact SK.out.swapped R k kp (by omega) (by omega)
          have ca := SK.out.c1 R (by omega) k (by omega)
          have cb2 := SK.out.c1 R (by omega) kp (by omega)
          have fa := SK.out.f1 R (by omega) k (by omega)
          have fb := SK.out.f1 R (by omega) kp (by omega)
          obtain ⟨u, cc⟩ := SK.out.c2 R (by omega) k kp (by omega) (by omega) (enc y)
          rw [← hx] at ca
          rw [← hy] at cb2
          have KP := aK hkp
          clear SK hx hy hkp hA hG hB h1 hk
          go_wp2_with fail
          go_big_region_o
          clear ca cb2 cc fa fb
          generalize ((wr.setCell ⟨blk, off + k, none⟩ (enc y)).setCell ⟨blk, off + kp, none⟩ (enc x)).drew = w3 at S3 ⊢
          go_wp2
          go_roundg (ip - (k + 1))
          case measure => have := BB.out; have := KP.out; omega
          case rel =>
            have hB := BB.out
            have hk1 := KP.out
            refine ⟨k + 1, swp dk k kp, by first | rfl | go_num | (congr 1; omega), ⟨by omega, by omega, Nat.le_refl _, by rw [size_swp]; exact hB.2.2.2.1, ?_⟩, S3⟩
            rw [← hB.2.2.2.2, hk1, show ip - k = (ip - (k + 1)) + 1 by omega]
            rfl
        · have hkz : ¬ (k : Int) < (ip : Int) := by omega
          have hkd : decide ((k : Int) < (ip : Int)) = false := decide_eq_false hkz
          have z5 : (i : Int) - 1 = (ip : Int) := by omega
          clear hA hG hB h1
          go_wp2
          ((try simp only [Exit.inBlock, Exit.then]); refine bodyPost_ret (results_none rfl _ _ _) rfl ?_)
          have hA := AA.out
          have hG := G.out
          have hB := BB.out
          have h1 := IP.out
          have e := hB.2.2.2.2
          rw [show ip - k = 0 by omega] at e
          refine ⟨rfl, dk, ?_, ?_, SK.out⟩
          · have p := permIn_shUp a b (i - 1 - a) a d (Nat.le_refl _) (by omega) (by omega)
            rw [← e] at p
            exact p
          · have p := merge_one WW.out (i := i) SO.out (by omega) (by omega) hA.2.2.1 (by rw [← hG.1]; exact hA.2.2.2.2.1) hA.2.2.2.2.2 (by omega)
            rw [← e] at p
            exact p
end
section
variable {α : Type} [Inhabited α]
set_option maxHeartbeats 16000000 in
set_option maxRecDepth 1000000 in
theorem symMerge_last (enc : α → Value) (cf : α → α → Int) (g : Nat) (cb : Array Value) (blk off cap : Nat) (d0 : Array α) (w0 : World) (eg : ∀ args w, (callFunc g args).run Try.prog w = .ok (.enter g args) w)
    (hcmp : CmpLays1 Try.prog g cb enc cf blk off d0.size w0) (R : Row1 enc w0 blk off d0) (W : SWO (ltOf cf)) (a m : Nat) (d : Array α) (w : World) (hs : d0.size = d.size) (S : SW enc w0 blk off d w) (ham : a + 1 < m) (hb : m < d.size) (hsz : d.size < 4611686018427387904)
    (h1 : SortedIn (ltOf cf) a m d) :
    Calls Try.prog 55 #[.slice (some ⟨blk, off, none⟩) d.size cap, .int .i64 a, .int .i64 m, .int .i64 ((m + 1 : Nat) : Int), .func (.func g) #[] cb] w (SymPost enc w0 blk off a (m + 1) cf d) := by
  have mixed : Try.prog.follows Departure.mixedOrders = true := by kernel_rfl
  have hcl0 := R.hO.cells
  simp only [Value.cells] at hcl0
  have hst := R.hO.store Try.prog
  have HC : Aside _ := hcmp
  have S0 : Aside (SW enc w0 blk off d w) := S
  have WW := aK W
  have SO := aK h1
  clear S hcmp W h1
  obtain ⟨b, hbm⟩ : ∃ b, b = m + 1 := ⟨_, rfl⟩
  rw [← hbm]
  obtain ⟨q0, hq0⟩ : ∃ q, q = m - a := ⟨_, rfl⟩
  have z0 : (m : Int) - (a : Int) = (q0 : Int) := by omega
  have zn : ¬ (q0 : Int) = 1 := by omega
  have zn2 : ¬ q0 = 1 := by omega
  have zb : ((q0 : Int) == 1) = false := beq_eq_false_iff_ne.mpr zn
  have zq : q0 < 9223372036854775807 := by omega
  have z1 : (b : Int) - (m : Int) = 1 := by omega
  have G : Aside0 (b = m + 1 ∧ a + 1 < m ∧ m < d.size ∧ d.size < 4611686018427387904) := ⟨hbm, ham, hb, hsz⟩
  have sm : m < 9223372036854775807 := by omega
  clear hbm hq0
  go_enter Try.func55, Try.ntmps55
  go_wp2
  go_loopg [14, 15] m (fun g1 vi vj wr => ∃ i j : Nat, vi = .int .i64 i ∧ vj = .int .i64 j ∧ Aside0 (a ≤ i ∧ i ≤ j ∧ j ≤ m ∧ j - i ≤ g1 ∧ (i = a ∨ ltOf cf d[m]! d[i - 1]! = false) ∧ (j = m ∨ ltOf cf d[m]! d[j]! = true)) ∧ Aside (SW enc w0 blk off d wr))
  case atStart => exact ⟨a, m, rfl, rfl, ⟨by omega, by omega, by omega, by omega, .inl rfl, .inl rfl⟩, S0⟩
  case round =>
    clear S0 z0 z1 zn zb zn2 zq
    obtain ⟨i, j, rfl, rfl, AA, SJ⟩ := hrel
    have hA := AA.out
    have hG := G.out
    by_cases hlt : i < j
    · have hltz : (i : Int) < (j : Int) := by omega
      have hltd : decide ((i : Int) < (j : Int)) = true := decide_eq_true hltz
      obtain ⟨h, hh⟩ : ∃ h, h = (i + j) / 2 := ⟨_, rfl⟩
      have zh : ((i : Int) + (j : Int)) / 2 = (h : Int) := by omega
      have H := aK hh
      have hb2 : h < d.size := by omega
      clear hh
      go_wp2_with fail
      have l1a := SJ.out.cl R (by omega) m (by omega)
      have l1b := SJ.out.cl R (by omega) h (by omega)
      obtain ⟨x, hx⟩ : ∃ x, x = d[m]! := ⟨_, rfl⟩
      obtain ⟨y, hy⟩ : ∃ x, x = d[h]! := ⟨_, rfl⟩
      rw [← hx] at l1a
      rw [← hy] at l1b
      have hc := SJ.out.cmp HC.out (by omega) x y
      cases hlv : ltOf cf x y with
      | true =>
        have HV : Aside0 (ltOf cf d[m]! d[h]! = true) := ⟨by rw [← hx, ← hy]; exact hlv⟩
        have hv : cf x y < 0 := of_decide_eq_true hlv
        have hd : decide (cf x y < 0) = true := decide_eq_true hv
        clear hx hy hA hG hlv
        go_quiet_grown (first | (go_at_fn g; refine Calls.grown_of (hc _ _)))
        have S2 : Aside (SW enc w0 blk off d (grow (wr.drewN nq) osq)) := SJ.out.grown nq osq
        clear l1a l1b hc SJ
        generalize grow (wr.drewN nq) osq = w2 at S2 ⊢
        clear nq osq
        go_wp2
        go_roundg (h - i)
        case measure => have := AA.out; have := H.out; omega
        case rel =>
          have hA := AA.out
          have hh := H.out
          exact ⟨i, h, rfl, rfl, ⟨hA.1, by omega, by omega, Nat.le_refl _, hA.2.2.2.2.1, .inr HV.out⟩, S2⟩
      | false =>
        have HV : Aside0 (ltOf cf d[m]! d[h]! = false) := ⟨by rw [← hx, ← hy]; exact hlv⟩
        have hv : ¬ cf x y < 0 := of_decide_eq_false hlv
        have hd : decide (cf x y < 0) = false := decide_eq_false hv
        clear hx hy hA hG hlv
        go_quiet_grown (first | (go_at_fn g; refine Calls.grown_of (hc _ _)))
        have S2 : Aside (SW enc w0 blk off d (grow (wr.drewN nq) osq)) := SJ.out.grown nq osq
        clear l1a l1b hc SJ
        generalize grow (wr.drewN nq) osq = w2 at S2 ⊢
        clear nq osq
        go_wp2
        go_roundg (j - (h + 1))
        case measure => have := AA.out; have := H.out; omega
        case rel =>
          have hA := AA.out
          have hh := H.out
          exact ⟨h + 1, j, by first | rfl | go_num, rfl, ⟨by omega, by omega, hA.2.2.1, Nat.le_refl _, .inr (by rw [Nat.add_sub_cancel]; exact HV.out), hA.2.2.2.2.2⟩, S2⟩
    · have hltz : ¬ (i : Int) < (j : Int) := by omega
      have hltd : decide ((i : Int) < (j : Int)) = false := decide_eq_false hltz
      have eij : i = j := by omega
      subst eij
      clear hA hG hlt
      go_wp2
      go_loopg [17] m (fun g2 vk wk => ∃ (k : Nat) (dk : Array α), vk = .int .i64 k ∧ Aside0 (i ≤ k ∧ k ≤ m ∧ k - i ≤ g2 ∧ dk.size = d.size ∧ shDn k (k - i) dk = shDn m (m - i) d) ∧ Aside (SW enc w0 blk off dk wk))
      case atStart =>
        have hA := AA.out
        exact ⟨m, d, rfl, ⟨by omega, by omega, by omega, rfl, rfl⟩, SJ⟩
      case round =>
        clear SJ
        obtain ⟨k, dk, rfl, BB, SK⟩ := hrel
        have hA := AA.out
        have hG := G.out
        have hB := BB.out
        by_cases hk : i < k
        · obtain ⟨kp, hkp⟩ : ∃ q, q + 1 = k := ⟨k - 1, by omega⟩
          have hkz : (i : Int) < (k : Int) := by omega
          have hkd : decide ((i : Int) < (k : Int)) = true := decide_eq_true hkz
          have z6 : (k : Int) - 1 = (kp : Int) := by omega
          have ba : k < d.size := by omega
          have bb : kp < d.size := by omega
          have bw : kp < 9223372036854775807 := by omega
          obtain ⟨x, hx⟩ : ∃ x, x = dk[k]! := ⟨_, rfl⟩
          obtain ⟨y, hy⟩ : ∃ x, x = dk[kp]! := ⟨_, rfl⟩
          have S3 : Aside (SW enc w0 blk off (swp dk k kp) ((wr.setCell ⟨blk, off + k, none⟩ (enc y)).setCell ⟨blk, off + kp, none⟩ (enc x)).drew) := by rw [hx, hy]; exact SK.out.swapped R k kp (by omega) (by omega)
          have ca := SK.out.c1 R (by omega) k (by omega)
          have cb2 := SK.out.c1 R (by omega) kp (by omega)
          have fa := SK.out.f1 R (by omega) k (by omega)
          have fb := SK.out.f1 R (by omega) kp (by omega)
          obtain ⟨u, cc⟩ := SK.out.c2 R (by omega) k kp (by omega) (by omega) (enc y)
          rw [← hx] at ca
          rw [← hy] at cb2
          have KP := aK hkp
          clear SK hx hy hkp hA hG hB hk
          go_wp2_with fail
          go_big_region_o
          clear ca cb2 cc fa fb
          generalize ((wr.setCell ⟨blk, off + k, none⟩ (enc y)).setCell ⟨blk, off + kp, none⟩ (enc x)).drew = w3 at S3 ⊢
          go_wp2
          go_roundg (kp - i)
          case measure => have := BB.out; have := KP.out; omega
          case rel =>
            have hB := BB.out
            have hk1 := KP.out
            refine ⟨kp, swp dk k kp, by first | rfl | go_num | (congr 1; omega), ⟨by omega, by omega, Nat.le_refl _, by rw [size_swp]; exact hB.2.2.2.1, ?_⟩, S3⟩
            rw [← hB.2.2.2.2, show k - i = (kp - i) + 1 by omega]
            show _ = shDn (k - 1) (kp - i) (swp dk k (k - 1))
            rw [show k - 1 = kp by omega]
        · have hkz : ¬ (i : Int) < (k : Int) := by omega
          have hkd : decide ((i : Int) < (k : Int)) = false := decide_eq_false hkz
          clear hA hG hB
          go_wp2
          ((try simp only [Exit.inBlock, Exit.then]); refine bodyPost_ret (results_none rfl _ _ _) rfl ?_)
          have hA := AA.out
          have hG := G.out
          have hB := BB.out
          have e := hB.2.2.2.2
          rw [show k - i = 0 by omega] at e
          rw [hG.1]
          refine ⟨rfl, dk, ?_, ?_, SK.out⟩
          · have p := permIn_shDn a (m + 1) (m - i) m d (by omega) (by omega) (by omega)
            rw [← e] at p
            exact p
          · have p := merge_last WW.out (i := i) SO.out (by omega) hA.1 hA.2.2.1 hA.2.2.2.2.1 hA.2.2.2.2.2
            rw [← e] at p
            exact p
end
end Go.Proofs.Ytnbpcacnbfbjkaa.P
