/- Texts of the claim FnNowcast, merged: part 9 of 13: the program's and the reference's functions as Lean functions, the walks that show it, and plain lemmas; no conditions. -/
import Derived.Test.YtmekfmhnpinjlaaKFnNowcast3
import Derived.Test.YtmekfmhnpinjlaaKFnNowcast8
open Go.RowKit Go.Proofs.YtmekfmhnpinjlaaW.PrintWords Go.Proofs.YtmekfmhnpinjlaaW.PrintLast Go.Proofs.YtmekfmhnpinjlaaW.PrintMore
set_option linter.unusedVariables false
set_option linter.unusedSimpArgs false
set_option maxHeartbeats 8000000
set_option maxRecDepth 100000
namespace Go.Proofs.Ytmekfmhnpinjlaa.P
attribute [local go_sem] max2_int min2_int max_two min_two max_three min_three max_four min_four
mutual
def spec_l11Rank.l0 : Nat → List (S28) → Int → Int → Int → List Int → Int → Int → List Int → Option ((List (S28)))
 | 0, _, _, _, _, _, _, _, _ => none
 | k + 1, x5, x6, r0, r1, r2, r3, r4, r5 => if x6 ≤ 2 then (spec_l11Rank.l1 k x5 x6 (-2) r0 r1 r2 r3 r4 r5) else (some x5)
def spec_l11Rank.l1 : Nat → List (S28) → Int → Int → Int → Int → List Int → Int → Int → List Int → Option ((List (S28)))
 | 0, _, _, _, _, _, _, _, _, _ => none
 | k + 1, x5, x6, x7, r0, r1, r2, r3, r4, r5 => if x7 ≤ 2 then ((spec_l11Qualifies.f k r0 r1 r2 r3 r4 r5 x7 x6).bind fun t107 => (if t107 = true then (spec_l11Rank.l2 k x5 x6 x7 (x5.length : Int) r0 r1 r2 r3 r4 r5 x7 x6) else (spec_l11Rank.l1 k x5 x6 (wrap64 (x7 + 1)) r0 r1 r2 r3 r4 r5))) else (spec_l11Rank.l0 k x5 (wrap64 (x6 + 1)) r0 r1 r2 r3 r4 r5)
def spec_l11Rank.l2 : Nat → List (S28) → Int → Int → Int → Int → Int → List Int → Int → Int → List Int → Int → Int → Option ((List (S28)))
 | 0, _, _, _, _, _, _, _, _, _, _, _, _ => none
 | k + 1, x5, x6, x7, x9, r0, r1, r2, r3, r4, r5, r6, r7 => if x9 > 0 then (if 0 ≤ (wrap64 (x9 - 1)) then (if (wrap64 (x9 - 1)) < (x5.length : Int) then ((spec_l11Better.f k r0 r1 r2 r3 r4 r5 r6 r7 ((rd_T28 x5 (wrap64 (x9 - 1))).f0) ((rd_T28 x5 (wrap64 (x9 - 1))).f1)).bind fun t109 => (if t109 = true then (spec_l11Rank.l2 k x5 x6 x7 (wrap64 (x9 - 1)) r0 r1 r2 r3 r4 r5 r6 r7) else ((some (([] : List (S28)) : List (S28))).bind fun y110 => (if 0 ≤ x9 then (if x9 ≤ (x5.length : Int) then ((some (x5.take (x9 : Int).toNat : List (S28))).bind fun y113 => (if y110.length + y113.length < 8796093022208 then ((some (y110 ++ y113 : List (S28))).bind fun y117 => ((some (([(⟨r6, r7⟩ : S28)] : List (S28)) : List (S28))).bind fun y120 => (if y117.length + y120.length < 8796093022208 then ((some (y117 ++ y120 : List (S28))).bind fun y123 => ((some (x5.drop (x9 : Int).toNat : List (S28))).bind fun y126 => (if y123.length + y126.length < 8796093022208 then (spec_l11Rank.l1 k (y123 ++ y126) x6 (wrap64 (x7 + 1)) r0 r1 r2 r3 r4 r5) else (none)))) else (none)))) else (none))) else (none)) else (none))))) else (none)) else (none)) else ((some (([] : List (S28)) : List (S28))).bind fun y133 => (if 0 ≤ x9 then (if x9 ≤ (x5.length : Int) then ((some (x5.take (x9 : Int).toNat : List (S28))).bind fun y136 => (if y133.length + y136.length < 8796093022208 then ((some (y133 ++ y136 : List (S28))).bind fun y140 => ((some (([(⟨r6, r7⟩ : S28)] : List (S28)) : List (S28))).bind fun y143 => (if y140.length + y143.length < 8796093022208 then ((some (y140 ++ y143 : List (S28))).bind fun y146 => ((some (x5.drop (x9 : Int).toNat : List (S28))).bind fun y149 => (if y146.length + y149.length < 8796093022208 then (spec_l11Rank.l1 k (y146 ++ y149) x6 (wrap64 (x7 + 1)) r0 r1 r2 r3 r4 r5) else (none)))) else (none)))) else (none))) else (none)) else (none)))
end
def spec_l11Rank.f (k : Nat) (a0_0 : Int) (a0_1 : Int) (l0_2 : List Int) (a1_0 : Int) (a1_1 : Int) (l1_2 : List Int) : Option ((List (S28))) := spec_l11Rank.l0 k (([] : List (S28))) (-2) a0_0 a0_1 l0_2 a1_0 a1_1 l1_2
def spec_l11Rank.T11 : Bool × List (List Nat × List Nat) := (true, [([], []), ([0], [0]), ([1], [1]), ([2], [2]), ([2], [2]), ([2], [2]), ([2], [2]), ([2], [2]), ([7, 2], [2, 7]), ([6, 8, 2], [2, 6, 8]), ([9, 2], [2, 9]), ([3, 4, 5, 10, 2, 2], [2, 3, 4, 5, 10]), ([2, 11], [2, 11])])
def spec_l11Rank.B11 : List Nat := [0, 1, 3, 7, 7, 7, 7, 7, 135, 455, 967, 2047, 4095]
theorem spec_l11Rank.tab11 : rtab .any (opsOf Try.f55 11) = spec_l11Rank.T11 := by kernel_rfl
theorem spec_l11Rank.bits11 : waitsOk spec_l11Rank.T11.2 spec_l11Rank.B11 = true := by kernel_rfl
def spec_l11Rank.T13 : Bool × List (List Nat × List Nat) := (true, [([], []), ([], []), ([], []), ([1, 2], [1, 2]), ([0, 3], [0, 3]), ([], []), ([5], [5]), ([4, 6, 4], [4, 6]), ([], []), ([], []), ([8, 9], [8, 9]), ([7, 10, 7], [7, 10]), ([11, 11, 0, 1, 2, 3, 4, 5, 6, 7, 8, 9, 10, 11], [1, 8, 11])])
def spec_l11Rank.B13 : List Nat := [0, 0, 0, 6, 15, 0, 32, 127, 0, 0, 768, 2047, 4095]
theorem spec_l11Rank.tab13 : rtab .any (opsOf Try.f55 13) = spec_l11Rank.T13 := by kernel_rfl
theorem spec_l11Rank.bits13 : waitsOk spec_l11Rank.T13.2 spec_l11Rank.B13 = true := by kernel_rfl
theorem spec_l11Rank.calls (k : Nat) (a0_0 : Int) (a0_1 : Int) (A0_2 : Option Addr) (c0_2 : Nat) (l0_2 : List Int) (a1_0 : Int) (a1_1 : Int) (A1_2 : Option Addr) (c1_2 : Nat) (l1_2 : List Int) (r : List (S28)) (w : World) (hr0_2 : Kd.C (Kd.int .i64) w A0_2 l0_2.length l0_2) (hc0_2 : l0_2.length ≤ c0_2) (hr1_2 : Kd.C (Kd.int .i64) w A1_2 l1_2.length l1_2) (hc1_2 : l1_2.length ≤ c1_2) (h : spec_l11Rank.f k a0_0 a0_1 l0_2 a1_0 a1_1 l1_2 = some r) :
  Calls Try.prog 55 #[.agg #[.int .i64 a0_0, .int .i64 a0_1, .slice A0_2 l0_2.length c0_2], .agg #[.int .i64 a1_0, .int .i64 a1_1, .slice A1_2 l1_2.length c1_2]] w fun e w' => ∃ v0_ : Value, e = .returned (v0_) ∧ Kd.R k28 28 w' w.heap.size (fun _ => True) v0_ r ∧ Below w.heap.size w w' := by
 have hu26 := Try.underlying26
 have hu28 := Try.underlying28
 have HR0_2 := aK hr0_2
 have HC0_2 := aK hc0_2
 clear hr0_2 hc0_2
 have HR1_2 := aK hr1_2
 have HC1_2 := aK hc1_2
 clear hr1_2 hc1_2
 have HB := aK (Below.refl w.heap.size w)
 have H : (spec_l11Rank.l0 k (([] : List (S28))) (-2) a0_0 a0_1 l0_2 a1_0 a1_1 l1_2) = some r := h
 clear h
 obtain ⟨y103, hy103⟩ : ∃ y_ : List (S28), y_ = (([] : List (S28))) := ⟨_, rfl⟩
 replace H : (spec_l11Rank.l0 k y103 (-2) a0_0 a0_1 l0_2 a1_0 a1_1 l1_2) = some r := by first | (rw [hy103]; first | with_reducible exact H | with_reducible exact (oS H :)) | with_reducible exact (oS H :) | with_reducible exact H | exact H
 have Ny103 := aK hy103
 clear hy103
 have H' := aK H
 clear H
 go_enter Try.func55, Try.ntmps55
 go_wp2_with (first | ((with_reducible refine ga 2 rfl ?_); refine bxa #[.int .i64 a0_0, .int .i64 a0_1, .slice A0_2 l0_2.length c0_2] 26 ?_; intro g101 hg w3 B101 hb; have GW101 := gA hg HB; replace HB := bS HB hb; clear hb hg) | ((with_reducible refine ga 3 rfl ?_); refine bxa #[.int .i64 a1_0, .int .i64 a1_1, .slice A1_2 l1_2.length c1_2] 26 ?_; intro g102 hg w4 B102 hb; have GW102 := gA hg HB; obtain ⟨N101_102, N102_101⟩ := na hg B101; replace B101 := bB B101 hb; replace HB := bS HB hb; clear hb hg) | ((with_reducible refine ga 10 rfl ?_); refine Kd.R_lit k28 _ 28 ?hg (N := 10) ?hd (xs := ([] : List (S28))) (inner := []) (ok := fun _ => True) (okp := fun _ => True) ?hr ?hp (fun _ hk => hk) trivial (Below.refl _ _) (Nat.le_refl _) (by simp) ?_; (case hd => rfl); (case hg => rfl); (case hr => first | (go_simp; done) | (go_simp; rfl)); (case hp => exact (Reps.none _ _)); intro v104 w5 ho6 hb hg_ hnew_; clear hg_ hnew_; (first | rw [← Ny103.out] at ho6 | (simp only [Int.reduceToNat] at ho6; rw [← Ny103.out] at ho6)); have HO105 := aK (Kd.R_lower ho6 (below_size (pS HB.out))); replace B101 := bB B101 hb; replace B102 := bB B102 hb; replace HB := bS HB hb; clear hb ho6))
 go_loopg [5, 6] k (fun kq v5 v6 w' => ∃ (x5_1 : List (S28)) (x6_1 : Int), v6 = .int .i64 x6_1 ∧ Aside0 (spec_l11Rank.l0 kq x5_1 x6_1 a0_0 a0_1 l0_2 a1_0 a1_1 l1_2 = some r) ∧ Aside0 (kq ≤ k) ∧ Aside0 (Kd.R k28 28 w' w.heap.size (fun _ => True) v5 x5_1) ∧ Aside0 (w'.heap[g101]? = some (.cells #[.int .i64 a0_0, .int .i64 a0_1, (.slice A0_2 l0_2.length c0_2)] 26 (0, 0))) ∧ Aside0 (w'.heap[g102]? = some (.cells #[.int .i64 a1_0, .int .i64 a1_1, (.slice A1_2 l1_2.length c1_2)] 26 (0, 0))) ∧ Aside0 (Below w.heap.size w w'))
 case atStart => exact ⟨(y103), ((-2)), (by first | rfl | (simp; done) | (simp [*]; done)), H', ⟨Nat.le_refl _⟩, ⟨pR HO105.out⟩, ⟨by refine bk ?_; exact B101.out⟩, ⟨by refine bk ?_; exact B102.out⟩, ⟨pT HB.out⟩⟩
 case round =>
 clear H'
 obtain ⟨x5_1, x6_1, rfl, HA, HK1, HO_5, B101, B102, HB⟩ := hrel
 cases gk with
 | zero => exact absurd HA.out (by simp [spec_l11Rank.l0])
 | succ k1 =>
 have H := HA.out
 clear HA
 simp only [spec_l11Rank.l0] at H
 by_cases c7 : x6_1 ≤ 2
 rotate_left
 ·
  rw [if_neg c7] at H
  have c7b0 : decide (x6_1 ≤ 2) = false := decide_eq_false c7
  clear c7
  obtain rfl := Option.some.inj H
  go_wp2
  go_ret
  exact ⟨_, er, by (with_reducible repeat (first | apply Kd.R_alloc | apply Kd.R_drewN | apply Kd.R_drew)); exact HO_5.out, pT HB.out⟩
 rw [if_pos c7] at H
 have c7b0 : decide (x6_1 ≤ 2) = true := decide_eq_true c7
 clear c7
 have H' := aK H
 clear H
 go_wp2
 go_loopg [5, 7] k1 (fun kq v5 v7 w' => ∃ (x5_2 : List (S28)) (x7_2 : Int), v7 = .int .i64 x7_2 ∧ Aside0 (spec_l11Rank.l1 kq x5_2 x6_1 x7_2 a0_0 a0_1 l0_2 a1_0 a1_1 l1_2 = some r) ∧ Aside0 (kq ≤ k1) ∧ Aside0 (Kd.R k28 28 w' w.heap.size (fun _ => True) v5 x5_2) ∧ Aside0 (w'.heap[g101]? = some (.cells #[.int .i64 a0_0, .int .i64 a0_1, (.slice A0_2 l0_2.length c0_2)] 26 (0, 0))) ∧ Aside0 (w'.heap[g102]? = some (.cells #[.int .i64 a1_0, .int .i64 a1_1, (.slice A1_2 l1_2.length c1_2)] 26 (0, 0))) ∧ Aside0 (Below w.heap.size w w'))
 case atStart => exact ⟨(x5_1), ((-2)), (by first | rfl | (simp; done) | (simp [*]; done)), H', ⟨Nat.le_refl _⟩, ⟨pR HO_5.out⟩, ⟨by refine bk ?_; exact B101.out⟩, ⟨by refine bk ?_; exact B102.out⟩, ⟨pT HB.out⟩⟩
 case round =>
 clear H'
 clear c7b0
 obtain ⟨x5_2, x7_2, rfl, HA, HK2, HO_5, B101, B102, HB⟩ := hrel
 cases gk with
 | zero => exact absurd HA.out (by simp [spec_l11Rank.l1])
 | succ k2 =>
 have H := HA.out
 clear HA
 simp only [spec_l11Rank.l1] at H
 by_cases c8 : x7_2 ≤ 2
 rotate_left
 ·
  rw [if_neg c8] at H
  have c8b0 : decide (x7_2 ≤ 2) = false := decide_eq_false c8
  clear c8; have H' := aK H; clear H
  go_wp2
  go_roundg k2
  case measure => have := HK1.out; have := HK2.out; omega
  case rel => exact ⟨(x5_2), (wrap64 (x6_1 + 1)), (by first | rfl | (simp; done) | (simp [*]; done)), H', ⟨by have := HK1.out; have := HK2.out; omega⟩, ⟨pR HO_5.out⟩, ⟨by refine bk ?_; exact B101.out⟩, ⟨by refine bk ?_; exact B102.out⟩, ⟨pT HB.out⟩⟩
 rw [if_pos c8] at H
 have c8b0 : decide (x7_2 ≤ 2) = true := decide_eq_true c8
 clear c8
 replace H := oA H
 obtain ⟨t107, A9, H⟩ := H
 replace H : (if t107 = true then (spec_l11Rank.l2 k2 x5_2 x6_1 x7_2 (x5_2.length : Int) a0_0 a0_1 l0_2 a1_0 a1_1 l1_2 x7_2 x6_1) else (spec_l11Rank.l1 k2 x5_2 x6_1 (wrap64 (x7_2 + 1)) a0_0 a0_1 l0_2 a1_0 a1_1 l1_2)) = some r := H
 by_cases c10 : t107 = true
 rotate_left
 ·
  replace c10 := Bool.eq_false_iff.mpr c10; subst c10
  have H1 : (spec_l11Rank.l1 k2 x5_2 x6_1 (wrap64 (x7_2 + 1)) a0_0 a0_1 l0_2 a1_0 a1_1 l1_2) = some r := by rw [if_neg (show ¬ (false = true) by decide)] at H; exact H
  clear H; have H := H1; clear H1; have H' := aK H; clear H
  go_wp2_with (first | ((with_reducible refine ga 8 rfl ?_); refine bxa #[.int .i64 0, .int .i64 0] 28 ?_; intro g106 hg w69 B106 hb; replace HO_5 := aK (Kd.R_below (Kd.R_elderB (pR HO_5.out) g106 (Nat.le_of_eq hg.symm)) hb); have GW106 := gA hg HB; obtain ⟨N101_106, N106_101⟩ := na hg B101; obtain ⟨N102_106, N106_102⟩ := na hg B102; replace B101 := bB B101 hb; replace B102 := bB B102 hb; replace HB := bS HB hb; clear hb hg; obtain ⟨_, _⟩ := nB N106_101; obtain ⟨_, _⟩ := nB N106_102; obtain ⟨_, _, _, _⟩ := bc2 B106.out; obtain ⟨_, _⟩ := nB N101_102; obtain ⟨_, _, _, _, _, _⟩ := bc3 B101.out; obtain ⟨_, _, _, _, _, _⟩ := bc3 B102.out) | ((with_reducible refine gc 66 rfl ?_); refine gl (some 25) Try.func66 #[.agg #[.int .i64 a0_0, .int .i64 a0_1, .slice A0_2 l0_2.length c0_2], .agg #[.int .i64 a1_0, .int .i64 a1_1, .slice A1_2 l1_2.length c1_2], .agg #[.int .i64 x7_2, .int .i64 x6_1]] ?_; (with_reducible refine (spec_l11Qualifies.calls k2 a0_0 a0_1 _ _ l0_2 a1_0 a1_1 _ _ l1_2 x7_2 x6_1 false _ ?side1 ?side2 ?side3 ?side4 A9.out).mono ?_); (case side1 => exact Kd.C_below HR0_2.out (pS HB.out)); (case side2 => exact HC0_2.out); (case side3 => exact Kd.C_below HR1_2.out (pS HB.out)); (case side4 => exact HC1_2.out); rintro e w76 ⟨rfl, hb⟩; refine ⟨_, rfl, ?_⟩; replace HO_5 := aK (Kd.R_below (pR ((Kd.R_mono (Kd.R_far (p := ⟨g106, 1, none⟩) (Kd.R_far (p := ⟨g106, 0, none⟩) (Kd.R_mono HO_5.out (fun k_ hk => (⟨hk, hk.2⟩ : _ ∧ k_ ≠ g106))) (fun _ hk => hk.2) (.int .i64 x7_2)) (fun _ hk => hk.2) (.int .i64 x6_1)) (fun _ h_ => h_.1)))) hb); replace B101 := aK (blk_below (g := g101) (o := .cells #[.int .i64 a0_0, .int .i64 a0_1, .slice A0_2 l0_2.length c0_2] 26 (0, 0)) (by refine bg N101_106 ?_; refine bg N101_106 ?_; refine bk ?_; exact B101.out) hb); replace B102 := aK (blk_below (g := g102) (o := .cells #[.int .i64 a1_0, .int .i64 a1_1, .slice A1_2 l1_2.length c1_2] 26 (0, 0)) (by refine bg N102_106 ?_; refine bg N102_106 ?_; refine bk ?_; exact B102.out) hb); replace B106 := aK (blk_below (g := g106) (o := .cells #[.int .i64 x7_2, .int .i64 x6_1] 28 (0, 0)) (by refine bq #[.int .i64 x7_2, .int .i64 0] 1 ?_; refine bq #[.int .i64 0, .int .i64 0] 0 ?_; refine bk ?_; exact B106.out) hb); replace HB := bS HB hb; (try clear hb)))
  go_roundg k2
  case measure => have := HK1.out; have := HK2.out; omega
  case rel => exact ⟨(x5_2), (wrap64 (x7_2 + 1)), (by first | rfl | (simp; done) | (simp [*]; done)), H', ⟨by have := HK1.out; have := HK2.out; omega⟩, ⟨pR (Kd.R_mono HO_5.out (fun _ hk => trivial))⟩, ⟨by refine bk ?_; exact B101.out⟩, ⟨by refine bk ?_; exact B102.out⟩, ⟨pT HB.out⟩⟩
 subst c10
 have H1 : (spec_l11Rank.l2 k2 x5_2 x6_1 x7_2 (x5_2.length : Int) a0_0 a0_1 l0_2 a1_0 a1_1 l1_2 x7_2 x6_1) = some r := by rw [if_pos rfl] at H; exact H
 clear H
 have H := H1
 clear H1
 have H' := aK H
 clear H
 go_wp2_with (first | ((with_reducible refine ga 8 rfl ?_); refine bxa #[.int .i64 0, .int .i64 0] 28 ?_; intro g106 hg w11 B106 hb; replace HO_5 := aK (Kd.R_below (Kd.R_elderB (pR HO_5.out) g106 (Nat.le_of_eq hg.symm)) hb); have GW106 := gA hg HB; obtain ⟨N101_106, N106_101⟩ := na hg B101; obtain ⟨N102_106, N106_102⟩ := na hg B102; replace B101 := bB B101 hb; replace B102 := bB B102 hb; replace HB := bS HB hb; clear hb hg; obtain ⟨_, _⟩ := nB N106_101; obtain ⟨_, _⟩ := nB N106_102; obtain ⟨z14_0, z14_1, y14_0, y14_1⟩ := bc2 B106.out; obtain ⟨_, _⟩ := nB N101_102; obtain ⟨z16_0, z16_1, z16_2, y16_0, y16_1, y16_2⟩ := bc3 B101.out; obtain ⟨z17_0, z17_1, z17_2, y17_0, y17_1, y17_2⟩ := bc3 B102.out) | ((with_reducible refine gc 66 rfl ?_); refine gl (some 25) Try.func66 #[.agg #[.int .i64 a0_0, .int .i64 a0_1, .slice A0_2 l0_2.length c0_2], .agg #[.int .i64 a1_0, .int .i64 a1_1, .slice A1_2 l1_2.length c1_2], .agg #[.int .i64 x7_2, .int .i64 x6_1]] ?_; (with_reducible refine (spec_l11Qualifies.calls k2 a0_0 a0_1 _ _ l0_2 a1_0 a1_1 _ _ l1_2 x7_2 x6_1 true _ ?side1 ?side2 ?side3 ?side4 A9.out).mono ?_); (case side1 => exact Kd.C_below HR0_2.out (pS HB.out)); (case side2 => exact HC0_2.out); (case side3 => exact Kd.C_below HR1_2.out (pS HB.out)); (case side4 => exact HC1_2.out); rintro e w18 ⟨rfl, hb⟩; refine ⟨_, rfl, ?_⟩; replace HO_5 := aK (Kd.R_below (pR ((Kd.R_mono (Kd.R_far (p := ⟨g106, 1, none⟩) (Kd.R_far (p := ⟨g106, 0, none⟩) (Kd.R_mono HO_5.out (fun k_ hk => (⟨hk, hk.2⟩ : _ ∧ k_ ≠ g106))) (fun _ hk => hk.2) (.int .i64 x7_2)) (fun _ hk => hk.2) (.int .i64 x6_1)) (fun _ h_ => h_.1)))) hb); replace B101 := aK (blk_below (g := g101) (o := .cells #[.int .i64 a0_0, .int .i64 a0_1, .slice A0_2 l0_2.length c0_2] 26 (0, 0)) (by refine bg N101_106 ?_; refine bg N101_106 ?_; refine bk ?_; exact B101.out) hb); replace B102 := aK (blk_below (g := g102) (o := .cells #[.int .i64 a1_0, .int .i64 a1_1, .slice A1_2 l1_2.length c1_2] 26 (0, 0)) (by refine bg N102_106 ?_; refine bg N102_106 ?_; refine bk ?_; exact B102.out) hb); replace B106 := aK (blk_below (g := g106) (o := .cells #[.int .i64 x7_2, .int .i64 x6_1] 28 (0, 0)) (by refine bq #[.int .i64 x7_2, .int .i64 0] 1 ?_; refine bq #[.int .i64 0, .int .i64 0] 0 ?_; refine bk ?_; exact B106.out) hb); replace HB := bS HB hb; (try clear hb); obtain ⟨Ao19, co19, eo19⟩ := Kd.R_slice HO_5.out; subst eo19))
 go_loopg [9] k2 (fun kq v9 w' => ∃ (x9_3 : Int), v9 = .int .i64 x9_3 ∧ Aside0 (spec_l11Rank.l2 kq x5_2 x6_1 x7_2 x9_3 a0_0 a0_1 l0_2 a1_0 a1_1 l1_2 x7_2 x6_1 = some r) ∧ Aside0 (kq ≤ k2) ∧ Aside0 (Kd.R k28 28 w' w.heap.size (fun k_ => k_ ≠ g106) (.slice Ao19 x5_2.length co19) x5_2) ∧ Aside0 (w'.heap[g101]? = some (.cells #[.int .i64 a0_0, .int .i64 a0_1, (.slice A0_2 l0_2.length c0_2)] 26 (0, 0))) ∧ Aside0 (w'.heap[g102]? = some (.cells #[.int .i64 a1_0, .int .i64 a1_1, (.slice A1_2 l1_2.length c1_2)] 26 (0, 0))) ∧ Aside0 (w'.heap[g106]? = some (.cells #[.int .i64 x7_2, .int .i64 x6_1] 28 (0, 0))) ∧ Aside0 (Below w.heap.size w w'))
 case atStart => exact ⟨((x5_2.length : Int)), (by first | rfl | (simp; done) | (simp [*]; done)), H', ⟨Nat.le_refl _⟩, ⟨pR (Kd.R_mono HO_5.out (fun _ hk => hk.2))⟩, ⟨by refine bk ?_; exact B101.out⟩, ⟨by refine bk ?_; exact B102.out⟩, ⟨by refine bk ?_; exact B106.out⟩, ⟨pT HB.out⟩⟩
 case round =>
 clear H'
 clear c8b0 z14_0 z14_1 z16_0 z16_1 z16_2 z17_0 z17_1 z17_2 y14_0 y14_1 y16_0 y16_1 y16_2 y17_0 y17_1 y17_2
 obtain ⟨x9_3, rfl, HA, HK3, HO_5, B101, B102, B106, HB⟩ := hrel
 cases gk with
 | zero => exact absurd HA.out (by simp [spec_l11Rank.l2])
 | succ k3 =>
 have H := HA.out
 clear HA
 simp only [spec_l11Rank.l2] at H
 by_cases c20 : x9_3 > 0
 rotate_left
 ·
  rw [if_neg c20] at H
  have c20b0 : decide (0 < x9_3) = false := decide_eq_false c20
  clear c20
  obtain ⟨y133, hy133⟩ : ∃ y_ : List (S28), y_ = (([] : List (S28))) := ⟨_, rfl⟩
  replace H : (if 0 ≤ x9_3 then (if x9_3 ≤ (x5_2.length : Int) then ((some (x5_2.take (x9_3 : Int).toNat : List (S28))).bind fun y136 => (if y133.length + y136.length < 8796093022208 then ((some (y133 ++ y136 : List (S28))).bind fun y140 => ((some (([(⟨x7_2, x6_1⟩ : S28)] : List (S28)) : List (S28))).bind fun y143 => (if y140.length + y143.length < 8796093022208 then ((some (y140 ++ y143 : List (S28))).bind fun y146 => ((some (x5_2.drop (x9_3 : Int).toNat : List (S28))).bind fun y149 => (if y146.length + y149.length < 8796093022208 then (spec_l11Rank.l1 k3 (y146 ++ y149) x6_1 (wrap64 (x7_2 + 1)) a0_0 a0_1 l0_2 a1_0 a1_1 l1_2) else (none)))) else (none)))) else (none))) else (none)) else (none)) = some r := by first | (rw [hy133]; first | with_reducible exact H | with_reducible exact (oS H :)) | with_reducible exact (oS H :) | with_reducible exact H | exact H
  have Ny133 := aK hy133; clear hy133
  by_cases c49 : 0 ≤ x9_3
  rotate_left
  ·
   rw [if_neg c49] at H
   exact absurd H (by simp)
  rw [if_pos c49] at H; have c49b0 := eq_true c49
  have c49b1 : decide (0 ≤ x9_3) = true := decide_eq_true c49
  clear c49
  by_cases c50 : x9_3 ≤ (x5_2.length : Int)
  rotate_left
  ·
   rw [if_neg c50] at H
   exact absurd H (by simp)
  rw [if_pos c50] at H; have c50b0 := eq_true c50
  have c50b1 : decide (x9_3 ≤ (x5_2.length : Int)) = true := decide_eq_true c50
  clear c50
  obtain ⟨y136, hy136⟩ : ∃ y_ : List (S28), y_ = (x5_2.take (x9_3 : Int).toNat) := ⟨_, rfl⟩
  replace H : (if y133.length + y136.length < 8796093022208 then ((some (y133 ++ y136 : List (S28))).bind fun y140 => ((some (([(⟨x7_2, x6_1⟩ : S28)] : List (S28)) : List (S28))).bind fun y143 => (if y140.length + y143.length < 8796093022208 then ((some (y140 ++ y143 : List (S28))).bind fun y146 => ((some (x5_2.drop (x9_3 : Int).toNat : List (S28))).bind fun y149 => (if y146.length + y149.length < 8796093022208 then (spec_l11Rank.l1 k3 (y146 ++ y149) x6_1 (wrap64 (x7_2 + 1)) a0_0 a0_1 l0_2 a1_0 a1_1 l1_2) else (none)))) else (none)))) else (none)) = some r := by first | (rw [hy136]; first | with_reducible exact H | with_reducible exact (oS H :)) | with_reducible exact (oS H :) | with_reducible exact H | exact H
  have Ny136 := aK hy136; clear hy136
  by_cases c51 : y133.length + y136.length < 8796093022208
  rotate_left
  ·
   rw [if_neg c51] at H
   exact absurd H (by simp)
  rw [if_pos c51] at H; have LMc51 := aK c51; clear c51
  obtain ⟨y140, hy140⟩ : ∃ y_ : List (S28), y_ = (y133 ++ y136) := ⟨_, rfl⟩
  replace H : ((some (([(⟨x7_2, x6_1⟩ : S28)] : List (S28)) : List (S28))).bind fun y143 => (if y140.length + y143.length < 8796093022208 then ((some (y140 ++ y143 : List (S28))).bind fun y146 => ((some (x5_2.drop (x9_3 : Int).toNat : List (S28))).bind fun y149 => (if y146.length + y149.length < 8796093022208 then (spec_l11Rank.l1 k3 (y146 ++ y149) x6_1 (wrap64 (x7_2 + 1)) a0_0 a0_1 l0_2 a1_0 a1_1 l1_2) else (none)))) else (none))) = some r := by first | (rw [hy140]; first | with_reducible exact H | with_reducible exact (oS H :)) | with_reducible exact (oS H :) | with_reducible exact H | exact H
  have Ny140 := aK hy140; clear hy140
  obtain ⟨y143, hy143⟩ : ∃ y_ : List (S28), y_ = (([(⟨x7_2, x6_1⟩ : S28)] : List (S28))) := ⟨_, rfl⟩
  replace H : (if y140.length + y143.length < 8796093022208 then ((some (y140 ++ y143 : List (S28))).bind fun y146 => ((some (x5_2.drop (x9_3 : Int).toNat : List (S28))).bind fun y149 => (if y146.length + y149.length < 8796093022208 then (spec_l11Rank.l1 k3 (y146 ++ y149) x6_1 (wrap64 (x7_2 + 1)) a0_0 a0_1 l0_2 a1_0 a1_1 l1_2) else (none)))) else (none)) = some r := by first | (rw [hy143]; first | with_reducible exact H | with_reducible exact (oS H :)) | with_reducible exact (oS H :) | with_reducible exact H | exact H
  have Ny143 := aK hy143; clear hy143
  by_cases c52 : y140.length + y143.length < 8796093022208
  rotate_left
  ·
   rw [if_neg c52] at H
   exact absurd H (by simp)
  rw [if_pos c52] at H; have LMc52 := aK c52; clear c52
  obtain ⟨y146, hy146⟩ : ∃ y_ : List (S28), y_ = (y140 ++ y143) := ⟨_, rfl⟩
  replace H : ((some (x5_2.drop (x9_3 : Int).toNat : List (S28))).bind fun y149 => (if y146.length + y149.length < 8796093022208 then (spec_l11Rank.l1 k3 (y146 ++ y149) x6_1 (wrap64 (x7_2 + 1)) a0_0 a0_1 l0_2 a1_0 a1_1 l1_2) else (none))) = some r := by first | (rw [hy146]; first | with_reducible exact H | with_reducible exact (oS H :)) | with_reducible exact (oS H :) | with_reducible exact H | exact H
  have Ny146 := aK hy146; clear hy146; have c53b0 := eq_true (dA : 0 ≤ x9_3); have c54b0 := eq_true (dA : x9_3 ≤ (x5_2.length : Int))
  obtain ⟨y149, hy149⟩ : ∃ y_ : List (S28), y_ = (x5_2.drop (x9_3 : Int).toNat) := ⟨_, rfl⟩
  replace H : (if y146.length + y149.length < 8796093022208 then (spec_l11Rank.l1 k3 (y146 ++ y149) x6_1 (wrap64 (x7_2 + 1)) a0_0 a0_1 l0_2 a1_0 a1_1 l1_2) else (none)) = some r := by first | (rw [hy149]; first | with_reducible exact H | with_reducible exact (oS H :)) | with_reducible exact (oS H :) | with_reducible exact H | exact H
  have Ny149 := aK hy149; clear hy149
  by_cases c55 : y146.length + y149.length < 8796093022208
  rotate_left
  ·
   rw [if_neg c55] at H
   exact absurd H (by simp)
  rw [if_pos c55] at H; have LMc55 := aK c55; clear c55
  obtain ⟨y153, hy153⟩ : ∃ y_ : List (S28), y_ = (y146 ++ y149) := ⟨_, rfl⟩
  replace H : (spec_l11Rank.l1 k3 y153 x6_1 (wrap64 (x7_2 + 1)) a0_0 a0_1 l0_2 a1_0 a1_1 l1_2) = some r := by first | (rw [hy153]; first | with_reducible exact H | with_reducible exact (oS H :)) | with_reducible exact (oS H :) | with_reducible exact H | exact H
  have Ny153 := aK hy153; clear hy153; have H' := aK H; clear H
  try go_wp2
  replace HO_5 := rdw HO_5; replace B101 := bD B101; replace B102 := bD B102; replace B106 := bD B106; replace HB := aK (below_drew1 HB.out)
  refine start_ (n := 13) (S := fun w' => True) (ds := []) (bz [0, 13]) (by kernel_rfl) rfl rfl trivial (fun hHeld => ?_); refine with_tabW spec_l11Rank.tab11 spec_l11Rank.bits11 (fun HT_ HW_ => ?_)
  generalize wr.drew = w56 at HO_5 B101 B102 B106 HB hHeld ⊢
  refine pz 0 29 [1, 12] HT_ ?_
  refine pz 1 30 [2, 11] HT_ ?_
  refine pz 2 31 [3, 10] HT_ ?_
  refine pd 3 32 [4, 9] HT_ ?_
  refine pd 4 33 [5, 8] HT_ ?_
  refine pd 5 34 [6, 7] HT_ ?_
  refine pd 6 35 [7, 6] HT_ ?_
  refine pd 7 36 [8, 5] HT_ ?_
  refine pd 8 37 [9, 4] HT_ ?_
  refine pd 9 38 [10, 3] HT_ ?_
  refine pd 10 39 [11, 2] HT_ ?_
  refine pd 11 40 [12, 1] HT_ ?_
  refine pz 12 41 [13, 0] HT_ ?_
  refine done_ (done_of HT_.out (by kernel_rfl)) ?_
  try go_wp2
  replace HO_5 := rdw HO_5; replace B101 := bD B101; replace B102 := bD B102; replace B106 := bD B106; replace HB := aK (below_drew1 HB.out)
  have q58 : (x9_3 : Int) ≤ ((x5_2.length : Int) : Int) := dA
  obtain ⟨i058, hi058, _, hsz58, _⟩ := info_parts info28
  have hroom58 : x5_2.length ≤ co19 := (Kd.R_reads' HO_5.out).2.1
  have hC58 : Kd.C k28 _ Ao19 x5_2.length x5_2 := (Kd.R_reads' HO_5.out).2.2
  have hcut58 := cut_to (P := Try.prog) 64 28 .i64 Try.underlying64 hi058 Ao19 x5_2.length co19 x9_3 (dA) q58 hroom58
  have hr58 := Kd.C_take (m := (x9_3 : Int).toNat) hC58 (by omega)
  have hy58 : y136.length = (x9_3 : Int).toNat := (by rw [Ny136.out, List.length_take]; omega)
  rw [← Ny136.out] at hr58; rw [← hy58] at hcut58; have HR139 := aK hr58
  have HC139 := aK (show y136.length ≤ co19 from by omega)
  clear hr58 hC58 hroom58 hi058 hsz58; have KY58 := aK hy58; clear hy58
  have KL58 := aK (show (x9_3 : Int).toNat ≤ x5_2.length from by omega)
  replace q58 := eq_true q58
  have q59 : (x9_3 : Int) ≤ ((x5_2.length : Int) : Int) := dA
  obtain ⟨i059, hi059, _, hsz59, _⟩ := info_parts info28
  have hroom59 : x5_2.length ≤ co19 := (Kd.R_reads' HO_5.out).2.1
  have hC59 : Kd.C k28 _ Ao19 x5_2.length x5_2 := (Kd.R_reads' HO_5.out).2.2
  have q059 : (0 : Int) ≤ (x9_3 : Int) := dA
  have hcut59 := cut_from (P := Try.prog) 64 28 .i64 Try.underlying64 hi059 2 hsz59 Ao19 x5_2.length co19 x9_3 q059 q59
  have hr59 := Kd.C_drop (m := (x9_3 : Int).toNat) (c := co19) hC59 (by omega) hroom59
  obtain ⟨A59, hA59⟩ : ∃ A1, A1 = (if co19 = (x9_3 : Int).toNat then Ao19 else (Ao19 : Option Addr).map (·.add ((x9_3 : Int).toNat * 2))) := ⟨_, rfl⟩
  obtain ⟨c59, hc59⟩ : ∃ c1, c1 = co19 - (x9_3 : Int).toNat := ⟨_, rfl⟩
  have hy59 : y149.length = x5_2.length - (x9_3 : Int).toNat := (by rw [Ny149.out, List.length_drop] <;> omega)
  rw [show (x5_2).drop (x9_3 : Int).toNat = y149 from Ny149.out.symm] at hr59
  replace hr59 : Kd.C k28 _ A59 y149.length y149 := (by rw [hA59]; exact hr59)
  rw [← hy59, ← hA59, ← hc59] at hcut59; have HR152 := aK hr59
  have HC152 := aK (show y149.length ≤ c59 from by rw [hy59, hc59]; exact Nat.sub_le_sub_right hroom59 _)
  clear hr59 hC59 hroom59 hi059 hsz59 hc59; have KY59 := aK hy59; have KA59 := aK hA59; clear hy59 hA59
  have KL59 := aK (show (x9_3 : Int).toNat ≤ x5_2.length from by omega)
  replace q59 := eq_true q59
  refine start_ (n := 13) (S := fun w' => w'.cell? ⟨g106, 0, none⟩ = some (.int .i64 x7_2) ∧ w'.cell? ⟨g106, 1, none⟩ = some (.int .i64 x6_1)) (ds := []) (bz [0, 13]) (by kernel_rfl) rfl rfl (cz2 B106.out) (fun hHeld => ?_); refine with_tabW spec_l11Rank.tab13 spec_l11Rank.bits13 (fun HT_ HW_ => ?_)
  generalize w56.drew = w57 at HO_5 B101 B102 B106 HB HR139 HR152 hHeld ⊢
  refine pz 1 45 [0, 1, 1, 11] HT_ ?_
  refine pz 2 46 [0, 1, 2, 10] HT_ ?_
  refine pz 3 47 [0, 1, 3, 9] HT_ ?_
  refine pz 8 52 [0, 1, 3, 4, 1, 4] HT_ ?_
  refine pz 9 53 [0, 1, 3, 4, 2, 3] HT_ ?_
  refine pz 10 54 [0, 1, 3, 4, 3, 2] HT_ ?_
  refine tz 5 49 [0, 1, 3, 1, 1, 2, 3, 2] HT_ HW_ rfl (by rintro w' ⟨s0, s1⟩; go_simp; with_reducible rfl) hHeld ?_
  refine join_ (σ := Value × Value × Value) 3 (bz [7, 1, 3, 2]) (fun s_ => [(44, s_.1), (48, s_.2.1), (50, s_.2.2)]) (fun s_ w' => (w'.cell? ⟨g106, 0, none⟩ = some (.int .i64 x7_2) ∧ w'.cell? ⟨g106, 1, none⟩ = some (.int .i64 x6_1)) ∧ (Kd.R k28 28 w' w.heap.size (fun k_ => some k_ ≠ (s_.2.2 : Value).ownBlock ∧ some k_ ≠ (.slice Ao19 x5_2.length co19 : Value).ownBlock ∧ k_ ≠ g106) s_.2.1 y140) ∧ (Kd.R k28 28 w' w.heap.size (fun k_ => some k_ ≠ (s_.2.1 : Value).ownBlock ∧ some k_ ≠ (.slice Ao19 x5_2.length co19 : Value).ownBlock ∧ k_ ≠ g106) s_.2.2 y143) ∧ (Kd.R k28 28 w' w.heap.size (fun k_ => some k_ ≠ (s_.2.1 : Value).ownBlock ∧ some k_ ≠ (s_.2.2 : Value).ownBlock ∧ k_ ≠ g106) (.slice Ao19 x5_2.length co19) x5_2) ∧ (w'.heap[g101]? = some (.cells #[.int .i64 a0_0, .int .i64 a0_1, .slice A0_2 l0_2.length c0_2] 26 (0, 0))) ∧ (w'.heap[g102]? = some (.cells #[.int .i64 a1_0, .int .i64 a1_1, .slice A1_2 l1_2.length c1_2] 26 (0, 0))) ∧ (w'.heap[g106]? = some (.cells #[.int .i64 x7_2, .int .i64 x6_1] 28 (0, 0))) ∧ (Below w.heap.size w w')) ?_ ?_
  rotate_left
  ·
   intro hCont
   refine two_ (i := 0) (j := 6) (Ni := some 44) (Nj := some 50) (bz [4, 1, 1, 2, 3, 2]) (bz [0, 1, 3, 1, 2, 1, 3, 2]) rfl rfl rfl rfl (two_of HT_.out (by kernel_rfl)) (by decide) (by decide) (fun K hK => ?_) (fun K hK => ?_)
   ·
    skip
    refine Kd.R_lit_step k28 _ 28 ?hg (N := 44) ?hd (xs := ([] : List (S28))) (inner := []) (ok := fun _ => True) (okp := fun _ => True) ?hr ?hp (fun _ hk => hk) trivial (Below.refl _ _) (Nat.le_refl _) (by simp) ?_; (case hd => rfl); (case hg => rfl); (case hr => first | (go_simp; done) | (go_simp; rfl)); (case hp => exact (Reps.none _ _))
    intro v134 w60 ho61 hb hg_ hnew_
    clear hg_ hnew_
    (first | rw [← Ny133.out] at ho61 | (simp only [Int.reduceToNat] at ho61; rw [← Ny133.out] at ho61))
    have n0_ := aK (Kd.R_elder' (pR HO_5.out) (Kd.R_base ho61) hb); have HO135 := aK (Kd.R_lower (Kd.R_newB (nw1 ho61 (pR HO_5.out)) (g := g106) (o := .cells #[.int .i64 x7_2, .int .i64 x6_1] 28 (0, 0)) (pB B106.out)) (below_size (pS HB.out))); replace HR139 := aK (Kd.C_below (pC HR139.out) hb); replace HR152 := aK (Kd.C_below (pC HR152.out) hb); replace B101 := bB B101 hb; replace B102 := bB B102 hb; replace B106 := bB B106 hb; replace HB := bS HB hb; clear HO_5; have HO_5 := n0_; clear n0_ hb ho61
    refine hK.out _ _ (cz2 B106.out) (fun hHeld => ?_)
    clear hK K
    refine nm 44 ?_
    refine two_ (i := 4) (j := 6) (Ni := some 48) (Nj := some 50) (bz [6, 2, 3, 2]) (bz [4, 1, 2, 1, 3, 2]) rfl rfl rfl rfl (two_of HT_.out (by kernel_rfl)) (by decide) (by decide) (fun K hK => ?_) (fun K hK => ?_)
    ·
     skip
     refine Kd.R_append_rows_step k28 (w0 := w) w.heap.size (by rfl) (.tmp 44) (.tmp 47) 64 28 (.agg #[(.int .i64 0), (.int .i64 0)]) 16 rfl Try.underlying64 info28 rfl (by decide) (by omega) v134 y133 y136 _ _ _ (fun k_ => some k_ ≠ (.slice Ao19 x5_2.length co19 : Value).ownBlock ∧ k_ ≠ g106) (fun _ => False) rfl rfl ?aO ?aR (fun _ _ h => h) (fun _ h => h.elim) ?aF ?aB ?aS ?aL ?_
     (case aR => repeat (first | exact (pC HR139.out) | (with_reducible refine Kd.C_alloc ?_ _) | (with_reducible refine Kd.C_drewN ?_ _) | (with_reducible refine Kd.C_drew ?_)))
     (case aB => exact (pS HB.out))
     (case aF => exact (fun k_ hk => ⟨Kd.fresh' (Kd.R_lt (pR HO_5.out)) k_ hk, Kd.freshB (g := g106) (o := .cells #[.int .i64 x7_2, .int .i64 x6_1] 28 (0, 0)) (pB B106.out) k_ hk⟩))
     (case aO => exact (pR (rP HO135.out)))
     (case aS => exact (below_size (pS HB.out)))
     (case aL => have := LMc51.out; omega)
     intro v141 w62 ho hb hg hat
     rw [← Ny140.out] at ho
     have n0_ := aK (Kd.R_after (ok := (fun k_ => k_ ≠ g106)) (pR HO_5.out) hg hat)
     replace B101 := aK (blk_grown (pB B101.out) hg (Kd.R_ne HO135.out B101.out (by decide)))
     replace B102 := aK (blk_grown (pB B102.out) hg (Kd.R_ne HO135.out B102.out (by decide)))
     replace B106 := aK (blk_grown (pB B106.out) hg (Kd.R_away HO135.out (fun _ hk => hk.2)))
     replace HB := aK (hb)
     replace HR139 := aK ((show Kd.C k28 w62 Ao19 y136.length y136 from by rw [Ny136.out]; exact Kd.C_take (m := (x9_3 : Int).toNat) ((Kd.R_reads' (Kd.R_after (ok := (fun k_ => k_ ≠ g106)) (pR HO_5.out) hg hat)).2.2) KL58.out))
     replace HR152 := aK ((show Kd.C k28 w62 A59 y149.length y149 from by rw [Ny149.out, KA59.out]; exact Kd.C_drop (m := (x9_3 : Int).toNat) (c := co19) ((Kd.R_reads' (Kd.R_after (ok := (fun k_ => k_ ≠ g106)) (pR HO_5.out) hg hat)).2.2) KL59.out ((Kd.R_reads' (Kd.R_after (ok := (fun k_ => k_ ≠ g106)) (pR HO_5.out) hg hat)).2.1)))
     have HO142 := aK (ho); clear HO_5 HO135; have HO_5 := n0_; clear n0_ ho hb hg hat
     refine hK.out _ _ (cz2 B106.out) (fun hHeld => ?_)
     clear hK K
     refine nm 48 ?_
     refine oz 6 50 [7, 1, 3, 2] HT_ fun K hK => ?_
     refine Kd.R_lit_step k28 _ 28 ?hg (N := 50) ?hd (xs := ([(⟨x7_2, x6_1⟩ : S28)] : List (S28))) (inner := [.int .i64 x7_2, .int .i64 x6_1]) (ok := fun _ => True) (okp := fun _ => True) ?hr ?hp (fun _ hk => hk) trivial (Below.refl _ _) (Nat.le_refl _) (by simp) ?_; (case hd => rfl); (case hg => rfl); (case hr => first | (go_simp; done) | (go_simp; rfl)); (case hp => exact (Reps.c2 (show Kd.M k28 _ _ _ (⟨x7_2, x6_1⟩ : S28) [.int .i64 x7_2, .int .i64 x6_1] from (k28_mkM _ _ _ (⟨x7_2, x6_1⟩ : S28) )) (Reps.none _ _)))
     intro v144 w63 ho64 hb hg_ hnew_
     clear hg_ hnew_
     (first | rw [← Ny143.out] at ho64 | (simp only [Int.reduceToNat] at ho64; rw [← Ny143.out] at ho64))
     have n0_ := aK (Kd.R_elder' (pR HO_5.out) (Kd.R_base ho64) hb); have n1_ := aK (Kd.R_elder' (pR HO142.out) (Kd.R_base ho64) hb); have HO145 := aK (Kd.R_lower (Kd.R_newB (nw2 ho64 (pR HO_5.out) (pR HO142.out)) (g := g106) (o := .cells #[.int .i64 x7_2, .int .i64 x6_1] 28 (0, 0)) (pB B106.out)) (below_size (pS HB.out))); replace HR139 := aK (Kd.C_below (pC HR139.out) hb); replace HR152 := aK (Kd.C_below (pC HR152.out) hb); replace B101 := bB B101 hb; replace B102 := bB B102 hb; replace B106 := bB B106 hb; replace HB := bS HB hb; clear HO_5 HO142; have HO_5 := n0_; have HO142 := n1_; clear n0_ n1_ hb ho64
     refine hK.out _ _ (cz2 B106.out) (fun hHeld => ?_)
     clear hK K
     refine nm 50 ?_
     exact norm_ (by simp only [putAll, Act.put, List.setIfInBounds_toArray, List.set_cons_zero, List.set_cons_succ]) (hCont (v134, v141, v144) _ ⟨hHeld, (pR (rP HO142.out)), (pR (rP HO145.out)), (pR (rP HO_5.out)), (pB B101.out), (pB B102.out), (pB B106.out), (pS HB.out)⟩)
    skip
    refine Kd.R_lit_step k28 _ 28 ?hg (N := 50) ?hd (xs := ([(⟨x7_2, x6_1⟩ : S28)] : List (S28))) (inner := [.int .i64 x7_2, .int .i64 x6_1]) (ok := fun _ => True) (okp := fun _ => True) ?hr ?hp (fun _ hk => hk) trivial (Below.refl _ _) (Nat.le_refl _) (by simp) ?_; (case hd => rfl); (case hg => rfl); (case hr => first | (go_simp; done) | (go_simp; rfl)); (case hp => exact (Reps.c2 (show Kd.M k28 _ _ _ (⟨x7_2, x6_1⟩ : S28) [.int .i64 x7_2, .int .i64 x6_1] from (k28_mkM _ _ _ (⟨x7_2, x6_1⟩ : S28) )) (Reps.none _ _)))
    intro v144 w62 ho63 hb hg_ hnew_
    clear hg_ hnew_
    (first | rw [← Ny143.out] at ho63 | (simp only [Int.reduceToNat] at ho63; rw [← Ny143.out] at ho63))
    have n0_ := aK (Kd.R_elder' (pR HO_5.out) (Kd.R_base ho63) hb); have n1_ := aK (Kd.R_elder' (pR HO135.out) (Kd.R_base ho63) hb); have HO145 := aK (Kd.R_lower (Kd.R_newB (nw2 ho63 (pR HO_5.out) (pR HO135.out)) (g := g106) (o := .cells #[.int .i64 x7_2, .int .i64 x6_1] 28 (0, 0)) (pB B106.out)) (below_size (pS HB.out))); replace HR139 := aK (Kd.C_below (pC HR139.out) hb); replace HR152 := aK (Kd.C_below (pC HR152.out) hb); replace B101 := bB B101 hb; replace B102 := bB B102 hb; replace B106 := bB B106 hb; replace HB := bS HB hb; clear HO_5 HO135; have HO_5 := n0_; have HO135 := n1_; clear n0_ n1_ hb ho63
    refine hK.out _ _ (cz2 B106.out) (fun hHeld => ?_)
    clear hK K
    refine nm 50 ?_
    refine oz 4 48 [7, 1, 3, 2] HT_ fun K hK => ?_
    refine Kd.R_append_rows_step k28 (w0 := w) w.heap.size (by rfl) (.tmp 44) (.tmp 47) 64 28 (.agg #[(.int .i64 0), (.int .i64 0)]) 16 rfl Try.underlying64 info28 rfl (by decide) (by omega) v134 y133 y136 _ _ _ (fun k_ => some k_ ≠ (.slice Ao19 x5_2.length co19 : Value).ownBlock ∧ some k_ ≠ (v144 : Value).ownBlock ∧ k_ ≠ g106) (fun _ => False) rfl rfl ?aO ?aR (fun _ _ h => h) (fun _ h => h.elim) ?aF ?aB ?aS ?aL ?_
    (case aR => repeat (first | exact (pC HR139.out) | (with_reducible refine Kd.C_alloc ?_ _) | (with_reducible refine Kd.C_drewN ?_ _) | (with_reducible refine Kd.C_drew ?_)))
    (case aB => exact (pS HB.out))
    (case aF => exact (fun k_ hk => ⟨Kd.fresh' (Kd.R_lt (pR HO_5.out)) k_ hk, Kd.fresh' (Kd.R_lt (pR HO145.out)) k_ hk, Kd.freshB (g := g106) (o := .cells #[.int .i64 x7_2, .int .i64 x6_1] 28 (0, 0)) (pB B106.out) k_ hk⟩))
    (case aO => exact (pR (rP HO135.out)))
    (case aS => exact (below_size (pS HB.out)))
    (case aL => have := LMc51.out; omega)
    intro v141 w64 ho hb hg hat
    rw [← Ny140.out] at ho
    have n0_ := aK (Kd.R_after (ok := (fun k_ => some k_ ≠ (v144 : Value).ownBlock ∧ k_ ≠ g106)) (pR (rP HO_5.out)) hg hat)
    replace B101 := aK (blk_grown (pB B101.out) hg (Kd.R_ne HO135.out B101.out (by decide)))
    replace B102 := aK (blk_grown (pB B102.out) hg (Kd.R_ne HO135.out B102.out (by decide)))
    replace B106 := aK (blk_grown (pB B106.out) hg (Kd.R_away HO135.out (fun _ hk => hk.1.2)))
    replace HO145 := aK (Kd.R_after (ok := (fun k_ => some k_ ≠ (.slice Ao19 x5_2.length co19 : Value).ownBlock ∧ k_ ≠ g106)) (pR (rP HO145.out)) hg hat)
    replace HB := aK (hb)
    replace HR139 := aK ((show Kd.C k28 w64 Ao19 y136.length y136 from by rw [Ny136.out]; exact Kd.C_take (m := (x9_3 : Int).toNat) ((Kd.R_reads' (Kd.R_after (ok := (fun k_ => some k_ ≠ (v144 : Value).ownBlock ∧ k_ ≠ g106)) (pR (rP HO_5.out)) hg hat)).2.2) KL58.out))
    replace HR152 := aK ((show Kd.C k28 w64 A59 y149.length y149 from by rw [Ny149.out, KA59.out]; exact Kd.C_drop (m := (x9_3 : Int).toNat) (c := co19) ((Kd.R_reads' (Kd.R_after (ok := (fun k_ => some k_ ≠ (v144 : Value).ownBlock ∧ k_ ≠ g106)) (pR (rP HO_5.out)) hg hat)).2.2) KL59.out ((Kd.R_reads' (Kd.R_after (ok := (fun k_ => some k_ ≠ (v144 : Value).ownBlock ∧ k_ ≠ g106)) (pR (rP HO_5.out)) hg hat)).2.1)))
    have HO142 := aK (ho); clear HO_5 HO135; have HO_5 := n0_; clear n0_ ho hb hg hat
    refine hK.out _ _ (cz2 B106.out) (fun hHeld => ?_)
    clear hK K
    refine nm 48 ?_
    exact norm_ (by simp only [putAll, Act.put, List.setIfInBounds_toArray, List.set_cons_zero, List.set_cons_succ]) (hCont (v134, v141, v144) _ ⟨hHeld, (pR (rP HO142.out)), (pR (rP HO145.out)), (pR (rP HO_5.out)), (pB B101.out), (pB B102.out), (pB B106.out), (pS HB.out)⟩)
   skip
   refine Kd.R_lit_step k28 _ 28 ?hg (N := 50) ?hd (xs := ([(⟨x7_2, x6_1⟩ : S28)] : List (S28))) (inner := [.int .i64 x7_2, .int .i64 x6_1]) (ok := fun _ => True) (okp := fun _ => True) ?hr ?hp (fun _ hk => hk) trivial (Below.refl _ _) (Nat.le_refl _) (by simp) ?_; (case hd => rfl); (case hg => rfl); (case hr => first | (go_simp; done) | (go_simp; rfl)); (case hp => exact (Reps.c2 (show Kd.M k28 _ _ _ (⟨x7_2, x6_1⟩ : S28) [.int .i64 x7_2, .int .i64 x6_1] from (k28_mkM _ _ _ (⟨x7_2, x6_1⟩ : S28) )) (Reps.none _ _)))
   intro v144 w60 ho61 hb hg_ hnew_
   clear hg_ hnew_
   (first | rw [← Ny143.out] at ho61 | (simp only [Int.reduceToNat] at ho61; rw [← Ny143.out] at ho61))
   have n0_ := aK (Kd.R_elder' (pR HO_5.out) (Kd.R_base ho61) hb); have HO145 := aK (Kd.R_lower (Kd.R_newB (nw1 ho61 (pR HO_5.out)) (g := g106) (o := .cells #[.int .i64 x7_2, .int .i64 x6_1] 28 (0, 0)) (pB B106.out)) (below_size (pS HB.out))); replace HR139 := aK (Kd.C_below (pC HR139.out) hb); replace HR152 := aK (Kd.C_below (pC HR152.out) hb); replace B101 := bB B101 hb; replace B102 := bB B102 hb; replace B106 := bB B106 hb; replace HB := bS HB hb; clear HO_5; have HO_5 := n0_; clear n0_ hb ho61
   refine hK.out _ _ (cz2 B106.out) (fun hHeld => ?_)
   clear hK K
   refine nm 50 ?_
   refine oz 0 44 [4, 1, 2, 1, 3, 2] HT_ fun K hK => ?_
   refine Kd.R_lit_step k28 _ 28 ?hg (N := 44) ?hd (xs := ([] : List (S28))) (inner := []) (ok := fun _ => True) (okp := fun _ => True) ?hr ?hp (fun _ hk => hk) trivial (Below.refl _ _) (Nat.le_refl _) (by simp) ?_; (case hd => rfl); (case hg => rfl); (case hr => first | (go_simp; done) | (go_simp; rfl)); (case hp => exact (Reps.none _ _))
   intro v134 w62 ho63 hb hg_ hnew_
   clear hg_ hnew_
   (first | rw [← Ny133.out] at ho63 | (simp only [Int.reduceToNat] at ho63; rw [← Ny133.out] at ho63))
   have n0_ := aK (Kd.R_elder' (pR HO_5.out) (Kd.R_base ho63) hb); have n1_ := aK (Kd.R_elder' (pR HO145.out) (Kd.R_base ho63) hb); have HO135 := aK (Kd.R_lower (Kd.R_newB (nw2 ho63 (pR HO_5.out) (pR HO145.out)) (g := g106) (o := .cells #[.int .i64 x7_2, .int .i64 x6_1] 28 (0, 0)) (pB B106.out)) (below_size (pS HB.out))); replace HR139 := aK (Kd.C_below (pC HR139.out) hb); replace HR152 := aK (Kd.C_below (pC HR152.out) hb); replace B101 := bB B101 hb; replace B102 := bB B102 hb; replace B106 := bB B106 hb; replace HB := bS HB hb; clear HO_5 HO145; have HO_5 := n0_; have HO145 := n1_; clear n0_ n1_ hb ho63
   refine hK.out _ _ (cz2 B106.out) (fun hHeld => ?_)
   clear hK K
   refine nm 44 ?_
   refine oz 4 48 [7, 1, 3, 2] HT_ fun K hK => ?_
   refine Kd.R_append_rows_step k28 (w0 := w) w.heap.size (by rfl) (.tmp 44) (.tmp 47) 64 28 (.agg #[(.int .i64 0), (.int .i64 0)]) 16 rfl Try.underlying64 info28 rfl (by decide) (by omega) v134 y133 y136 _ _ _ (fun k_ => some k_ ≠ (.slice Ao19 x5_2.length co19 : Value).ownBlock ∧ some k_ ≠ (v144 : Value).ownBlock ∧ k_ ≠ g106) (fun _ => False) rfl rfl ?aO ?aR (fun _ _ h => h) (fun _ h => h.elim) ?aF ?aB ?aS ?aL ?_
   (case aR => repeat (first | exact (pC HR139.out) | (with_reducible refine Kd.C_alloc ?_ _) | (with_reducible refine Kd.C_drewN ?_ _) | (with_reducible refine Kd.C_drew ?_)))
   (case aB => exact (pS HB.out))
   (case aF => exact (fun k_ hk => ⟨Kd.fresh' (Kd.R_lt (pR HO_5.out)) k_ hk, Kd.fresh' (Kd.R_lt (pR HO145.out)) k_ hk, Kd.freshB (g := g106) (o := .cells #[.int .i64 x7_2, .int .i64 x6_1] 28 (0, 0)) (pB B106.out) k_ hk⟩))
   (case aO => exact (pR (rP HO135.out)))
   (case aS => exact (below_size (pS HB.out)))
   (case aL => have := LMc51.out; omega)
   intro v141 w64 ho hb hg hat
   rw [← Ny140.out] at ho
   have n0_ := aK (Kd.R_after (ok := (fun k_ => some k_ ≠ (v144 : Value).ownBlock ∧ k_ ≠ g106)) (pR (rP HO_5.out)) hg hat)
   replace B101 := aK (blk_grown (pB B101.out) hg (Kd.R_ne HO135.out B101.out (by decide)))
   replace B102 := aK (blk_grown (pB B102.out) hg (Kd.R_ne HO135.out B102.out (by decide)))
   replace B106 := aK (blk_grown (pB B106.out) hg (Kd.R_away HO135.out (fun _ hk => hk.2)))
   replace HO145 := aK (Kd.R_after (ok := (fun k_ => some k_ ≠ (.slice Ao19 x5_2.length co19 : Value).ownBlock ∧ k_ ≠ g106)) (pR (rP HO145.out)) hg hat)
   replace HB := aK (hb)
   replace HR139 := aK ((show Kd.C k28 w64 Ao19 y136.length y136 from by rw [Ny136.out]; exact Kd.C_take (m := (x9_3 : Int).toNat) ((Kd.R_reads' (Kd.R_after (ok := (fun k_ => some k_ ≠ (v144 : Value).ownBlock ∧ k_ ≠ g106)) (pR (rP HO_5.out)) hg hat)).2.2) KL58.out))
   replace HR152 := aK ((show Kd.C k28 w64 A59 y149.length y149 from by rw [Ny149.out, KA59.out]; exact Kd.C_drop (m := (x9_3 : Int).toNat) (c := co19) ((Kd.R_reads' (Kd.R_after (ok := (fun k_ => some k_ ≠ (v144 : Value).ownBlock ∧ k_ ≠ g106)) (pR (rP HO_5.out)) hg hat)).2.2) KL59.out ((Kd.R_reads' (Kd.R_after (ok := (fun k_ => some k_ ≠ (v144 : Value).ownBlock ∧ k_ ≠ g106)) (pR (rP HO_5.out)) hg hat)).2.1)))
   have HO142 := aK (ho); clear HO_5 HO135; have HO_5 := n0_; clear n0_ ho hb hg hat
   refine hK.out _ _ (cz2 B106.out) (fun hHeld => ?_)
   clear hK K
   refine nm 48 ?_
   exact norm_ (by simp only [putAll, Act.put, List.setIfInBounds_toArray, List.set_cons_zero, List.set_cons_succ]) (hCont (v134, v141, v144) _ ⟨hHeld, (pR (rP HO142.out)), (pR (rP HO145.out)), (pR (rP HO_5.out)), (pB B101.out), (pB B102.out), (pB B106.out), (pS HB.out)⟩)
  rintro ⟨v134, v141, v144⟩ w65 ⟨hS_, h0_, h1_, h2_, h3_, h4_, h5_, h6_⟩
  have n0_ : Aside0 (Kd.R k28 28 w65 w.heap.size (fun k_ => some k_ ≠ (v144 : Value).ownBlock ∧ some k_ ≠ (.slice Ao19 x5_2.length co19 : Value).ownBlock ∧ k_ ≠ g106) v141 y140) := ⟨h0_⟩
  have n1_ : Aside0 (Kd.R k28 28 w65 w.heap.size (fun k_ => some k_ ≠ (v141 : Value).ownBlock ∧ some k_ ≠ (.slice Ao19 x5_2.length co19 : Value).ownBlock ∧ k_ ≠ g106) v144 y143) := ⟨h1_⟩
  replace HO_5 : Aside0 (Kd.R k28 28 w65 w.heap.size (fun k_ => some k_ ≠ (v141 : Value).ownBlock ∧ some k_ ≠ (v144 : Value).ownBlock ∧ k_ ≠ g106) (.slice Ao19 x5_2.length co19) x5_2) := ⟨h2_⟩
  replace B101 : Aside0 (w65.heap[g101]? = some (.cells #[.int .i64 a0_0, .int .i64 a0_1, .slice A0_2 l0_2.length c0_2] 26 (0, 0))) := ⟨h3_⟩
  replace B102 : Aside0 (w65.heap[g102]? = some (.cells #[.int .i64 a1_0, .int .i64 a1_1, .slice A1_2 l1_2.length c1_2] 26 (0, 0))) := ⟨h4_⟩
  replace B106 : Aside0 (w65.heap[g106]? = some (.cells #[.int .i64 x7_2, .int .i64 x6_1] 28 (0, 0))) := ⟨h5_⟩
  replace HB : Aside0 (Below w.heap.size w w65) := ⟨h6_⟩
  clear h0_ h1_ h2_ h3_ h4_ h5_ h6_; have HO142 := n0_; have HO145 := n1_; clear n0_ n1_
  have hHeld : w65.cell? ⟨g106, 0, none⟩ = some (.int .i64 x7_2) ∧ w65.cell? ⟨g106, 1, none⟩ = some (.int .i64 x6_1) := hS_
  have HR139 := aK (show Kd.C k28 _ Ao19 y136.length y136 from by rw [Ny136.out]; exact Kd.C_take (m := (x9_3 : Int).toNat) ((Kd.R_reads' HO_5.out).2.2) KL58.out)
  have HR152 := aK (show Kd.C k28 _ A59 y149.length y149 from by rw [Ny149.out, KA59.out]; exact Kd.C_drop (m := (x9_3 : Int).toNat) (c := co19) ((Kd.R_reads' HO_5.out).2.2) KL59.out ((Kd.R_reads' HO_5.out).2.1))
  obtain ⟨Ao67, co67, eo67⟩ := Kd.R_slice HO145.out
  (first | subst eo67 | (obtain ⟨f4_, f5_⟩ := sI eo67; subst f4_; subst f5_))
  refine norm_ (a' := ?_) ?_ ?_
  rotate_left
  ·
   simp only [putAll, Act.put, List.setIfInBounds_toArray, List.set_cons_zero, List.set_cons_succ]
   rfl
  refine oz 7 51 [11, 2] HT_ fun K hK => ?_
  refine Kd.R_append_rows_step k28 (w0 := w) w.heap.size (by rfl) (.tmp 48) (.tmp 50) 64 28 (.agg #[(.int .i64 0), (.int .i64 0)]) 16 rfl Try.underlying64 info28 rfl (by decide) (by omega) v141 y140 y143 _ _ _ (fun k_ => some k_ ≠ (.slice Ao19 x5_2.length co19 : Value).ownBlock ∧ some k_ ≠ (.slice Ao67 y143.length co67 : Value).ownBlock ∧ k_ ≠ g106) (fun _ => False) rfl rfl ?aO ?aR (fun _ _ h => h) (fun _ h => h.elim) ?aF ?aB ?aS ?aL ?_
  (case aR => exact pC (Kd.R_reads' HO145.out).2.2)
  (case aB => exact (pS HB.out))
  (case aF => exact (fun k_ hk => ⟨Kd.fresh' (Kd.R_lt (pR HO_5.out)) k_ hk, Kd.fresh' (Kd.R_lt (pR HO145.out)) k_ hk, Kd.freshB (g := g106) (o := .cells #[.int .i64 x7_2, .int .i64 x6_1] 28 (0, 0)) (pB B106.out) k_ hk⟩))
  (case aO => exact (pR (rP HO142.out)))
  (case aS => exact (below_size (pS HB.out)))
  (case aL => have := LMc52.out; omega)
  intro v147 w66 ho hb hg hat
  rw [← Ny146.out] at ho
  have n0_ := aK (Kd.R_after (ok := (fun k_ => some k_ ≠ (.slice Ao67 y143.length co67 : Value).ownBlock ∧ k_ ≠ g106)) (pR (rP HO_5.out)) hg hat)
  replace B101 := aK (blk_grown (pB B101.out) hg (Kd.R_ne HO142.out B101.out (by decide)))
  replace B102 := aK (blk_grown (pB B102.out) hg (Kd.R_ne HO142.out B102.out (by decide)))
  replace B106 := aK (blk_grown (pB B106.out) hg (Kd.R_away HO142.out (fun _ hk => hk.2.2)))
  replace HO145 := aK (Kd.R_after (ok := (fun k_ => some k_ ≠ (.slice Ao19 x5_2.length co19 : Value).ownBlock ∧ k_ ≠ g106)) (pR (rP HO145.out)) hg hat)
  replace HB := aK (hb)
  replace HR139 := aK ((show Kd.C k28 w66 Ao19 y136.length y136 from by rw [Ny136.out]; exact Kd.C_take (m := (x9_3 : Int).toNat) ((Kd.R_reads' (Kd.R_after (ok := (fun k_ => some k_ ≠ (.slice Ao67 y143.length co67 : Value).ownBlock ∧ k_ ≠ g106)) (pR (rP HO_5.out)) hg hat)).2.2) KL58.out))
  replace HR152 := aK ((show Kd.C k28 w66 A59 y149.length y149 from by rw [Ny149.out, KA59.out]; exact Kd.C_drop (m := (x9_3 : Int).toNat) (c := co19) ((Kd.R_reads' (Kd.R_after (ok := (fun k_ => some k_ ≠ (.slice Ao67 y143.length co67 : Value).ownBlock ∧ k_ ≠ g106)) (pR (rP HO_5.out)) hg hat)).2.2) KL59.out ((Kd.R_reads' (Kd.R_after (ok := (fun k_ => some k_ ≠ (.slice Ao67 y143.length co67 : Value).ownBlock ∧ k_ ≠ g106)) (pR (rP HO_5.out)) hg hat)).2.1)))
  have HO148 := aK (ho); clear HO_5 HO142; have HO_5 := n0_; clear n0_ ho hb hg hat
  refine hK.out _ _ (cz2 B106.out) (fun hHeld => ?_)
  clear hK K
  refine nm 51 ?_
  refine oz 11 55 [12, 1] HT_ fun K hK => ?_
  refine Kd.R_append_rows_step k28 (w0 := w) w.heap.size (by rfl) (.tmp 51) (.tmp 54) 64 28 (.agg #[(.int .i64 0), (.int .i64 0)]) 16 rfl Try.underlying64 info28 rfl (by decide) (by omega) v147 y146 y149 _ _ _ (fun k_ => some k_ ≠ (.slice Ao19 x5_2.length co19 : Value).ownBlock ∧ some k_ ≠ (.slice Ao67 y143.length co67 : Value).ownBlock ∧ k_ ≠ g106) (fun _ => False) rfl rfl ?aO ?aR (fun _ _ h => h) (fun _ h => h.elim) ?aF ?aB ?aS ?aL ?_
  (case aR => repeat (first | exact (pC HR152.out) | (with_reducible refine Kd.C_alloc ?_ _) | (with_reducible refine Kd.C_drewN ?_ _) | (with_reducible refine Kd.C_drew ?_)))
  (case aB => exact (pS HB.out))
  (case aF => exact (fun k_ hk => ⟨Kd.fresh' (Kd.R_lt (pR HO_5.out)) k_ hk, Kd.fresh' (Kd.R_lt (pR HO145.out)) k_ hk, Kd.freshB (g := g106) (o := .cells #[.int .i64 x7_2, .int .i64 x6_1] 28 (0, 0)) (pB B106.out) k_ hk⟩))
  (case aO => exact (pR HO148.out))
  (case aS => exact (below_size (pS HB.out)))
  (case aL => have := LMc55.out; omega)
  intro v154 w68 ho hb hg hat
  rw [← Ny153.out] at ho
  have n0_ := aK (Kd.R_after (ok := (fun k_ => some k_ ≠ (.slice Ao67 y143.length co67 : Value).ownBlock ∧ k_ ≠ g106)) (pR HO_5.out) hg hat)
  replace B101 := aK (blk_grown (pB B101.out) hg (Kd.R_ne HO148.out B101.out (by decide)))
  replace B102 := aK (blk_grown (pB B102.out) hg (Kd.R_ne HO148.out B102.out (by decide)))
  replace B106 := aK (blk_grown (pB B106.out) hg (Kd.R_away HO148.out (fun _ hk => hk.2.2)))
  replace HO145 := aK (Kd.R_after (ok := (fun k_ => some k_ ≠ (.slice Ao19 x5_2.length co19 : Value).ownBlock ∧ k_ ≠ g106)) (pR HO145.out) hg hat)
  replace HB := aK (hb)
  replace HR139 := aK ((show Kd.C k28 w68 Ao19 y136.length y136 from by rw [Ny136.out]; exact Kd.C_take (m := (x9_3 : Int).toNat) ((Kd.R_reads' (Kd.R_after (ok := (fun k_ => some k_ ≠ (.slice Ao67 y143.length co67 : Value).ownBlock ∧ k_ ≠ g106)) (pR HO_5.out) hg hat)).2.2) KL58.out))
  replace HR152 := aK ((show Kd.C k28 w68 A59 y149.length y149 from by rw [Ny149.out, KA59.out]; exact Kd.C_drop (m := (x9_3 : Int).toNat) (c := co19) ((Kd.R_reads' (Kd.R_after (ok := (fun k_ => some k_ ≠ (.slice Ao67 y143.length co67 : Value).ownBlock ∧ k_ ≠ g106)) (pR HO_5.out) hg hat)).2.2) KL59.out ((Kd.R_reads' (Kd.R_after (ok := (fun k_ => some k_ ≠ (.slice Ao67 y143.length co67 : Value).ownBlock ∧ k_ ≠ g106)) (pR HO_5.out) hg hat)).2.1)))
  have HO155 := aK (ho); clear HO_5 HO148; have HO_5 := n0_; clear n0_ ho hb hg hat
  refine hK.out _ _ (cz2 B106.out) (fun hHeld => ?_)
  clear hK K
  refine nm 55 ?_
  refine pz 12 5 [13, 0] HT_ ?_
  refine done_ (done_of HT_.out (by kernel_rfl)) ?_
  try go_wp2
  go_roundg k3
  case measure => have := HK1.out; have := HK2.out; have := HK3.out; omega
  case rel => exact ⟨(y153), (wrap64 (x7_2 + 1)), (by first | rfl | (simp; done) | (simp [*]; done)), H', ⟨by have := HK1.out; have := HK2.out; have := HK3.out; omega⟩, ⟨pR (Kd.R_mono HO155.out (fun _ hk => trivial))⟩, ⟨by refine bk ?_; exact B101.out⟩, ⟨by refine bk ?_; exact B102.out⟩, ⟨pT HB.out⟩⟩
 rw [if_pos c20] at H
 have c20b0 : decide (0 < x9_3) = true := decide_eq_true c20
 clear c20
 obtain ⟨ji21, hji21⟩ : ∃ j_ : Int, (wrap64 (x9_3 - 1)) = j_ := ⟨_, rfl⟩
 replace H : (if 0 ≤ (ji21) then (if (ji21) < (x5_2.length : Int) then ((spec_l11Better.f k3 a0_0 a0_1 l0_2 a1_0 a1_1 l1_2 x7_2 x6_1 ((rd_T28 x5_2 (ji21)).f0) ((rd_T28 x5_2 (ji21)).f1)).bind fun t109 => (if t109 = true then (spec_l11Rank.l2 k3 x5_2 x6_1 x7_2 ji21 a0_0 a0_1 l0_2 a1_0 a1_1 l1_2 x7_2 x6_1) else ((some (([] : List (S28)) : List (S28))).bind fun y110 => (if 0 ≤ x9_3 then (if x9_3 ≤ (x5_2.length : Int) then ((some (x5_2.take (x9_3 : Int).toNat : List (S28))).bind fun y113 => (if y110.length + y113.length < 8796093022208 then ((some (y110 ++ y113 : List (S28))).bind fun y117 => ((some (([(⟨x7_2, x6_1⟩ : S28)] : List (S28)) : List (S28))).bind fun y120 => (if y117.length + y120.length < 8796093022208 then ((some (y117 ++ y120 : List (S28))).bind fun y123 => ((some (x5_2.drop (x9_3 : Int).toNat : List (S28))).bind fun y126 => (if y123.length + y126.length < 8796093022208 then (spec_l11Rank.l1 k3 (y123 ++ y126) x6_1 (wrap64 (x7_2 + 1)) a0_0 a0_1 l0_2 a1_0 a1_1 l1_2) else (none)))) else (none)))) else (none))) else (none)) else (none))))) else (none)) else (none)) = some r := by first | (rw [hji21] at H; exact H) | (simp only [hji21] at H ⊢; exact H)
 have hji21w : (IntKind.i64.wrap (x9_3 - 1)) = ji21 := (i64_w _).trans hji21
 by_cases c22 : 0 ≤ (ji21)
 rotate_left
 ·
  rw [if_neg c22] at H
  exact absurd H (by simp)
 rw [if_pos c22] at H
 have c22b0 : decide (0 ≤ (ji21)) = true := decide_eq_true c22
 clear c22
 by_cases c23 : (ji21) < (x5_2.length : Int)
 rotate_left
 ·
  rw [if_neg c23] at H
  exact absurd H (by simp)
 rw [if_pos c23] at H
 have c23b0 : decide ((ji21) < (x5_2.length : Int)) = true := decide_eq_true c23
 clear c23
 replace H := oA H
 obtain ⟨t109, A24, H⟩ := H
 replace H : (if t109 = true then (spec_l11Rank.l2 k3 x5_2 x6_1 x7_2 ji21 a0_0 a0_1 l0_2 a1_0 a1_1 l1_2 x7_2 x6_1) else ((some (([] : List (S28)) : List (S28))).bind fun y110 => (if 0 ≤ x9_3 then (if x9_3 ≤ (x5_2.length : Int) then ((some (x5_2.take (x9_3 : Int).toNat : List (S28))).bind fun y113 => (if y110.length + y113.length < 8796093022208 then ((some (y110 ++ y113 : List (S28))).bind fun y117 => ((some (([(⟨x7_2, x6_1⟩ : S28)] : List (S28)) : List (S28))).bind fun y120 => (if y117.length + y120.length < 8796093022208 then ((some (y117 ++ y120 : List (S28))).bind fun y123 => ((some (x5_2.drop (x9_3 : Int).toNat : List (S28))).bind fun y126 => (if y123.length + y126.length < 8796093022208 then (spec_l11Rank.l1 k3 (y123 ++ y126) x6_1 (wrap64 (x7_2 + 1)) a0_0 a0_1 l0_2 a1_0 a1_1 l1_2) else (none)))) else (none)))) else (none))) else (none)) else (none)))) = some r := H
 by_cases c25 : t109 = true
 ·
  subst c25
  have H1 : (spec_l11Rank.l2 k3 x5_2 x6_1 x7_2 ji21 a0_0 a0_1 l0_2 a1_0 a1_1 l1_2 x7_2 x6_1) = some r := by rw [if_pos rfl] at H; exact H
  clear H; have H := H1; clear H1; have H' := aK H; clear H
  try go_wp2
  replace HO_5 := rdw HO_5; replace B101 := bD B101; replace B102 := bD B102; replace B106 := bD B106; replace HB := aK (below_drew1 HB.out)
  have p108 : 0 ≤ ((ji21) : Int) := dA
  have q108 : (ji21) < (x5_2.length : Int) := dA
  obtain ⟨ad108, e108, hx108_0, hx108_1⟩ := at_T28 (Kd.R_reads' HO_5.out).2.2 (ji21) p108 q108; cases e108; replace p108 := eq_true p108; replace q108 := eq_true q108
  refine start_ (n := 13) (S := fun w' => w'.cell? ⟨g101, 0, none⟩ = some (.int .i64 a0_0) ∧ w'.cell? ⟨g101, 1, none⟩ = some (.int .i64 a0_1) ∧ w'.cell? ⟨g101, 2, none⟩ = some (.slice A0_2 l0_2.length c0_2) ∧ w'.cell? ⟨g102, 0, none⟩ = some (.int .i64 a1_0) ∧ w'.cell? ⟨g102, 1, none⟩ = some (.int .i64 a1_1) ∧ w'.cell? ⟨g102, 2, none⟩ = some (.slice A1_2 l1_2.length c1_2) ∧ w'.cell? ⟨g106, 0, none⟩ = some (.int .i64 x7_2) ∧ w'.cell? ⟨g106, 1, none⟩ = some (.int .i64 x6_1) ∧ w'.cell? (ad108.add (((ji21)).toNat * 2)) = some (.int .i64 ((rd_T28 x5_2 (ji21)).f0)) ∧ w'.cell? ⟨(ad108.add (((ji21)).toNat * 2)).block, (ad108.add (((ji21)).toNat * 2)).off + 1, none⟩ = some (.int .i64 ((rd_T28 x5_2 (ji21)).f1))) (ds := []) (bz [0, 13]) (by kernel_rfl) rfl rfl (cj3 B101.out (cj3 B102.out (cj2 B106.out ⟨hx108_0, hx108_1⟩))) (fun hHeld => ?_); refine with_tabW spec_l11Rank.tab11 spec_l11Rank.bits11 (fun HT_ HW_ => ?_)
  generalize wr.drew = w26 at HO_5 B101 B102 B106 HB hx108_0 hx108_1 hHeld ⊢
  refine pz 0 29 [1, 12] HT_ ?_
  refine pz 1 30 [2, 11] HT_ ?_
  refine pz 2 31 [3, 10] HT_ ?_
  refine pz 6 35 [3, 3, 1, 6] HT_ ?_
  refine pz 7 36 [3, 3, 2, 5] HT_ ?_
  refine pz 8 37 [3, 3, 3, 4] HT_ ?_
  refine pz 9 38 [3, 3, 4, 3] HT_ ?_
  refine tz 3 32 [4, 2, 4, 3] HT_ HW_ rfl (by rintro w' ⟨s0, s1, s2, s3, s4, s5, s6, s7, s8, s9⟩; go_simp; with_reducible rfl) hHeld ?_
  refine tz 4 33 [5, 1, 4, 3] HT_ HW_ rfl (by rintro w' ⟨s0, s1, s2, s3, s4, s5, s6, s7, s8, s9⟩; go_simp; with_reducible rfl) hHeld ?_
  refine tz 5 34 [10, 3] HT_ HW_ rfl (by rintro w' ⟨s0, s1, s2, s3, s4, s5, s6, s7, s8, s9⟩; go_simp; with_reducible rfl) hHeld ?_
  refine tz 10 39 [11, 2] HT_ HW_ rfl (by rintro w' ⟨s0, s1, s2, s3, s4, s5, s6, s7, s8, s9⟩; go_simp; with_reducible rfl) hHeld ?_
  refine oz 11 40 [12, 1] HT_ fun K hK => ?_
  refine goes_ Try.func67 (by kernel_rfl) rfl #[.agg #[.int .i64 a0_0, .int .i64 a0_1, .slice A0_2 l0_2.length c0_2], .agg #[.int .i64 a1_0, .int .i64 a1_1, .slice A1_2 l1_2.length c1_2], .agg #[.int .i64 x7_2, .int .i64 x6_1], .agg #[.int .i64 ((rd_T28 x5_2 (ji21)).f0), .int .i64 ((rd_T28 x5_2 (ji21)).f1)]] (by rfl) rfl rfl (by (try simp only [List.map_toArray, List.map_cons, List.map_nil]); first | done | (simp only [hji21]; rfl) | rfl | (simp only [List.length_drop, List.length_take]; rfl)) ?_
  with_reducible refine (spec_l11Better.calls k3 a0_0 a0_1 _ _ l0_2 a1_0 a1_1 _ _ l1_2 x7_2 x6_1 ((rd_T28 x5_2 (ji21)).f0) ((rd_T28 x5_2 (ji21)).f1) true _ ?side1 ?side2 ?side3 ?side4 A24.out).mono ?_
  (case side1 => exact cB HR0_2 HB)
  (case side2 => exact HC0_2.out)
  (case side3 => exact cB HR1_2 HB)
  (case side4 => exact HC1_2.out)
  rintro e w27 ⟨rfl, hb⟩
  have HS8_ := hs hb hHeld.2.2.2.2.2.2.2.2.1; have HS9_ := hs hb hHeld.2.2.2.2.2.2.2.2.2
  refine ⟨_, rfl, ?_⟩
  replace HO_5 := rb HO_5 hb; replace B101 := bB B101 hb; replace B102 := bB B102 hb; replace B106 := bB B106 hb; replace HB := bS HB hb; clear hb
  refine hK.out _ _ (cj3 B101.out (cj3 B102.out (cj2 B106.out ⟨HS8_, HS9_⟩))) (fun hHeld => ?_)
  clear hK K
  refine nm 40 ?_
  refine pz 12 41 [13, 0] HT_ ?_
  refine done_ (done_of HT_.out (by kernel_rfl)) ?_
  try go_wp2
  go_roundg k3
  case measure => have := HK1.out; have := HK2.out; have := HK3.out; omega
  case rel => exact ⟨(ji21), (by first | rfl | (simp; done) | (simp only [← hji21] <;> (first | rfl | simp)) | (simp [*]; done)), H', ⟨by have := HK1.out; have := HK2.out; have := HK3.out; omega⟩, ⟨pR HO_5.out⟩, ⟨by refine bk ?_; exact B101.out⟩, ⟨by refine bk ?_; exact B102.out⟩, ⟨by refine bk ?_; exact B106.out⟩, ⟨pT HB.out⟩⟩
 replace c25 := Bool.eq_false_iff.mpr c25
 subst c25
 have H1 : ((some (([] : List (S28)) : List (S28))).bind fun y110 => (if 0 ≤ x9_3 then (if x9_3 ≤ (x5_2.length : Int) then ((some (x5_2.take (x9_3 : Int).toNat : List (S28))).bind fun y113 => (if y110.length + y113.length < 8796093022208 then ((some (y110 ++ y113 : List (S28))).bind fun y117 => ((some (([(⟨x7_2, x6_1⟩ : S28)] : List (S28)) : List (S28))).bind fun y120 => (if y117.length + y120.length < 8796093022208 then ((some (y117 ++ y120 : List (S28))).bind fun y123 => ((some (x5_2.drop (x9_3 : Int).toNat : List (S28))).bind fun y126 => (if y123.length + y126.length < 8796093022208 then (spec_l11Rank.l1 k3 (y123 ++ y126) x6_1 (wrap64 (x7_2 + 1)) a0_0 a0_1 l0_2 a1_0 a1_1 l1_2) else (none)))) else (none)))) else (none))) else (none)) else (none))) = some r := by rw [if_neg (show ¬ (false = true) by decide)] at H; exact H
 clear H
 have H := H1
 clear H1
 obtain ⟨y110, hy110⟩ : ∃ y_ : List (S28), y_ = (([] : List (S28))) := ⟨_, rfl⟩
 replace H : (if 0 ≤ x9_3 then (if x9_3 ≤ (x5_2.length : Int) then ((some (x5_2.take (x9_3 : Int).toNat : List (S28))).bind fun y113 => (if y110.length + y113.length < 8796093022208 then ((some (y110 ++ y113 : List (S28))).bind fun y117 => ((some (([(⟨x7_2, x6_1⟩ : S28)] : List (S28)) : List (S28))).bind fun y120 => (if y117.length + y120.length < 8796093022208 then ((some (y117 ++ y120 : List (S28))).bind fun y123 => ((some (x5_2.drop (x9_3 : Int).toNat : List (S28))).bind fun y126 => (if y123.length + y126.length < 8796093022208 then (spec_l11Rank.l1 k3 (y123 ++ y126) x6_1 (wrap64 (x7_2 + 1)) a0_0 a0_1 l0_2 a1_0 a1_1 l1_2) else (none)))) else (none)))) else (none))) else (none)) else (none)) = some r := by first | (rw [hy110]; first | with_reducible exact H | with_reducible exact (oS H :)) | with_reducible exact (oS H :) | with_reducible exact H | exact H
 have Ny110 := aK hy110
 clear hy110
 by_cases c28 : 0 ≤ x9_3
 rotate_left
 ·
  rw [if_neg c28] at H
  exact absurd H (by simp)
 rw [if_pos c28] at H
 have c28b0 := eq_true c28
 have c28b1 : decide (0 ≤ x9_3) = true := decide_eq_true c28
 clear c28
 by_cases c29 : x9_3 ≤ (x5_2.length : Int)
 rotate_left
 ·
  rw [if_neg c29] at H
  exact absurd H (by simp)
 rw [if_pos c29] at H
 have c29b0 := eq_true c29
 have c29b1 : decide (x9_3 ≤ (x5_2.length : Int)) = true := decide_eq_true c29
 clear c29
 obtain ⟨y113, hy113⟩ : ∃ y_ : List (S28), y_ = (x5_2.take (x9_3 : Int).toNat) := ⟨_, rfl⟩
 replace H : (if y110.length + y113.length < 8796093022208 then ((some (y110 ++ y113 : List (S28))).bind fun y117 => ((some (([(⟨x7_2, x6_1⟩ : S28)] : List (S28)) : List (S28))).bind fun y120 => (if y117.length + y120.length < 8796093022208 then ((some (y117 ++ y120 : List (S28))).bind fun y123 => ((some (x5_2.drop (x9_3 : Int).toNat : List (S28))).bind fun y126 => (if y123.length + y126.length < 8796093022208 then (spec_l11Rank.l1 k3 (y123 ++ y126) x6_1 (wrap64 (x7_2 + 1)) a0_0 a0_1 l0_2 a1_0 a1_1 l1_2) else (none)))) else (none)))) else (none)) = some r := by first | (rw [hy113]; first | with_reducible exact H | with_reducible exact (oS H :)) | with_reducible exact (oS H :) | with_reducible exact H | exact H
 have Ny113 := aK hy113
 clear hy113
 by_cases c30 : y110.length + y113.length < 8796093022208
 rotate_left
 ·
  rw [if_neg c30] at H
  exact absurd H (by simp)
 rw [if_pos c30] at H
 have LMc30 := aK c30
 clear c30
 obtain ⟨y117, hy117⟩ : ∃ y_ : List (S28), y_ = (y110 ++ y113) := ⟨_, rfl⟩
 replace H : ((some (([(⟨x7_2, x6_1⟩ : S28)] : List (S28)) : List (S28))).bind fun y120 => (if y117.length + y120.length < 8796093022208 then ((some (y117 ++ y120 : List (S28))).bind fun y123 => ((some (x5_2.drop (x9_3 : Int).toNat : List (S28))).bind fun y126 => (if y123.length + y126.length < 8796093022208 then (spec_l11Rank.l1 k3 (y123 ++ y126) x6_1 (wrap64 (x7_2 + 1)) a0_0 a0_1 l0_2 a1_0 a1_1 l1_2) else (none)))) else (none))) = some r := by first | (rw [hy117]; first | with_reducible exact H | with_reducible exact (oS H :)) | with_reducible exact (oS H :) | with_reducible exact H | exact H
 have Ny117 := aK hy117
 clear hy117
 obtain ⟨y120, hy120⟩ : ∃ y_ : List (S28), y_ = (([(⟨x7_2, x6_1⟩ : S28)] : List (S28))) := ⟨_, rfl⟩
 replace H : (if y117.length + y120.length < 8796093022208 then ((some (y117 ++ y120 : List (S28))).bind fun y123 => ((some (x5_2.drop (x9_3 : Int).toNat : List (S28))).bind fun y126 => (if y123.length + y126.length < 8796093022208 then (spec_l11Rank.l1 k3 (y123 ++ y126) x6_1 (wrap64 (x7_2 + 1)) a0_0 a0_1 l0_2 a1_0 a1_1 l1_2) else (none)))) else (none)) = some r := by first | (rw [hy120]; first | with_reducible exact H | with_reducible exact (oS H :)) | with_reducible exact (oS H :) | with_reducible exact H | exact H
 have Ny120 := aK hy120
 clear hy120
 by_cases c31 : y117.length + y120.length < 8796093022208
 rotate_left
 ·
  rw [if_neg c31] at H
  exact absurd H (by simp)
 rw [if_pos c31] at H
 have LMc31 := aK c31
 clear c31
 obtain ⟨y123, hy123⟩ : ∃ y_ : List (S28), y_ = (y117 ++ y120) := ⟨_, rfl⟩
 replace H : ((some (x5_2.drop (x9_3 : Int).toNat : List (S28))).bind fun y126 => (if y123.length + y126.length < 8796093022208 then (spec_l11Rank.l1 k3 (y123 ++ y126) x6_1 (wrap64 (x7_2 + 1)) a0_0 a0_1 l0_2 a1_0 a1_1 l1_2) else (none))) = some r := by first | (rw [hy123]; first | with_reducible exact H | with_reducible exact (oS H :)) | with_reducible exact (oS H :) | with_reducible exact H | exact H
 have Ny123 := aK hy123
 clear hy123
 have c32b0 := eq_true (dA : 0 ≤ x9_3)
 have c33b0 := eq_true (dA : x9_3 ≤ (x5_2.length : Int))
 obtain ⟨y126, hy126⟩ : ∃ y_ : List (S28), y_ = (x5_2.drop (x9_3 : Int).toNat) := ⟨_, rfl⟩
 replace H : (if y123.length + y126.length < 8796093022208 then (spec_l11Rank.l1 k3 (y123 ++ y126) x6_1 (wrap64 (x7_2 + 1)) a0_0 a0_1 l0_2 a1_0 a1_1 l1_2) else (none)) = some r := by first | (rw [hy126]; first | with_reducible exact H | with_reducible exact (oS H :)) | with_reducible exact (oS H :) | with_reducible exact H | exact H
 have Ny126 := aK hy126
 clear hy126
 by_cases c34 : y123.length + y126.length < 8796093022208
 rotate_left
 ·
  rw [if_neg c34] at H
  exact absurd H (by simp)
 rw [if_pos c34] at H
 have LMc34 := aK c34
 clear c34
 obtain ⟨y130, hy130⟩ : ∃ y_ : List (S28), y_ = (y123 ++ y126) := ⟨_, rfl⟩
 replace H : (spec_l11Rank.l1 k3 y130 x6_1 (wrap64 (x7_2 + 1)) a0_0 a0_1 l0_2 a1_0 a1_1 l1_2) = some r := by first | (rw [hy130]; first | with_reducible exact H | with_reducible exact (oS H :)) | with_reducible exact (oS H :) | with_reducible exact H | exact H
 have Ny130 := aK hy130
 clear hy130
 have H' := aK H
 clear H
 try go_wp2
 replace HO_5 := rdw HO_5
 replace B101 := bD B101
 replace B102 := bD B102
 replace B106 := bD B106
 replace HB := aK (below_drew1 HB.out)
 have p108 : 0 ≤ ((ji21) : Int) := dA
 have q108 : (ji21) < (x5_2.length : Int) := dA
 obtain ⟨ad108, e108, hx108_0, hx108_1⟩ := at_T28 (Kd.R_reads' HO_5.out).2.2 (ji21) p108 q108
 cases e108
 replace p108 := eq_true p108
 replace q108 := eq_true q108
 refine start_ (n := 13) (S := fun w' => w'.cell? ⟨g101, 0, none⟩ = some (.int .i64 a0_0) ∧ w'.cell? ⟨g101, 1, none⟩ = some (.int .i64 a0_1) ∧ w'.cell? ⟨g101, 2, none⟩ = some (.slice A0_2 l0_2.length c0_2) ∧ w'.cell? ⟨g102, 0, none⟩ = some (.int .i64 a1_0) ∧ w'.cell? ⟨g102, 1, none⟩ = some (.int .i64 a1_1) ∧ w'.cell? ⟨g102, 2, none⟩ = some (.slice A1_2 l1_2.length c1_2) ∧ w'.cell? ⟨g106, 0, none⟩ = some (.int .i64 x7_2) ∧ w'.cell? ⟨g106, 1, none⟩ = some (.int .i64 x6_1) ∧ w'.cell? (ad108.add (((ji21)).toNat * 2)) = some (.int .i64 ((rd_T28 x5_2 (ji21)).f0)) ∧ w'.cell? ⟨(ad108.add (((ji21)).toNat * 2)).block, (ad108.add (((ji21)).toNat * 2)).off + 1, none⟩ = some (.int .i64 ((rd_T28 x5_2 (ji21)).f1))) (ds := []) (bz [0, 13]) (by kernel_rfl) rfl rfl (cj3 B101.out (cj3 B102.out (cj2 B106.out ⟨hx108_0, hx108_1⟩))) (fun hHeld => ?_); refine with_tabW spec_l11Rank.tab11 spec_l11Rank.bits11 (fun HT_ HW_ => ?_)
 generalize wr.drew = w35 at HO_5 B101 B102 B106 HB hx108_0 hx108_1 hHeld ⊢
 refine pz 0 29 [1, 12] HT_ ?_
 refine pz 1 30 [2, 11] HT_ ?_
 refine pz 2 31 [3, 10] HT_ ?_
 refine pz 6 35 [3, 3, 1, 6] HT_ ?_
 refine pz 7 36 [3, 3, 2, 5] HT_ ?_
 refine pz 8 37 [3, 3, 3, 4] HT_ ?_
 refine pz 9 38 [3, 3, 4, 3] HT_ ?_
 refine tz 3 32 [4, 2, 4, 3] HT_ HW_ rfl (by rintro w' ⟨s0, s1, s2, s3, s4, s5, s6, s7, s8, s9⟩; go_simp; with_reducible rfl) hHeld ?_
 refine tz 4 33 [5, 1, 4, 3] HT_ HW_ rfl (by rintro w' ⟨s0, s1, s2, s3, s4, s5, s6, s7, s8, s9⟩; go_simp; with_reducible rfl) hHeld ?_
 refine tz 5 34 [10, 3] HT_ HW_ rfl (by rintro w' ⟨s0, s1, s2, s3, s4, s5, s6, s7, s8, s9⟩; go_simp; with_reducible rfl) hHeld ?_
 refine tz 10 39 [11, 2] HT_ HW_ rfl (by rintro w' ⟨s0, s1, s2, s3, s4, s5, s6, s7, s8, s9⟩; go_simp; with_reducible rfl) hHeld ?_
 refine oz 11 40 [12, 1] HT_ fun K hK => ?_
 refine goes_ Try.func67 (by kernel_rfl) rfl #[.agg #[.int .i64 a0_0, .int .i64 a0_1, .slice A0_2 l0_2.length c0_2], .agg #[.int .i64 a1_0, .int .i64 a1_1, .slice A1_2 l1_2.length c1_2], .agg #[.int .i64 x7_2, .int .i64 x6_1], .agg #[.int .i64 ((rd_T28 x5_2 (ji21)).f0), .int .i64 ((rd_T28 x5_2 (ji21)).f1)]] (by rfl) rfl rfl (by (try simp only [List.map_toArray, List.map_cons, List.map_nil]); first | done | (simp only [hji21]; rfl) | rfl | (simp only [List.length_drop, List.length_take]; rfl)) ?_
 with_reducible refine (spec_l11Better.calls k3 a0_0 a0_1 _ _ l0_2 a1_0 a1_1 _ _ l1_2 x7_2 x6_1 ((rd_T28 x5_2 (ji21)).f0) ((rd_T28 x5_2 (ji21)).f1) false _ ?side1 ?side2 ?side3 ?side4 A24.out).mono ?_
 (case side1 => exact cB HR0_2 HB)
 (case side2 => exact HC0_2.out)
 (case side3 => exact cB HR1_2 HB)
 (case side4 => exact HC1_2.out)
 rintro e w36 ⟨rfl, hb⟩
 have HS8_ := hs hb hHeld.2.2.2.2.2.2.2.2.1
 have HS9_ := hs hb hHeld.2.2.2.2.2.2.2.2.2
 refine ⟨_, rfl, ?_⟩
 replace HO_5 := rb HO_5 hb
 replace B101 := bB B101 hb
 replace B102 := bB B102 hb
 replace B106 := bB B106 hb
 replace HB := bS HB hb
 clear hb
 refine hK.out _ _ (cj3 B101.out (cj3 B102.out (cj2 B106.out ⟨HS8_, HS9_⟩))) (fun hHeld => ?_)
 clear hK K
 refine nm 40 ?_
 refine pz 12 41 [13, 0] HT_ ?_
 refine done_ (done_of HT_.out (by kernel_rfl)) ?_
 try go_wp2
 replace HO_5 := rdw HO_5
 replace B101 := bD B101
 replace B102 := bD B102
 replace B106 := bD B106
 replace HB := aK (below_drew1 HB.out)
 have q38 : (x9_3 : Int) ≤ ((x5_2.length : Int) : Int) := dA
 obtain ⟨i038, hi038, _, hsz38, _⟩ := info_parts info28
 have hroom38 : x5_2.length ≤ co19 := (Kd.R_reads' HO_5.out).2.1
 have hC38 : Kd.C k28 _ (some ad108) x5_2.length x5_2 := (Kd.R_reads' HO_5.out).2.2
 have hcut38 := cut_to (P := Try.prog) 64 28 .i64 Try.underlying64 hi038 (some ad108) x5_2.length co19 x9_3 (dA) q38 hroom38
 have hr38 := Kd.C_take (m := (x9_3 : Int).toNat) hC38 (by omega)
 have hy38 : y113.length = (x9_3 : Int).toNat := (by rw [Ny113.out, List.length_take]; omega)
 rw [← Ny113.out] at hr38
 rw [← hy38] at hcut38
 have HR116 := aK hr38
 have HC116 := aK (show y113.length ≤ co19 from by omega)
 clear hr38 hC38 hroom38 hi038 hsz38
 have KY38 := aK hy38
 clear hy38
 have KL38 := aK (show (x9_3 : Int).toNat ≤ x5_2.length from by omega)
 replace q38 := eq_true q38
 have q39 : (x9_3 : Int) ≤ ((x5_2.length : Int) : Int) := dA
 obtain ⟨i039, hi039, _, hsz39, _⟩ := info_parts info28
 have hroom39 : x5_2.length ≤ co19 := (Kd.R_reads' HO_5.out).2.1
 have hC39 : Kd.C k28 _ (some ad108) x5_2.length x5_2 := (Kd.R_reads' HO_5.out).2.2
 have q039 : (0 : Int) ≤ (x9_3 : Int) := dA
 have hcut39 := cut_from (P := Try.prog) 64 28 .i64 Try.underlying64 hi039 2 hsz39 (some ad108) x5_2.length co19 x9_3 q039 q39
 have hr39 := Kd.C_drop (m := (x9_3 : Int).toNat) (c := co19) hC39 (by omega) hroom39
 obtain ⟨A39, hA39⟩ : ∃ A1, A1 = (if co19 = (x9_3 : Int).toNat then (some ad108) else ((some ad108) : Option Addr).map (·.add ((x9_3 : Int).toNat * 2))) := ⟨_, rfl⟩
 obtain ⟨c39, hc39⟩ : ∃ c1, c1 = co19 - (x9_3 : Int).toNat := ⟨_, rfl⟩
 have hy39 : y126.length = x5_2.length - (x9_3 : Int).toNat := (by rw [Ny126.out, List.length_drop] <;> omega)
 rw [show (x5_2).drop (x9_3 : Int).toNat = y126 from Ny126.out.symm] at hr39
 replace hr39 : Kd.C k28 _ A39 y126.length y126 := (by rw [hA39]; exact hr39)
 rw [← hy39, ← hA39, ← hc39] at hcut39
 have HR129 := aK hr39
 have HC129 := aK (show y126.length ≤ c39 from by rw [hy39, hc39]; exact Nat.sub_le_sub_right hroom39 _)
 clear hr39 hC39 hroom39 hi039 hsz39 hc39
 have KY39 := aK hy39
 have KA39 := aK hA39
 clear hy39 hA39
 have KL39 := aK (show (x9_3 : Int).toNat ≤ x5_2.length from by omega)
 replace q39 := eq_true q39
 refine start_ (n := 13) (S := fun w' => w'.cell? ⟨g106, 0, none⟩ = some (.int .i64 x7_2) ∧ w'.cell? ⟨g106, 1, none⟩ = some (.int .i64 x6_1)) (ds := []) (bz [0, 13]) (by kernel_rfl) rfl rfl (cz2 B106.out) (fun hHeld => ?_); refine with_tabW spec_l11Rank.tab13 spec_l11Rank.bits13 (fun HT_ HW_ => ?_)
 generalize w36.drew = w37 at HO_5 B101 B102 B106 HB HR116 HR129 hHeld ⊢
 refine pz 1 45 [0, 1, 1, 11] HT_ ?_
 refine pz 2 46 [0, 1, 2, 10] HT_ ?_
 refine pz 3 47 [0, 1, 3, 9] HT_ ?_
 refine pz 8 52 [0, 1, 3, 4, 1, 4] HT_ ?_
 refine pz 9 53 [0, 1, 3, 4, 2, 3] HT_ ?_
 refine pz 10 54 [0, 1, 3, 4, 3, 2] HT_ ?_
 refine tz 5 49 [0, 1, 3, 1, 1, 2, 3, 2] HT_ HW_ rfl (by rintro w' ⟨s0, s1⟩; go_simp; with_reducible rfl) hHeld ?_
 refine join_ (σ := Value × Value × Value) 3 (bz [7, 1, 3, 2]) (fun s_ => [(44, s_.1), (48, s_.2.1), (50, s_.2.2)]) (fun s_ w' => (w'.cell? ⟨g106, 0, none⟩ = some (.int .i64 x7_2) ∧ w'.cell? ⟨g106, 1, none⟩ = some (.int .i64 x6_1)) ∧ (Kd.R k28 28 w' w.heap.size (fun k_ => some k_ ≠ (s_.2.2 : Value).ownBlock ∧ some k_ ≠ (.slice (some ad108) x5_2.length co19 : Value).ownBlock ∧ k_ ≠ g106) s_.2.1 y117) ∧ (Kd.R k28 28 w' w.heap.size (fun k_ => some k_ ≠ (s_.2.1 : Value).ownBlock ∧ some k_ ≠ (.slice (some ad108) x5_2.length co19 : Value).ownBlock ∧ k_ ≠ g106) s_.2.2 y120) ∧ (Kd.R k28 28 w' w.heap.size (fun k_ => some k_ ≠ (s_.2.1 : Value).ownBlock ∧ some k_ ≠ (s_.2.2 : Value).ownBlock ∧ k_ ≠ g106) (.slice (some ad108) x5_2.length co19) x5_2) ∧ (w'.heap[g101]? = some (.cells #[.int .i64 a0_0, .int .i64 a0_1, .slice A0_2 l0_2.length c0_2] 26 (0, 0))) ∧ (w'.heap[g102]? = some (.cells #[.int .i64 a1_0, .int .i64 a1_1, .slice A1_2 l1_2.length c1_2] 26 (0, 0))) ∧ (w'.heap[g106]? = some (.cells #[.int .i64 x7_2, .int .i64 x6_1] 28 (0, 0))) ∧ (Below w.heap.size w w')) ?_ ?_
 rotate_left
 ·
  intro hCont
  refine two_ (i := 0) (j := 6) (Ni := some 44) (Nj := some 50) (bz [4, 1, 1, 2, 3, 2]) (bz [0, 1, 3, 1, 2, 1, 3, 2]) rfl rfl rfl rfl (two_of HT_.out (by kernel_rfl)) (by decide) (by decide) (fun K hK => ?_) (fun K hK => ?_)
  ·
   skip
   refine Kd.R_lit_step k28 _ 28 ?hg (N := 44) ?hd (xs := ([] : List (S28))) (inner := []) (ok := fun _ => True) (okp := fun _ => True) ?hr ?hp (fun _ hk => hk) trivial (Below.refl _ _) (Nat.le_refl _) (by simp) ?_; (case hd => rfl); (case hg => rfl); (case hr => first | (go_simp; done) | (go_simp; rfl)); (case hp => exact (Reps.none _ _))
   intro v111 w40 ho41 hb hg_ hnew_
   clear hg_ hnew_
   (first | rw [← Ny110.out] at ho41 | (simp only [Int.reduceToNat] at ho41; rw [← Ny110.out] at ho41))
   have n0_ := aK (Kd.R_elder' (pR HO_5.out) (Kd.R_base ho41) hb); have HO112 := aK (Kd.R_lower (Kd.R_newB (nw1 ho41 (pR HO_5.out)) (g := g106) (o := .cells #[.int .i64 x7_2, .int .i64 x6_1] 28 (0, 0)) (pB B106.out)) (below_size (pS HB.out))); replace HR116 := aK (Kd.C_below (pC HR116.out) hb); replace HR129 := aK (Kd.C_below (pC HR129.out) hb); replace B101 := bB B101 hb; replace B102 := bB B102 hb; replace B106 := bB B106 hb; replace HB := bS HB hb; clear HO_5; have HO_5 := n0_; clear n0_ hb ho41
   refine hK.out _ _ (cz2 B106.out) (fun hHeld => ?_)
   clear hK K
   refine nm 44 ?_
   refine two_ (i := 4) (j := 6) (Ni := some 48) (Nj := some 50) (bz [6, 2, 3, 2]) (bz [4, 1, 2, 1, 3, 2]) rfl rfl rfl rfl (two_of HT_.out (by kernel_rfl)) (by decide) (by decide) (fun K hK => ?_) (fun K hK => ?_)
   ·
    skip
    refine Kd.R_append_rows_step k28 (w0 := w) w.heap.size (by rfl) (.tmp 44) (.tmp 47) 64 28 (.agg #[(.int .i64 0), (.int .i64 0)]) 16 rfl Try.underlying64 info28 rfl (by decide) (by omega) v111 y110 y113 _ _ _ (fun k_ => some k_ ≠ (.slice (some ad108) x5_2.length co19 : Value).ownBlock ∧ k_ ≠ g106) (fun _ => False) rfl rfl ?aO ?aR (fun _ _ h => h) (fun _ h => h.elim) ?aF ?aB ?aS ?aL ?_
    (case aR => repeat (first | exact (pC HR116.out) | (with_reducible refine Kd.C_alloc ?_ _) | (with_reducible refine Kd.C_drewN ?_ _) | (with_reducible refine Kd.C_drew ?_)))
    (case aB => exact (pS HB.out))
    (case aF => exact (fun k_ hk => ⟨Kd.fresh' (Kd.R_lt (pR HO_5.out)) k_ hk, Kd.freshB (g := g106) (o := .cells #[.int .i64 x7_2, .int .i64 x6_1] 28 (0, 0)) (pB B106.out) k_ hk⟩))
    (case aO => exact (pR (rP HO112.out)))
    (case aS => exact (below_size (pS HB.out)))
    (case aL => have := LMc30.out; omega)
    intro v118 w42 ho hb hg hat
    rw [← Ny117.out] at ho
    have n0_ := aK (Kd.R_after (ok := (fun k_ => k_ ≠ g106)) (pR HO_5.out) hg hat)
    replace B101 := aK (blk_grown (pB B101.out) hg (Kd.R_ne HO112.out B101.out (by decide)))
    replace B102 := aK (blk_grown (pB B102.out) hg (Kd.R_ne HO112.out B102.out (by decide)))
    replace B106 := aK (blk_grown (pB B106.out) hg (Kd.R_away HO112.out (fun _ hk => hk.2)))
    replace HB := aK (hb)
    replace HR116 := aK ((show Kd.C k28 w42 (some ad108) y113.length y113 from by rw [Ny113.out]; exact Kd.C_take (m := (x9_3 : Int).toNat) ((Kd.R_reads' (Kd.R_after (ok := (fun k_ => k_ ≠ g106)) (pR HO_5.out) hg hat)).2.2) KL38.out))
    replace HR129 := aK ((show Kd.C k28 w42 A39 y126.length y126 from by rw [Ny126.out, KA39.out]; exact Kd.C_drop (m := (x9_3 : Int).toNat) (c := co19) ((Kd.R_reads' (Kd.R_after (ok := (fun k_ => k_ ≠ g106)) (pR HO_5.out) hg hat)).2.2) KL39.out ((Kd.R_reads' (Kd.R_after (ok := (fun k_ => k_ ≠ g106)) (pR HO_5.out) hg hat)).2.1)))
    have HO119 := aK (ho); clear HO_5 HO112; have HO_5 := n0_; clear n0_ ho hb hg hat
    refine hK.out _ _ (cz2 B106.out) (fun hHeld => ?_)
    clear hK K
    refine nm 48 ?_
    refine oz 6 50 [7, 1, 3, 2] HT_ fun K hK => ?_
    refine Kd.R_lit_step k28 _ 28 ?hg (N := 50) ?hd (xs := ([(⟨x7_2, x6_1⟩ : S28)] : List (S28))) (inner := [.int .i64 x7_2, .int .i64 x6_1]) (ok := fun _ => True) (okp := fun _ => True) ?hr ?hp (fun _ hk => hk) trivial (Below.refl _ _) (Nat.le_refl _) (by simp) ?_; (case hd => rfl); (case hg => rfl); (case hr => first | (go_simp; done) | (go_simp; rfl)); (case hp => exact (Reps.c2 (show Kd.M k28 _ _ _ (⟨x7_2, x6_1⟩ : S28) [.int .i64 x7_2, .int .i64 x6_1] from (k28_mkM _ _ _ (⟨x7_2, x6_1⟩ : S28) )) (Reps.none _ _)))
    intro v121 w43 ho44 hb hg_ hnew_
    clear hg_ hnew_
    (first | rw [← Ny120.out] at ho44 | (simp only [Int.reduceToNat] at ho44; rw [← Ny120.out] at ho44))
    have n0_ := aK (Kd.R_elder' (pR HO_5.out) (Kd.R_base ho44) hb); have n1_ := aK (Kd.R_elder' (pR HO119.out) (Kd.R_base ho44) hb); have HO122 := aK (Kd.R_lower (Kd.R_newB (nw2 ho44 (pR HO_5.out) (pR HO119.out)) (g := g106) (o := .cells #[.int .i64 x7_2, .int .i64 x6_1] 28 (0, 0)) (pB B106.out)) (below_size (pS HB.out))); replace HR116 := aK (Kd.C_below (pC HR116.out) hb); replace HR129 := aK (Kd.C_below (pC HR129.out) hb); replace B101 := bB B101 hb; replace B102 := bB B102 hb; replace B106 := bB B106 hb; replace HB := bS HB hb; clear HO_5 HO119; have HO_5 := n0_; have HO119 := n1_; clear n0_ n1_ hb ho44
    refine hK.out _ _ (cz2 B106.out) (fun hHeld => ?_)
    clear hK K
    refine nm 50 ?_
    exact norm_ (by simp only [putAll, Act.put, List.setIfInBounds_toArray, List.set_cons_zero, List.set_cons_succ]) (hCont (v111, v118, v121) _ ⟨hHeld, (pR (rP HO119.out)), (pR (rP HO122.out)), (pR (rP HO_5.out)), (pB B101.out), (pB B102.out), (pB B106.out), (pS HB.out)⟩)
   skip
   refine Kd.R_lit_step k28 _ 28 ?hg (N := 50) ?hd (xs := ([(⟨x7_2, x6_1⟩ : S28)] : List (S28))) (inner := [.int .i64 x7_2, .int .i64 x6_1]) (ok := fun _ => True) (okp := fun _ => True) ?hr ?hp (fun _ hk => hk) trivial (Below.refl _ _) (Nat.le_refl _) (by simp) ?_; (case hd => rfl); (case hg => rfl); (case hr => first | (go_simp; done) | (go_simp; rfl)); (case hp => exact (Reps.c2 (show Kd.M k28 _ _ _ (⟨x7_2, x6_1⟩ : S28) [.int .i64 x7_2, .int .i64 x6_1] from (k28_mkM _ _ _ (⟨x7_2, x6_1⟩ : S28) )) (Reps.none _ _)))
   intro v121 w42 ho43 hb hg_ hnew_
   clear hg_ hnew_
   (first | rw [← Ny120.out] at ho43 | (simp only [Int.reduceToNat] at ho43; rw [← Ny120.out] at ho43))
   have n0_ := aK (Kd.R_elder' (pR HO_5.out) (Kd.R_base ho43) hb); have n1_ := aK (Kd.R_elder' (pR HO112.out) (Kd.R_base ho43) hb); have HO122 := aK (Kd.R_lower (Kd.R_newB (nw2 ho43 (pR HO_5.out) (pR HO112.out)) (g := g106) (o := .cells #[.int .i64 x7_2, .int .i64 x6_1] 28 (0, 0)) (pB B106.out)) (below_size (pS HB.out))); replace HR116 := aK (Kd.C_below (pC HR116.out) hb); replace HR129 := aK (Kd.C_below (pC HR129.out) hb); replace B101 := bB B101 hb; replace B102 := bB B102 hb; replace B106 := bB B106 hb; replace HB := bS HB hb; clear HO_5 HO112; have HO_5 := n0_; have HO112 := n1_; clear n0_ n1_ hb ho43
   refine hK.out _ _ (cz2 B106.out) (fun hHeld => ?_)
   clear hK K
   refine nm 50 ?_
   refine oz 4 48 [7, 1, 3, 2] HT_ fun K hK => ?_
   refine Kd.R_append_rows_step k28 (w0 := w) w.heap.size (by rfl) (.tmp 44) (.tmp 47) 64 28 (.agg #[(.int .i64 0), (.int .i64 0)]) 16 rfl Try.underlying64 info28 rfl (by decide) (by omega) v111 y110 y113 _ _ _ (fun k_ => some k_ ≠ (.slice (some ad108) x5_2.length co19 : Value).ownBlock ∧ some k_ ≠ (v121 : Value).ownBlock ∧ k_ ≠ g106) (fun _ => False) rfl rfl ?aO ?aR (fun _ _ h => h) (fun _ h => h.elim) ?aF ?aB ?aS ?aL ?_
   (case aR => repeat (first | exact (pC HR116.out) | (with_reducible refine Kd.C_alloc ?_ _) | (with_reducible refine Kd.C_drewN ?_ _) | (with_reducible refine Kd.C_drew ?_)))
   (case aB => exact (pS HB.out))
   (case aF => exact (fun k_ hk => ⟨Kd.fresh' (Kd.R_lt (pR HO_5.out)) k_ hk, Kd.fresh' (Kd.R_lt (pR HO122.out)) k_ hk, Kd.freshB (g := g106) (o := .cells #[.int .i64 x7_2, .int .i64 x6_1] 28 (0, 0)) (pB B106.out) k_ hk⟩))
   (case aO => exact (pR (rP HO112.out)))
   (case aS => exact (below_size (pS HB.out)))
   (case aL => have := LMc30.out; omega)
   intro v118 w44 ho hb hg hat
   rw [← Ny117.out] at ho
   have n0_ := aK (Kd.R_after (ok := (fun k_ => some k_ ≠ (v121 : Value).ownBlock ∧ k_ ≠ g106)) (pR (rP HO_5.out)) hg hat)
   replace B101 := aK (blk_grown (pB B101.out) hg (Kd.R_ne HO112.out B101.out (by decide)))
   replace B102 := aK (blk_grown (pB B102.out) hg (Kd.R_ne HO112.out B102.out (by decide)))
   replace B106 := aK (blk_grown (pB B106.out) hg (Kd.R_away HO112.out (fun _ hk => hk.1.2)))
   replace HO122 := aK (Kd.R_after (ok := (fun k_ => some k_ ≠ (.slice (some ad108) x5_2.length co19 : Value).ownBlock ∧ k_ ≠ g106)) (pR (rP HO122.out)) hg hat)
   replace HB := aK (hb)
   replace HR116 := aK ((show Kd.C k28 w44 (some ad108) y113.length y113 from by rw [Ny113.out]; exact Kd.C_take (m := (x9_3 : Int).toNat) ((Kd.R_reads' (Kd.R_after (ok := (fun k_ => some k_ ≠ (v121 : Value).ownBlock ∧ k_ ≠ g106)) (pR (rP HO_5.out)) hg hat)).2.2) KL38.out))
   replace HR129 := aK ((show Kd.C k28 w44 A39 y126.length y126 from by rw [Ny126.out, KA39.out]; exact Kd.C_drop (m := (x9_3 : Int).toNat) (c := co19) ((Kd.R_reads' (Kd.R_after (ok := (fun k_ => some k_ ≠ (v121 : Value).ownBlock ∧ k_ ≠ g106)) (pR (rP HO_5.out)) hg hat)).2.2) KL39.out ((Kd.R_reads' (Kd.R_after (ok := (fun k_ => some k_ ≠ (v121 : Value).ownBlock ∧ k_ ≠ g106)) (pR (rP HO_5.out)) hg hat)).2.1)))
   have HO119 := aK (ho); clear HO_5 HO112; have HO_5 := n0_; clear n0_ ho hb hg hat
   refine hK.out _ _ (cz2 B106.out) (fun hHeld => ?_)
   clear hK K
   refine nm 48 ?_
   exact norm_ (by simp only [putAll, Act.put, List.setIfInBounds_toArray, List.set_cons_zero, List.set_cons_succ]) (hCont (v111, v118, v121) _ ⟨hHeld, (pR (rP HO119.out)), (pR (rP HO122.out)), (pR (rP HO_5.out)), (pB B101.out), (pB B102.out), (pB B106.out), (pS HB.out)⟩)
  skip
  refine Kd.R_lit_step k28 _ 28 ?hg (N := 50) ?hd (xs := ([(⟨x7_2, x6_1⟩ : S28)] : List (S28))) (inner := [.int .i64 x7_2, .int .i64 x6_1]) (ok := fun _ => True) (okp := fun _ => True) ?hr ?hp (fun _ hk => hk) trivial (Below.refl _ _) (Nat.le_refl _) (by simp) ?_; (case hd => rfl); (case hg => rfl); (case hr => first | (go_simp; done) | (go_simp; rfl)); (case hp => exact (Reps.c2 (show Kd.M k28 _ _ _ (⟨x7_2, x6_1⟩ : S28) [.int .i64 x7_2, .int .i64 x6_1] from (k28_mkM _ _ _ (⟨x7_2, x6_1⟩ : S28) )) (Reps.none _ _)))
  intro v121 w40 ho41 hb hg_ hnew_
  clear hg_ hnew_
  (first | rw [← Ny120.out] at ho41 | (simp only [Int.reduceToNat] at ho41; rw [← Ny120.out] at ho41))
  have n0_ := aK (Kd.R_elder' (pR HO_5.out) (Kd.R_base ho41) hb); have HO122 := aK (Kd.R_lower (Kd.R_newB (nw1 ho41 (pR HO_5.out)) (g := g106) (o := .cells #[.int .i64 x7_2, .int .i64 x6_1] 28 (0, 0)) (pB B106.out)) (below_size (pS HB.out))); replace HR116 := aK (Kd.C_below (pC HR116.out) hb); replace HR129 := aK (Kd.C_below (pC HR129.out) hb); replace B101 := bB B101 hb; replace B102 := bB B102 hb; replace B106 := bB B106 hb; replace HB := bS HB hb; clear HO_5; have HO_5 := n0_; clear n0_ hb ho41
  refine hK.out _ _ (cz2 B106.out) (fun hHeld => ?_)
  clear hK K
  refine nm 50 ?_
  refine oz 0 44 [4, 1, 2, 1, 3, 2] HT_ fun K hK => ?_
  refine Kd.R_lit_step k28 _ 28 ?hg (N := 44) ?hd (xs := ([] : List (S28))) (inner := []) (ok := fun _ => True) (okp := fun _ => True) ?hr ?hp (fun _ hk => hk) trivial (Below.refl _ _) (Nat.le_refl _) (by simp) ?_; (case hd => rfl); (case hg => rfl); (case hr => first | (go_simp; done) | (go_simp; rfl)); (case hp => exact (Reps.none _ _))
  intro v111 w42 ho43 hb hg_ hnew_
  clear hg_ hnew_
  (first | rw [← Ny110.out] at ho43 | (simp only [Int.reduceToNat] at ho43; rw [← Ny110.out] at ho43))
  have n0_ := aK (Kd.R_elder' (pR HO_5.out) (Kd.R_base ho43) hb); have n1_ := aK (Kd.R_elder' (pR HO122.out) (Kd.R_base ho43) hb); have HO112 := aK (Kd.R_lower (Kd.R_newB (nw2 ho43 (pR HO_5.out) (pR HO122.out)) (g := g106) (o := .cells #[.int .i64 x7_2, .int .i64 x6_1] 28 (0, 0)) (pB B106.out)) (below_size (pS HB.out))); replace HR116 := aK (Kd.C_below (pC HR116.out) hb); replace HR129 := aK (Kd.C_below (pC HR129.out) hb); replace B101 := bB B101 hb; replace B102 := bB B102 hb; replace B106 := bB B106 hb; replace HB := bS HB hb; clear HO_5 HO122; have HO_5 := n0_; have HO122 := n1_; clear n0_ n1_ hb ho43
  refine hK.out _ _ (cz2 B106.out) (fun hHeld => ?_)
  clear hK K
  refine nm 44 ?_
  refine oz 4 48 [7, 1, 3, 2] HT_ fun K hK => ?_
  refine Kd.R_append_rows_step k28 (w0 := w) w.heap.size (by rfl) (.tmp 44) (.tmp 47) 64 28 (.agg #[(.int .i64 0), (.int .i64 0)]) 16 rfl Try.underlying64 info28 rfl (by decide) (by omega) v111 y110 y113 _ _ _ (fun k_ => some k_ ≠ (.slice (some ad108) x5_2.length co19 : Value).ownBlock ∧ some k_ ≠ (v121 : Value).ownBlock ∧ k_ ≠ g106) (fun _ => False) rfl rfl ?aO ?aR (fun _ _ h => h) (fun _ h => h.elim) ?aF ?aB ?aS ?aL ?_
  (case aR => repeat (first | exact (pC HR116.out) | (with_reducible refine Kd.C_alloc ?_ _) | (with_reducible refine Kd.C_drewN ?_ _) | (with_reducible refine Kd.C_drew ?_)))
  (case aB => exact (pS HB.out))
  (case aF => exact (fun k_ hk => ⟨Kd.fresh' (Kd.R_lt (pR HO_5.out)) k_ hk, Kd.fresh' (Kd.R_lt (pR HO122.out)) k_ hk, Kd.freshB (g := g106) (o := .cells #[.int .i64 x7_2, .int .i64 x6_1] 28 (0, 0)) (pB B106.out) k_ hk⟩))
  (case aO => exact (pR (rP HO112.out)))
  (case aS => exact (below_size (pS HB.out)))
  (case aL => have := LMc30.out; omega)
  intro v118 w44 ho hb hg hat
  rw [← Ny117.out] at ho
  have n0_ := aK (Kd.R_after (ok := (fun k_ => some k_ ≠ (v121 : Value).ownBlock ∧ k_ ≠ g106)) (pR (rP HO_5.out)) hg hat)
  replace B101 := aK (blk_grown (pB B101.out) hg (Kd.R_ne HO112.out B101.out (by decide)))
  replace B102 := aK (blk_grown (pB B102.out) hg (Kd.R_ne HO112.out B102.out (by decide)))
  replace B106 := aK (blk_grown (pB B106.out) hg (Kd.R_away HO112.out (fun _ hk => hk.2)))
  replace HO122 := aK (Kd.R_after (ok := (fun k_ => some k_ ≠ (.slice (some ad108) x5_2.length co19 : Value).ownBlock ∧ k_ ≠ g106)) (pR (rP HO122.out)) hg hat)
  replace HB := aK (hb)
  replace HR116 := aK ((show Kd.C k28 w44 (some ad108) y113.length y113 from by rw [Ny113.out]; exact Kd.C_take (m := (x9_3 : Int).toNat) ((Kd.R_reads' (Kd.R_after (ok := (fun k_ => some k_ ≠ (v121 : Value).ownBlock ∧ k_ ≠ g106)) (pR (rP HO_5.out)) hg hat)).2.2) KL38.out))
  replace HR129 := aK ((show Kd.C k28 w44 A39 y126.length y126 from by rw [Ny126.out, KA39.out]; exact Kd.C_drop (m := (x9_3 : Int).toNat) (c := co19) ((Kd.R_reads' (Kd.R_after (ok := (fun k_ => some k_ ≠ (v121 : Value).ownBlock ∧ k_ ≠ g106)) (pR (rP HO_5.out)) hg hat)).2.2) KL39.out ((Kd.R_reads' (Kd.R_after (ok := (fun k_ => some k_ ≠ (v121 : Value).ownBlock ∧ k_ ≠ g106)) (pR (rP HO_5.out)) hg hat)).2.1)))
  have HO119 := aK (ho); clear HO_5 HO112; have HO_5 := n0_; clear n0_ ho hb hg hat
  refine hK.out _ _ (cz2 B106.out) (fun hHeld => ?_)
  clear hK K
  refine nm 48 ?_
  exact norm_ (by simp only [putAll, Act.put, List.setIfInBounds_toArray, List.set_cons_zero, List.set_cons_succ]) (hCont (v111, v118, v121) _ ⟨hHeld, (pR (rP HO119.out)), (pR (rP HO122.out)), (pR (rP HO_5.out)), (pB B101.out), (pB B102.out), (pB B106.out), (pS HB.out)⟩)
 rintro ⟨v111, v118, v121⟩ w45 ⟨hS_, h0_, h1_, h2_, h3_, h4_, h5_, h6_⟩
 have n0_ : Aside0 (Kd.R k28 28 w45 w.heap.size (fun k_ => some k_ ≠ (v121 : Value).ownBlock ∧ some k_ ≠ (.slice (some ad108) x5_2.length co19 : Value).ownBlock ∧ k_ ≠ g106) v118 y117) := ⟨h0_⟩
 have n1_ : Aside0 (Kd.R k28 28 w45 w.heap.size (fun k_ => some k_ ≠ (v118 : Value).ownBlock ∧ some k_ ≠ (.slice (some ad108) x5_2.length co19 : Value).ownBlock ∧ k_ ≠ g106) v121 y120) := ⟨h1_⟩
 replace HO_5 : Aside0 (Kd.R k28 28 w45 w.heap.size (fun k_ => some k_ ≠ (v118 : Value).ownBlock ∧ some k_ ≠ (v121 : Value).ownBlock ∧ k_ ≠ g106) (.slice (some ad108) x5_2.length co19) x5_2) := ⟨h2_⟩
 replace B101 : Aside0 (w45.heap[g101]? = some (.cells #[.int .i64 a0_0, .int .i64 a0_1, .slice A0_2 l0_2.length c0_2] 26 (0, 0))) := ⟨h3_⟩
 replace B102 : Aside0 (w45.heap[g102]? = some (.cells #[.int .i64 a1_0, .int .i64 a1_1, .slice A1_2 l1_2.length c1_2] 26 (0, 0))) := ⟨h4_⟩
 replace B106 : Aside0 (w45.heap[g106]? = some (.cells #[.int .i64 x7_2, .int .i64 x6_1] 28 (0, 0))) := ⟨h5_⟩
 replace HB : Aside0 (Below w.heap.size w w45) := ⟨h6_⟩
 clear h0_ h1_ h2_ h3_ h4_ h5_ h6_
 have HO119 := n0_
 have HO122 := n1_
 clear n0_ n1_
 have hHeld : w45.cell? ⟨g106, 0, none⟩ = some (.int .i64 x7_2) ∧ w45.cell? ⟨g106, 1, none⟩ = some (.int .i64 x6_1) := hS_
 have HR116 := aK (show Kd.C k28 _ (some ad108) y113.length y113 from by rw [Ny113.out]; exact Kd.C_take (m := (x9_3 : Int).toNat) ((Kd.R_reads' HO_5.out).2.2) KL38.out)
 have HR129 := aK (show Kd.C k28 _ A39 y126.length y126 from by rw [Ny126.out, KA39.out]; exact Kd.C_drop (m := (x9_3 : Int).toNat) (c := co19) ((Kd.R_reads' HO_5.out).2.2) KL39.out ((Kd.R_reads' HO_5.out).2.1))
 obtain ⟨Ao47, co47, eo47⟩ := Kd.R_slice HO122.out
 (first | subst eo47 | (obtain ⟨f4_, f5_⟩ := sI eo47; subst f4_; subst f5_))
 refine norm_ (a' := ?_) ?_ ?_
 rotate_left
 ·
  simp only [putAll, Act.put, List.setIfInBounds_toArray, List.set_cons_zero, List.set_cons_succ]
  rfl
 refine oz 7 51 [11, 2] HT_ fun K hK => ?_
 refine Kd.R_append_rows_step k28 (w0 := w) w.heap.size (by rfl) (.tmp 48) (.tmp 50) 64 28 (.agg #[(.int .i64 0), (.int .i64 0)]) 16 rfl Try.underlying64 info28 rfl (by decide) (by omega) v118 y117 y120 _ _ _ (fun k_ => some k_ ≠ (.slice (some ad108) x5_2.length co19 : Value).ownBlock ∧ some k_ ≠ (.slice Ao47 y120.length co47 : Value).ownBlock ∧ k_ ≠ g106) (fun _ => False) rfl rfl ?aO ?aR (fun _ _ h => h) (fun _ h => h.elim) ?aF ?aB ?aS ?aL ?_
 (case aR => exact pC (Kd.R_reads' HO122.out).2.2)
 (case aB => exact (pS HB.out))
 (case aF => exact (fun k_ hk => ⟨Kd.fresh' (Kd.R_lt (pR HO_5.out)) k_ hk, Kd.fresh' (Kd.R_lt (pR HO122.out)) k_ hk, Kd.freshB (g := g106) (o := .cells #[.int .i64 x7_2, .int .i64 x6_1] 28 (0, 0)) (pB B106.out) k_ hk⟩))
 (case aO => exact (pR (rP HO119.out)))
 (case aS => exact (below_size (pS HB.out)))
 (case aL => have := LMc31.out; omega)
 intro v124 w46 ho hb hg hat
 rw [← Ny123.out] at ho
 have n0_ := aK (Kd.R_after (ok := (fun k_ => some k_ ≠ (.slice Ao47 y120.length co47 : Value).ownBlock ∧ k_ ≠ g106)) (pR (rP HO_5.out)) hg hat)
 replace B101 := aK (blk_grown (pB B101.out) hg (Kd.R_ne HO119.out B101.out (by decide)))
 replace B102 := aK (blk_grown (pB B102.out) hg (Kd.R_ne HO119.out B102.out (by decide)))
 replace B106 := aK (blk_grown (pB B106.out) hg (Kd.R_away HO119.out (fun _ hk => hk.2.2)))
 replace HO122 := aK (Kd.R_after (ok := (fun k_ => some k_ ≠ (.slice (some ad108) x5_2.length co19 : Value).ownBlock ∧ k_ ≠ g106)) (pR (rP HO122.out)) hg hat)
 replace HB := aK (hb)
 replace HR116 := aK ((show Kd.C k28 w46 (some ad108) y113.length y113 from by rw [Ny113.out]; exact Kd.C_take (m := (x9_3 : Int).toNat) ((Kd.R_reads' (Kd.R_after (ok := (fun k_ => some k_ ≠ (.slice Ao47 y120.length co47 : Value).ownBlock ∧ k_ ≠ g106)) (pR (rP HO_5.out)) hg hat)).2.2) KL38.out))
 replace HR129 := aK ((show Kd.C k28 w46 A39 y126.length y126 from by rw [Ny126.out, KA39.out]; exact Kd.C_drop (m := (x9_3 : Int).toNat) (c := co19) ((Kd.R_reads' (Kd.R_after (ok := (fun k_ => some k_ ≠ (.slice Ao47 y120.length co47 : Value).ownBlock ∧ k_ ≠ g106)) (pR (rP HO_5.out)) hg hat)).2.2) KL39.out ((Kd.R_reads' (Kd.R_after (ok := (fun k_ => some k_ ≠ (.slice Ao47 y120.length co47 : Value).ownBlock ∧ k_ ≠ g106)) (pR (rP HO_5.out)) hg hat)).2.1)))
 have HO125 := aK (ho)
 clear HO_5 HO119
 have HO_5 := n0_
 clear n0_ ho hb hg hat
 refine hK.out _ _ (cz2 B106.out) (fun hHeld => ?_)
 clear hK K
 refine nm 51 ?_
 refine oz 11 55 [12, 1] HT_ fun K hK => ?_
 refine Kd.R_append_rows_step k28 (w0 := w) w.heap.size (by rfl) (.tmp 51) (.tmp 54) 64 28 (.agg #[(.int .i64 0), (.int .i64 0)]) 16 rfl Try.underlying64 info28 rfl (by decide) (by omega) v124 y123 y126 _ _ _ (fun k_ => some k_ ≠ (.slice (some ad108) x5_2.length co19 : Value).ownBlock ∧ some k_ ≠ (.slice Ao47 y120.length co47 : Value).ownBlock ∧ k_ ≠ g106) (fun _ => False) rfl rfl ?aO ?aR (fun _ _ h => h) (fun _ h => h.elim) ?aF ?aB ?aS ?aL ?_
 (case aR => repeat (first | exact (pC HR129.out) | (with_reducible refine Kd.C_alloc ?_ _) | (with_reducible refine Kd.C_drewN ?_ _) | (with_reducible refine Kd.C_drew ?_)))
 (case aB => exact (pS HB.out))
 (case aF => exact (fun k_ hk => ⟨Kd.fresh' (Kd.R_lt (pR HO_5.out)) k_ hk, Kd.fresh' (Kd.R_lt (pR HO122.out)) k_ hk, Kd.freshB (g := g106) (o := .cells #[.int .i64 x7_2, .int .i64 x6_1] 28 (0, 0)) (pB B106.out) k_ hk⟩))
 (case aO => exact (pR HO125.out))
 (case aS => exact (below_size (pS HB.out)))
 (case aL => have := LMc34.out; omega)
 intro v131 w48 ho hb hg hat
 rw [← Ny130.out] at ho
 have n0_ := aK (Kd.R_after (ok := (fun k_ => some k_ ≠ (.slice Ao47 y120.length co47 : Value).ownBlock ∧ k_ ≠ g106)) (pR HO_5.out) hg hat)
 replace B101 := aK (blk_grown (pB B101.out) hg (Kd.R_ne HO125.out B101.out (by decide)))
 replace B102 := aK (blk_grown (pB B102.out) hg (Kd.R_ne HO125.out B102.out (by decide)))
 replace B106 := aK (blk_grown (pB B106.out) hg (Kd.R_away HO125.out (fun _ hk => hk.2.2)))
 replace HO122 := aK (Kd.R_after (ok := (fun k_ => some k_ ≠ (.slice (some ad108) x5_2.length co19 : Value).ownBlock ∧ k_ ≠ g106)) (pR HO122.out) hg hat)
 replace HB := aK (hb)
 replace HR116 := aK ((show Kd.C k28 w48 (some ad108) y113.length y113 from by rw [Ny113.out]; exact Kd.C_take (m := (x9_3 : Int).toNat) ((Kd.R_reads' (Kd.R_after (ok := (fun k_ => some k_ ≠ (.slice Ao47 y120.length co47 : Value).ownBlock ∧ k_ ≠ g106)) (pR HO_5.out) hg hat)).2.2) KL38.out))
 replace HR129 := aK ((show Kd.C k28 w48 A39 y126.length y126 from by rw [Ny126.out, KA39.out]; exact Kd.C_drop (m := (x9_3 : Int).toNat) (c := co19) ((Kd.R_reads' (Kd.R_after (ok := (fun k_ => some k_ ≠ (.slice Ao47 y120.length co47 : Value).ownBlock ∧ k_ ≠ g106)) (pR HO_5.out) hg hat)).2.2) KL39.out ((Kd.R_reads' (Kd.R_after (ok := (fun k_ => some k_ ≠ (.slice Ao47 y120.length co47 : Value).ownBlock ∧ k_ ≠ g106)) (pR HO_5.out) hg hat)).2.1)))
 have HO132 := aK (ho)
 clear HO_5 HO125
 have HO_5 := n0_
 clear n0_ ho hb hg hat
 refine hK.out _ _ (cz2 B106.out) (fun hHeld => ?_)
 clear hK K
 refine nm 55 ?_
 refine pz 12 5 [13, 0] HT_ ?_
 refine done_ (done_of HT_.out (by kernel_rfl)) ?_
 try go_wp2
 go_roundg k3
 case measure => have := HK1.out; have := HK2.out; have := HK3.out; omega
 case rel => exact ⟨(y130), (wrap64 (x7_2 + 1)), (by first | rfl | (simp; done) | (simp [*]; done)), H', ⟨by have := HK1.out; have := HK2.out; have := HK3.out; omega⟩, ⟨pR (Kd.R_mono HO132.out (fun _ hk => trivial))⟩, ⟨by refine bk ?_; exact B101.out⟩, ⟨by refine bk ?_; exact B102.out⟩, ⟨pT HB.out⟩⟩
def spec_BestMotion.f (k : Nat) (a0_0 : Int) (a0_1 : Int) (l0_2 : List Int) (a1_0 : Int) (a1_1 : Int) (l1_2 : List Int) : Option (Int × Int × Bool) := (spec_l2Same.f k a0_0 a0_1 l0_2 a1_0 a1_1 l1_2).bind fun t104 => (if t104 = true then ((spec_l11Rank.f k a0_0 a0_1 l0_2 a1_0 a1_1 l1_2).bind fun t105 => (if (t105.length : Int) = 0 then (some (0, 0, false)) else (if 0 < (t105.length : Int) then (some ((rd_T28 t105 0).f0, (rd_T28 t105 0).f1, true)) else (none)))) else (some (0, 0, false)))
theorem spec_BestMotion.calls (k : Nat) (a0_0 : Int) (a0_1 : Int) (A0_2 : Option Addr) (c0_2 : Nat) (l0_2 : List Int) (a1_0 : Int) (a1_1 : Int) (A1_2 : Option Addr) (c1_2 : Nat) (l1_2 : List Int) (r1 : Int) (r2 : Int) (r3 : Bool) (w : World) (hr0_2 : Kd.C (Kd.int .i64) w A0_2 l0_2.length l0_2) (hc0_2 : l0_2.length ≤ c0_2) (hr1_2 : Kd.C (Kd.int .i64) w A1_2 l1_2.length l1_2) (hc1_2 : l1_2.length ≤ c1_2) (h : spec_BestMotion.f k a0_0 a0_1 l0_2 a1_0 a1_1 l1_2 = some (r1, r2, r3)) :
  Calls Try.prog 31 #[.agg #[.int .i64 a0_0, .int .i64 a0_1, .slice A0_2 l0_2.length c0_2], .agg #[.int .i64 a1_0, .int .i64 a1_1, .slice A1_2 l1_2.length c1_2]] w fun e w' => e = .returned (.tuple #[.agg #[.int .i64 r1, .int .i64 r2], .bool r3]) ∧ Below w.heap.size w w' := by
 have hu26 := Try.underlying26
 have hu28 := Try.underlying28
 have HR0_2 := aK hr0_2
 have HC0_2 := aK hc0_2
 clear hr0_2 hc0_2
 have HR1_2 := aK hr1_2
 have HC1_2 := aK hc1_2
 clear hr1_2 hc1_2
 have HB := aK (Below.refl w.heap.size w)
 have H : ((spec_l2Same.f k a0_0 a0_1 l0_2 a1_0 a1_1 l1_2).bind fun t104 => (if t104 = true then ((spec_l11Rank.f k a0_0 a0_1 l0_2 a1_0 a1_1 l1_2).bind fun t105 => (if (t105.length : Int) = 0 then (some (0, 0, false)) else (if 0 < (t105.length : Int) then (some ((rd_T28 t105 0).f0, (rd_T28 t105 0).f1, true)) else (none)))) else (some (0, 0, false)))) = some (r1, r2, r3) := h
 clear h
 replace H := oA H
 obtain ⟨t104, A3, H⟩ := H
 replace H : (if t104 = true then ((spec_l11Rank.f k a0_0 a0_1 l0_2 a1_0 a1_1 l1_2).bind fun t105 => (if (t105.length : Int) = 0 then (some (0, 0, false)) else (if 0 < (t105.length : Int) then (some ((rd_T28 t105 0).f0, (rd_T28 t105 0).f1, true)) else (none)))) else (some (0, 0, false))) = some (r1, r2, r3) := H
 by_cases c4 : t104 = true
 rotate_left
 ·
  replace c4 := Bool.eq_false_iff.mpr c4; subst c4
  have H1 : (some (0, 0, false)) = some (r1, r2, r3) := by rw [if_neg (show ¬ (false = true) by decide)] at H; exact H
  clear H; have H := H1; clear H1
  simp only [Option.some.injEq, Prod.mk.injEq] at H
  obtain ⟨rfl, rfl, rfl⟩ := H
  go_enter Try.func31, Try.ntmps31
  go_wp2_with (first | ((with_reducible refine ga 2 rfl ?_); refine bxa #[.int .i64 a0_0, .int .i64 a0_1, .slice A0_2 l0_2.length c0_2] 26 ?_; intro g101 hg w36 B101 hb; have GW101 := gA hg HB; replace HB := bS HB hb; clear hb hg) | ((with_reducible refine ga 3 rfl ?_); refine bxa #[.int .i64 a1_0, .int .i64 a1_1, .slice A1_2 l1_2.length c1_2] 26 ?_; intro g102 hg w37 B102 hb; have GW102 := gA hg HB; obtain ⟨N101_102, N102_101⟩ := na hg B101; replace B101 := bB B101 hb; replace HB := bS HB hb; clear hb hg) | ((with_reducible refine ga 4 rfl ?_); refine bxa #[.int .i64 0, .int .i64 0] 28 ?_; intro g103 hg w38 B103 hb; have GW103 := gA hg HB; obtain ⟨N101_103, N103_101⟩ := na hg B101; obtain ⟨N102_103, N103_102⟩ := na hg B102; replace B101 := bB B101 hb; replace B102 := bB B102 hb; replace HB := bS HB hb; clear hb hg; obtain ⟨_, _⟩ := nB N101_102; obtain ⟨_, _⟩ := nB N101_103; obtain ⟨_, _, _, _, _, _⟩ := bc3 B101.out; obtain ⟨_, _⟩ := nB N102_103; obtain ⟨_, _, _, _, _, _⟩ := bc3 B102.out) | ((with_reducible refine gc 54 rfl ?_); refine gl (some 9) Try.func54 #[.agg #[.int .i64 a0_0, .int .i64 a0_1, .slice A0_2 l0_2.length c0_2], .agg #[.int .i64 a1_0, .int .i64 a1_1, .slice A1_2 l1_2.length c1_2]] ?_; (with_reducible refine (spec_l2Same.calls k a0_0 a0_1 _ _ l0_2 a1_0 a1_1 _ _ l1_2 false _ ?side1 ?side2 ?side3 ?side4 A3.out).mono ?_); (case side1 => exact cB HR0_2 HB); (case side2 => exact HC0_2.out); (case side3 => exact cB HR1_2 HB); (case side4 => exact HC1_2.out); rintro e w44 ⟨rfl, hb⟩; refine ⟨_, rfl, ?_⟩; replace B101 := bB B101 hb; replace B102 := bB B102 hb; replace B103 := bB B103 hb; replace HB := bS HB hb; (try clear hb); obtain ⟨_, _, _, _⟩ := bc2 B103.out))
  refine bodyPost_ret (results_ct rfl _ _ g103 28 #[.int .i64 0, .int .i64 0] (0, 0) _ rfl (by refine bq #[.int .i64 0, .int .i64 0] 1 ?_; refine bq #[.int .i64 0, .int .i64 0] 0 ?_; refine bk ?_; exact B103.out) Try.underlying28 rfl (by kernel_rfl)) rfl ?_
  exact ⟨er, pT HB.out⟩
 subst c4
 have H1 : ((spec_l11Rank.f k a0_0 a0_1 l0_2 a1_0 a1_1 l1_2).bind fun t105 => (if (t105.length : Int) = 0 then (some (0, 0, false)) else (if 0 < (t105.length : Int) then (some ((rd_T28 t105 0).f0, (rd_T28 t105 0).f1, true)) else (none)))) = some (r1, r2, r3) := by rw [if_pos rfl] at H; exact H
 clear H
 have H := H1
 clear H1
 replace H := oA H
 obtain ⟨t105, A5, H⟩ := H
 replace H : (if (t105.length : Int) = 0 then (some (0, 0, false)) else (if 0 < (t105.length : Int) then (some ((rd_T28 t105 0).f0, (rd_T28 t105 0).f1, true)) else (none))) = some (r1, r2, r3) := H
 by_cases c6 : (t105.length : Int) = 0
 ·
  rw [if_pos c6] at H
  have c6b0 : ((t105.length : Int) == 0) = true := beq_iff_eq.mpr c6
  have c6b1 : ((t105.length : Int) != 0) = false := bne_eq_false_iff_eq.mpr c6
  clear c6
  simp only [Option.some.injEq, Prod.mk.injEq] at H
  obtain ⟨rfl, rfl, rfl⟩ := H
  go_enter Try.func31, Try.ntmps31
  go_wp2_with (first | ((with_reducible refine ga 2 rfl ?_); refine bxa #[.int .i64 a0_0, .int .i64 a0_1, .slice A0_2 l0_2.length c0_2] 26 ?_; intro g101 hg w7 B101 hb; have GW101 := gA hg HB; replace HB := bS HB hb; clear hb hg) | ((with_reducible refine ga 3 rfl ?_); refine bxa #[.int .i64 a1_0, .int .i64 a1_1, .slice A1_2 l1_2.length c1_2] 26 ?_; intro g102 hg w8 B102 hb; have GW102 := gA hg HB; obtain ⟨N101_102, N102_101⟩ := na hg B101; replace B101 := bB B101 hb; replace HB := bS HB hb; clear hb hg) | ((with_reducible refine ga 4 rfl ?_); refine bxa #[.int .i64 0, .int .i64 0] 28 ?_; intro g103 hg w9 B103 hb; have GW103 := gA hg HB; obtain ⟨N101_103, N103_101⟩ := na hg B101; obtain ⟨N102_103, N103_102⟩ := na hg B102; replace B101 := bB B101 hb; replace B102 := bB B102 hb; replace HB := bS HB hb; clear hb hg; obtain ⟨_, _⟩ := nB N101_102; obtain ⟨_, _⟩ := nB N101_103; obtain ⟨_, _, _, _, _, _⟩ := bc3 B101.out; obtain ⟨_, _⟩ := nB N102_103; obtain ⟨_, _, _, _, _, _⟩ := bc3 B102.out) | ((with_reducible refine gc 54 rfl ?_); refine gl (some 9) Try.func54 #[.agg #[.int .i64 a0_0, .int .i64 a0_1, .slice A0_2 l0_2.length c0_2], .agg #[.int .i64 a1_0, .int .i64 a1_1, .slice A1_2 l1_2.length c1_2]] ?_; (with_reducible refine (spec_l2Same.calls k a0_0 a0_1 _ _ l0_2 a1_0 a1_1 _ _ l1_2 true _ ?side1 ?side2 ?side3 ?side4 A3.out).mono ?_); (case side1 => exact cB HR0_2 HB); (case side2 => exact HC0_2.out); (case side3 => exact cB HR1_2 HB); (case side4 => exact HC1_2.out); rintro e w15 ⟨rfl, hb⟩; refine ⟨_, rfl, ?_⟩; replace B101 := bB B101 hb; replace B102 := bB B102 hb; replace B103 := bB B103 hb; replace HB := bS HB hb; (try clear hb); obtain ⟨_, _, _, _, _, _⟩ := bc3 B101.out; obtain ⟨_, _, _, _, _, _⟩ := bc3 B102.out) | ((with_reducible refine gc 55 rfl ?_); refine gl (some 14) Try.func55 #[.agg #[.int .i64 a0_0, .int .i64 a0_1, .slice A0_2 l0_2.length c0_2], .agg #[.int .i64 a1_0, .int .i64 a1_1, .slice A1_2 l1_2.length c1_2]] ?_; (with_reducible refine (spec_l11Rank.calls k a0_0 a0_1 _ _ l0_2 a1_0 a1_1 _ _ l1_2 t105 _ ?side1 ?side2 ?side3 ?side4 A5.out).mono ?_); (case side1 => exact cB HR0_2 HB); (case side2 => exact HC0_2.out); (case side3 => exact cB HR1_2 HB); (case side4 => exact HC1_2.out); rintro e w18 ⟨v106, rfl, ho0, hb⟩; refine ⟨_, rfl, ?_⟩; have HO107 := aK (Kd.R_lower (Kd.R_newB ho0 (g := g103) (o := .cells #[.int .i64 0, .int .i64 0] 28 (0, 0)) (pB B103.out)) (below_size (pS HB.out))); replace B101 := bB B101 hb; replace B102 := bB B102 hb; replace B103 := bB B103 hb; replace HB := bS HB hb; (try clear hb); (try clear ho0); obtain ⟨Ao19, co19, eo19⟩ := Kd.R_slice HO107.out; subst eo19; obtain ⟨_, _, _, _⟩ := bc2 B103.out))
  refine bodyPost_ret (results_ct rfl _ _ g103 28 #[.int .i64 0, .int .i64 0] (0, 0) _ rfl (by refine bq #[.int .i64 0, .int .i64 0] 1 ?_; refine bq #[.int .i64 0, .int .i64 0] 0 ?_; refine bk ?_; exact B103.out) Try.underlying28 rfl (by kernel_rfl)) rfl ?_
  exact ⟨er, pT HB.out⟩
 rw [if_neg c6] at H
 have c6b0 : ((t105.length : Int) == 0) = false := beq_eq_false_iff_ne.mpr c6
 have c6b1 : ((t105.length : Int) != 0) = true := bne_iff_ne.mpr c6
 have c6b2 : ¬ (t105 = []) := fun h_ => c6 (by rw [h_]; rfl)
 by_cases c21 : 0 < (t105.length : Int)
 rotate_left
 ·
  rw [if_neg c21] at H
  exact absurd H (by simp)
 rw [if_pos c21] at H
 have c21b0 : decide (0 < (t105.length : Int)) = true := decide_eq_true c21
 have c21b1 : decide (0 < t105.length) = true := decide_eq_true (by omega)
 clear c21
 simp only [Option.some.injEq, Prod.mk.injEq] at H
 obtain ⟨rfl, rfl, rfl⟩ := H
 go_enter Try.func31, Try.ntmps31
 go_wp2_with (first | ((with_reducible refine ga 2 rfl ?_); refine bxa #[.int .i64 a0_0, .int .i64 a0_1, .slice A0_2 l0_2.length c0_2] 26 ?_; intro g101 hg w22 B101 hb; have GW101 := gA hg HB; replace HB := bS HB hb; clear hb hg) | ((with_reducible refine ga 3 rfl ?_); refine bxa #[.int .i64 a1_0, .int .i64 a1_1, .slice A1_2 l1_2.length c1_2] 26 ?_; intro g102 hg w23 B102 hb; have GW102 := gA hg HB; obtain ⟨N101_102, N102_101⟩ := na hg B101; replace B101 := bB B101 hb; replace HB := bS HB hb; clear hb hg) | ((with_reducible refine ga 4 rfl ?_); refine bxa #[.int .i64 0, .int .i64 0] 28 ?_; intro g103 hg w24 B103 hb; have GW103 := gA hg HB; obtain ⟨N101_103, N103_101⟩ := na hg B101; obtain ⟨N102_103, N103_102⟩ := na hg B102; replace B101 := bB B101 hb; replace B102 := bB B102 hb; replace HB := bS HB hb; clear hb hg; obtain ⟨_, _⟩ := nB N101_102; obtain ⟨_, _⟩ := nB N101_103; obtain ⟨_, _, _, _, _, _⟩ := bc3 B101.out; obtain ⟨_, _⟩ := nB N102_103; obtain ⟨_, _, _, _, _, _⟩ := bc3 B102.out) | ((with_reducible refine gc 54 rfl ?_); refine gl (some 9) Try.func54 #[.agg #[.int .i64 a0_0, .int .i64 a0_1, .slice A0_2 l0_2.length c0_2], .agg #[.int .i64 a1_0, .int .i64 a1_1, .slice A1_2 l1_2.length c1_2]] ?_; (with_reducible refine (spec_l2Same.calls k a0_0 a0_1 _ _ l0_2 a1_0 a1_1 _ _ l1_2 true _ ?side1 ?side2 ?side3 ?side4 A3.out).mono ?_); (case side1 => exact cB HR0_2 HB); (case side2 => exact HC0_2.out); (case side3 => exact cB HR1_2 HB); (case side4 => exact HC1_2.out); rintro e w30 ⟨rfl, hb⟩; refine ⟨_, rfl, ?_⟩; replace B101 := bB B101 hb; replace B102 := bB B102 hb; replace B103 := bB B103 hb; replace HB := bS HB hb; (try clear hb); obtain ⟨_, _, _, _, _, _⟩ := bc3 B101.out; obtain ⟨_, _, _, _, _, _⟩ := bc3 B102.out) | ((with_reducible refine gc 55 rfl ?_); refine gl (some 14) Try.func55 #[.agg #[.int .i64 a0_0, .int .i64 a0_1, .slice A0_2 l0_2.length c0_2], .agg #[.int .i64 a1_0, .int .i64 a1_1, .slice A1_2 l1_2.length c1_2]] ?_; (with_reducible refine (spec_l11Rank.calls k a0_0 a0_1 _ _ l0_2 a1_0 a1_1 _ _ l1_2 t105 _ ?side1 ?side2 ?side3 ?side4 A5.out).mono ?_); (case side1 => exact cB HR0_2 HB); (case side2 => exact HC0_2.out); (case side3 => exact cB HR1_2 HB); (case side4 => exact HC1_2.out); rintro e w33 ⟨v106, rfl, ho0, hb⟩; refine ⟨_, rfl, ?_⟩; have HO107 := aK (Kd.R_lower (Kd.R_newB ho0 (g := g103) (o := .cells #[.int .i64 0, .int .i64 0] 28 (0, 0)) (pB B103.out)) (below_size (pS HB.out))); replace B101 := bB B101 hb; replace B102 := bB B102 hb; replace B103 := bB B103 hb; replace HB := bS HB hb; (try clear hb); (try clear ho0); obtain ⟨Ao34, co34, eo34⟩ := Kd.R_slice HO107.out; subst eo34; have p108 : 0 ≤ (0 : Int) := (by omega); have q108 : 0 < (t105.length : Int) := dA; obtain ⟨ad108, e108, hx108_0, hx108_1⟩ := at_T28 (Kd.R_reads' HO107.out).2.2 0 p108 q108; cases e108; have qi108 : (0 < t105.length) = True := eq_true (by omega); (try rw [show ((0 : Int)).toNat = 0 from rfl] at hx108_0); (try rw [show 0 * 2 = 0 from rfl] at hx108_0); (try rw [Addr.add_zero'] at hx108_0); (try rw [show ((0 : Int)).toNat = 0 from rfl] at hx108_1); (try rw [show 0 * 2 = 0 from rfl] at hx108_1); (try rw [Addr.add_zero'] at hx108_1); replace p108 := eq_true p108; replace q108 := eq_true q108; obtain ⟨_, _, _, _⟩ := bc2 B103.out))
 refine bodyPost_ret (results_ct rfl _ _ g103 28 #[.int .i64 ((rd_T28 t105 0).f0), .int .i64 ((rd_T28 t105 0).f1)] (0, 0) _ rfl (by refine bq #[.int .i64 ((rd_T28 t105 0).f0), .int .i64 0] 1 ?_; refine bq #[.int .i64 0, .int .i64 0] 0 ?_; refine bk ?_; exact B103.out) Try.underlying28 rfl (by kernel_rfl)) rfl ?_
 exact ⟨er, pT HB.out⟩
end Go.Proofs.Ytmekfmhnpinjlaa.P
