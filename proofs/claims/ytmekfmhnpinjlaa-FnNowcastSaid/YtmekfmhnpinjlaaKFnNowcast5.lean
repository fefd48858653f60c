/- Texts of the claim FnNowcast, merged: part 5 of 13: the program's and the reference's functions as Lean functions, the walks that show it, and plain lemmas; no conditions. -/
import Derived.Test.YtmekfmhnpinjlaaKFnNowcast3
import Derived.Test.YtmekfmhnpinjlaaKFnNowcast4
open Go.RowKit Go.Proofs.YtmekfmhnpinjlaaW.PrintWords Go.Proofs.YtmekfmhnpinjlaaW.PrintLast Go.Proofs.YtmekfmhnpinjlaaW.PrintMore
set_option linter.unusedVariables false
set_option linter.unusedSimpArgs false
set_option maxHeartbeats 8000000
set_option maxRecDepth 100000
namespace Go.Proofs.Ytmekfmhnpinjlaa.P
attribute [local go_sem] max2_int min2_int max_two min_two max_three min_three max_four min_four
mutual
def spec_l11Move.l0 : Nat → Int → Int → Int → List Int → Int → Int → Int → Int → List Int → Option (Int × Int × List Int)
 | 0, _, _, _, _, _, _, _, _, _ => none
 | k + 1, x6, x102000, x102001, x102002, x103000, x103001, x110000, x110001, x110002 => if x6 < x102001 then (spec_l11Move.l1 k x6 0 x102000 x102001 x102002 x103000 x103001 x110000 x110001 x110002) else (some (x110000, x110001, x110002))
def spec_l11Move.l1 : Nat → Int → Int → Int → Int → List Int → Int → Int → Int → Int → List Int → Option (Int × Int × List Int)
 | 0, _, _, _, _, _, _, _, _, _, _ => none
 | k + 1, x6, x7, x102000, x102001, x102002, x103000, x103001, x110000, x110001, x110002 => if x7 < x102000 then ((spec_l2Has.f x102000 x102001 x102002 (wrap64 (x7 - x103000)) (wrap64 (x6 - x103001))).bind fun t110 => (if t110 = true then ((spec_l2At.f x102000 x102001 x102002 (wrap64 (x7 - x103000)) (wrap64 (x6 - x103001))).bind fun t111 => (if 0 ≤ (wrap64 ((wrap64 (x6 * x102000)) + x7)) then (if (wrap64 ((wrap64 (x6 * x102000)) + x7)) < (x110002.length : Int) then (spec_l11Move.l1 k x6 (wrap64 (x7 + 1)) x102000 x102001 x102002 x103000 x103001 x110000 x110001 (x110002.set ((wrap64 ((wrap64 (x6 * x102000)) + x7)) : Int).toNat t111)) else (none)) else (none))) else (if 0 ≤ (wrap64 ((wrap64 (x6 * x102000)) + x7)) then (if (wrap64 ((wrap64 (x6 * x102000)) + x7)) < (x110002.length : Int) then (spec_l11Move.l1 k x6 (wrap64 (x7 + 1)) x102000 x102001 x102002 x103000 x103001 x110000 x110001 (x110002.set ((wrap64 ((wrap64 (x6 * x102000)) + x7)) : Int).toNat (-9999))) else (none)) else (none)))) else (spec_l11Move.l0 k (wrap64 (x6 + 1)) x102000 x102001 x102002 x103000 x103001 x110000 x110001 x110002)
end
def spec_l11Move.f (k : Nat) (a0_0 : Int) (a0_1 : Int) (l0_2 : List Int) (a1_0 : Int) (a1_1 : Int) : Option (Int × Int × List Int) := (spec_l2Own.f a0_0 a0_1 l0_2).bind fun bt104 => (spec_l11Move.l0 k 0 a0_0 a0_1 l0_2 a1_0 a1_1 bt104.1 bt104.2.1 bt104.2.2)
theorem spec_l11Move.calls (k : Nat) (a0_0 : Int) (a0_1 : Int) (A0_2 : Option Addr) (c0_2 : Nat) (l0_2 : List Int) (a1_0 : Int) (a1_1 : Int) (r1 : Int) (r2 : Int) (r3 : List Int) (w : World) (hr0_2 : Kd.C (Kd.int .i64) w A0_2 l0_2.length l0_2) (hc0_2 : l0_2.length ≤ c0_2) (h : spec_l11Move.f k a0_0 a0_1 l0_2 a1_0 a1_1 = some (r1, r2, r3)) :
  Calls Try.prog 23 #[.agg #[.int .i64 a0_0, .int .i64 a0_1, .slice A0_2 l0_2.length c0_2], .agg #[.int .i64 a1_0, .int .i64 a1_1]] w fun e w' => ∃ v2_ : Value, e = .returned (.agg #[.int .i64 r1, .int .i64 r2, v2_]) ∧ Kd.R (Kd.int .i64) 3 w' w.heap.size (fun _ => True) v2_ r3 ∧ Below w.heap.size w w' := by
 have hu26 := Try.underlying26
 have hu28 := Try.underlying28
 have HR0_2 := aK hr0_2
 have HC0_2 := aK hc0_2
 clear hr0_2 hc0_2
 have HB := aK (Below.refl w.heap.size w)
 have H : ((spec_l2Own.f a0_0 a0_1 l0_2).bind fun bt104 => (spec_l11Move.l0 k 0 a0_0 a0_1 l0_2 a1_0 a1_1 bt104.1 bt104.2.1 bt104.2.2)) = some (r1, r2, r3) := h
 clear h
 replace H := oA H
 obtain ⟨⟨t104, t105, t106⟩, A3, H⟩ := H
 replace H : (spec_l11Move.l0 k 0 a0_0 a0_1 l0_2 a1_0 a1_1 t104 t105 t106) = some (r1, r2, r3) := H
 have H' := aK H
 clear H
 go_enter Try.func23, Try.ntmps23
 go_wp2_with (first | ((with_reducible refine ga 2 rfl ?_); refine bxa #[.int .i64 a0_0, .int .i64 a0_1, .slice A0_2 l0_2.length c0_2] 26 ?_; intro g101 hg w4 B101 hb; have GW101 := gA hg HB; replace HB := bS HB hb; clear hb hg) | ((with_reducible refine ga 3 rfl ?_); refine bxa #[.int .i64 a1_0, .int .i64 a1_1] 28 ?_; intro g102 hg w5 B102 hb; have GW102 := gA hg HB; obtain ⟨N101_102, N102_101⟩ := na hg B101; replace B101 := bB B101 hb; replace HB := bS HB hb; clear hb hg) | ((with_reducible refine ga 4 rfl ?_); refine bxa #[.int .i64 0, .int .i64 0, .slice none 0 0] 26 ?_; intro g103 hg w6 B103 hb; have GW103 := gA hg HB; obtain ⟨N101_103, N103_101⟩ := na hg B101; obtain ⟨N102_103, N103_102⟩ := na hg B102; replace B101 := bB B101 hb; replace B102 := bB B102 hb; replace HB := bS HB hb; clear hb hg; obtain ⟨_, _⟩ := nB N101_102; obtain ⟨_, _⟩ := nB N101_103; obtain ⟨z9_0, z9_1, z9_2, y9_0, y9_1, y9_2⟩ := bc3 B101.out) | ((with_reducible refine gc 46 rfl ?_); refine gl (some 10) Try.func46 #[.agg #[.int .i64 a0_0, .int .i64 a0_1, .slice A0_2 l0_2.length c0_2]] ?_; (with_reducible refine (spec_l2Own.calls a0_0 a0_1 _ _ l0_2 t104 t105 t106 _ ?side1 ?side2 A3.out).mono ?_); (case side1 => exact cB HR0_2 HB); (case side2 => exact HC0_2.out); rintro e w10 ⟨v107, rfl, ho0, hb⟩; refine ⟨_, rfl, ?_⟩; have HO108 := aK (Kd.R_lower ho0 (below_size (pS HB.out))); replace B101 := bB B101 hb; replace B102 := bB B102 hb; replace B103 := bB B103 hb; replace HB := bS HB hb; (try clear hb); (try clear ho0)) | ((with_reducible refine ga 5 rfl ?_); refine bxa #[.int .i64 0, .int .i64 0, .slice none 0 0] 26 ?_; intro g109 hg w11 B109 hb; replace HO108 := rb HO108 hb; have GW109 := gA hg HB; obtain ⟨N101_109, N109_101⟩ := na hg B101; obtain ⟨N102_109, N109_102⟩ := na hg B102; obtain ⟨N103_109, N109_103⟩ := na hg B103; replace B101 := bB B101 hb; replace B102 := bB B102 hb; replace B103 := bB B103 hb; replace HB := bS HB hb; clear hb hg; obtain ⟨_, _⟩ := nB N109_101; obtain ⟨_, _⟩ := nB N109_102; obtain ⟨_, _⟩ := nB N109_103; obtain ⟨z15_0, z15_1, z15_2, y15_0, y15_1, y15_2⟩ := bc3 B109.out; obtain ⟨Ao16, co16, eo16⟩ := Kd.R_slice HO108.out; subst eo16))
 go_loopg [6] k (fun kq v6 w' => ∃ (x6_1 : Int) (s0 : List Int) (u110002 : Value), v6 = .int .i64 x6_1 ∧ Aside0 (spec_l11Move.l0 kq x6_1 a0_0 a0_1 l0_2 a1_0 a1_1 t104 t105 s0 = some (r1, r2, r3)) ∧ Aside0 (kq ≤ k) ∧ Aside0 (Kd.R (Kd.int .i64) 3 w' w.heap.size (fun _ => True) u110002 s0) ∧ Aside0 (w'.heap[g101]? = some (.cells #[.int .i64 a0_0, .int .i64 a0_1, (.slice A0_2 l0_2.length c0_2)] 26 (0, 0))) ∧ Aside0 (w'.heap[g102]? = some (.cells #[.int .i64 a1_0, .int .i64 a1_1] 28 (0, 0))) ∧ Aside0 (w'.heap[g103]? = some (.cells #[.int .i64 0, .int .i64 0, (.slice none 0 0)] 26 (0, 0))) ∧ Aside0 (w'.heap[g109]? = some (.cells #[.int .i64 t104, .int .i64 t105, u110002] 26 (0, 0))) ∧ Aside0 (Below w.heap.size w w'))
 case atStart => exact ⟨(0), (t106), (.slice Ao16 t106.length co16), (by first | rfl | (simp; done) | (simp [*]; done)), H', ⟨Nat.le_refl _⟩, ⟨pR (Kd.R_mono (rF3 HO108.out B109.out (.int .i64 t104) (.int .i64 t105) (.slice Ao16 t106.length co16)) (fun _ h => trivial))⟩, ⟨by refine bg N101_109 ?_; refine bg N101_109 ?_; refine bg N101_109 ?_; refine bk ?_; exact B101.out⟩, ⟨by refine bg N102_109 ?_; refine bg N102_109 ?_; refine bg N102_109 ?_; refine bk ?_; exact B102.out⟩, ⟨by refine bg N103_109 ?_; refine bg N103_109 ?_; refine bg N103_109 ?_; refine bk ?_; exact B103.out⟩, ⟨by refine bq #[.int .i64 t104, .int .i64 t105, .slice none 0 0] 2 ?_; refine bq #[.int .i64 t104, .int .i64 0, .slice none 0 0] 1 ?_; refine bq #[.int .i64 0, .int .i64 0, .slice none 0 0] 0 ?_; refine bk ?_; exact B109.out⟩, ⟨pT HB.out⟩⟩
 case round =>
 clear H'
 clear z15_0 z15_1 z15_2 z9_0 z9_1 z9_2 y15_0 y15_1 y15_2 y9_0 y9_1 y9_2
 obtain ⟨x6_1, s0, u110002, rfl, HA, HK1, O0, B101, B102, B103, B109, HB⟩ := hrel
 cases gk with
 | zero => exact absurd HA.out (by simp [spec_l11Move.l0])
 | succ k1 =>
 have H := HA.out
 clear HA
 simp only [spec_l11Move.l0] at H
 by_cases c17 : x6_1 < a0_1
 rotate_left
 ·
  rw [if_neg c17] at H
  have c17b0 : decide (x6_1 < a0_1) = false := decide_eq_false c17
  clear c17
  simp only [Option.some.injEq, Prod.mk.injEq] at H
  obtain ⟨rfl, rfl, rfl⟩ := H; obtain ⟨_, _⟩ := nB N101_102; obtain ⟨_, _⟩ := nB N101_103; obtain ⟨_, _⟩ := nB N101_109; obtain ⟨_, _, _, _, _, _⟩ := bc3 B101.out; obtain ⟨_, _⟩ := nB N109_102; obtain ⟨_, _⟩ := nB N109_103; obtain ⟨_, _, _, _, _, _⟩ := bc3 B109.out; obtain ⟨_, _⟩ := nB N103_102; obtain ⟨_, _, _, _, _, _⟩ := bc3 B103.out; obtain ⟨Ao76, co76, eo76⟩ := Kd.R_slice O0.out; subst eo76
  go_wp2
  refine bodyPost_ret (results_cell_row rfl _ _ g103 26 #[.int .i64 t104, .int .i64 t105, .slice Ao76 s0.length co76] (0, 0) _ rfl (by refine bq #[.int .i64 t104, .int .i64 t105, .slice none 0 0] 2 ?_; refine bq #[.int .i64 t104, .int .i64 0, .slice none 0 0] 1 ?_; refine bq #[.int .i64 0, .int .i64 0, .slice none 0 0] 0 ?_; refine bk ?_; exact B103.out) Try.underlying26 rfl (by kernel_rfl)) rfl ?_
  exact ⟨_, er, by (with_reducible repeat (first | apply Kd.R_alloc | apply Kd.R_drewN | apply Kd.R_drew)); exact Kd.R_mono (rF3 O0.out B103.out (.int .i64 t104) (.int .i64 t105) (.slice Ao76 s0.length co76)) (fun _ h => trivial), pT HB.out⟩
 rw [if_pos c17] at H
 have c17b0 : decide (x6_1 < a0_1) = true := decide_eq_true c17
 clear c17
 have H' := aK H
 clear H
 obtain ⟨_, _⟩ := nB N101_102
 obtain ⟨_, _⟩ := nB N101_103
 obtain ⟨_, _⟩ := nB N101_109
 obtain ⟨z21_0, z21_1, z21_2, y21_0, y21_1, y21_2⟩ := bc3 B101.out
 go_wp2
 go_loopg [7] k1 (fun kq v7 w' => ∃ (x7_2 : Int) (s1 : List Int) (u110002 : Value), v7 = .int .i64 x7_2 ∧ Aside0 (spec_l11Move.l1 kq x6_1 x7_2 a0_0 a0_1 l0_2 a1_0 a1_1 t104 t105 s1 = some (r1, r2, r3)) ∧ Aside0 (kq ≤ k1) ∧ Aside0 (Kd.R (Kd.int .i64) 3 w' w.heap.size (fun _ => True) u110002 s1) ∧ Aside0 (w'.heap[g101]? = some (.cells #[.int .i64 a0_0, .int .i64 a0_1, (.slice A0_2 l0_2.length c0_2)] 26 (0, 0))) ∧ Aside0 (w'.heap[g102]? = some (.cells #[.int .i64 a1_0, .int .i64 a1_1] 28 (0, 0))) ∧ Aside0 (w'.heap[g103]? = some (.cells #[.int .i64 0, .int .i64 0, (.slice none 0 0)] 26 (0, 0))) ∧ Aside0 (w'.heap[g109]? = some (.cells #[.int .i64 t104, .int .i64 t105, u110002] 26 (0, 0))) ∧ Aside0 (Below w.heap.size w w'))
 case atStart => exact ⟨(0), (s0), (u110002), (by first | rfl | (simp; done) | (simp [*]; done)), H', ⟨Nat.le_refl _⟩, ⟨pR O0.out⟩, ⟨by refine bk ?_; exact B101.out⟩, ⟨by refine bk ?_; exact B102.out⟩, ⟨by refine bk ?_; exact B103.out⟩, ⟨by refine bk ?_; exact B109.out⟩, ⟨pT HB.out⟩⟩
 case round =>
 clear H'
 clear c17b0 z21_0 z21_1 z21_2 y21_0 y21_1 y21_2
 obtain ⟨x7_2, s1, u110002, rfl, HA, HK2, O0, B101, B102, B103, B109, HB⟩ := hrel
 cases gk with
 | zero => exact absurd HA.out (by simp [spec_l11Move.l1])
 | succ k2 =>
 have H := HA.out
 clear HA
 simp only [spec_l11Move.l1] at H
 by_cases c22 : x7_2 < a0_0
 rotate_left
 ·
  rw [if_neg c22] at H
  have c22b0 : decide (x7_2 < a0_0) = false := decide_eq_false c22
  clear c22; have H' := aK H; clear H; obtain ⟨_, _⟩ := nB N101_102; obtain ⟨_, _⟩ := nB N101_103; obtain ⟨_, _⟩ := nB N101_109; obtain ⟨_, _, _, _, _, _⟩ := bc3 B101.out
  go_wp2
  go_roundg k2
  case measure => have := HK1.out; have := HK2.out; omega
  case rel => exact ⟨(wrap64 (x6_1 + 1)), (s1), (u110002), (by first | rfl | (simp; done) | (simp [*]; done)), H', ⟨by have := HK1.out; have := HK2.out; omega⟩, ⟨pR O0.out⟩, ⟨by refine bk ?_; exact B101.out⟩, ⟨by refine bk ?_; exact B102.out⟩, ⟨by refine bk ?_; exact B103.out⟩, ⟨by refine bk ?_; exact B109.out⟩, ⟨pT HB.out⟩⟩
 rw [if_pos c22] at H
 have c22b0 : decide (x7_2 < a0_0) = true := decide_eq_true c22
 clear c22
 replace H := oA H
 obtain ⟨t110, A23, H⟩ := H
 replace H : (if t110 = true then ((spec_l2At.f a0_0 a0_1 l0_2 (wrap64 (x7_2 - a1_0)) (wrap64 (x6_1 - a1_1))).bind fun t111 => (if 0 ≤ (wrap64 ((wrap64 (x6_1 * a0_0)) + x7_2)) then (if (wrap64 ((wrap64 (x6_1 * a0_0)) + x7_2)) < (s1.length : Int) then (spec_l11Move.l1 k2 x6_1 (wrap64 (x7_2 + 1)) a0_0 a0_1 l0_2 a1_0 a1_1 t104 t105 (s1.set ((wrap64 ((wrap64 (x6_1 * a0_0)) + x7_2)) : Int).toNat t111)) else (none)) else (none))) else (if 0 ≤ (wrap64 ((wrap64 (x6_1 * a0_0)) + x7_2)) then (if (wrap64 ((wrap64 (x6_1 * a0_0)) + x7_2)) < (s1.length : Int) then (spec_l11Move.l1 k2 x6_1 (wrap64 (x7_2 + 1)) a0_0 a0_1 l0_2 a1_0 a1_1 t104 t105 (s1.set ((wrap64 ((wrap64 (x6_1 * a0_0)) + x7_2)) : Int).toNat (-9999))) else (none)) else (none))) = some (r1, r2, r3) := H
 by_cases c24 : t110 = true
 ·
  subst c24
  have H1 : ((spec_l2At.f a0_0 a0_1 l0_2 (wrap64 (x7_2 - a1_0)) (wrap64 (x6_1 - a1_1))).bind fun t111 => (if 0 ≤ (wrap64 ((wrap64 (x6_1 * a0_0)) + x7_2)) then (if (wrap64 ((wrap64 (x6_1 * a0_0)) + x7_2)) < (s1.length : Int) then (spec_l11Move.l1 k2 x6_1 (wrap64 (x7_2 + 1)) a0_0 a0_1 l0_2 a1_0 a1_1 t104 t105 (s1.set ((wrap64 ((wrap64 (x6_1 * a0_0)) + x7_2)) : Int).toNat t111)) else (none)) else (none))) = some (r1, r2, r3) := by rw [if_pos rfl] at H; exact H
  clear H; have H := H1; clear H1; replace H := oA H; obtain ⟨t111, A25, H⟩ := H
  replace H : (if 0 ≤ (wrap64 ((wrap64 (x6_1 * a0_0)) + x7_2)) then (if (wrap64 ((wrap64 (x6_1 * a0_0)) + x7_2)) < (s1.length : Int) then (spec_l11Move.l1 k2 x6_1 (wrap64 (x7_2 + 1)) a0_0 a0_1 l0_2 a1_0 a1_1 t104 t105 (s1.set ((wrap64 ((wrap64 (x6_1 * a0_0)) + x7_2)) : Int).toNat t111)) else (none)) else (none)) = some (r1, r2, r3) := H
  obtain ⟨ji26, hji26⟩ : ∃ j_ : Int, (wrap64 ((wrap64 (x6_1 * a0_0)) + x7_2)) = j_ := ⟨_, rfl⟩
  replace H : (if 0 ≤ (ji26) then (if (ji26) < (s1.length : Int) then (spec_l11Move.l1 k2 x6_1 (wrap64 (x7_2 + 1)) a0_0 a0_1 l0_2 a1_0 a1_1 t104 t105 (s1.set ((ji26) : Int).toNat t111)) else (none)) else (none)) = some (r1, r2, r3) := by first | (rw [hji26] at H; exact H) | (simp only [hji26] at H ⊢; exact H)
  (try rw [hji26] at A23)
  (try rw [hji26] at A25)
  have hji26w : (IntKind.i64.wrap ((wrap64 (x6_1 * a0_0)) + x7_2)) = ji26 := (i64_w _).trans hji26
  by_cases c27 : 0 ≤ (ji26)
  rotate_left
  ·
   rw [if_neg c27] at H
   exact absurd H (by simp)
  rw [if_pos c27] at H
  have c27b0 : decide (0 ≤ (ji26)) = true := decide_eq_true c27
  clear c27
  by_cases c28 : (ji26) < (s1.length : Int)
  rotate_left
  ·
   rw [if_neg c28] at H
   exact absurd H (by simp)
  rw [if_pos c28] at H
  have c28b0 : decide ((ji26) < (s1.length : Int)) = true := decide_eq_true c28
  clear c28
  obtain ⟨y112, hy112⟩ : ∃ y_ : List Int, y_ = (s1.set ((ji26) : Int).toNat t111) := ⟨_, rfl⟩
  replace H : (spec_l11Move.l1 k2 x6_1 (wrap64 (x7_2 + 1)) a0_0 a0_1 l0_2 a1_0 a1_1 t104 t105 y112) = some (r1, r2, r3) := by first | (rw [hy112]; first | with_reducible exact H | with_reducible exact (oS H :)) | with_reducible exact (oS H :) | with_reducible exact H | exact H
  have Ny112 := aK hy112; clear hy112; have H' := aK H; clear H; obtain ⟨_, _⟩ := nB N101_102; obtain ⟨_, _⟩ := nB N101_103; obtain ⟨_, _⟩ := nB N101_109; obtain ⟨_, _, _, _, _, _⟩ := bc3 B101.out; obtain ⟨_, _⟩ := nB N102_103; obtain ⟨_, _⟩ := nB N102_109; obtain ⟨_, _, _, _⟩ := bc2 B102.out
  go_wp2_with (first | ((with_reducible refine gc 47 rfl ?_); refine gl (some 32) Try.func47 #[.agg #[.int .i64 a0_0, .int .i64 a0_1, .slice A0_2 l0_2.length c0_2], .int .i64 (wrap64 (x7_2 - a1_0)), .int .i64 (wrap64 (x6_1 - a1_1))] ?_; (with_reducible refine (spec_l2Has.calls a0_0 a0_1 _ _ l0_2 (wrap64 (x7_2 - a1_0)) (wrap64 (x6_1 - a1_1)) true _ ?side1 ?side2 A23.out).mono ?_); (case side1 => exact cB HR0_2 HB); (case side2 => exact HC0_2.out); rintro e w37 ⟨rfl, hb⟩; refine ⟨_, rfl, ?_⟩; replace O0 := rb O0 hb; replace B101 := bB B101 hb; replace B102 := bB B102 hb; replace B103 := bB B103 hb; replace B109 := bB B109 hb; replace HB := bS HB hb; (try clear hb); obtain ⟨_, _, _, _, _, _⟩ := bc3 B101.out; obtain ⟨_, _, _, _⟩ := bc2 B102.out) | ((with_reducible refine gc 48 rfl ?_); refine gl (some 42) Try.func48 #[.agg #[.int .i64 a0_0, .int .i64 a0_1, .slice A0_2 l0_2.length c0_2], .int .i64 (wrap64 (x7_2 - a1_0)), .int .i64 (wrap64 (x6_1 - a1_1))] ?_; (with_reducible refine (spec_l2At.calls a0_0 a0_1 _ _ l0_2 (wrap64 (x7_2 - a1_0)) (wrap64 (x6_1 - a1_1)) t111 _ ?side1 ?side2 A25.out).mono ?_); (case side1 => exact cB HR0_2 HB); (case side2 => exact HC0_2.out); rintro e w40 ⟨rfl, hb⟩; refine ⟨_, rfl, ?_⟩; replace O0 := rb O0 hb; replace B101 := bB B101 hb; replace B102 := bB B102 hb; replace B103 := bB B103 hb; replace B109 := bB B109 hb; replace HB := bS HB hb; (try clear hb); obtain ⟨_, _⟩ := nB N109_103; obtain ⟨_, _, _, _, _, _⟩ := bc3 B109.out; obtain ⟨_, _, _, _, _, _⟩ := bc3 B101.out; have p29 : 0 ≤ ((ji26) : Int) := dA; have q29 : ((ji26) : Int) < ((s1.length : Int) : Int) := dA; obtain ⟨go29, co29, eo29, g29, gl29, cl29, HG29⟩ := Kd.R_form O0.out (by omega); (first | cases eo29 | (injection eo29 with ea_ en_ ec_; (first | subst ea_ | (injection ea_ with ea_; subst ea_)); subst ec_; clear en_)); have GB29 := aK g29; have GG29 := aK HG29; clear g29 gl29 HG29; obtain ⟨hx29_0, hf29_0⟩ := Kd.R_celln 0 O0.out ((ji26) : Int) p29 q29; replace p29 := eq_true p29; replace q29 := eq_true q29; obtain ⟨hy44_, hz44_⟩ := Kd.R_celln 0 O0.out ((ji26) : Int) (dA) (dA); have HP44 := Kd.R_putg O0.out ((ji26) : Int) t111) | ((with_reducible refine gate_store (t := 3) (p := 52) rfl ?_); refine store_event (t := 3) (p := 52) (v := ?vo_w45) (w1 := (w40.setCell ⟨go29, ((ji26) : Int).toNat, none⟩ (.int .i64 t111))) ?hg ?ho ?hn ?hr ?_; (case ho => rfl); (case hg => rfl); (case hn => rfl); (case hr => first | (go_simp; done) | (go_simp; rfl)); intro w45 hw; have hg : w40.grownBy w45 (some go29) := (by rw [hw]; exact HP44.2); have hp_ : Kd.R (Kd.int .i64) 3 w45 w.heap.size (fun _ => True) (.slice (some ⟨go29, 0, none⟩) s1.length co29) y112 := (by rw [hw, Ny112.out]; exact HP44.1); clear HP44; have n0_ := aK (hp_); replace B101 := aK (blk_grown (pB B101.out) hg (Kd.R_ne O0.out B101.out (by decide))); replace B102 := aK (blk_grown (pB B102.out) hg (Kd.R_ne O0.out B102.out (by decide))); replace B103 := aK (blk_grown (pB B103.out) hg (Kd.R_ne O0.out B103.out (by decide))); replace B109 := aK (blk_grown (pB B109.out) hg (Kd.R_ne O0.out B109.out (by decide))); replace HB := aK ((by rw [hw]; exact below_set (HB.out) GB29.out : Below w.heap.size w w45)); clear O0; have O0 := n0_; clear n0_; clear hg hw hp_))
  go_roundg k2
  case measure => have := HK1.out; have := HK2.out; omega
  case rel => exact ⟨(wrap64 (x7_2 + 1)), (y112), (.slice (some ⟨go29, 0, none⟩) s1.length co29), (by first | rfl | (simp; done) | (simp [*]; done)), H', ⟨by have := HK1.out; have := HK2.out; omega⟩, ⟨pR O0.out⟩, ⟨by refine bk ?_; exact B101.out⟩, ⟨by refine bk ?_; exact B102.out⟩, ⟨by refine bk ?_; exact B103.out⟩, ⟨by refine bk ?_; exact B109.out⟩, ⟨pT HB.out⟩⟩
 replace c24 := Bool.eq_false_iff.mpr c24
 subst c24
 have H1 : (if 0 ≤ (wrap64 ((wrap64 (x6_1 * a0_0)) + x7_2)) then (if (wrap64 ((wrap64 (x6_1 * a0_0)) + x7_2)) < (s1.length : Int) then (spec_l11Move.l1 k2 x6_1 (wrap64 (x7_2 + 1)) a0_0 a0_1 l0_2 a1_0 a1_1 t104 t105 (s1.set ((wrap64 ((wrap64 (x6_1 * a0_0)) + x7_2)) : Int).toNat (-9999))) else (none)) else (none)) = some (r1, r2, r3) := by rw [if_neg (show ¬ (false = true) by decide)] at H; exact H
 clear H
 have H := H1
 clear H1
 obtain ⟨ji46, hji46⟩ : ∃ j_ : Int, (wrap64 ((wrap64 (x6_1 * a0_0)) + x7_2)) = j_ := ⟨_, rfl⟩
 replace H : (if 0 ≤ (ji46) then (if (ji46) < (s1.length : Int) then (spec_l11Move.l1 k2 x6_1 (wrap64 (x7_2 + 1)) a0_0 a0_1 l0_2 a1_0 a1_1 t104 t105 (s1.set ((ji46) : Int).toNat (-9999))) else (none)) else (none)) = some (r1, r2, r3) := by first | (rw [hji46] at H; exact H) | (simp only [hji46] at H ⊢; exact H)
 (try rw [hji46] at A23)
 have hji46w : (IntKind.i64.wrap ((wrap64 (x6_1 * a0_0)) + x7_2)) = ji46 := (i64_w _).trans hji46
 by_cases c47 : 0 ≤ (ji46)
 rotate_left
 ·
  rw [if_neg c47] at H
  exact absurd H (by simp)
 rw [if_pos c47] at H
 have c47b0 : decide (0 ≤ (ji46)) = true := decide_eq_true c47
 clear c47
 by_cases c48 : (ji46) < (s1.length : Int)
 rotate_left
 ·
  rw [if_neg c48] at H
  exact absurd H (by simp)
 rw [if_pos c48] at H
 have c48b0 : decide ((ji46) < (s1.length : Int)) = true := decide_eq_true c48
 clear c48
 obtain ⟨y113, hy113⟩ : ∃ y_ : List Int, y_ = (s1.set ((ji46) : Int).toNat (-9999)) := ⟨_, rfl⟩
 replace H : (spec_l11Move.l1 k2 x6_1 (wrap64 (x7_2 + 1)) a0_0 a0_1 l0_2 a1_0 a1_1 t104 t105 y113) = some (r1, r2, r3) := by first | (rw [hy113]; first | with_reducible exact H | with_reducible exact (oS H :)) | with_reducible exact (oS H :) | with_reducible exact H | exact H
 have Ny113 := aK hy113
 clear hy113
 have H' := aK H
 clear H
 obtain ⟨_, _⟩ := nB N101_102
 obtain ⟨_, _⟩ := nB N101_103
 obtain ⟨_, _⟩ := nB N101_109
 obtain ⟨_, _, _, _, _, _⟩ := bc3 B101.out
 obtain ⟨_, _⟩ := nB N102_103
 obtain ⟨_, _⟩ := nB N102_109
 obtain ⟨_, _, _, _⟩ := bc2 B102.out
 go_wp2_with (first | ((with_reducible refine gc 47 rfl ?_); refine gl (some 32) Try.func47 #[.agg #[.int .i64 a0_0, .int .i64 a0_1, .slice A0_2 l0_2.length c0_2], .int .i64 (wrap64 (x7_2 - a1_0)), .int .i64 (wrap64 (x6_1 - a1_1))] ?_; (with_reducible refine (spec_l2Has.calls a0_0 a0_1 _ _ l0_2 (wrap64 (x7_2 - a1_0)) (wrap64 (x6_1 - a1_1)) false _ ?side1 ?side2 A23.out).mono ?_); (case side1 => exact cB HR0_2 HB); (case side2 => exact HC0_2.out); rintro e w57 ⟨rfl, hb⟩; refine ⟨_, rfl, ?_⟩; replace O0 := rb O0 hb; replace B101 := bB B101 hb; replace B102 := bB B102 hb; replace B103 := bB B103 hb; replace B109 := bB B109 hb; replace HB := bS HB hb; (try clear hb); obtain ⟨_, _⟩ := nB N109_103; obtain ⟨_, _, _, _, _, _⟩ := bc3 B109.out; obtain ⟨_, _, _, _, _, _⟩ := bc3 B101.out; have p49 : 0 ≤ ((ji46) : Int) := dA; have q49 : ((ji46) : Int) < ((s1.length : Int) : Int) := dA; obtain ⟨go49, co49, eo49, g49, gl49, cl49, HG49⟩ := Kd.R_form O0.out (by omega); (first | cases eo49 | (injection eo49 with ea_ en_ ec_; (first | subst ea_ | (injection ea_ with ea_; subst ea_)); subst ec_; clear en_)); have GB49 := aK g49; have GG49 := aK HG49; clear g49 gl49 HG49; obtain ⟨hx49_0, hf49_0⟩ := Kd.R_celln 0 O0.out ((ji46) : Int) p49 q49; replace p49 := eq_true p49; replace q49 := eq_true q49; obtain ⟨hy61_, hz61_⟩ := Kd.R_celln 0 O0.out ((ji46) : Int) (dA) (dA); have HP61 := Kd.R_putg O0.out ((ji46) : Int) (-9999)) | ((with_reducible refine gate_store (t := 3) (p := 52) rfl ?_); refine store_event (t := 3) (p := 52) (v := ?vo_w62) (w1 := (w57.setCell ⟨go49, ((ji46) : Int).toNat, none⟩ (.int .i64 (-9999)))) ?hg ?ho ?hn ?hr ?_; (case ho => rfl); (case hg => rfl); (case hn => rfl); (case hr => first | (go_simp; done) | (go_simp; rfl)); intro w62 hw; have hg : w57.grownBy w62 (some go49) := (by rw [hw]; exact HP61.2); have hp_ : Kd.R (Kd.int .i64) 3 w62 w.heap.size (fun _ => True) (.slice (some ⟨go49, 0, none⟩) s1.length co49) y113 := (by rw [hw, Ny113.out]; exact HP61.1); clear HP61; have n0_ := aK (hp_); replace B101 := aK (blk_grown (pB B101.out) hg (Kd.R_ne O0.out B101.out (by decide))); replace B102 := aK (blk_grown (pB B102.out) hg (Kd.R_ne O0.out B102.out (by decide))); replace B103 := aK (blk_grown (pB B103.out) hg (Kd.R_ne O0.out B103.out (by decide))); replace B109 := aK (blk_grown (pB B109.out) hg (Kd.R_ne O0.out B109.out (by decide))); replace HB := aK ((by rw [hw]; exact below_set (HB.out) GB49.out : Below w.heap.size w w62)); clear O0; have O0 := n0_; clear n0_; clear hg hw hp_))
 go_roundg k2
 case measure => have := HK1.out; have := HK2.out; omega
 case rel => exact ⟨(wrap64 (x7_2 + 1)), (y113), (.slice (some ⟨go49, 0, none⟩) s1.length co49), (by first | rfl | (simp; done) | (simp [*]; done)), H', ⟨by have := HK1.out; have := HK2.out; omega⟩, ⟨pR O0.out⟩, ⟨by refine bk ?_; exact B101.out⟩, ⟨by refine bk ?_; exact B102.out⟩, ⟨by refine bk ?_; exact B103.out⟩, ⟨by refine bk ?_; exact B109.out⟩, ⟨pT HB.out⟩⟩
def spec_l1Cur_like.l0 : Nat → Int → List Int → Int → Int → Int → Int → List Int → Option (Int × Int × List Int × Int × Int)
 | 0, _, _, _, _, _, _, _ => none
 | k + 1, x6, x1000, x1001, x1002, x109000, x109001, x109002 => if x6 < (x109002.length : Int) then ((spec_l1Cur_pick.f x1000 x1001 x1002 5).bind fun bt109 => (if bt109.1 = 0 then ((spec_l1Cur_pick.f x1000 bt109.2.1 bt109.2.2 40).bind fun bt112 => (if 0 ≤ x6 then (spec_l1Cur_like.l0 k (wrap64 (x6 + 1)) x1000 bt112.2.1 bt112.2.2 x109000 x109001 (x109002.set (x6 : Int).toNat bt112.1)) else (none))) else (if bt109.1 = 1 then ((spec_l1Cur_one.f x1000 bt109.2.1 bt109.2.2 3).bind fun bt116 => (if bt116.1 = true then (if 0 ≤ x6 then (spec_l1Cur_like.l0 k (wrap64 (x6 + 1)) x1000 bt116.2.1 bt116.2.2 x109000 x109001 (x109002.set (x6 : Int).toNat (-9999))) else (none)) else (spec_l1Cur_like.l0 k (wrap64 (x6 + 1)) x1000 bt116.2.1 bt116.2.2 x109000 x109001 x109002))) else (spec_l1Cur_like.l0 k (wrap64 (x6 + 1)) x1000 bt109.2.1 bt109.2.2 x109000 x109001 x109002)))) else ((spec_l1Cur_one.f x1000 x1001 x1002 16).bind fun bt120 => (if bt120.1 = true then ((spec_l1Cur_field.f k x1000 bt120.2.1 bt120.2.2).bind fun bt123 => (some (bt123.1, bt123.2.1, bt123.2.2.1, bt123.2.2.2.1, bt123.2.2.2.2))) else (some (x109000, x109001, x109002, bt120.2.1, bt120.2.2))))
def spec_l1Cur_like.f (k : Nat) (s0_0 : List Int) (s0_1 : Int) (s0_2 : Int) (a1_0 : Int) (a1_1 : Int) (l1_2 : List Int) : Option (Int × Int × List Int × Int × Int) := (spec_l2Own.f a1_0 a1_1 l1_2).bind fun bt103 => (spec_l1Cur_like.l0 k 0 s0_0 s0_1 s0_2 bt103.1 bt103.2.1 bt103.2.2)
theorem spec_l1Cur_like.calls (k : Nat) (g : Nat) (s0_0 : List Int) (s0_1 : Int) (s0_2 : Int) (a1_0 : Int) (a1_1 : Int) (A1_2 : Option Addr) (c1_2 : Nat) (l1_2 : List Int) (r1 : Int) (r2 : Int) (r3 : List Int) (r4 : Int) (r5 : Int) (w0 w : World) (hI : IsS49 w0 w g s0_0 s0_1 s0_2) (hB : Below w0.heap.size w0 w) (hr1_2 : Kd.C (Kd.int .i64) w A1_2 l1_2.length l1_2) (hc1_2 : l1_2.length ≤ c1_2) (hf1_2 : ∀ ad, A1_2 = some ad → 0 < l1_2.length → ad.block ≠ g) (h : spec_l1Cur_like.f k s0_0 s0_1 s0_2 a1_0 a1_1 l1_2 = some (r1, r2, r3, r4, r5)) :
  Calls Try.prog 53 #[.pointer (some ⟨g, 0, none⟩), .agg #[.int .i64 a1_0, .int .i64 a1_1, .slice A1_2 l1_2.length c1_2]] w fun e w' => ∃ v2_ : Value, e = .returned (.agg #[.int .i64 r1, .int .i64 r2, v2_]) ∧ Kd.R (Kd.int .i64) 3 w' w.heap.size (fun _ => True) v2_ r3 ∧ IsS49 w0 w' g s0_0 r4 r5 ∧ Below w0.heap.size w0 w' ∧ KeepBut w w' g none := by
 have hu26 := Try.underlying26
 have HR1_2 := aK hr1_2
 have HC1_2 := aK hc1_2
 clear hr1_2 hc1_2
 have HI0 := aK hI
 have HK := aK (KeepBut.refl w g none)
 have HL := aK hB.size
 clear hI
 have HW0 := aK hB.size
 have HB := aK hB
 clear hB
 have H : ((spec_l2Own.f a1_0 a1_1 l1_2).bind fun bt103 => (spec_l1Cur_like.l0 k 0 s0_0 s0_1 s0_2 bt103.1 bt103.2.1 bt103.2.2)) = some (r1, r2, r3, r4, r5) := h
 clear h
 replace H := oA H
 obtain ⟨⟨t103, t104, t105⟩, A3, H⟩ := H
 replace H : (spec_l1Cur_like.l0 k 0 s0_0 s0_1 s0_2 t103 t104 t105) = some (r1, r2, r3, r4, r5) := H
 have H' := aK H
 clear H
 go_enter Try.func53, Try.ntmps53
 go_wp2_with (first | ((with_reducible refine ga 3 rfl ?_); refine bxa #[.int .i64 a1_0, .int .i64 a1_1, .slice A1_2 l1_2.length c1_2] 26 ?_; intro g101 hg w4 B101 hb; have n0_ := aK (IsS49.below (pI49 HI0.out) hb); have n1_ := aK (KeepBut.trans (pK HK.out) (KeepBut.of_below hb g none) (.inl rfl)); replace HB := aK (below_step ((pV HB.out (IsS49.ge HI0.out))) hb); have GW101 := aK ((by rw [hg]; exact (keep_size (w := w) (g := g) (row := none) (pK HK.out)) : w.heap.size ≤ g101)); have GE101 := aK ((Nat.le_trans HW0.out (by rw [hg]; exact (keep_size (w := w) (g := g) (row := none) (pK HK.out)) : w.heap.size ≤ g101) : w0.heap.size ≤ g101)); have N0_101 := aK ((by rw [hg]; exact Nat.ne_of_lt (IsS49.lt (show IsS49 w0 _ g s0_0 s0_1 s0_2 from pI49 HI0.out)) : g ≠ g101)); have N101_0 := aK ((by rw [hg]; exact Nat.ne_of_gt (IsS49.lt (show IsS49 w0 _ g s0_0 s0_1 s0_2 from pI49 HI0.out)) : g101 ≠ g)); clear HI0 HK; have HI0 := n0_; have HK := n1_; clear n0_ n1_; clear hb hg) | ((with_reducible refine ga 4 rfl ?_); refine bxe (cs := #[.int .i64 0, .int .i64 0, .slice none 0 0]) (t := 26) ?_; intro g102 hg w5 hbox hb; have n0_ := aK (IsS49.below (pI49 HI0.out) hb); have n2_ := aK (KeepBut.trans (pK HK.out) (KeepBut.of_below hb g none) (.inl rfl)); replace HB := aK (below_step ((pV HB.out (IsS49.ge HI0.out))) hb); have B102 := aK (hbox); have GW102 := aK ((by rw [hg]; exact (keep_size (w := w) (g := g) (row := none) (pK HK.out)) : w.heap.size ≤ g102)); have GE102 := aK ((Nat.le_trans HW0.out (by rw [hg]; exact (keep_size (w := w) (g := g) (row := none) (pK HK.out)) : w.heap.size ≤ g102) : w0.heap.size ≤ g102)); obtain ⟨N101_102, N102_101⟩ := na hg B101; have N0_102 := aK ((by rw [hg]; exact Nat.ne_of_lt (IsS49.lt (show IsS49 w0 _ g s0_0 s0_1 s0_2 from pI49 HI0.out)) : g ≠ g102)); have N102_0 := aK ((by rw [hg]; exact Nat.ne_of_gt (IsS49.lt (show IsS49 w0 _ g s0_0 s0_1 s0_2 from pI49 HI0.out)) : g102 ≠ g)); replace B101 := bB B101 hb; clear HI0 HK; have HI0 := n0_; have HK := n2_; clear n0_ n2_ hb hbox hg; obtain ⟨_, _⟩ := nB N101_102; obtain ⟨_, _⟩ := nB N101_0; obtain ⟨z8_0, z8_1, z8_2, y8_0, y8_1, y8_2⟩ := bc3 B101.out) | ((with_reducible refine gc 46 rfl ?_); refine gl (some 8) Try.func46 #[.agg #[.int .i64 a1_0, .int .i64 a1_1, .slice A1_2 l1_2.length c1_2]] ?_; (with_reducible refine (spec_l2Own.calls a1_0 a1_1 _ _ l1_2 t103 t104 t105 _ ?side1 ?side2 A3.out).mono ?_); (case side1 => exact Kd.C_keep 0 HR1_2.out (pK HK.out) hf1_2); (case side2 => exact HC1_2.out); rintro e w9 ⟨v106, rfl, ho0, hb⟩; refine ⟨_, rfl, ?_⟩; have HO107 := aK (Kd.R_lower ho0 (keep_size (w := w) (g := g) (row := none) (pK HK.out))); have n1_ := aK (IsS49.below (pI49 HI0.out) hb); have n4_ := aK (KeepBut.trans (pK HK.out) (KeepBut.of_below hb g none) (.inl rfl)); have n5_ := aK (below_step ((pV HB.out (IsS49.ge HI0.out))) hb); replace B101 := bB B101 hb; replace B102 := bB B102 hb; clear HI0 HK HB; have HI0 := n1_; have HK := n4_; have HB := n5_; clear n1_ n4_ n5_; (try clear hb); (try clear ho0)) | ((with_reducible refine ga 5 rfl ?_); refine bxe (cs := #[.int .i64 0, .int .i64 0, .slice none 0 0]) (t := 26) ?_; intro g108 hg w10 hbox hb; replace HO107 := rb HO107 hb; have n1_ := aK (IsS49.below (pI49 HI0.out) hb); have n4_ := aK (KeepBut.trans (pK HK.out) (KeepBut.of_below hb g none) (.inl rfl)); replace HB := aK (below_step ((pV HB.out (IsS49.ge HI0.out))) hb); have B108 := aK (hbox); have GW108 := aK ((by rw [hg]; exact (keep_size (w := w) (g := g) (row := none) (pK HK.out)) : w.heap.size ≤ g108)); have GE108 := aK ((Nat.le_trans HW0.out (by rw [hg]; exact (keep_size (w := w) (g := g) (row := none) (pK HK.out)) : w.heap.size ≤ g108) : w0.heap.size ≤ g108)); obtain ⟨N101_108, N108_101⟩ := na hg B101; obtain ⟨N102_108, N108_102⟩ := na hg B102; have N0_108 := aK ((by rw [hg]; exact Nat.ne_of_lt (IsS49.lt (show IsS49 w0 _ g s0_0 s0_1 s0_2 from pI49 HI0.out)) : g ≠ g108)); have N108_0 := aK ((by rw [hg]; exact Nat.ne_of_gt (IsS49.lt (show IsS49 w0 _ g s0_0 s0_1 s0_2 from pI49 HI0.out)) : g108 ≠ g)); replace B101 := bB B101 hb; replace B102 := bB B102 hb; clear HI0 HK; have HI0 := n1_; have HK := n4_; clear n1_ n4_ hb hbox hg; obtain ⟨_, _⟩ := nB N108_101; obtain ⟨_, _⟩ := nB N108_102; obtain ⟨_, _⟩ := nB N108_0; obtain ⟨z14_0, z14_1, z14_2, y14_0, y14_1, y14_2⟩ := bc3 B108.out; obtain ⟨Ao15, co15, eo15⟩ := Kd.R_slice HO107.out; subst eo15))
 go_loopg [6] k (fun kq v6 w' => ∃ (x6_1 : Int) (x1001_1 : Int) (x1002_1 : Int) (x109002_1 : List Int) (u109002 : Value), v6 = .int .i64 x6_1 ∧ Aside0 (spec_l1Cur_like.l0 kq x6_1 s0_0 x1001_1 x1002_1 t103 t104 x109002_1 = some (r1, r2, r3, r4, r5)) ∧ Aside0 (kq ≤ k) ∧ Aside0 (Kd.R (Kd.int .i64) 3 w' w.heap.size (fun _ => True) u109002 x109002_1) ∧ Aside0 (w'.heap[g101]? = some (.cells #[.int .i64 a1_0, .int .i64 a1_1, (.slice A1_2 l1_2.length c1_2)] 26 (0, 0))) ∧ Aside0 (w'.heap[g102]? = some (.cells #[.int .i64 0, .int .i64 0, (.slice none 0 0)] 26 (0, 0))) ∧ Aside0 (w'.heap[g108]? = some (.cells #[.int .i64 t103, .int .i64 t104, u109002] 26 (0, 0))) ∧ Aside0 (IsS49 w0 w' g s0_0 x1001_1 x1002_1) ∧ Aside0 (KeepBut w w' g none) ∧ Aside0 (Below w0.heap.size w0 w'))
 case atStart => exact ⟨(0), (s0_1), (s0_2), (t105), (.slice Ao15 t105.length co15), (by first | rfl | (simp; done) | (simp [*]; done)), H', ⟨Nat.le_refl _⟩, ⟨pR (Kd.R_mono (rF3 HO107.out B108.out (.int .i64 t103) (.int .i64 t104) (.slice Ao15 t105.length co15)) (fun _ h => trivial))⟩, ⟨by refine bg N101_108 ?_; refine bg N101_108 ?_; refine bg N101_108 ?_; refine bk ?_; exact B101.out⟩, ⟨by refine bg N102_108 ?_; refine bg N102_108 ?_; refine bg N102_108 ?_; refine bk ?_; exact B102.out⟩, ⟨by refine bq #[.int .i64 t103, .int .i64 t104, .slice none 0 0] 2 ?_; refine bq #[.int .i64 t103, .int .i64 0, .slice none 0 0] 1 ?_; refine bq #[.int .i64 0, .int .i64 0, .slice none 0 0] 0 ?_; refine bk ?_; exact B108.out⟩, ⟨pI49 HI0.out⟩, ⟨pK HK.out⟩, ⟨(pV HB.out (IsS49.ge HI0.out))⟩⟩
 case round =>
 clear H'
 clear z14_0 z14_1 z14_2 z8_0 z8_1 z8_2 y14_0 y14_1 y14_2 y8_0 y8_1 y8_2
 obtain ⟨x6_1, x1001_1, x1002_1, x109002_1, u109002, rfl, HA, HK1, O0, B101, B102, B108, HI0, HK, HB⟩ := hrel
 cases gk with
 | zero => exact absurd HA.out (by simp [spec_l1Cur_like.l0])
 | succ k1 =>
 have H := HA.out
 clear HA
 simp only [spec_l1Cur_like.l0] at H
 by_cases c16 : x6_1 < (x109002_1.length : Int)
 rotate_left
 ·
  rw [if_neg c16] at H
  have c16b0 : decide (x6_1 < (x109002_1.length : Int)) = false := decide_eq_false c16
  clear c16; replace H := oA H
  obtain ⟨⟨t120, t121, t122⟩, A59, H⟩ := H
  replace H : (if t120 = true then ((spec_l1Cur_field.f k1 s0_0 t121 t122).bind fun bt123 => (some (bt123.1, bt123.2.1, bt123.2.2.1, bt123.2.2.2.1, bt123.2.2.2.2))) else (some (t103, t104, x109002_1, t121, t122))) = some (r1, r2, r3, r4, r5) := H
  by_cases c60 : t120 = true
  ·
   subst c60
   have H1 : ((spec_l1Cur_field.f k1 s0_0 t121 t122).bind fun bt123 => (some (bt123.1, bt123.2.1, bt123.2.2.1, bt123.2.2.2.1, bt123.2.2.2.2))) = some (r1, r2, r3, r4, r5) := by rw [if_pos rfl] at H; exact H
   clear H; have H := H1; clear H1; replace H := oA H
   obtain ⟨⟨t123, t124, t125, t128, t129⟩, A61, H⟩ := H
   replace H : (some (t123, t124, t125, t128, t129)) = some (r1, r2, r3, r4, r5) := H
   simp only [Option.some.injEq, Prod.mk.injEq] at H
   obtain ⟨rfl, rfl, rfl, rfl, rfl⟩ := H; obtain ⟨_, _⟩ := nB N108_101; obtain ⟨_, _⟩ := nB N108_102; obtain ⟨_, _⟩ := nB N108_0; obtain ⟨_, _, _, _, _, _⟩ := bc3 B108.out; obtain ⟨Ao66, co66, eo66⟩ := Kd.R_slice O0.out; subst eo66
   go_wp2_with (first | ((with_reducible refine gc 37 rfl ?_); refine gl (some 35) Try.func37 #[.pointer (some ⟨g, 0, none⟩), .int .i64 16] ?_; (with_reducible refine (spec_l1Cur_one.calls g s0_0 x1001_1 x1002_1 16 true t121 t122 w0 _ ?side1 ?side2 A59.out).mono ?_); (case side1 => exact pI49 HI0.out); (case side2 => exact pV HB.out (IsS49.ge HI0.out)); rintro e w67 ⟨rfl, hi, hb, hk⟩; refine ⟨_, rfl, ?_⟩; replace O0 := aK (Kd.R_mono (Kd.R_keep (IsS49.apart (show IsS49 w0 _ g s0_0 x1001_1 x1002_1 from pI49 HI0.out) (pR O0.out) (by decide)) hk (fun _ h => h.2)) (fun _ h => h.1)); replace B101 := kB hk B101 N101_0; replace B102 := kB hk B102 N102_0; replace B108 := kB hk B108 N108_0; replace HK := aK (KeepBut.trans (pK HK.out) hk (.inl rfl)); replace HB := aK (hb); replace HI0 := aK (hi); (try clear hb); (try clear hk); (try clear hi)) | ((with_reducible refine gc 35 rfl ?_); refine gl (some 37) Try.func35 #[.pointer (some ⟨g, 0, none⟩)] ?_; (with_reducible refine (spec_l1Cur_field.calls k1 g s0_0 t121 t122 t123 t124 t125 t128 t129 w0 _ ?side1 ?side2 A61.out).mono ?_); (case side1 => exact pI49 HI0.out); (case side2 => exact pV HB.out (IsS49.ge HI0.out)); rintro e w68 ⟨v126, rfl, ho0, hi, hb, hk⟩; refine ⟨_, rfl, ?_⟩; have n0_ := aK (Kd.R_mono (Kd.R_told (Kd.R_oldK (IsS49.apart (show IsS49 w0 _ g s0_0 t121 t122 from pI49 HI0.out) (pR O0.out) (by decide)) hk) (Kd.R_base ho0)) (fun _ h_ => h_.1)); replace B101 := kB hk B101 N101_0; replace B102 := kB hk B102 N102_0; replace B108 := kB hk B108 N108_0; have HO127 := aK (Kd.R_lower (nw1 ho0 (pR O0.out)) (keep_size (w := w) (g := g) (row := none) (pK HK.out))); replace HK := aK (KeepBut.trans (pK HK.out) hk (.inl rfl)); replace HB := aK (hb); replace HI0 := aK (hi); clear O0; have O0 := n0_; clear n0_; (try clear hb); (try clear hk); (try clear hi); (try clear ho0); obtain ⟨_, _, _, _, _, _⟩ := bc3 B108.out; obtain ⟨Ao70, co70, eo70⟩ := Kd.R_slice HO127.out; subst eo70; obtain ⟨_, _⟩ := nB N102_101; obtain ⟨_, _⟩ := nB N102_0; obtain ⟨_, _, _, _, _, _⟩ := bc3 B102.out))
   refine bodyPost_ret (results_cell_row rfl _ _ g102 26 #[.int .i64 t123, .int .i64 t124, .slice Ao70 t125.length co70] (0, 0) _ rfl (by refine bq #[.int .i64 t123, .int .i64 t124, .slice none 0 0] 2 ?_; refine bq #[.int .i64 t123, .int .i64 0, .slice none 0 0] 1 ?_; refine bq #[.int .i64 0, .int .i64 0, .slice none 0 0] 0 ?_; refine bg N102_108 ?_; refine bg N102_108 ?_; refine bg N102_108 ?_; refine bk ?_; exact B102.out) Try.underlying26 rfl (by kernel_rfl)) rfl ?_
   exact ⟨_, er, by (with_reducible repeat (first | apply Kd.R_alloc | apply Kd.R_drewN | apply Kd.R_drew)); exact Kd.R_mono (Kd.R_far (p := ⟨g102, 2, none⟩) (Kd.R_far (p := ⟨g102, 1, none⟩) (Kd.R_far (p := ⟨g102, 0, none⟩) (Kd.R_far (p := ⟨g108, 2, none⟩) (Kd.R_far (p := ⟨g108, 1, none⟩) (Kd.R_far (p := ⟨g108, 0, none⟩) (Kd.R_types (Kd.R_types HO127.out B108.out (by decide)) B102.out (by decide)) (fun _ hk => hk.1.2) (.int .i64 t123)) (fun _ hk => hk.1.2) (.int .i64 t124)) (fun _ hk => hk.1.2) (.slice Ao70 t125.length co70)) (fun _ hk => hk.2) (.int .i64 t123)) (fun _ hk => hk.2) (.int .i64 t124)) (fun _ hk => hk.2) (.slice Ao70 t125.length co70)) (fun _ hk => trivial), pI49 HI0.out, (pV HB.out (IsS49.ge HI0.out)), pK HK.out⟩
  replace c60 := Bool.eq_false_iff.mpr c60; subst c60
  have H1 : (some (t103, t104, x109002_1, t121, t122)) = some (r1, r2, r3, r4, r5) := by rw [if_neg (show ¬ (false = true) by decide)] at H; exact H
  clear H; have H := H1; clear H1
  simp only [Option.some.injEq, Prod.mk.injEq] at H
  obtain ⟨rfl, rfl, rfl, rfl, rfl⟩ := H; obtain ⟨_, _⟩ := nB N108_101; obtain ⟨_, _⟩ := nB N108_102; obtain ⟨_, _⟩ := nB N108_0; obtain ⟨_, _, _, _, _, _⟩ := bc3 B108.out; obtain ⟨Ao78, co78, eo78⟩ := Kd.R_slice O0.out; subst eo78
  go_wp2_with (first | ((with_reducible refine gc 37 rfl ?_); refine gl (some 35) Try.func37 #[.pointer (some ⟨g, 0, none⟩), .int .i64 16] ?_; (with_reducible refine (spec_l1Cur_one.calls g s0_0 x1001_1 x1002_1 16 false t121 t122 w0 _ ?side1 ?side2 A59.out).mono ?_); (case side1 => exact pI49 HI0.out); (case side2 => exact pV HB.out (IsS49.ge HI0.out)); rintro e w79 ⟨rfl, hi, hb, hk⟩; refine ⟨_, rfl, ?_⟩; replace O0 := aK (Kd.R_mono (Kd.R_keep (IsS49.apart (show IsS49 w0 _ g s0_0 x1001_1 x1002_1 from pI49 HI0.out) (pR O0.out) (by decide)) hk (fun _ h => h.2)) (fun _ h => h.1)); replace B101 := kB hk B101 N101_0; replace B102 := kB hk B102 N102_0; replace B108 := kB hk B108 N108_0; replace HK := aK (KeepBut.trans (pK HK.out) hk (.inl rfl)); replace HB := aK (hb); replace HI0 := aK (hi); (try clear hb); (try clear hk); (try clear hi); obtain ⟨_, _, _, _, _, _⟩ := bc3 B108.out; obtain ⟨_, _⟩ := nB N102_101; obtain ⟨_, _⟩ := nB N102_0; obtain ⟨_, _, _, _, _, _⟩ := bc3 B102.out))
  refine bodyPost_ret (results_cell_row rfl _ _ g102 26 #[.int .i64 t103, .int .i64 t104, .slice Ao78 x109002_1.length co78] (0, 0) _ rfl (by refine bq #[.int .i64 t103, .int .i64 t104, .slice none 0 0] 2 ?_; refine bq #[.int .i64 t103, .int .i64 0, .slice none 0 0] 1 ?_; refine bq #[.int .i64 0, .int .i64 0, .slice none 0 0] 0 ?_; refine bk ?_; exact B102.out) Try.underlying26 rfl (by kernel_rfl)) rfl ?_
  exact ⟨_, er, by (with_reducible repeat (first | apply Kd.R_alloc | apply Kd.R_drewN | apply Kd.R_drew)); exact Kd.R_mono (rF3 O0.out B102.out (.int .i64 t103) (.int .i64 t104) (.slice Ao78 x109002_1.length co78)) (fun _ h => trivial), pI49 HI0.out, (pV HB.out (IsS49.ge HI0.out)), pK HK.out⟩
 rw [if_pos c16] at H
 have c16b0 : decide (x6_1 < (x109002_1.length : Int)) = true := decide_eq_true c16
 clear c16
 replace H := oA H
 obtain ⟨⟨t109, t110, t111⟩, A17, H⟩ := H
 replace H : (if t109 = 0 then ((spec_l1Cur_pick.f s0_0 t110 t111 40).bind fun bt112 => (if 0 ≤ x6_1 then (spec_l1Cur_like.l0 k1 (wrap64 (x6_1 + 1)) s0_0 bt112.2.1 bt112.2.2 t103 t104 (x109002_1.set (x6_1 : Int).toNat bt112.1)) else (none))) else (if t109 = 1 then ((spec_l1Cur_one.f s0_0 t110 t111 3).bind fun bt116 => (if bt116.1 = true then (if 0 ≤ x6_1 then (spec_l1Cur_like.l0 k1 (wrap64 (x6_1 + 1)) s0_0 bt116.2.1 bt116.2.2 t103 t104 (x109002_1.set (x6_1 : Int).toNat (-9999))) else (none)) else (spec_l1Cur_like.l0 k1 (wrap64 (x6_1 + 1)) s0_0 bt116.2.1 bt116.2.2 t103 t104 x109002_1))) else (spec_l1Cur_like.l0 k1 (wrap64 (x6_1 + 1)) s0_0 t110 t111 t103 t104 x109002_1))) = some (r1, r2, r3, r4, r5) := H
 by_cases c18 : t109 = 0
 rotate_left
 ·
  rw [if_neg c18] at H
  have c18b0 : (t109 == 0) = false := beq_eq_false_iff_ne.mpr c18
  have c18b1 : (t109 != 0) = true := bne_iff_ne.mpr c18
  by_cases c31 : t109 = 1
  rotate_left
  ·
   rw [if_neg c31] at H
   have c31b0 : (t109 == 1) = false := beq_eq_false_iff_ne.mpr c31
   have c31b1 : (t109 != 1) = true := bne_iff_ne.mpr c31
   have H' := aK H; clear H; obtain ⟨_, _⟩ := nB N108_101; obtain ⟨_, _⟩ := nB N108_102; obtain ⟨_, _⟩ := nB N108_0; obtain ⟨_, _, _, _, _, _⟩ := bc3 B108.out; obtain ⟨Ao57, co57, eo57⟩ := Kd.R_slice O0.out; subst eo57
   go_wp2_with (first | ((with_reducible refine gc 36 rfl ?_); refine gl (some 17) Try.func36 #[.pointer (some ⟨g, 0, none⟩), .int .i64 5] ?_; (with_reducible refine (spec_l1Cur_pick.calls g s0_0 x1001_1 x1002_1 5 t109 t110 t111 w0 _ ?side1 ?side2 A17.out).mono ?_); (case side1 => exact pI49 HI0.out); (case side2 => exact pV HB.out (IsS49.ge HI0.out)); rintro e w58 ⟨rfl, hi, hb, hk⟩; refine ⟨_, rfl, ?_⟩; replace O0 := aK (Kd.R_mono (Kd.R_keep (IsS49.apart (show IsS49 w0 _ g s0_0 x1001_1 x1002_1 from pI49 HI0.out) (pR O0.out) (by decide)) hk (fun _ h => h.2)) (fun _ h => h.1)); replace B101 := kB hk B101 N101_0; replace B102 := kB hk B102 N102_0; replace B108 := kB hk B108 N108_0; replace HK := aK (KeepBut.trans (pK HK.out) hk (.inl rfl)); replace HB := aK (hb); replace HI0 := aK (hi); (try clear hb); (try clear hk); (try clear hi)))
   go_roundg k1
   case measure => have := HK1.out; omega
   case rel => exact ⟨(wrap64 (x6_1 + 1)), (t110), (t111), (x109002_1), (.slice Ao57 x109002_1.length co57), (by first | rfl | (simp; done) | (simp [*]; done)), H', ⟨by have := HK1.out; omega⟩, ⟨pR O0.out⟩, ⟨by refine bk ?_; exact B101.out⟩, ⟨by refine bk ?_; exact B102.out⟩, ⟨by refine bk ?_; exact B108.out⟩, ⟨pI49 HI0.out⟩, ⟨pK HK.out⟩, ⟨(pV HB.out (IsS49.ge HI0.out))⟩⟩
  rw [if_pos c31] at H
  have c31b0 : (t109 == 1) = true := beq_iff_eq.mpr c31
  have c31b1 : (t109 != 1) = false := bne_eq_false_iff_eq.mpr c31
  clear c31; replace H := oA H
  obtain ⟨⟨t116, t117, t118⟩, A32, H⟩ := H
  replace H : (if t116 = true then (if 0 ≤ x6_1 then (spec_l1Cur_like.l0 k1 (wrap64 (x6_1 + 1)) s0_0 t117 t118 t103 t104 (x109002_1.set (x6_1 : Int).toNat (-9999))) else (none)) else (spec_l1Cur_like.l0 k1 (wrap64 (x6_1 + 1)) s0_0 t117 t118 t103 t104 x109002_1)) = some (r1, r2, r3, r4, r5) := H
  by_cases c33 : t116 = true
  rotate_left
  ·
   replace c33 := Bool.eq_false_iff.mpr c33; subst c33
   have H1 : (spec_l1Cur_like.l0 k1 (wrap64 (x6_1 + 1)) s0_0 t117 t118 t103 t104 x109002_1) = some (r1, r2, r3, r4, r5) := by rw [if_neg (show ¬ (false = true) by decide)] at H; exact H
   clear H; have H := H1; clear H1; have H' := aK H; clear H; obtain ⟨_, _⟩ := nB N108_101; obtain ⟨_, _⟩ := nB N108_102; obtain ⟨_, _⟩ := nB N108_0; obtain ⟨_, _, _, _, _, _⟩ := bc3 B108.out; obtain ⟨Ao50, co50, eo50⟩ := Kd.R_slice O0.out; subst eo50
   go_wp2_with (first | ((with_reducible refine gc 36 rfl ?_); refine gl (some 17) Try.func36 #[.pointer (some ⟨g, 0, none⟩), .int .i64 5] ?_; (with_reducible refine (spec_l1Cur_pick.calls g s0_0 x1001_1 x1002_1 5 t109 t110 t111 w0 _ ?side1 ?side2 A17.out).mono ?_); (case side1 => exact pI49 HI0.out); (case side2 => exact pV HB.out (IsS49.ge HI0.out)); rintro e w51 ⟨rfl, hi, hb, hk⟩; refine ⟨_, rfl, ?_⟩; replace O0 := aK (Kd.R_mono (Kd.R_keep (IsS49.apart (show IsS49 w0 _ g s0_0 x1001_1 x1002_1 from pI49 HI0.out) (pR O0.out) (by decide)) hk (fun _ h => h.2)) (fun _ h => h.1)); replace B101 := kB hk B101 N101_0; replace B102 := kB hk B102 N102_0; replace B108 := kB hk B108 N108_0; replace HK := aK (KeepBut.trans (pK HK.out) hk (.inl rfl)); replace HB := aK (hb); replace HI0 := aK (hi); (try clear hb); (try clear hk); (try clear hi)) | ((with_reducible refine gc 37 rfl ?_); refine gl (some 29) Try.func37 #[.pointer (some ⟨g, 0, none⟩), .int .i64 3] ?_; (with_reducible refine (spec_l1Cur_one.calls g s0_0 t110 t111 3 false t117 t118 w0 _ ?side1 ?side2 A32.out).mono ?_); (case side1 => exact pI49 HI0.out); (case side2 => exact pV HB.out (IsS49.ge HI0.out)); rintro e w52 ⟨rfl, hi, hb, hk⟩; refine ⟨_, rfl, ?_⟩; replace O0 := aK (Kd.R_mono (Kd.R_keep (IsS49.apart (show IsS49 w0 _ g s0_0 t110 t111 from pI49 HI0.out) (pR O0.out) (by decide)) hk (fun _ h => h.2)) (fun _ h => h.1)); replace B101 := kB hk B101 N101_0; replace B102 := kB hk B102 N102_0; replace B108 := kB hk B108 N108_0; replace HK := aK (KeepBut.trans (pK HK.out) hk (.inl rfl)); replace HB := aK (hb); replace HI0 := aK (hi); (try clear hb); (try clear hk); (try clear hi)))
   go_roundg k1
   case measure => have := HK1.out; omega
   case rel => exact ⟨(wrap64 (x6_1 + 1)), (t117), (t118), (x109002_1), (.slice Ao50 x109002_1.length co50), (by first | rfl | (simp; done) | (simp [*]; done)), H', ⟨by have := HK1.out; omega⟩, ⟨pR O0.out⟩, ⟨by refine bk ?_; exact B101.out⟩, ⟨by refine bk ?_; exact B102.out⟩, ⟨by refine bk ?_; exact B108.out⟩, ⟨pI49 HI0.out⟩, ⟨pK HK.out⟩, ⟨(pV HB.out (IsS49.ge HI0.out))⟩⟩
  subst c33
  have H1 : (if 0 ≤ x6_1 then (spec_l1Cur_like.l0 k1 (wrap64 (x6_1 + 1)) s0_0 t117 t118 t103 t104 (x109002_1.set (x6_1 : Int).toNat (-9999))) else (none)) = some (r1, r2, r3, r4, r5) := by rw [if_pos rfl] at H; exact H
  clear H; have H := H1; clear H1
  by_cases c34 : 0 ≤ x6_1
  rotate_left
  ·
   rw [if_neg c34] at H
   exact absurd H (by simp)
  rw [if_pos c34] at H
  have c34b0 : decide (0 ≤ x6_1) = true := decide_eq_true c34
  clear c34
  obtain ⟨y119, hy119⟩ : ∃ y_ : List Int, y_ = (x109002_1.set (x6_1 : Int).toNat (-9999)) := ⟨_, rfl⟩
  replace H : (spec_l1Cur_like.l0 k1 (wrap64 (x6_1 + 1)) s0_0 t117 t118 t103 t104 y119) = some (r1, r2, r3, r4, r5) := by first | (rw [hy119]; first | with_reducible exact H | with_reducible exact (oS H :)) | with_reducible exact (oS H :) | with_reducible exact H | exact H
  have Ny119 := aK hy119; clear hy119; have H' := aK H; clear H; obtain ⟨_, _⟩ := nB N108_101; obtain ⟨_, _⟩ := nB N108_102; obtain ⟨_, _⟩ := nB N108_0; obtain ⟨_, _, _, _, _, _⟩ := bc3 B108.out; obtain ⟨Ao40, co40, eo40⟩ := Kd.R_slice O0.out; subst eo40
  go_wp2_with (first | ((with_reducible refine gc 36 rfl ?_); refine gl (some 17) Try.func36 #[.pointer (some ⟨g, 0, none⟩), .int .i64 5] ?_; (with_reducible refine (spec_l1Cur_pick.calls g s0_0 x1001_1 x1002_1 5 t109 t110 t111 w0 _ ?side1 ?side2 A17.out).mono ?_); (case side1 => exact pI49 HI0.out); (case side2 => exact pV HB.out (IsS49.ge HI0.out)); rintro e w41 ⟨rfl, hi, hb, hk⟩; refine ⟨_, rfl, ?_⟩; replace O0 := aK (Kd.R_mono (Kd.R_keep (IsS49.apart (show IsS49 w0 _ g s0_0 x1001_1 x1002_1 from pI49 HI0.out) (pR O0.out) (by decide)) hk (fun _ h => h.2)) (fun _ h => h.1)); replace B101 := kB hk B101 N101_0; replace B102 := kB hk B102 N102_0; replace B108 := kB hk B108 N108_0; replace HK := aK (KeepBut.trans (pK HK.out) hk (.inl rfl)); replace HB := aK (hb); replace HI0 := aK (hi); (try clear hb); (try clear hk); (try clear hi)) | ((with_reducible refine gc 37 rfl ?_); refine gl (some 29) Try.func37 #[.pointer (some ⟨g, 0, none⟩), .int .i64 3] ?_; (with_reducible refine (spec_l1Cur_one.calls g s0_0 t110 t111 3 true t117 t118 w0 _ ?side1 ?side2 A32.out).mono ?_); (case side1 => exact pI49 HI0.out); (case side2 => exact pV HB.out (IsS49.ge HI0.out)); rintro e w42 ⟨rfl, hi, hb, hk⟩; refine ⟨_, rfl, ?_⟩; replace O0 := aK (Kd.R_mono (Kd.R_keep (IsS49.apart (show IsS49 w0 _ g s0_0 t110 t111 from pI49 HI0.out) (pR O0.out) (by decide)) hk (fun _ h => h.2)) (fun _ h => h.1)); replace B101 := kB hk B101 N101_0; replace B102 := kB hk B102 N102_0; replace B108 := kB hk B108 N108_0; replace HK := aK (KeepBut.trans (pK HK.out) hk (.inl rfl)); replace HB := aK (hb); replace HI0 := aK (hi); (try clear hb); (try clear hk); (try clear hi); obtain ⟨_, _, _, _, _, _⟩ := bc3 B108.out; have p35 : 0 ≤ (x6_1 : Int) := dA; have q35 : (x6_1 : Int) < ((x109002_1.length : Int) : Int) := dA; obtain ⟨go35, co35, eo35, g35, gl35, cl35, HG35⟩ := Kd.R_form O0.out (by omega); (first | cases eo35 | (injection eo35 with ea_ en_ ec_; (first | subst ea_ | (injection ea_ with ea_; subst ea_)); subst ec_; clear en_)); have GB35 := aK g35; have GG35 := aK HG35; clear g35 gl35 HG35; obtain ⟨hx35_0, hf35_0⟩ := Kd.R_celln 0 O0.out (x6_1 : Int) p35 q35; replace p35 := eq_true p35; replace q35 := eq_true q35; obtain ⟨hy44_, hz44_⟩ := Kd.R_celln 0 O0.out (x6_1 : Int) (dA) (dA); have HP44 := Kd.R_putg O0.out (x6_1 : Int) (-9999)) | ((with_reducible refine gate_store (t := 3) (p := 33) rfl ?_); refine store_event (t := 3) (p := 33) (v := ?vo_w45) (w1 := (w42.setCell ⟨go35, (x6_1 : Int).toNat, none⟩ (.int .i64 (-9999)))) ?hg ?ho ?hn ?hr ?_; (case ho => rfl); (case hg => rfl); (case hn => rfl); (case hr => first | (go_simp; done) | (go_simp; rfl)); intro w45 hw; have hg : w42.grownBy w45 (some go35) := (by rw [hw]; exact HP44.2); have hp_ : Kd.R (Kd.int .i64) 3 w45 w.heap.size (fun _ => True) (.slice (some ⟨go35, 0, none⟩) x109002_1.length co40) y119 := (by rw [hw, Ny119.out]; exact HP44.1); clear HP44; have n0_ := aK (hp_); replace B101 := aK (blk_grown (pB B101.out) hg (Kd.R_ne O0.out B101.out (by decide))); replace B102 := aK (blk_grown (pB B102.out) hg (Kd.R_ne O0.out B102.out (by decide))); replace B108 := aK (blk_grown (pB B108.out) hg (Kd.R_ne O0.out B108.out (by decide))); replace HI0 := aK (IsS49.grown (pI49 HI0.out) hg (IsS49.own_ne HI0.out O0.out (by decide))); replace HB := aK ((by rw [hw]; exact below_set (HB.out) (Nat.le_trans HL.out GB35.out) : Below w0.heap.size w0 w45)); replace HK := aK (KeepBut.trans (pK HK.out) (KeepBut.of_grown hg g) (Kd.R_base2 O0.out)); clear O0; have O0 := n0_; clear n0_; clear hg hw hp_))
  go_roundg k1
  case measure => have := HK1.out; omega
  case rel => exact ⟨(wrap64 (x6_1 + 1)), (t117), (t118), (y119), (.slice (some ⟨go35, 0, none⟩) x109002_1.length co40), (by first | rfl | (simp; done) | (simp [*]; done)), H', ⟨by have := HK1.out; omega⟩, ⟨pR O0.out⟩, ⟨by refine bk ?_; exact B101.out⟩, ⟨by refine bk ?_; exact B102.out⟩, ⟨by refine bk ?_; exact B108.out⟩, ⟨pI49 HI0.out⟩, ⟨pK HK.out⟩, ⟨(pV HB.out (IsS49.ge HI0.out))⟩⟩
 rw [if_pos c18] at H
 have c18b0 : (t109 == 0) = true := beq_iff_eq.mpr c18
 have c18b1 : (t109 != 0) = false := bne_eq_false_iff_eq.mpr c18
 clear c18
 replace H := oA H
 obtain ⟨⟨t112, t113, t114⟩, A19, H⟩ := H
 replace H : (if 0 ≤ x6_1 then (spec_l1Cur_like.l0 k1 (wrap64 (x6_1 + 1)) s0_0 t113 t114 t103 t104 (x109002_1.set (x6_1 : Int).toNat t112)) else (none)) = some (r1, r2, r3, r4, r5) := H
 by_cases c20 : 0 ≤ x6_1
 rotate_left
 ·
  rw [if_neg c20] at H
  exact absurd H (by simp)
 rw [if_pos c20] at H
 have c20b0 : decide (0 ≤ x6_1) = true := decide_eq_true c20
 clear c20
 obtain ⟨y115, hy115⟩ : ∃ y_ : List Int, y_ = (x109002_1.set (x6_1 : Int).toNat t112) := ⟨_, rfl⟩
 replace H : (spec_l1Cur_like.l0 k1 (wrap64 (x6_1 + 1)) s0_0 t113 t114 t103 t104 y115) = some (r1, r2, r3, r4, r5) := by first | (rw [hy115]; first | with_reducible exact H | with_reducible exact (oS H :)) | with_reducible exact (oS H :) | with_reducible exact H | exact H
 have Ny115 := aK hy115
 clear hy115
 have H' := aK H
 clear H
 obtain ⟨_, _⟩ := nB N108_101
 obtain ⟨_, _⟩ := nB N108_102
 obtain ⟨_, _⟩ := nB N108_0
 obtain ⟨_, _, _, _, _, _⟩ := bc3 B108.out
 obtain ⟨Ao26, co26, eo26⟩ := Kd.R_slice O0.out
 subst eo26
 try go_wp2_with (first | ((with_reducible refine gc 36 rfl ?_); refine gl (some 17) Try.func36 #[.pointer (some ⟨g, 0, none⟩), .int .i64 5] ?_; (with_reducible refine (spec_l1Cur_pick.calls g s0_0 x1001_1 x1002_1 5 t109 t110 t111 w0 _ ?side1 ?side2 A17.out).mono ?_); (case side1 => exact pI49 HI0.out); (case side2 => exact pV HB.out (IsS49.ge HI0.out)); rintro e w27 ⟨rfl, hi, hb, hk⟩; refine ⟨_, rfl, ?_⟩; replace O0 := aK (Kd.R_mono (Kd.R_keep (IsS49.apart (show IsS49 w0 _ g s0_0 x1001_1 x1002_1 from pI49 HI0.out) (pR O0.out) (by decide)) hk (fun _ h => h.2)) (fun _ h => h.1)); replace B101 := kB hk B101 N101_0; replace B102 := kB hk B102 N102_0; replace B108 := kB hk B108 N108_0; replace HK := aK (KeepBut.trans (pK HK.out) hk (.inl rfl)); replace HB := aK (hb); replace HI0 := aK (hi); (try clear hb); (try clear hk); (try clear hi)))
 replace O0 := rdw O0
 replace B101 := bD B101
 replace B102 := bD B102
 replace B108 := bD B108
 replace HI0 := aK (IsS49.drew HI0.out)
 replace HK := aK (keep_drew HK.out)
 replace HB := aK (below_drew1 HB.out)
 refine start_ (n := 7) (S := fun w' => w'.cell? ⟨g108, 0, none⟩ = some (.int .i64 t103) ∧ w'.cell? ⟨g108, 1, none⟩ = some (.int .i64 t104) ∧ w'.cell? ⟨g108, 2, none⟩ = some (.slice Ao26 x109002_1.length co26)) (ds := [6]) (bz [0, 7]) (by kernel_rfl) rfl rfl (cz3 B108.out) (fun hHeld => ?_)
 generalize w27.drew = w28 at O0 B101 B102 B108 HI0 HK HB hHeld ⊢
 refine pure_ (i := 0) (N := some 20) (v := ?_) (a' := ?_) (bz [1, 6]) rfl rfl (by kernel_rfl) (fun _ _ _ h => h) (Or.inl ⟨by rfl, ?_⟩) ?_ ?_
 rotate_left
 ·
  intro w'
  go_simp
  with_reducible rfl
 rotate_left
 ·
  simp only [sP]
  rfl
 refine pure_ (i := 2) (N := some 22) (v := ?_) (a' := ?_) (bz [1, 1, 1, 4]) rfl rfl (by kernel_rfl) (fun _ _ _ h => h) (Or.inl ⟨by rfl, ?_⟩) ?_ ?_
 rotate_left
 ·
  intro w'
  go_simp
  with_reducible rfl
 rotate_left
 ·
  simp only [sP]
  rfl
 refine pure_ (i := 3) (N := some 23) (v := ?_) (a' := ?_) (bz [1, 1, 2, 3]) rfl rfl (by kernel_rfl) (fun _ _ _ h => h) (Or.inl ⟨by rfl, ?_⟩) ?_ ?_
 rotate_left
 ·
  intro w'
  go_simp
  with_reducible rfl
 rotate_left
 ·
  simp only [sP]
  rfl
 refine take_ (i := 1) (N := some 21) (v := ?_) (a' := ?_) (bz [4, 3]) rfl rfl (by kernel_rfl) (fun _ _ _ h => h) (Or.inl ⟨by rfl, ?_⟩) hHeld ?_ ?_
 rotate_left
 ·
  rintro w' ⟨s0, s1, s2⟩
  go_simp
  with_reducible rfl
 rotate_left
 ·
  simp only [sP]
  rfl
 refine one_ (i := 4) (N := some 24) (bz [5, 2]) rfl rfl (by kernel_rfl) (by decide) (fun K hK => ?_)
 refine gs Try.func36 #[.pointer (some ⟨g, 0, none⟩), .int .i64 40] ?_
 with_reducible refine (spec_l1Cur_pick.calls g s0_0 t110 t111 40 t112 t113 t114 w0 _ ?side1 ?side2 A19.out).mono ?_
 (case side1 => exact pI49 HI0.out)
 (case side2 => exact pV HB.out (IsS49.ge HI0.out))
 rintro e w29 ⟨rfl, hi, hb, hk⟩
 refine ⟨_, rfl, ?_⟩
 replace O0 := aK (Kd.R_mono (Kd.R_keep (IsS49.apart (show IsS49 w0 _ g s0_0 t110 t111 from pI49 HI0.out) (pR O0.out) (by decide)) hk (fun _ h => h.2)) (fun _ h => h.1))
 replace B101 := kB hk B101 N101_0
 replace B102 := kB hk B102 N102_0
 replace B108 := kB hk B108 N108_0
 replace HK := aK (KeepBut.trans (pK HK.out) hk (.inl rfl))
 replace HB := aK (hb)
 replace HI0 := aK (hi)
 clear hb hk hi
 have p21 : 0 ≤ (x6_1 : Int) := dA
 have q21 : (x6_1 : Int) < ((x109002_1.length : Int) : Int) := dA
 obtain ⟨go21, co21, eo21, g21, gl21, cl21, HG21⟩ := Kd.R_form O0.out (by omega)
 (first | cases eo21 | (injection eo21 with ea_ en_ ec_; (first | subst ea_ | (injection ea_ with ea_; subst ea_)); subst ec_; clear en_))
 have GB21 := aK g21
 have GG21 := aK HG21
 clear g21 gl21 HG21
 obtain ⟨hx21_0, hf21_0⟩ := Kd.R_celln 0 O0.out (x6_1 : Int) p21 q21
 replace p21 := eq_true p21
 replace q21 := eq_true q21
 have HN0_go21 := aK (show g ≠ go21 from by have h_ := IsS49.own_ne HI0.out O0.out (by decide); intro e_; exact h_ (by rw [e_]; rfl))
 have HP30 := Kd.R_putn O0.out (x6_1 : Int) t112
 rw [← Ny115.out] at HP30
 have HQ30 := aK HP30
 clear HP30
 refine hK.out _ _ (cz3 B108.out) (fun hHeld => ?_)
 clear hK K
 refine nm 24 ?_
 refine pure_ (i := 5) (N := some 25) (v := ?_) (a' := ?_) (bz [6, 1]) rfl rfl (by kernel_rfl) (fun _ _ _ h => h) (Or.inl ⟨by rfl, ?_⟩) ?_ ?_
 rotate_left
 ·
  intro w'
  go_simp
  with_reducible rfl
 rotate_left
 ·
  simp only [sP]
  rfl
 refine last_ (i := 6) (N := none) (bz [7, 0]) rfl rfl (by kernel_rfl) (by decide) (fun K hK => ?_)
 refine skip_ (w1 := ?_) (by rfl) rfl ?_ ?_
 rotate_left
 ·
  go_simp
  rfl
 refine hK.out _ _ ?_
 clear hK K
 refine done_ (by kernel_rfl) ?_
 try go_wp2
 go_roundg k1
 case measure => have := HK1.out; omega
 case rel => exact ⟨(wrap64 (x6_1 + 1)), (t113), (t114), (y115), (.slice (some ⟨go21, 0, none⟩) x109002_1.length co26), (by first | rfl | (simp; done) | (simp [*]; done)), H', ⟨by have := HK1.out; omega⟩, ⟨pR HQ30.out⟩, ⟨by refine bk ?_; refine blk_far ?_ (by have h_ := Kd.R_ne O0.out B101.out (by decide); intro e_; exact h_ (by rw [e_]; rfl)) _; refine bk ?_; exact B101.out⟩, ⟨by refine bk ?_; refine blk_far ?_ (by have h_ := Kd.R_ne O0.out B102.out (by decide); intro e_; exact h_ (by rw [e_]; rfl)) _; refine bk ?_; exact B102.out⟩, ⟨by refine bk ?_; refine blk_far ?_ (by have h_ := Kd.R_ne O0.out B108.out (by decide); intro e_; exact h_ (by rw [e_]; rfl)) _; refine bk ?_; exact B108.out⟩, ⟨by repeat (first | (with_reducible first | exact HI0.out | apply IsS49.alloc | apply IsS49.drewN | apply IsS49.drew | apply IsS49.set_1 | apply IsS49.set_2 | refine IsS49.far ?_ HN0_go21.out _ | refine IsS49.far ?_ N0_101.out _ | refine IsS49.far ?_ N0_102.out _ | refine IsS49.far ?_ N0_108.out _) | exact HI0.out)⟩, ⟨by repeat (first | (with_reducible first | exact HK.out | apply KeepBut.set_ | apply keep_drewN | apply keep_drew | apply keep_alloc | refine keep_far ?_ GB21.out _ | refine keep_far ?_ GW101.out _ | refine keep_far ?_ GW102.out _ | refine keep_far ?_ GW108.out _) | exact HK.out)⟩, ⟨by repeat (first | (with_reducible first | exact HB.out | apply below_alloc | apply pw_below_drewN | apply below_drew1 | refine below_set ?_ (Nat.le_trans HL.out GB21.out) | refine below_set ?_ (IsS49.ge HI0.out) | refine below_set ?_ GE101.out | refine below_set ?_ GE102.out | refine below_set ?_ GE108.out) | exact HB.out)⟩⟩
mutual
def spec_l1Cur_moved.j0 : Nat → List Int → Int → Int → Int → Int → List Int → Option (Int × Int × List Int × Int × Int × List Int × Int × Int)
 | 0, _, _, _, _, _, _ => none
 | k + 1, x1000, x1001, x1002, x111000, x111001, x111002 => (spec_l1Cur_like.f k x1000 x1001 x1002 x111000 x111001 x111002).bind fun bt121 => ((spec_l2Good.f k x111000 x111001 x111002).bind fun t129 => (if t129 = true then ((spec_l1Cur_one.f x1000 bt121.2.2.2.1 bt121.2.2.2.2 3).bind fun bt130 => (spec_l1Cur_moved.j1 k (!bt130.1) x1000 bt130.2.1 bt130.2.2 x111000 x111001 x111002 bt121.1 bt121.2.1 bt121.2.2.1)) else (spec_l1Cur_moved.j1 k false x1000 bt121.2.2.2.1 bt121.2.2.2.2 x111000 x111001 x111002 bt121.1 bt121.2.1 bt121.2.2.1)))
def spec_l1Cur_moved.j1 : Nat → Bool → List Int → Int → Int → Int → Int → List Int → Int → Int → List Int → Option (Int × Int × List Int × Int × Int × List Int × Int × Int)
 | 0, _, _, _, _, _, _, _, _, _, _ => none
 | k + 1, x22, x1000, x1001, x1002, x111000, x111001, x111002, x129000, x129001, x129002 => if x22 = true then ((spec_l1Cur_pick.f x1000 x1001 x1002 3).bind fun bt133 => ((spec_l1Cur_pick.f x1000 bt133.2.1 bt133.2.2 3).bind fun bt136 => ((spec_l11Move.f k x111000 x111001 x111002 (wrap64 (bt133.1 - 1)) (wrap64 (bt136.1 - 1))).bind fun bt139 => (spec_l1Cur_moved.l0 k 0 x1000 bt136.2.1 bt136.2.2 x111000 x111001 x111002 bt139.1 bt139.2.1 bt139.2.2)))) else (some (x111000, x111001, x111002, x129000, x129001, x129002, x1001, x1002))
def spec_l1Cur_moved.l0 : Nat → Int → List Int → Int → Int → Int → Int → List Int → Int → Int → List Int → Option (Int × Int × List Int × Int × Int × List Int × Int × Int)
 | 0, _, _, _, _, _, _, _, _, _, _ => none
 | k + 1, x6, x1000, x1001, x1002, x111000, x111001, x111002, x129000, x129001, x129002 => if x6 < (x129002.length : Int) then (if 0 ≤ x6 then (if (rd x129002 x6) = (-9999) then ((spec_l1Cur_pick.f x1000 x1001 x1002 30).bind fun bt145 => (spec_l1Cur_moved.l0 k (wrap64 (x6 + 1)) x1000 bt145.2.1 bt145.2.2 x111000 x111001 x111002 x129000 x129001 (x129002.set (x6 : Int).toNat bt145.1))) else (spec_l1Cur_moved.l0 k (wrap64 (x6 + 1)) x1000 x1001 x1002 x111000 x111001 x111002 x129000 x129001 x129002)) else (none)) else (some (x111000, x111001, x111002, x129000, x129001, x129002, x1001, x1002))
end
def spec_l1Cur_moved.f (k : Nat) (s0_0 : List Int) (s0_1 : Int) (s0_2 : Int) : Option (Int × Int × List Int × Int × Int × List Int × Int × Int) := (spec_l1Cur_field.f k s0_0 s0_1 s0_2).bind fun bt103 => ((spec_l1Cur_one.f s0_0 bt103.2.2.2.1 bt103.2.2.2.2 16).bind fun bt111 => (if bt111.1 = true then ((spec_l1Cur_anyField.f k s0_0 bt111.2.1 bt111.2.2).bind fun bt114 => (spec_l1Cur_moved.j0 k s0_0 bt114.2.2.2.1 bt114.2.2.2.2 bt114.1 bt114.2.1 bt114.2.2.1)) else (spec_l1Cur_moved.j0 k s0_0 bt111.2.1 bt111.2.2 bt103.1 bt103.2.1 bt103.2.2.1)))
def spec_l1Cur_moved.T6 : Bool × List (List Nat × List Nat) := (true, [([], []), ([], []), ([1], [1]), ([2], [2]), ([], []), ([4, 2], [4]), ([5], [5]), ([3, 6], [3, 6]), ([0, 7, 5], [0, 7]), ([8, 8, 0, 1, 2, 3, 4, 5, 6, 7, 8], [8])])
def spec_l1Cur_moved.B6 : List Nat := [0, 0, 2, 6, 0, 22, 54, 126, 255, 511]
theorem spec_l1Cur_moved.tab6 : rtab .any (opsOf Try.f28 6) = spec_l1Cur_moved.T6 := by kernel_rfl
theorem spec_l1Cur_moved.bits6 : waitsOk spec_l1Cur_moved.T6.2 spec_l1Cur_moved.B6 = true := by kernel_rfl
theorem spec_l1Cur_moved.calls (k : Nat) (g : Nat) (s0_0 : List Int) (s0_1 : Int) (s0_2 : Int) (r1 : Int) (r2 : Int) (r3 : List Int) (r4 : Int) (r5 : Int) (r6 : List Int) (r7 : Int) (r8 : Int) (w0 w : World) (hI : IsS49 w0 w g s0_0 s0_1 s0_2) (hB : Below w0.heap.size w0 w) (h : spec_l1Cur_moved.f k s0_0 s0_1 s0_2 = some (r1, r2, r3, r4, r5, r6, r7, r8)) :
  Calls Try.prog 28 #[.pointer (some ⟨g, 0, none⟩)] w fun e w' => ∃ v2_ v5_ : Value, e = .returned (.tuple #[.agg #[.int .i64 r1, .int .i64 r2, v2_], .agg #[.int .i64 r4, .int .i64 r5, v5_]]) ∧ Kd.Q (Kd.int .i64) 3 w' w.heap.size (fun k_ => some k_ ≠ (v5_ : Value).ownBlock) v2_ r3 ∧ Kd.Q (Kd.int .i64) 3 w' w.heap.size (fun k_ => some k_ ≠ (v2_ : Value).ownBlock) v5_ r6 ∧ IsS49 w0 w' g s0_0 r7 r8 ∧ Below w0.heap.size w0 w' ∧ KeepBut w w' g none := by
 have hu26 := Try.underlying26
 have hu28 := Try.underlying28
 have HI0 := aK hI
 have HK := aK (KeepBut.refl w g none)
 have HL := aK hB.size
 clear hI
 have HW0 := aK hB.size
 have HB := aK hB
 clear hB
 have H : ((spec_l1Cur_field.f k s0_0 s0_1 s0_2).bind fun bt103 => ((spec_l1Cur_one.f s0_0 bt103.2.2.2.1 bt103.2.2.2.2 16).bind fun bt111 => (if bt111.1 = true then ((spec_l1Cur_anyField.f k s0_0 bt111.2.1 bt111.2.2).bind fun bt114 => (spec_l1Cur_moved.j0 k s0_0 bt114.2.2.2.1 bt114.2.2.2.2 bt114.1 bt114.2.1 bt114.2.2.1)) else (spec_l1Cur_moved.j0 k s0_0 bt111.2.1 bt111.2.2 bt103.1 bt103.2.1 bt103.2.2.1)))) = some (r1, r2, r3, r4, r5, r6, r7, r8) := h
 clear h
 replace H := oA H
 obtain ⟨⟨t103, t104, t105, t108, t109⟩, A2, H⟩ := H
 replace H : ((spec_l1Cur_one.f s0_0 t108 t109 16).bind fun bt111 => (if bt111.1 = true then ((spec_l1Cur_anyField.f k s0_0 bt111.2.1 bt111.2.2).bind fun bt114 => (spec_l1Cur_moved.j0 k s0_0 bt114.2.2.2.1 bt114.2.2.2.2 bt114.1 bt114.2.1 bt114.2.2.1)) else (spec_l1Cur_moved.j0 k s0_0 bt111.2.1 bt111.2.2 t103 t104 t105))) = some (r1, r2, r3, r4, r5, r6, r7, r8) := H
 replace H := oA H
 obtain ⟨⟨t111, t112, t113⟩, A3, H⟩ := H
 replace H : (if t111 = true then ((spec_l1Cur_anyField.f k s0_0 t112 t113).bind fun bt114 => (spec_l1Cur_moved.j0 k s0_0 bt114.2.2.2.1 bt114.2.2.2.2 bt114.1 bt114.2.1 bt114.2.2.1)) else (spec_l1Cur_moved.j0 k s0_0 t112 t113 t103 t104 t105)) = some (r1, r2, r3, r4, r5, r6, r7, r8) := H
 have HC4 := aK H
 clear H
 go_enter Try.func28, Try.ntmps28
 go_upto_if 10 with (first | ((with_reducible refine ga 2 rfl ?_); refine bxa #[.int .i64 0, .int .i64 0, .slice none 0 0] 26 ?_; intro g101 hg w5 B101 hb; have n0_ := aK (IsS49.below (pI49 HI0.out) hb); have n1_ := aK (KeepBut.trans (pK HK.out) (KeepBut.of_below hb g none) (.inl rfl)); replace HB := aK (below_step ((pV HB.out (IsS49.ge HI0.out))) hb); have GW101 := aK ((by rw [hg]; exact (keep_size (w := w) (g := g) (row := none) (pK HK.out)) : w.heap.size ≤ g101)); have GE101 := aK ((Nat.le_trans HW0.out (by rw [hg]; exact (keep_size (w := w) (g := g) (row := none) (pK HK.out)) : w.heap.size ≤ g101) : w0.heap.size ≤ g101)); have N0_101 := aK ((by rw [hg]; exact Nat.ne_of_lt (IsS49.lt (show IsS49 w0 _ g s0_0 s0_1 s0_2 from pI49 HI0.out)) : g ≠ g101)); have N101_0 := aK ((by rw [hg]; exact Nat.ne_of_gt (IsS49.lt (show IsS49 w0 _ g s0_0 s0_1 s0_2 from pI49 HI0.out)) : g101 ≠ g)); clear HI0 HK; have HI0 := n0_; have HK := n1_; clear n0_ n1_; clear hb hg) | ((with_reducible refine ga 3 rfl ?_); refine bxa #[.int .i64 0, .int .i64 0, .slice none 0 0] 26 ?_; intro g102 hg w6 B102 hb; have n0_ := aK (IsS49.below (pI49 HI0.out) hb); have n2_ := aK (KeepBut.trans (pK HK.out) (KeepBut.of_below hb g none) (.inl rfl)); replace HB := aK (below_step ((pV HB.out (IsS49.ge HI0.out))) hb); have GW102 := aK ((by rw [hg]; exact (keep_size (w := w) (g := g) (row := none) (pK HK.out)) : w.heap.size ≤ g102)); have GE102 := aK ((Nat.le_trans HW0.out (by rw [hg]; exact (keep_size (w := w) (g := g) (row := none) (pK HK.out)) : w.heap.size ≤ g102) : w0.heap.size ≤ g102)); obtain ⟨N101_102, N102_101⟩ := na hg B101; have N0_102 := aK ((by rw [hg]; exact Nat.ne_of_lt (IsS49.lt (show IsS49 w0 _ g s0_0 s0_1 s0_2 from pI49 HI0.out)) : g ≠ g102)); have N102_0 := aK ((by rw [hg]; exact Nat.ne_of_gt (IsS49.lt (show IsS49 w0 _ g s0_0 s0_1 s0_2 from pI49 HI0.out)) : g102 ≠ g)); replace B101 := bB B101 hb; clear HI0 HK; have HI0 := n0_; have HK := n2_; clear n0_ n2_; clear hb hg) | ((with_reducible refine gc 35 rfl ?_); refine gl (some 8) Try.func35 #[.pointer (some ⟨g, 0, none⟩)] ?_; (with_reducible refine (spec_l1Cur_field.calls k g s0_0 s0_1 s0_2 t103 t104 t105 t108 t109 w0 _ ?side1 ?side2 A2.out).mono ?_); (case side1 => exact pI49 HI0.out); (case side2 => exact pV HB.out (IsS49.ge HI0.out)); rintro e w7 ⟨v106, rfl, ho0, hi, hb, hk⟩; refine ⟨_, rfl, ?_⟩; replace B101 := kB hk B101 N101_0; replace B102 := kB hk B102 N102_0; have HO107 := aK (Kd.R_lower ho0 (keep_size (w := w) (g := g) (row := none) (pK HK.out))); replace HK := aK (KeepBut.trans (pK HK.out) hk (.inl rfl)); replace HB := aK (hb); replace HI0 := aK (hi); (try clear hb); (try clear hk); (try clear hi); (try clear ho0)) | ((with_reducible refine ga 4 rfl ?_); refine bxe (cs := #[.int .i64 0, .int .i64 0, .slice none 0 0]) (t := 26) ?_; intro g110 hg w8 hbox hb; replace HO107 := rb HO107 hb; have n1_ := aK (IsS49.below (pI49 HI0.out) hb); have n4_ := aK (KeepBut.trans (pK HK.out) (KeepBut.of_below hb g none) (.inl rfl)); replace HB := aK (below_step ((pV HB.out (IsS49.ge HI0.out))) hb); have B110 := aK (hbox); have GW110 := aK ((by rw [hg]; exact (keep_size (w := w) (g := g) (row := none) (pK HK.out)) : w.heap.size ≤ g110)); have GE110 := aK ((Nat.le_trans HW0.out (by rw [hg]; exact (keep_size (w := w) (g := g) (row := none) (pK HK.out)) : w.heap.size ≤ g110) : w0.heap.size ≤ g110)); obtain ⟨N101_110, N110_101⟩ := na hg B101; obtain ⟨N102_110, N110_102⟩ := na hg B102; have N0_110 := aK ((by rw [hg]; exact Nat.ne_of_lt (IsS49.lt (show IsS49 w0 _ g s0_0 t108 t109 from pI49 HI0.out)) : g ≠ g110)); have N110_0 := aK ((by rw [hg]; exact Nat.ne_of_gt (IsS49.lt (show IsS49 w0 _ g s0_0 t108 t109 from pI49 HI0.out)) : g110 ≠ g)); replace B101 := bB B101 hb; replace B102 := bB B102 hb; clear HI0 HK; have HI0 := n1_; have HK := n4_; clear n1_ n4_ hb hbox hg; obtain ⟨_, _⟩ := nB N110_101; obtain ⟨_, _⟩ := nB N110_102; obtain ⟨_, _⟩ := nB N110_0; obtain ⟨z12_0, z12_1, z12_2, y12_0, y12_1, y12_2⟩ := bc3 B110.out; obtain ⟨Ao13, co13, eo13⟩ := Kd.R_slice HO107.out; subst eo13) | ((with_reducible refine gc 37 rfl ?_); refine gl (some 10) Try.func37 #[.pointer (some ⟨g, 0, none⟩), .int .i64 16] ?_; (with_reducible refine (spec_l1Cur_one.calls g s0_0 t108 t109 16 t111 t112 t113 w0 _ ?side1 ?side2 A3.out).mono ?_); (case side1 => exact pI49 HI0.out); (case side2 => exact pV HB.out (IsS49.ge HI0.out)); rintro e w14 ⟨rfl, hi, hb, hk⟩; refine ⟨_, rfl, ?_⟩; replace B101 := aK (KeepBut.blk hk (g' := g101) (o := .cells #[.int .i64 0, .int .i64 0, .slice none 0 0] 26 (0, 0)) (by refine bg N101_110 ?_; refine bg N101_110 ?_; refine bg N101_110 ?_; refine bk ?_; exact B101.out) N101_0.out (by simp)); replace B102 := aK (KeepBut.blk hk (g' := g102) (o := .cells #[.int .i64 0, .int .i64 0, .slice none 0 0] 26 (0, 0)) (by refine bg N102_110 ?_; refine bg N102_110 ?_; refine bg N102_110 ?_; refine bk ?_; exact B102.out) N102_0.out (by simp)); replace HO107 := aK (Kd.R_mono (Kd.R_keep (IsS49.apart (show IsS49 w0 _ g s0_0 t108 t109 from pI49 HI0.out) (pR (rF3 HO107.out B110.out (.int .i64 t103) (.int .i64 t104) (.slice Ao13 t105.length co13))) (by decide)) hk (fun _ h => h.2)) (fun _ h => h.1)); replace B110 := aK (KeepBut.blk hk (g' := g110) (o := .cells #[.int .i64 t103, .int .i64 t104, .slice Ao13 t105.length co13] 26 (0, 0)) (by refine bq #[.int .i64 t103, .int .i64 t104, .slice none 0 0] 2 ?_; refine bq #[.int .i64 t103, .int .i64 0, .slice none 0 0] 1 ?_; refine bq #[.int .i64 0, .int .i64 0, .slice none 0 0] 0 ?_; refine bk ?_; exact B110.out) N110_0.out (by simp)); replace HK := aK (KeepBut.trans (pK HK.out) hk (.inl rfl)); replace HB := aK (hb); replace HI0 := aK (hi); (try clear hb); (try clear hk); (try clear hi)))
 (try simp only [Act.put, List.setIfInBounds_toArray, List.set_cons_zero, List.set_cons_succ])
 go_cut [] (fun wc => ∃ (kq : Nat) (x1001_3 : Int) (x1002_3 : Int) (x111000_3 : Int) (x111001_3 : Int) (x111002_3 : List Int) (u111002 : Value), Aside0 (spec_l1Cur_moved.j0 kq s0_0 x1001_3 x1002_3 x111000_3 x111001_3 x111002_3 = some (r1, r2, r3, r4, r5, r6, r7, r8)) ∧ Aside0 (kq ≤ k) ∧ Aside0 (Kd.Q (Kd.int .i64) 3 wc w.heap.size (fun _ => True) u111002 x111002_3) ∧ Aside0 (wc.heap[g101]? = some (.cells #[.int .i64 0, .int .i64 0, (.slice none 0 0)] 26 (0, 0))) ∧ Aside0 (wc.heap[g102]? = some (.cells #[.int .i64 0, .int .i64 0, (.slice none 0 0)] 26 (0, 0))) ∧ Aside0 (wc.heap[g110]? = some (.cells #[.int .i64 x111000_3, .int .i64 x111001_3, u111002] 26 (0, 0))) ∧ Aside0 (IsS49 w0 wc g s0_0 x1001_3 x1002_3) ∧ Aside0 (KeepBut w wc g none) ∧ Aside0 (Below w0.heap.size w0 wc))
 case first =>
  have H := HC4.out; clear HC4
  by_cases c15 : t111 = true
  ·
   subst c15
   have H1 : ((spec_l1Cur_anyField.f k s0_0 t112 t113).bind fun bt114 => (spec_l1Cur_moved.j0 k s0_0 bt114.2.2.2.1 bt114.2.2.2.2 bt114.1 bt114.2.1 bt114.2.2.1)) = some (r1, r2, r3, r4, r5, r6, r7, r8) := by rw [if_pos rfl] at H; exact H
   clear H; have H := H1; clear H1; replace H := oA H
   obtain ⟨⟨t114, t115, t116, t119, t120⟩, A16, H⟩ := H
   replace H : (spec_l1Cur_moved.j0 k s0_0 t119 t120 t114 t115 t116) = some (r1, r2, r3, r4, r5, r6, r7, r8) := H
   have H' := aK H; clear H
   go_wp2_with (first | ((with_reducible refine gc 16 rfl ?_); refine gl (some 12) Try.func16 #[.pointer (some ⟨g, 0, none⟩)] ?_; (with_reducible refine (spec_l1Cur_anyField.calls k g s0_0 t112 t113 t114 t115 t116 t119 t120 w0 _ ?side1 ?side2 A16.out).mono ?_); (case side1 => exact pI49 HI0.out); (case side2 => exact pV HB.out (IsS49.ge HI0.out)); rintro e w17 ⟨v117, rfl, ho0, hi, hb, hk⟩; refine ⟨_, rfl, ?_⟩; replace B101 := kB hk B101 N101_0; replace B102 := kB hk B102 N102_0; have n2_ := aK (Kd.R_mono (Kd.R_told (Kd.R_oldK (IsS49.apart (show IsS49 w0 _ g s0_0 t112 t113 from pI49 HI0.out) (pR HO107.out) (by decide)) hk) (Kd.Q_base ho0)) (fun _ h_ => h_.1)); replace B110 := kB hk B110 N110_0; have HO118 := aK (Kd.Q_lower (Kd.Q_new' ho0 (Kd.R_lt (pR HO107.out))) (keep_size (w := w) (g := g) (row := none) (pK HK.out))); replace HK := aK (KeepBut.trans (pK HK.out) hk (.inl rfl)); replace HB := aK (hb); replace HI0 := aK (hi); clear HO107; have HO107 := n2_; clear n2_; (try clear hb); (try clear hk); (try clear hi); (try clear ho0); obtain ⟨_, _⟩ := nB N110_101; obtain ⟨_, _⟩ := nB N110_102; obtain ⟨_, _⟩ := nB N110_0; obtain ⟨_, _, _, _, _, _⟩ := bc3 B110.out; obtain ⟨Ao22, co22, eo22, _⟩ := Kd.Q_slice HO118.out; subst eo22))
   go_meet
   case rel => exact ⟨_, (t119), (t120), (t114), (t115), (t116), (.slice Ao22 t116.length co22), H', ⟨by first | omega | exact Nat.le_refl _⟩, ⟨by (with_reducible repeat (first | apply Kd.Q_alloc | apply Kd.Q_drewN | apply Kd.Q_drew)); exact Kd.Q_mono (qF3 HO118.out B110.out (.int .i64 t114) (.int .i64 t115) (.slice Ao22 t116.length co22)) (fun _ h => trivial)⟩, ⟨by refine bg N101_110 ?_; refine bg N101_110 ?_; refine bg N101_110 ?_; refine bk ?_; exact B101.out⟩, ⟨by refine bg N102_110 ?_; refine bg N102_110 ?_; refine bg N102_110 ?_; refine bk ?_; exact B102.out⟩, ⟨by refine bq #[.int .i64 t114, .int .i64 t115, .slice Ao13 t105.length co13] 2 ?_; refine bq #[.int .i64 t114, .int .i64 t104, .slice Ao13 t105.length co13] 1 ?_; refine bq #[.int .i64 t103, .int .i64 t104, .slice Ao13 t105.length co13] 0 ?_; refine bk ?_; exact B110.out⟩, ⟨pI49 HI0.out⟩, ⟨pK HK.out⟩, ⟨(pV HB.out (IsS49.ge HI0.out))⟩⟩
  replace c15 := Bool.eq_false_iff.mpr c15; subst c15
  have H1 : (spec_l1Cur_moved.j0 k s0_0 t112 t113 t103 t104 t105) = some (r1, r2, r3, r4, r5, r6, r7, r8) := by rw [if_neg (show ¬ (false = true) by decide)] at H; exact H
  clear H; have H := H1; clear H1; have H' := aK H; clear H
  go_wp2
  go_meet
  case rel => exact ⟨_, (t112), (t113), (t103), (t104), (t105), (.slice Ao13 t105.length co13), H', ⟨by first | omega | exact Nat.le_refl _⟩, ⟨Kd.Q_of_R (pR HO107.out)⟩, ⟨by refine bk ?_; exact B101.out⟩, ⟨by refine bk ?_; exact B102.out⟩, ⟨by refine bk ?_; exact B110.out⟩, ⟨pI49 HI0.out⟩, ⟨pK HK.out⟩, ⟨(pV HB.out (IsS49.ge HI0.out))⟩⟩
 case rest =>
 clear HC4
 clear z12_0 z12_1 z12_2 y12_0 y12_1 y12_2
 obtain ⟨kq, x1001_3, x1002_3, x111000_3, x111001_3, x111002_3, u111002, HA, HJ3, O0, B101, B102, B110, HI0, HK, HB⟩ := hcut
 cases kq with
 | zero => exact absurd HA.out (by simp [spec_l1Cur_moved.j0])
 | succ kj3 =>
 have H := HA.out
 clear HA
 simp only [spec_l1Cur_moved.j0] at H
 replace H := oA H
 obtain ⟨⟨t121, t122, t123, t126, t127⟩, A23, H⟩ := H
 replace H : ((spec_l2Good.f kj3 x111000_3 x111001_3 x111002_3).bind fun t129 => (if t129 = true then ((spec_l1Cur_one.f s0_0 t126 t127 3).bind fun bt130 => (spec_l1Cur_moved.j1 kj3 (!bt130.1) s0_0 bt130.2.1 bt130.2.2 x111000_3 x111001_3 x111002_3 t121 t122 t123)) else (spec_l1Cur_moved.j1 kj3 false s0_0 t126 t127 x111000_3 x111001_3 x111002_3 t121 t122 t123))) = some (r1, r2, r3, r4, r5, r6, r7, r8) := H
 have HC24 := aK H
 clear H
 obtain ⟨_, _⟩ := nB N110_101
 obtain ⟨_, _⟩ := nB N110_102
 obtain ⟨_, _⟩ := nB N110_0
 obtain ⟨z28_0, z28_1, z28_2, y28_0, y28_1, y28_2⟩ := bc3 B110.out
 obtain ⟨Ao29, co29, eo29, _⟩ := Kd.Q_slice O0.out
 subst eo29
 go_upto_region 5 with (first | ((with_reducible refine gc 53 rfl ?_); refine gl (some 15) Try.func53 #[.pointer (some ⟨g, 0, none⟩), .agg #[.int .i64 x111000_3, .int .i64 x111001_3, .slice Ao29 x111002_3.length co29]] ?_; (with_reducible refine (spec_l1Cur_like.calls kj3 g s0_0 x1001_3 x1002_3 x111000_3 x111001_3 _ _ x111002_3 t121 t122 t123 t126 t127 w0 _ ?side1 ?side2 ?side3 ?side4 ?side5 A23.out).mono ?_); (case side1 => exact pI49 HI0.out); (case side2 => exact pV HB.out (IsS49.ge HI0.out)); (case side3 => exact pC (Kd.Q_reads' O0.out).2.2); (case side4 => exact (Kd.Q_reads' O0.out).2.1); (case side5 => exact far_slice (IsS49.own_neQ HI0.out O0.out (by decide))); rintro e w30 ⟨v124, rfl, ho0, hi, hb, hk⟩; refine ⟨_, rfl, ?_⟩; have n0_ := aK (Kd.Q_mono (Kd.Q_told (Kd.Q_oldK (IsS49.apartQ (show IsS49 w0 _ g s0_0 x1001_3 x1002_3 from pI49 HI0.out) (pQ O0.out) (by decide)) hk) (Kd.R_base ho0)) (fun _ h_ => h_.1)); replace B101 := kB hk B101 N101_0; replace B102 := kB hk B102 N102_0; replace B110 := kB hk B110 N110_0; have HO125 := aK (Kd.R_lower (Kd.R_new' ho0 (Kd.Q_lt (pQ O0.out))) (keep_size (w := w) (g := g) (row := none) (pK HK.out))); replace HK := aK (KeepBut.trans (pK HK.out) hk (.inl rfl)); replace HB := aK (hb); replace HI0 := aK (hi); clear O0; have O0 := n0_; clear n0_; (try clear hb); (try clear hk); (try clear hi); (try clear ho0)) | ((with_reducible refine ga 5 rfl ?_); refine bxe (cs := #[.int .i64 0, .int .i64 0, .slice none 0 0]) (t := 26) ?_; intro g128 hg w31 hbox hb; replace O0 := qb O0 hb; replace HO125 := rb HO125 hb; have n5_ := aK (IsS49.below (pI49 HI0.out) hb); have n6_ := aK (KeepBut.trans (pK HK.out) (KeepBut.of_below hb g none) (.inl rfl)); replace HB := aK (below_step ((pV HB.out (IsS49.ge HI0.out))) hb); have B128 := aK (hbox); have GW128 := aK ((by rw [hg]; exact (keep_size (w := w) (g := g) (row := none) (pK HK.out)) : w.heap.size ≤ g128)); have GE128 := aK ((Nat.le_trans HW0.out (by rw [hg]; exact (keep_size (w := w) (g := g) (row := none) (pK HK.out)) : w.heap.size ≤ g128) : w0.heap.size ≤ g128)); obtain ⟨N101_128, N128_101⟩ := na hg B101; obtain ⟨N102_128, N128_102⟩ := na hg B102; obtain ⟨N110_128, N128_110⟩ := na hg B110; have N0_128 := aK ((by rw [hg]; exact Nat.ne_of_lt (IsS49.lt (show IsS49 w0 _ g s0_0 t126 t127 from pI49 HI0.out)) : g ≠ g128)); have N128_0 := aK ((by rw [hg]; exact Nat.ne_of_gt (IsS49.lt (show IsS49 w0 _ g s0_0 t126 t127 from pI49 HI0.out)) : g128 ≠ g)); replace B101 := bB B101 hb; replace B102 := bB B102 hb; replace B110 := bB B110 hb; clear HI0 HK; have HI0 := n5_; have HK := n6_; clear n5_ n6_ hb hbox hg; obtain ⟨_, _⟩ := nB N128_101; obtain ⟨_, _⟩ := nB N128_102; obtain ⟨_, _⟩ := nB N128_110; obtain ⟨_, _⟩ := nB N128_0; obtain ⟨z36_0, z36_1, z36_2, y36_0, y36_1, y36_2⟩ := bc3 B128.out; obtain ⟨Ao37, co37, eo37⟩ := Kd.R_slice HO125.out; subst eo37))
 (try simp only [Act.put, List.setIfInBounds_toArray, List.set_cons_zero, List.set_cons_succ])
 go_cut [22] (fun v22 wc => ∃ (kq : Nat) (x22_23 : Bool) (x1001_23 : Int) (x1002_23 : Int), v22 = .bool x22_23 ∧ Aside0 (spec_l1Cur_moved.j1 kq x22_23 s0_0 x1001_23 x1002_23 x111000_3 x111001_3 x111002_3 t121 t122 t123 = some (r1, r2, r3, r4, r5, r6, r7, r8)) ∧ Aside0 (kq ≤ kj3) ∧ Aside0 (Kd.Q (Kd.int .i64) 3 wc w.heap.size (fun k_ => some k_ ≠ ((.slice Ao37 t123.length co37) : Value).ownBlock) (.slice Ao29 x111002_3.length co29) x111002_3) ∧ Aside0 (Kd.Q (Kd.int .i64) 3 wc w.heap.size (fun k_ => some k_ ≠ ((.slice Ao29 x111002_3.length co29) : Value).ownBlock) (.slice Ao37 t123.length co37) t123) ∧ Aside0 (wc.heap[g101]? = some (.cells #[.int .i64 0, .int .i64 0, (.slice none 0 0)] 26 (0, 0))) ∧ Aside0 (wc.heap[g102]? = some (.cells #[.int .i64 0, .int .i64 0, (.slice none 0 0)] 26 (0, 0))) ∧ Aside0 (wc.heap[g110]? = some (.cells #[.int .i64 x111000_3, .int .i64 x111001_3, (.slice Ao29 x111002_3.length co29)] 26 (0, 0))) ∧ Aside0 (wc.heap[g128]? = some (.cells #[.int .i64 t121, .int .i64 t122, (.slice Ao37 t123.length co37)] 26 (0, 0))) ∧ Aside0 (IsS49 w0 wc g s0_0 x1001_23 x1002_23) ∧ Aside0 (KeepBut w wc g none) ∧ Aside0 (Below w0.heap.size w0 wc))
 case first =>
  have H := HC24.out; clear HC24; replace H := oA H; obtain ⟨t129, A38, H⟩ := H
  replace H : (if t129 = true then ((spec_l1Cur_one.f s0_0 t126 t127 3).bind fun bt130 => (spec_l1Cur_moved.j1 kj3 (!bt130.1) s0_0 bt130.2.1 bt130.2.2 x111000_3 x111001_3 x111002_3 t121 t122 t123)) else (spec_l1Cur_moved.j1 kj3 false s0_0 t126 t127 x111000_3 x111001_3 x111002_3 t121 t122 t123)) = some (r1, r2, r3, r4, r5, r6, r7, r8) := H
  by_cases c39 : t129 = true
  ·
   subst c39
   have H1 : ((spec_l1Cur_one.f s0_0 t126 t127 3).bind fun bt130 => (spec_l1Cur_moved.j1 kj3 (!bt130.1) s0_0 bt130.2.1 bt130.2.2 x111000_3 x111001_3 x111002_3 t121 t122 t123)) = some (r1, r2, r3, r4, r5, r6, r7, r8) := by rw [if_pos rfl] at H; exact H
   clear H; have H := H1; clear H1; replace H := oA H
   obtain ⟨⟨t130, t131, t132⟩, A40, H⟩ := H
   replace H : (spec_l1Cur_moved.j1 kj3 (!t130) s0_0 t131 t132 x111000_3 x111001_3 x111002_3 t121 t122 t123) = some (r1, r2, r3, r4, r5, r6, r7, r8) := H
   have H' := aK H; clear H; obtain ⟨_, _⟩ := nB N110_101; obtain ⟨_, _⟩ := nB N110_102; obtain ⟨_, _⟩ := nB N110_128; obtain ⟨_, _⟩ := nB N110_0; obtain ⟨_, _, _, _, _, _⟩ := bc3 B110.out
   go_wp2_with (first | ((with_reducible refine gc 21 rfl ?_); refine gl (some 17) Try.func21 #[.agg #[.int .i64 x111000_3, .int .i64 x111001_3, .slice Ao29 x111002_3.length co29]] ?_; (with_reducible refine (spec_l2Good.calls kj3 x111000_3 x111001_3 _ _ x111002_3 true _ ?side1 ?side2 A38.out).mono ?_); (case side1 => refine (Kd.Q_reads' (e := 3) (base := w.heap.size) (ok := fun k_ => (True ∧ some k_ ≠ (.slice Ao37 t123.length co37 : Value).ownBlock)) (n := x111002_3.length) (c := co29) ?_).2.2; exact (pQ (qF3 O0.out B128.out (.int .i64 t121) (.int .i64 t122) (.slice Ao37 t123.length co37)))); (case side2 => exact (Kd.Q_reads' O0.out).2.1); rintro e w46 ⟨rfl, hb⟩; refine ⟨_, rfl, ?_⟩; replace O0 := aK (Kd.Q_below (pQ (qF3 O0.out B128.out (.int .i64 t121) (.int .i64 t122) (.slice Ao37 t123.length co37))) hb); replace HO125 := aK (Kd.R_below (pR (rF3 HO125.out B128.out (.int .i64 t121) (.int .i64 t122) (.slice Ao37 t123.length co37))) hb); replace B101 := aK (blk_below (g := g101) (o := .cells #[.int .i64 0, .int .i64 0, .slice none 0 0] 26 (0, 0)) (by refine bg N101_128 ?_; refine bg N101_128 ?_; refine bg N101_128 ?_; refine bk ?_; exact B101.out) hb); replace B102 := aK (blk_below (g := g102) (o := .cells #[.int .i64 0, .int .i64 0, .slice none 0 0] 26 (0, 0)) (by refine bg N102_128 ?_; refine bg N102_128 ?_; refine bg N102_128 ?_; refine bk ?_; exact B102.out) hb); replace B110 := aK (blk_below (g := g110) (o := .cells #[.int .i64 x111000_3, .int .i64 x111001_3, .slice Ao29 x111002_3.length co29] 26 (0, 0)) (by refine bg N110_128 ?_; refine bg N110_128 ?_; refine bg N110_128 ?_; refine bk ?_; exact B110.out) hb); have n5_ := aK (IsS49.below (show IsS49 w0 (((w31.setCell ⟨g128, 0, none⟩ (.int .i64 t121)).setCell ⟨g128, 1, none⟩ (.int .i64 t122)).setCell ⟨g128, 2, none⟩ (.slice Ao37 t123.length co37)) g s0_0 t126 t127 from pI49 HI0.out) hb); replace B128 := aK (blk_below (g := g128) (o := .cells #[.int .i64 t121, .int .i64 t122, .slice Ao37 t123.length co37] 26 (0, 0)) (by refine bq #[.int .i64 t121, .int .i64 t122, .slice none 0 0] 2 ?_; refine bq #[.int .i64 t121, .int .i64 0, .slice none 0 0] 1 ?_; refine bq #[.int .i64 0, .int .i64 0, .slice none 0 0] 0 ?_; refine bk ?_; exact B128.out) hb); replace HK := aK (KeepBut.trans (pK HK.out) (KeepBut.of_below hb g none) (.inl rfl)); replace HB := aK (below_step ((pV HB.out (IsS49.ge HI0.out))) hb); clear HI0; have HI0 := n5_; clear n5_; (try clear hb)) | (go_at_call 37; (with_reducible refine (spec_l1Cur_one.calls g s0_0 t126 t127 3 t130 t131 t132 w0 _ ?side1 ?side2 A40.out).mono ?_); (case side1 => exact pI49 HI0.out); (case side2 => exact pV HB.out (IsS49.ge HI0.out)); rintro e w47 ⟨rfl, hi, hb, hk⟩; replace O0 := aK (Kd.Q_mono (Kd.Q_keep (IsS49.apartQ (show IsS49 w0 _ g s0_0 t126 t127 from pI49 HI0.out) (pQ O0.out) (by decide)) hk (fun _ h => h.2)) (fun _ h => h.1)); replace B101 := kB hk B101 N101_0; replace B102 := kB hk B102 N102_0; replace B110 := kB hk B110 N110_0; replace HO125 := aK (Kd.R_mono (Kd.R_keep (IsS49.apart (show IsS49 w0 _ g s0_0 t126 t127 from pI49 HI0.out) (pR HO125.out) (by decide)) hk (fun _ h => h.2)) (fun _ h => h.1)); replace B128 := kB hk B128 N128_0; replace HK := aK (KeepBut.trans (pK HK.out) hk (.inl rfl)); replace HB := aK (hb); replace HI0 := aK (hi); (try clear hb); (try clear hk); (try clear hi)))
   go_meet
   case rel => exact ⟨_, (!t130), (t131), (t132), (by first | rfl | (simp; done) | (simp [*]; done)), H', ⟨by have := HJ3.out; first | omega | exact Nat.le_refl _⟩, ⟨by (with_reducible repeat (first | apply Kd.Q_alloc | apply Kd.Q_drewN | apply Kd.Q_drew)); exact Kd.Q_mono O0.out (fun _ hk => hk.2)⟩, ⟨Kd.Q_of_R (pR (Kd.R_mono HO125.out (fun _ hk => hk.2)))⟩, ⟨by refine bk ?_; exact B101.out⟩, ⟨by refine bk ?_; exact B102.out⟩, ⟨by refine bk ?_; exact B110.out⟩, ⟨by refine bk ?_; exact B128.out⟩, ⟨pI49 HI0.out⟩, ⟨pK HK.out⟩, ⟨(pV HB.out (IsS49.ge HI0.out))⟩⟩
  replace c39 := Bool.eq_false_iff.mpr c39; subst c39
  have H1 : (spec_l1Cur_moved.j1 kj3 false s0_0 t126 t127 x111000_3 x111001_3 x111002_3 t121 t122 t123) = some (r1, r2, r3, r4, r5, r6, r7, r8) := by rw [if_neg (show ¬ (false = true) by decide)] at H; exact H
  clear H; have H := H1; clear H1; have H' := aK H; clear H; obtain ⟨_, _⟩ := nB N110_101; obtain ⟨_, _⟩ := nB N110_102; obtain ⟨_, _⟩ := nB N110_128; obtain ⟨_, _⟩ := nB N110_0; obtain ⟨_, _, _, _, _, _⟩ := bc3 B110.out
  go_wp2_with (first | ((with_reducible refine gc 21 rfl ?_); refine gl (some 17) Try.func21 #[.agg #[.int .i64 x111000_3, .int .i64 x111001_3, .slice Ao29 x111002_3.length co29]] ?_; (with_reducible refine (spec_l2Good.calls kj3 x111000_3 x111001_3 _ _ x111002_3 false _ ?side1 ?side2 A38.out).mono ?_); (case side1 => refine (Kd.Q_reads' (e := 3) (base := w.heap.size) (ok := fun k_ => (True ∧ some k_ ≠ (.slice Ao37 t123.length co37 : Value).ownBlock)) (n := x111002_3.length) (c := co29) ?_).2.2; exact (pQ (qF3 O0.out B128.out (.int .i64 t121) (.int .i64 t122) (.slice Ao37 t123.length co37)))); (case side2 => exact (Kd.Q_reads' O0.out).2.1); rintro e w53 ⟨rfl, hb⟩; refine ⟨_, rfl, ?_⟩; replace O0 := aK (Kd.Q_below (pQ (qF3 O0.out B128.out (.int .i64 t121) (.int .i64 t122) (.slice Ao37 t123.length co37))) hb); replace HO125 := aK (Kd.R_below (pR (rF3 HO125.out B128.out (.int .i64 t121) (.int .i64 t122) (.slice Ao37 t123.length co37))) hb); replace B101 := aK (blk_below (g := g101) (o := .cells #[.int .i64 0, .int .i64 0, .slice none 0 0] 26 (0, 0)) (by refine bg N101_128 ?_; refine bg N101_128 ?_; refine bg N101_128 ?_; refine bk ?_; exact B101.out) hb); replace B102 := aK (blk_below (g := g102) (o := .cells #[.int .i64 0, .int .i64 0, .slice none 0 0] 26 (0, 0)) (by refine bg N102_128 ?_; refine bg N102_128 ?_; refine bg N102_128 ?_; refine bk ?_; exact B102.out) hb); replace B110 := aK (blk_below (g := g110) (o := .cells #[.int .i64 x111000_3, .int .i64 x111001_3, .slice Ao29 x111002_3.length co29] 26 (0, 0)) (by refine bg N110_128 ?_; refine bg N110_128 ?_; refine bg N110_128 ?_; refine bk ?_; exact B110.out) hb); have n5_ := aK (IsS49.below (show IsS49 w0 (((w31.setCell ⟨g128, 0, none⟩ (.int .i64 t121)).setCell ⟨g128, 1, none⟩ (.int .i64 t122)).setCell ⟨g128, 2, none⟩ (.slice Ao37 t123.length co37)) g s0_0 t126 t127 from pI49 HI0.out) hb); replace B128 := aK (blk_below (g := g128) (o := .cells #[.int .i64 t121, .int .i64 t122, .slice Ao37 t123.length co37] 26 (0, 0)) (by refine bq #[.int .i64 t121, .int .i64 t122, .slice none 0 0] 2 ?_; refine bq #[.int .i64 t121, .int .i64 0, .slice none 0 0] 1 ?_; refine bq #[.int .i64 0, .int .i64 0, .slice none 0 0] 0 ?_; refine bk ?_; exact B128.out) hb); replace HK := aK (KeepBut.trans (pK HK.out) (KeepBut.of_below hb g none) (.inl rfl)); replace HB := aK (below_step ((pV HB.out (IsS49.ge HI0.out))) hb); clear HI0; have HI0 := n5_; clear n5_; (try clear hb)))
  go_meet
  case rel => exact ⟨_, (false), (t126), (t127), (by first | rfl | (simp; done) | (simp [*]; done)), H', ⟨by have := HJ3.out; first | omega | exact Nat.le_refl _⟩, ⟨by (with_reducible repeat (first | apply Kd.Q_alloc | apply Kd.Q_drewN | apply Kd.Q_drew)); exact Kd.Q_mono O0.out (fun _ hk => hk.2)⟩, ⟨Kd.Q_of_R (pR (Kd.R_mono HO125.out (fun _ hk => hk.2)))⟩, ⟨by refine bk ?_; exact B101.out⟩, ⟨by refine bk ?_; exact B102.out⟩, ⟨by refine bk ?_; exact B110.out⟩, ⟨by refine bk ?_; exact B128.out⟩, ⟨pI49 HI0.out⟩, ⟨pK HK.out⟩, ⟨(pV HB.out (IsS49.ge HI0.out))⟩⟩
 case rest =>
 clear HC24
 clear z28_0 z28_1 z28_2 z36_0 z36_1 z36_2 y28_0 y28_1 y28_2 y36_0 y36_1 y36_2
 obtain ⟨kq, x22_23, x1001_23, x1002_23, rfl, HA, HJ23, O0, O1, B101, B102, B110, B128, HI0, HK, HB⟩ := hcut
 cases kq with
 | zero => exact absurd HA.out (by simp [spec_l1Cur_moved.j1])
 | succ kj23 =>
 have H := HA.out
 clear HA
 simp only [spec_l1Cur_moved.j1] at H
 by_cases c54 : x22_23 = true
 rotate_left
 ·
  replace c54 := Bool.eq_false_iff.mpr c54; subst c54
  have H1 : (some (x111000_3, x111001_3, x111002_3, t121, t122, t123, x1001_23, x1002_23)) = some (r1, r2, r3, r4, r5, r6, r7, r8) := by rw [if_neg (show ¬ (false = true) by decide)] at H; exact H
  clear H; have H := H1; clear H1
  simp only [Option.some.injEq, Prod.mk.injEq] at H
  obtain ⟨rfl, rfl, rfl, rfl, rfl, rfl, rfl, rfl⟩ := H
  try go_wp2
  replace O0 := qdw O0; replace O1 := qdw O1; replace B101 := bD B101; replace B102 := bD B102; replace B110 := bD B110; replace B128 := bD B128; replace HI0 := aK (IsS49.drew HI0.out); replace HK := aK (keep_drew HK.out); replace HB := aK (below_drew1 HB.out)
  refine start_ (n := 4) (S := fun w' => w'.cell? ⟨g110, 0, none⟩ = some (.int .i64 x111000_3) ∧ w'.cell? ⟨g110, 1, none⟩ = some (.int .i64 x111001_3) ∧ w'.cell? ⟨g110, 2, none⟩ = some (.slice Ao29 x111002_3.length co29) ∧ w'.cell? ⟨g128, 0, none⟩ = some (.int .i64 t121) ∧ w'.cell? ⟨g128, 1, none⟩ = some (.int .i64 t122) ∧ w'.cell? ⟨g128, 2, none⟩ = some (.slice Ao37 t123.length co37)) (ds := []) (bz [0, 4]) (by kernel_rfl) rfl rfl (cj3 B110.out (cz3 B128.out)) (fun hHeld => ?_)
  generalize wc.drew = w100 at O0 O1 B101 B102 B110 B128 HI0 HK HB hHeld ⊢
  refine take_ (i := 0) (N := some 51) (v := ?_) (a' := ?_) (bz [1, 3]) rfl rfl (by kernel_rfl) (fun _ _ _ h => h) (Or.inl ⟨by rfl, ?_⟩) hHeld ?_ ?_
  rotate_left
  ·
   rintro w' ⟨s0, s1, s2, s3, s4, s5⟩
   go_simp
   with_reducible rfl
  rotate_left
  ·
   simp only [sP]
   rfl
  refine take_ (i := 1) (N := some 52) (v := ?_) (a' := ?_) (bz [2, 2]) rfl rfl (by kernel_rfl) (fun _ _ _ h => h) (Or.inl ⟨by rfl, ?_⟩) hHeld ?_ ?_
  rotate_left
  ·
   rintro w' ⟨s0, s1, s2, s3, s4, s5⟩
   go_simp
   with_reducible rfl
  rotate_left
  ·
   simp only [sP]
   rfl
  refine one_ (i := 2) (N := none) (bz [3, 1]) rfl rfl (by kernel_rfl) (by decide) (fun K hK => ?_)
  have hs101 : w100.cell? ⟨g101, 0, none⟩ = some (.int .i64 0) := (blk_cell B101.out 0).trans rfl
  have hfs101 := blk_frozen B101.out 0; have hns101_1 := N102_101.out; have hns101_2 := N110_101.out; have hns101_3 := N128_101.out; have hms101_1 := N101_102.out; have hms101_2 := N101_110.out; have hms101_3 := N101_128.out
  have hs102 : w100.cell? ⟨g101, 1, none⟩ = some (.int .i64 0) := (blk_cell B101.out 1).trans rfl
  have hfs102 := blk_frozen B101.out 1; have hns102_1 := N102_101.out; have hns102_2 := N110_101.out; have hns102_3 := N128_101.out; have hms102_1 := N101_102.out; have hms102_2 := N101_110.out; have hms102_3 := N101_128.out
  have hs103 : w100.cell? ⟨g101, 2, none⟩ = some (.slice none 0 0) := (blk_cell B101.out 2).trans rfl
  have hfs103 := blk_frozen B101.out 2; have hns103_1 := N102_101.out; have hns103_2 := N110_101.out; have hns103_3 := N128_101.out; have hms103_1 := N101_102.out; have hms103_2 := N101_110.out; have hms103_3 := N101_128.out
  refine skip_ (w1 := ?_) (by rfl) rfl ?_ ?_
  rotate_left
  ·
   go_simp
   rfl
  refine hK.out _ _ ⟨(cf3 N110_101 hHeld.1), (cf3 N110_101 hHeld.2.1), (cf3 N110_101 hHeld.2.2.1), (cf3 N128_101 hHeld.2.2.2.1), (cf3 N128_101 hHeld.2.2.2.2.1), (cf3 N128_101 hHeld.2.2.2.2.2)⟩ (fun hHeld => ?_)
  clear hK K
  refine one_ (i := 3) (N := none) (bz [4, 0]) rfl rfl (by kernel_rfl) (by decide) (fun K hK => ?_)
  have hs104 : w100.cell? ⟨g102, 0, none⟩ = some (.int .i64 0) := (blk_cell B102.out 0).trans rfl
  have hfs104 := blk_frozen B102.out 0; have hns104_0 := N101_102.out; have hns104_2 := N110_102.out; have hns104_3 := N128_102.out; have hms104_0 := N102_101.out; have hms104_2 := N102_110.out; have hms104_3 := N102_128.out
  have hs105 : w100.cell? ⟨g102, 1, none⟩ = some (.int .i64 0) := (blk_cell B102.out 1).trans rfl
  have hfs105 := blk_frozen B102.out 1; have hns105_0 := N101_102.out; have hns105_2 := N110_102.out; have hns105_3 := N128_102.out; have hms105_0 := N102_101.out; have hms105_2 := N102_110.out; have hms105_3 := N102_128.out
  have hs106 : w100.cell? ⟨g102, 2, none⟩ = some (.slice none 0 0) := (blk_cell B102.out 2).trans rfl
  have hfs106 := blk_frozen B102.out 2; have hns106_0 := N101_102.out; have hns106_2 := N110_102.out; have hns106_3 := N128_102.out; have hms106_0 := N102_101.out; have hms106_2 := N102_110.out; have hms106_3 := N102_128.out
  refine skip_ (w1 := ?_) (by rfl) rfl ?_ ?_
  rotate_left
  ·
   go_simp
   rfl
  refine hK.out _ _ ⟨(cf3 N110_102 hHeld.1), (cf3 N110_102 hHeld.2.1), (cf3 N110_102 hHeld.2.2.1), (cf3 N128_102 hHeld.2.2.2.1), (cf3 N128_102 hHeld.2.2.2.2.1), (cf3 N128_102 hHeld.2.2.2.2.2)⟩ (fun hHeld => ?_)
  clear hK K
  refine done_ (by kernel_rfl) ?_
  try go_wp2
  refine bodyPost_ret (results_cc rfl _ _ g101 g102 26 26 #[.int .i64 x111000_3, .int .i64 x111001_3, .slice Ao29 x111002_3.length co29] #[.int .i64 t121, .int .i64 t122, .slice Ao37 t123.length co37] (0, 0) (0, 0) _ _ rfl (by refine bg N101_102 ?_; refine bg N101_102 ?_; refine bg N101_102 ?_; refine bq #[.int .i64 x111000_3, .int .i64 x111001_3, .slice none 0 0] 2 ?_; refine bq #[.int .i64 x111000_3, .int .i64 0, .slice none 0 0] 1 ?_; refine bq #[.int .i64 0, .int .i64 0, .slice none 0 0] 0 ?_; refine bk ?_; exact B101.out) Try.underlying26 rfl (by kernel_rfl) rfl (by refine bq #[.int .i64 t121, .int .i64 t122, .slice none 0 0] 2 ?_; refine bq #[.int .i64 t121, .int .i64 0, .slice none 0 0] 1 ?_; refine bq #[.int .i64 0, .int .i64 0, .slice none 0 0] 0 ?_; refine bg N102_101 ?_; refine bg N102_101 ?_; refine bg N102_101 ?_; refine bk ?_; exact B102.out) Try.underlying26 rfl (by kernel_rfl)) rfl ?_
  exact ⟨_, _, er, by (with_reducible repeat (first | apply Kd.Q_alloc | apply Kd.Q_drewN | apply Kd.Q_drew)); exact Kd.Q_mono (Kd.Q_far (p := ⟨g102, 2, none⟩) (Kd.Q_far (p := ⟨g102, 1, none⟩) (Kd.Q_far (p := ⟨g102, 0, none⟩) (Kd.Q_far (p := ⟨g101, 2, none⟩) (Kd.Q_far (p := ⟨g101, 1, none⟩) (Kd.Q_far (p := ⟨g101, 0, none⟩) (Kd.Q_types (Kd.Q_types O0.out B101.out (by decide)) B102.out (by decide)) (fun _ hk => hk.1.2) (.int .i64 x111000_3)) (fun _ hk => hk.1.2) (.int .i64 x111001_3)) (fun _ hk => hk.1.2) (.slice Ao29 x111002_3.length co29)) (fun _ hk => hk.2) (.int .i64 t121)) (fun _ hk => hk.2) (.int .i64 t122)) (fun _ hk => hk.2) (.slice Ao37 t123.length co37)) (fun _ hk => hk.1.1), by (with_reducible repeat (first | apply Kd.Q_alloc | apply Kd.Q_drewN | apply Kd.Q_drew)); exact Kd.Q_mono (Kd.Q_far (p := ⟨g102, 2, none⟩) (Kd.Q_far (p := ⟨g102, 1, none⟩) (Kd.Q_far (p := ⟨g102, 0, none⟩) (Kd.Q_far (p := ⟨g101, 2, none⟩) (Kd.Q_far (p := ⟨g101, 1, none⟩) (Kd.Q_far (p := ⟨g101, 0, none⟩) (Kd.Q_types (Kd.Q_types O1.out B101.out (by decide)) B102.out (by decide)) (fun _ hk => hk.1.2) (.int .i64 x111000_3)) (fun _ hk => hk.1.2) (.int .i64 x111001_3)) (fun _ hk => hk.1.2) (.slice Ao29 x111002_3.length co29)) (fun _ hk => hk.2) (.int .i64 t121)) (fun _ hk => hk.2) (.int .i64 t122)) (fun _ hk => hk.2) (.slice Ao37 t123.length co37)) (fun _ hk => hk.1.1), pI49 HI0.out, (pV HB.out (IsS49.ge HI0.out)), pK HK.out⟩
 subst c54
 have H1 : ((spec_l1Cur_pick.f s0_0 x1001_23 x1002_23 3).bind fun bt133 => ((spec_l1Cur_pick.f s0_0 bt133.2.1 bt133.2.2 3).bind fun bt136 => ((spec_l11Move.f kj23 x111000_3 x111001_3 x111002_3 (wrap64 (bt133.1 - 1)) (wrap64 (bt136.1 - 1))).bind fun bt139 => (spec_l1Cur_moved.l0 kj23 0 s0_0 bt136.2.1 bt136.2.2 x111000_3 x111001_3 x111002_3 bt139.1 bt139.2.1 bt139.2.2)))) = some (r1, r2, r3, r4, r5, r6, r7, r8) := by rw [if_pos rfl] at H; exact H
 clear H
 have H := H1
 clear H1
 replace H := oA H
 obtain ⟨⟨t133, t134, t135⟩, A55, H⟩ := H
 replace H : ((spec_l1Cur_pick.f s0_0 t134 t135 3).bind fun bt136 => ((spec_l11Move.f kj23 x111000_3 x111001_3 x111002_3 (wrap64 (t133 - 1)) (wrap64 (bt136.1 - 1))).bind fun bt139 => (spec_l1Cur_moved.l0 kj23 0 s0_0 bt136.2.1 bt136.2.2 x111000_3 x111001_3 x111002_3 bt139.1 bt139.2.1 bt139.2.2))) = some (r1, r2, r3, r4, r5, r6, r7, r8) := H
 replace H := oA H
 obtain ⟨⟨t136, t137, t138⟩, A56, H⟩ := H
 replace H : ((spec_l11Move.f kj23 x111000_3 x111001_3 x111002_3 (wrap64 (t133 - 1)) (wrap64 (t136 - 1))).bind fun bt139 => (spec_l1Cur_moved.l0 kj23 0 s0_0 t137 t138 x111000_3 x111001_3 x111002_3 bt139.1 bt139.2.1 bt139.2.2)) = some (r1, r2, r3, r4, r5, r6, r7, r8) := H
 replace H := oA H
 obtain ⟨⟨t139, t140, t141⟩, A57, H⟩ := H
 replace H : (spec_l1Cur_moved.l0 kj23 0 s0_0 t137 t138 x111000_3 x111001_3 x111002_3 t139 t140 t141) = some (r1, r2, r3, r4, r5, r6, r7, r8) := H
 have H' := aK H
 clear H
 try go_wp2
 replace O0 := qdw O0
 replace O1 := qdw O1
 replace B101 := bD B101
 replace B102 := bD B102
 replace B110 := bD B110
 replace B128 := bD B128
 replace HI0 := aK (IsS49.drew HI0.out)
 replace HK := aK (keep_drew HK.out)
 replace HB := aK (below_drew1 HB.out)
 refine start_ (n := 10) (S := fun w' => w'.cell? ⟨g110, 0, none⟩ = some (.int .i64 x111000_3) ∧ w'.cell? ⟨g110, 1, none⟩ = some (.int .i64 x111001_3) ∧ w'.cell? ⟨g110, 2, none⟩ = some (.slice Ao29 x111002_3.length co29)) (ds := []) (bz [0, 10]) (by kernel_rfl) rfl rfl (cz3 B110.out) (fun hHeld => ?_); refine with_tabW spec_l1Cur_moved.tab6 spec_l1Cur_moved.bits6 (fun HT_ HW_ => ?_)
 generalize wc.drew = w58 at O0 O1 B101 B102 B110 B128 HI0 HK HB hHeld ⊢
 refine pz 1 24 [0, 1, 1, 8] HT_ ?_
 refine pz 4 27 [0, 1, 1, 2, 1, 5] HT_ ?_
 refine tz 0 23 [2, 2, 1, 5] HT_ HW_ rfl (by rintro w' ⟨s0, s1, s2⟩; go_simp; with_reducible rfl) hHeld ?_
 refine oz 2 25 [3, 1, 1, 5] HT_ fun K hK => ?_
 refine gs Try.func36 #[.pointer (some ⟨g, 0, none⟩), .int .i64 3] ?_
 with_reducible refine (spec_l1Cur_pick.calls g s0_0 x1001_23 x1002_23 3 t133 t134 t135 w0 _ ?side1 ?side2 A55.out).mono ?_
 (case side1 => exact pI49 HI0.out)
 (case side2 => exact pV HB.out (IsS49.ge HI0.out))
 rintro e w59 ⟨rfl, hi, hb, hk⟩
 refine ⟨_, rfl, ?_⟩
 replace O0 := aK (Kd.Q_mono (Kd.Q_keep (IsS49.apartQ (show IsS49 w0 _ g s0_0 x1001_23 x1002_23 from pI49 HI0.out) (pQ O0.out) (by decide)) hk (fun _ h => h.2)) (fun _ h => h.1))
 replace O1 := aK (Kd.Q_mono (Kd.Q_keep (IsS49.apartQ (show IsS49 w0 _ g s0_0 x1001_23 x1002_23 from pI49 HI0.out) (pQ O1.out) (by decide)) hk (fun _ h => h.2)) (fun _ h => h.1))
 replace B101 := kB hk B101 N101_0
 replace B102 := kB hk B102 N102_0
 replace B110 := kB hk B110 N110_0
 replace B128 := kB hk B128 N128_0
 replace HK := aK (KeepBut.trans (pK HK.out) hk (.inl rfl))
 replace HB := aK (hb)
 replace HI0 := aK (hi)
 clear hb hk hi
 refine hK.out _ _ (cz3 B110.out) (fun hHeld => ?_)
 clear hK K
 refine nm 25 ?_
 refine pz 3 26 [5, 5] HT_ ?_
 refine oz 5 28 [6, 4] HT_ fun K hK => ?_
 refine gs Try.func36 #[.pointer (some ⟨g, 0, none⟩), .int .i64 3] ?_
 with_reducible refine (spec_l1Cur_pick.calls g s0_0 t134 t135 3 t136 t137 t138 w0 _ ?side1 ?side2 A56.out).mono ?_
 (case side1 => exact pI49 HI0.out)
 (case side2 => exact pV HB.out (IsS49.ge HI0.out))
 rintro e w60 ⟨rfl, hi, hb, hk⟩
 refine ⟨_, rfl, ?_⟩
 replace O0 := aK (Kd.Q_mono (Kd.Q_keep (IsS49.apartQ (show IsS49 w0 _ g s0_0 t134 t135 from pI49 HI0.out) (pQ O0.out) (by decide)) hk (fun _ h => h.2)) (fun _ h => h.1))
 replace O1 := aK (Kd.Q_mono (Kd.Q_keep (IsS49.apartQ (show IsS49 w0 _ g s0_0 t134 t135 from pI49 HI0.out) (pQ O1.out) (by decide)) hk (fun _ h => h.2)) (fun _ h => h.1))
 replace B101 := kB hk B101 N101_0
 replace B102 := kB hk B102 N102_0
 replace B110 := kB hk B110 N110_0
 replace B128 := kB hk B128 N128_0
 replace HK := aK (KeepBut.trans (pK HK.out) hk (.inl rfl))
 replace HB := aK (hb)
 replace HI0 := aK (hi)
 clear hb hk hi
 refine hK.out _ _ (cz3 B110.out) (fun hHeld => ?_)
 clear hK K
 refine nm 28 ?_
 refine pz 6 29 [7, 3] HT_ ?_
 refine pz 7 30 [8, 2] HT_ ?_
 refine oz 8 31 [9, 1] HT_ fun K hK => ?_
 refine gs Try.func23 #[.agg #[.int .i64 x111000_3, .int .i64 x111001_3, .slice Ao29 x111002_3.length co29], .agg #[.int .i64 (wrap64 (t133 - 1)), .int .i64 (wrap64 (t136 - 1))]] ?_
 with_reducible refine (spec_l11Move.calls kj23 x111000_3 x111001_3 _ _ x111002_3 (wrap64 (t133 - 1)) (wrap64 (t136 - 1)) t139 t140 t141 _ ?side1 ?side2 A57.out).mono ?_
 (case side1 => exact pC (Kd.Q_reads' O0.out).2.2)
 (case side2 => exact (Kd.Q_reads' O0.out).2.1)
 rintro e w61 ⟨v142, rfl, ho0, hb⟩
 refine ⟨_, rfl, ?_⟩
 have n0_ := aK (Kd.Q_elder' (pQ O0.out) (Kd.R_base ho0) hb)
 have n1_ := aK (Kd.Q_elder' (pQ O1.out) (Kd.R_base ho0) hb)
 have HO143 := aK (Kd.R_lower (Kd.R_new' (Kd.R_new' ho0 (Kd.Q_lt (pQ O0.out))) (Kd.Q_lt (pQ O1.out))) (keep_size (w := w) (g := g) (row := none) (pK HK.out)))
 have n7_ := aK (IsS49.below (pI49 HI0.out) hb)
 replace HK := aK (KeepBut.trans (pK HK.out) (KeepBut.of_below hb g none) (.inl rfl))
 replace HB := aK (below_step ((pV HB.out (IsS49.ge HI0.out))) hb)
 replace B101 := bB B101 hb
 replace B102 := bB B102 hb
 replace B110 := bB B110 hb
 replace B128 := bB B128 hb
 clear O0 O1 HI0
 have O0 := n0_
 have O1 := n1_
 have HI0 := n7_
 clear n0_ n1_ n7_
 clear hb ho0
 obtain ⟨Ao64, co64, eo64⟩ := Kd.R_slice HO143.out
 (first | subst eo64 | (obtain ⟨f4_, f5_⟩ := sI eo64; subst f4_; subst f5_))
 refine hK.out _ _ (cz3 B110.out) (fun hHeld => ?_)
 clear hK K
 refine nm 31 ?_
 refine one_ (i := 9) (N := none) (bz [10, 0]) rfl rfl (one_of HT_.out (by kernel_rfl)) (by decide) (fun K hK => ?_)
 have hs62 : w61.cell? ⟨g128, 0, none⟩ = some (.int .i64 t121) := (blk_cell B128.out 0).trans rfl
 have hfs62 := blk_frozen B128.out 0
 have hns62_0 := N101_128.out
 have hns62_1 := N102_128.out
 have hns62_2 := N110_128.out
 have hms62_0 := N128_101.out
 have hms62_1 := N128_102.out
 have hms62_2 := N128_110.out
 have hs63 : w61.cell? ⟨g128, 1, none⟩ = some (.int .i64 t122) := (blk_cell B128.out 1).trans rfl
 have hfs63 := blk_frozen B128.out 1
 have hns63_0 := N101_128.out
 have hns63_1 := N102_128.out
 have hns63_2 := N110_128.out
 have hms63_0 := N128_101.out
 have hms63_1 := N128_102.out
 have hms63_2 := N128_110.out
 have hs65 : w61.cell? ⟨g128, 2, none⟩ = some (.slice Ao37 t123.length co37) := (blk_cell B128.out 2).trans rfl
 have hfs65 := blk_frozen B128.out 2
 have hns65_0 := N101_128.out
 have hns65_1 := N102_128.out
 have hns65_2 := N110_128.out
 have hms65_0 := N128_101.out
 have hms65_1 := N128_102.out
 have hms65_2 := N128_110.out
 refine skip_ (w1 := ?_) (by rfl) rfl ?_ ?_
 rotate_left
 ·
  go_simp
  rfl
 refine hK.out _ _ ⟨(cf3 N110_128 hHeld.1), (cf3 N110_128 hHeld.2.1), (cf3 N110_128 hHeld.2.2)⟩ (fun hHeld => ?_)
 clear hK K
 refine done_ (done_of HT_.out (by kernel_rfl)) ?_
 try go_wp2
 go_loopg [6] kj23 (fun kq v6 w' => ∃ (x6_3 : Int) (x1001_3 : Int) (x1002_3 : Int) (x111002_3 : List Int) (x129002_3 : List Int) (u111002 : Value) (u129002 : Value), v6 = .int .i64 x6_3 ∧ Aside0 (spec_l1Cur_moved.l0 kq x6_3 s0_0 x1001_3 x1002_3 x111000_3 x111001_3 x111002_3 t139 t140 x129002_3 = some (r1, r2, r3, r4, r5, r6, r7, r8)) ∧ Aside0 (kq ≤ kj23) ∧ Aside0 (Kd.Q (Kd.int .i64) 3 w' w.heap.size (fun k_ => some k_ ≠ (u129002 : Value).ownBlock) u111002 x111002_3) ∧ Aside0 (Kd.Q (Kd.int .i64) 3 w' w.heap.size (fun k_ => some k_ ≠ (u111002 : Value).ownBlock) u129002 x129002_3) ∧ Aside0 (w'.heap[g101]? = some (.cells #[.int .i64 0, .int .i64 0, (.slice none 0 0)] 26 (0, 0))) ∧ Aside0 (w'.heap[g102]? = some (.cells #[.int .i64 0, .int .i64 0, (.slice none 0 0)] 26 (0, 0))) ∧ Aside0 (w'.heap[g110]? = some (.cells #[.int .i64 x111000_3, .int .i64 x111001_3, u111002] 26 (0, 0))) ∧ Aside0 (w'.heap[g128]? = some (.cells #[.int .i64 t139, .int .i64 t140, u129002] 26 (0, 0))) ∧ Aside0 (IsS49 w0 w' g s0_0 x1001_3 x1002_3) ∧ Aside0 (KeepBut w w' g none) ∧ Aside0 (Below w0.heap.size w0 w'))
 case atStart => exact ⟨(0), (t137), (t138), (x111002_3), (t141), (.slice Ao29 x111002_3.length co29), (.slice Ao64 t141.length co64), (by first | rfl | (simp; done) | (simp [*]; done)), H', ⟨Nat.le_refl _⟩, ⟨by (with_reducible repeat (first | apply Kd.Q_alloc | apply Kd.Q_drewN | apply Kd.Q_drew)); exact Kd.Q_mono (qF3 O0.out B128.out (.int .i64 t139) (.int .i64 t140) (.slice Ao64 t141.length co64)) (fun _ h => h.2)⟩, ⟨Kd.Q_of_R (pR (Kd.R_mono (rF3 HO143.out B128.out (.int .i64 t139) (.int .i64 t140) (.slice Ao64 t141.length co64)) (fun _ h => h.1.2)))⟩, ⟨by refine bg N101_128 ?_; refine bg N101_128 ?_; refine bg N101_128 ?_; refine bk ?_; exact B101.out⟩, ⟨by refine bg N102_128 ?_; refine bg N102_128 ?_; refine bg N102_128 ?_; refine bk ?_; exact B102.out⟩, ⟨by refine bg N110_128 ?_; refine bg N110_128 ?_; refine bg N110_128 ?_; refine bk ?_; exact B110.out⟩, ⟨by refine bq #[.int .i64 t139, .int .i64 t140, .slice Ao37 t123.length co37] 2 ?_; refine bq #[.int .i64 t139, .int .i64 t122, .slice Ao37 t123.length co37] 1 ?_; refine bq #[.int .i64 t121, .int .i64 t122, .slice Ao37 t123.length co37] 0 ?_; refine bk ?_; exact B128.out⟩, ⟨pI49 HI0.out⟩, ⟨pK HK.out⟩, ⟨(pV HB.out (IsS49.ge HI0.out))⟩⟩
 case round =>
 clear H'
 obtain ⟨x6_3, x1001_3, x1002_3, x111002_3, x129002_3, u111002, u129002, rfl, HA, HK3, O0, O1, B101, B102, B110, B128, HI0, HK, HB⟩ := hrel
 cases gk with
 | zero => exact absurd HA.out (by simp [spec_l1Cur_moved.l0])
 | succ k3 =>
 have H := HA.out
 clear HA
 simp only [spec_l1Cur_moved.l0] at H
 by_cases c66 : x6_3 < (x129002_3.length : Int)
 rotate_left
 ·
  rw [if_neg c66] at H
  have c66b0 : decide (x6_3 < (x129002_3.length : Int)) = false := decide_eq_false c66
  clear c66
  simp only [Option.some.injEq, Prod.mk.injEq] at H
  obtain ⟨rfl, rfl, rfl, rfl, rfl, rfl, rfl, rfl⟩ := H; obtain ⟨_, _⟩ := nB N128_101; obtain ⟨_, _⟩ := nB N128_102; obtain ⟨_, _⟩ := nB N128_110; obtain ⟨_, _⟩ := nB N128_0; obtain ⟨_, _, _, _, _, _⟩ := bc3 B128.out; obtain ⟨Ao91, co91, eo91, _⟩ := Kd.Q_slice O1.out; subst eo91
  try go_wp2
  replace O0 := qdw O0; replace O1 := qdw O1; replace B101 := bD B101; replace B102 := bD B102; replace B110 := bD B110; replace B128 := bD B128; replace HI0 := aK (IsS49.drew HI0.out); replace HK := aK (keep_drew HK.out); replace HB := aK (below_drew1 HB.out); obtain ⟨Ao95, co95, eo95, _⟩ := Kd.Q_slice O0.out
  (first | subst eo95 | (obtain ⟨f4_, f5_⟩ := sI eo95; subst f4_; subst f5_))
  refine start_ (n := 4) (S := fun w' => w'.cell? ⟨g110, 0, none⟩ = some (.int .i64 x111000_3) ∧ w'.cell? ⟨g110, 1, none⟩ = some (.int .i64 x111001_3) ∧ w'.cell? ⟨g110, 2, none⟩ = some (.slice Ao95 x111002_3.length co95) ∧ w'.cell? ⟨g128, 0, none⟩ = some (.int .i64 t139) ∧ w'.cell? ⟨g128, 1, none⟩ = some (.int .i64 t140) ∧ w'.cell? ⟨g128, 2, none⟩ = some (.slice Ao91 x129002_3.length co91)) (ds := []) (bz [0, 4]) (by kernel_rfl) rfl rfl (cj3 B110.out (cz3 B128.out)) (fun hHeld => ?_)
  generalize wr.drew = w92 at O0 O1 B101 B102 B110 B128 HI0 HK HB hHeld ⊢
  refine take_ (i := 0) (N := some 51) (v := ?_) (a' := ?_) (bz [1, 3]) rfl rfl (by kernel_rfl) (fun _ _ _ h => h) (Or.inl ⟨by rfl, ?_⟩) hHeld ?_ ?_
  rotate_left
  ·
   rintro w' ⟨s0, s1, s2, s3, s4, s5⟩
   go_simp
   with_reducible rfl
  rotate_left
  ·
   simp only [sP]
   rfl
  refine take_ (i := 1) (N := some 52) (v := ?_) (a' := ?_) (bz [2, 2]) rfl rfl (by kernel_rfl) (fun _ _ _ h => h) (Or.inl ⟨by rfl, ?_⟩) hHeld ?_ ?_
  rotate_left
  ·
   rintro w' ⟨s0, s1, s2, s3, s4, s5⟩
   go_simp
   with_reducible rfl
  rotate_left
  ·
   simp only [sP]
   rfl
  refine one_ (i := 2) (N := none) (bz [3, 1]) rfl rfl (by kernel_rfl) (by decide) (fun K hK => ?_)
  have hs93 : w92.cell? ⟨g101, 0, none⟩ = some (.int .i64 0) := (blk_cell B101.out 0).trans rfl
  have hfs93 := blk_frozen B101.out 0; have hns93_1 := N102_101.out; have hns93_2 := N110_101.out; have hns93_3 := N128_101.out; have hms93_1 := N101_102.out; have hms93_2 := N101_110.out; have hms93_3 := N101_128.out
  have hs94 : w92.cell? ⟨g101, 1, none⟩ = some (.int .i64 0) := (blk_cell B101.out 1).trans rfl
  have hfs94 := blk_frozen B101.out 1; have hns94_1 := N102_101.out; have hns94_2 := N110_101.out; have hns94_3 := N128_101.out; have hms94_1 := N101_102.out; have hms94_2 := N101_110.out; have hms94_3 := N101_128.out
  have hs96 : w92.cell? ⟨g101, 2, none⟩ = some (.slice none 0 0) := (blk_cell B101.out 2).trans rfl
  have hfs96 := blk_frozen B101.out 2; have hns96_1 := N102_101.out; have hns96_2 := N110_101.out; have hns96_3 := N128_101.out; have hms96_1 := N101_102.out; have hms96_2 := N101_110.out; have hms96_3 := N101_128.out
  refine skip_ (w1 := ?_) (by rfl) rfl ?_ ?_
  rotate_left
  ·
   go_simp
   rfl
  refine hK.out _ _ ⟨(cf3 N110_101 hHeld.1), (cf3 N110_101 hHeld.2.1), (cf3 N110_101 hHeld.2.2.1), (cf3 N128_101 hHeld.2.2.2.1), (cf3 N128_101 hHeld.2.2.2.2.1), (cf3 N128_101 hHeld.2.2.2.2.2)⟩ (fun hHeld => ?_)
  clear hK K
  refine one_ (i := 3) (N := none) (bz [4, 0]) rfl rfl (by kernel_rfl) (by decide) (fun K hK => ?_)
  have hs97 : w92.cell? ⟨g102, 0, none⟩ = some (.int .i64 0) := (blk_cell B102.out 0).trans rfl
  have hfs97 := blk_frozen B102.out 0; have hns97_0 := N101_102.out; have hns97_2 := N110_102.out; have hns97_3 := N128_102.out; have hms97_0 := N102_101.out; have hms97_2 := N102_110.out; have hms97_3 := N102_128.out
  have hs98 : w92.cell? ⟨g102, 1, none⟩ = some (.int .i64 0) := (blk_cell B102.out 1).trans rfl
  have hfs98 := blk_frozen B102.out 1; have hns98_0 := N101_102.out; have hns98_2 := N110_102.out; have hns98_3 := N128_102.out; have hms98_0 := N102_101.out; have hms98_2 := N102_110.out; have hms98_3 := N102_128.out
  have hs99 : w92.cell? ⟨g102, 2, none⟩ = some (.slice none 0 0) := (blk_cell B102.out 2).trans rfl
  have hfs99 := blk_frozen B102.out 2; have hns99_0 := N101_102.out; have hns99_2 := N110_102.out; have hns99_3 := N128_102.out; have hms99_0 := N102_101.out; have hms99_2 := N102_110.out; have hms99_3 := N102_128.out
  refine skip_ (w1 := ?_) (by rfl) rfl ?_ ?_
  rotate_left
  ·
   go_simp
   rfl
  refine hK.out _ _ ⟨(cf3 N110_102 hHeld.1), (cf3 N110_102 hHeld.2.1), (cf3 N110_102 hHeld.2.2.1), (cf3 N128_102 hHeld.2.2.2.1), (cf3 N128_102 hHeld.2.2.2.2.1), (cf3 N128_102 hHeld.2.2.2.2.2)⟩ (fun hHeld => ?_)
  clear hK K
  refine done_ (by kernel_rfl) ?_
  try go_wp2
  refine bodyPost_ret (results_cc rfl _ _ g101 g102 26 26 #[.int .i64 x111000_3, .int .i64 x111001_3, .slice Ao95 x111002_3.length co95] #[.int .i64 t139, .int .i64 t140, .slice Ao91 x129002_3.length co91] (0, 0) (0, 0) _ _ rfl (by refine bg N101_102 ?_; refine bg N101_102 ?_; refine bg N101_102 ?_; refine bq #[.int .i64 x111000_3, .int .i64 x111001_3, .slice none 0 0] 2 ?_; refine bq #[.int .i64 x111000_3, .int .i64 0, .slice none 0 0] 1 ?_; refine bq #[.int .i64 0, .int .i64 0, .slice none 0 0] 0 ?_; refine bk ?_; exact B101.out) Try.underlying26 rfl (by kernel_rfl) rfl (by refine bq #[.int .i64 t139, .int .i64 t140, .slice none 0 0] 2 ?_; refine bq #[.int .i64 t139, .int .i64 0, .slice none 0 0] 1 ?_; refine bq #[.int .i64 0, .int .i64 0, .slice none 0 0] 0 ?_; refine bg N102_101 ?_; refine bg N102_101 ?_; refine bg N102_101 ?_; refine bk ?_; exact B102.out) Try.underlying26 rfl (by kernel_rfl)) rfl ?_
  exact ⟨_, _, er, by (with_reducible repeat (first | apply Kd.Q_alloc | apply Kd.Q_drewN | apply Kd.Q_drew)); exact Kd.Q_mono (Kd.Q_far (p := ⟨g102, 2, none⟩) (Kd.Q_far (p := ⟨g102, 1, none⟩) (Kd.Q_far (p := ⟨g102, 0, none⟩) (Kd.Q_far (p := ⟨g101, 2, none⟩) (Kd.Q_far (p := ⟨g101, 1, none⟩) (Kd.Q_far (p := ⟨g101, 0, none⟩) (Kd.Q_types (Kd.Q_types O0.out B101.out (by decide)) B102.out (by decide)) (fun _ hk => hk.1.2) (.int .i64 x111000_3)) (fun _ hk => hk.1.2) (.int .i64 x111001_3)) (fun _ hk => hk.1.2) (.slice Ao95 x111002_3.length co95)) (fun _ hk => hk.2) (.int .i64 t139)) (fun _ hk => hk.2) (.int .i64 t140)) (fun _ hk => hk.2) (.slice Ao91 x129002_3.length co91)) (fun _ hk => hk.1.1), by (with_reducible repeat (first | apply Kd.Q_alloc | apply Kd.Q_drewN | apply Kd.Q_drew)); exact Kd.Q_mono (Kd.Q_far (p := ⟨g102, 2, none⟩) (Kd.Q_far (p := ⟨g102, 1, none⟩) (Kd.Q_far (p := ⟨g102, 0, none⟩) (Kd.Q_far (p := ⟨g101, 2, none⟩) (Kd.Q_far (p := ⟨g101, 1, none⟩) (Kd.Q_far (p := ⟨g101, 0, none⟩) (Kd.Q_types (Kd.Q_types O1.out B101.out (by decide)) B102.out (by decide)) (fun _ hk => hk.1.2) (.int .i64 x111000_3)) (fun _ hk => hk.1.2) (.int .i64 x111001_3)) (fun _ hk => hk.1.2) (.slice Ao95 x111002_3.length co95)) (fun _ hk => hk.2) (.int .i64 t139)) (fun _ hk => hk.2) (.int .i64 t140)) (fun _ hk => hk.2) (.slice Ao91 x129002_3.length co91)) (fun _ hk => hk.1.1), pI49 HI0.out, (pV HB.out (IsS49.ge HI0.out)), pK HK.out⟩
 rw [if_pos c66] at H
 have c66b0 : decide (x6_3 < (x129002_3.length : Int)) = true := decide_eq_true c66
 clear c66
 by_cases c67 : 0 ≤ x6_3
 rotate_left
 ·
  rw [if_neg c67] at H
  exact absurd H (by simp)
 rw [if_pos c67] at H
 have c67b0 : decide (0 ≤ x6_3) = true := decide_eq_true c67
 clear c67
 by_cases c68 : (rd x129002_3 x6_3) = (-9999)
 rotate_left
 ·
  rw [if_neg c68] at H
  have c68b0 : ((rd x129002_3 x6_3) == (-9999)) = false := beq_eq_false_iff_ne.mpr c68
  have c68b1 : ((rd x129002_3 x6_3) != (-9999)) = true := bne_iff_ne.mpr c68
  have H' := aK H; clear H; obtain ⟨_, _⟩ := nB N128_101; obtain ⟨_, _⟩ := nB N128_102; obtain ⟨_, _⟩ := nB N128_110; obtain ⟨_, _⟩ := nB N128_0; obtain ⟨_, _, _, _, _, _⟩ := bc3 B128.out; obtain ⟨Ao85, co85, eo85, _⟩ := Kd.Q_slice O1.out; subst eo85
  have p144 : 0 ≤ (x6_3 : Int) := dA
  have q144 : x6_3 < (x129002_3.length : Int) := dA
  obtain ⟨ad144, e144, hx144_0⟩ := Kd.at_int (Kd.Q_reads' O1.out).2.2 x6_3 p144 q144; cases e144; replace p144 := eq_true p144; replace q144 := eq_true q144
  go_wp2
  go_roundg k3
  case measure => have := HJ3.out; have := HJ23.out; have := HK3.out; omega
  case rel => exact ⟨(wrap64 (x6_3 + 1)), (x1001_3), (x1002_3), (x111002_3), (x129002_3), (u111002), (.slice (some ad144) x129002_3.length co85), (by first | rfl | (simp; done) | (simp [*]; done)), H', ⟨by have := HJ3.out; have := HJ23.out; have := HK3.out; omega⟩, ⟨pQ O0.out⟩, ⟨pQ O1.out⟩, ⟨by refine bk ?_; exact B101.out⟩, ⟨by refine bk ?_; exact B102.out⟩, ⟨by refine bk ?_; exact B110.out⟩, ⟨by refine bk ?_; exact B128.out⟩, ⟨pI49 HI0.out⟩, ⟨pK HK.out⟩, ⟨(pV HB.out (IsS49.ge HI0.out))⟩⟩
 rw [if_pos c68] at H
 have c68b0 : ((rd x129002_3 x6_3) == (-9999)) = true := beq_iff_eq.mpr c68
 have c68b1 : ((rd x129002_3 x6_3) != (-9999)) = false := bne_eq_false_iff_eq.mpr c68
 clear c68
 replace H := oA H
 obtain ⟨⟨t145, t146, t147⟩, A69, H⟩ := H
 replace H : (spec_l1Cur_moved.l0 k3 (wrap64 (x6_3 + 1)) s0_0 t146 t147 x111000_3 x111001_3 x111002_3 t139 t140 (x129002_3.set (x6_3 : Int).toNat t145)) = some (r1, r2, r3, r4, r5, r6, r7, r8) := H
 obtain ⟨y148, hy148⟩ : ∃ y_ : List Int, y_ = (x129002_3.set (x6_3 : Int).toNat t145) := ⟨_, rfl⟩
 replace H : (spec_l1Cur_moved.l0 k3 (wrap64 (x6_3 + 1)) s0_0 t146 t147 x111000_3 x111001_3 x111002_3 t139 t140 y148) = some (r1, r2, r3, r4, r5, r6, r7, r8) := by first | (rw [hy148]; first | with_reducible exact H | with_reducible exact (oS H :)) | with_reducible exact (oS H :) | with_reducible exact H | exact H
 have Ny148 := aK hy148
 clear hy148
 have H' := aK H
 clear H
 obtain ⟨_, _⟩ := nB N128_101
 obtain ⟨_, _⟩ := nB N128_102
 obtain ⟨_, _⟩ := nB N128_110
 obtain ⟨_, _⟩ := nB N128_0
 obtain ⟨_, _, _, _, _, _⟩ := bc3 B128.out
 obtain ⟨Ao76, co76, eo76, _⟩ := Kd.Q_slice O1.out
 subst eo76
 have p144 : 0 ≤ (x6_3 : Int) := dA
 have q144 : x6_3 < (x129002_3.length : Int) := dA
 obtain ⟨ad144, e144, hx144_0⟩ := Kd.at_int (Kd.Q_reads' O1.out).2.2 x6_3 p144 q144
 cases e144
 replace p144 := eq_true p144
 replace q144 := eq_true q144
 try go_wp2
 replace O0 := qdw O0
 replace O1 := qdw O1
 replace B101 := bD B101
 replace B102 := bD B102
 replace B110 := bD B110
 replace B128 := bD B128
 replace HI0 := aK (IsS49.drew HI0.out)
 replace HK := aK (keep_drew HK.out)
 replace HB := aK (below_drew1 HB.out)
 refine start_ (n := 7) (S := fun w' => w'.cell? ⟨g128, 0, none⟩ = some (.int .i64 t139) ∧ w'.cell? ⟨g128, 1, none⟩ = some (.int .i64 t140) ∧ w'.cell? ⟨g128, 2, none⟩ = some (.slice (some ad144) x129002_3.length co76)) (ds := [6]) (bz [0, 7]) (by kernel_rfl) rfl rfl (cz3 B128.out) (fun hHeld => ?_)
 generalize wr.drew = w77 at O0 O1 B101 B102 B110 B128 HI0 HK HB hHeld ⊢
 refine pure_ (i := 0) (N := some 45) (v := ?_) (a' := ?_) (bz [1, 6]) rfl rfl (by kernel_rfl) (fun _ _ _ h => h) (Or.inl ⟨by rfl, ?_⟩) ?_ ?_
 rotate_left
 ·
  intro w'
  go_simp
  with_reducible rfl
 rotate_left
 ·
  simp only [sP]
  rfl
 refine pure_ (i := 2) (N := some 47) (v := ?_) (a' := ?_) (bz [1, 1, 1, 4]) rfl rfl (by kernel_rfl) (fun _ _ _ h => h) (Or.inl ⟨by rfl, ?_⟩) ?_ ?_
 rotate_left
 ·
  intro w'
  go_simp
  with_reducible rfl
 rotate_left
 ·
  simp only [sP]
  rfl
 refine pure_ (i := 3) (N := some 48) (v := ?_) (a' := ?_) (bz [1, 1, 2, 3]) rfl rfl (by kernel_rfl) (fun _ _ _ h => h) (Or.inl ⟨by rfl, ?_⟩) ?_ ?_
 rotate_left
 ·
  intro w'
  go_simp
  with_reducible rfl
 rotate_left
 ·
  simp only [sP]
  rfl
 refine take_ (i := 1) (N := some 46) (v := ?_) (a' := ?_) (bz [4, 3]) rfl rfl (by kernel_rfl) (fun _ _ _ h => h) (Or.inl ⟨by rfl, ?_⟩) hHeld ?_ ?_
 rotate_left
 ·
  rintro w' ⟨s0, s1, s2⟩
  go_simp
  with_reducible rfl
 rotate_left
 ·
  simp only [sP]
  rfl
 refine one_ (i := 4) (N := some 49) (bz [5, 2]) rfl rfl (by kernel_rfl) (by decide) (fun K hK => ?_)
 refine gs Try.func36 #[.pointer (some ⟨g, 0, none⟩), .int .i64 30] ?_
 with_reducible refine (spec_l1Cur_pick.calls g s0_0 x1001_3 x1002_3 30 t145 t146 t147 w0 _ ?side1 ?side2 A69.out).mono ?_
 (case side1 => exact pI49 HI0.out)
 (case side2 => exact pV HB.out (IsS49.ge HI0.out))
 rintro e w78 ⟨rfl, hi, hb, hk⟩
 refine ⟨_, rfl, ?_⟩
 replace O0 := aK (Kd.Q_mono (Kd.Q_keep (IsS49.apartQ (show IsS49 w0 _ g s0_0 x1001_3 x1002_3 from pI49 HI0.out) (pQ O0.out) (by decide)) hk (fun _ h => h.2)) (fun _ h => h.1))
 replace O1 := aK (Kd.Q_mono (Kd.Q_keep (IsS49.apartQ (show IsS49 w0 _ g s0_0 x1001_3 x1002_3 from pI49 HI0.out) (pQ O1.out) (by decide)) hk (fun _ h => h.2)) (fun _ h => h.1))
 replace B101 := kB hk B101 N101_0
 replace B102 := kB hk B102 N102_0
 replace B110 := kB hk B110 N110_0
 replace B128 := kB hk B128 N128_0
 replace HK := aK (KeepBut.trans (pK HK.out) hk (.inl rfl))
 replace HB := aK (hb)
 replace HI0 := aK (hi)
 clear hb hk hi
 have p70 : 0 ≤ (x6_3 : Int) := dA
 have q70 : (x6_3 : Int) < ((x129002_3.length : Int) : Int) := dA
 obtain ⟨go70, oo70, co70, eo70, g70, gl70, cl70, HG70⟩ := Kd.Q_form O1.out (by omega)
 (first | cases eo70 | (injection eo70 with ea_ en_ ec_; (first | subst ea_ | (injection ea_ with ea_; subst ea_)); subst ec_; clear en_))
 have GB70 := aK g70
 have GG70 := aK HG70
 clear g70 gl70 HG70
 (first | simp only [add_at] at hx144_0 | skip)
 obtain ⟨hx70_0, hf70_0⟩ := Kd.Q_cell 0 O1.out (x6_3 : Int) p70 q70
 replace p70 := eq_true p70
 replace q70 := eq_true q70
 have HN0_go70 := aK (show g ≠ go70 from by have h_ := IsS49.own_neQ HI0.out O1.out (by decide); intro e_; exact h_ (by rw [e_]; rfl))
 have HP79 := (Kd.Q_putg O1.out (x6_3 : Int) (dA) (by have h_ : (x6_3 : Int) < ((x129002_3.length : Int) : Int) := dA; first | exact h_ | (have e_ := (Kd.Q_reads' O1.out).1; omega) | simpa using h_) t145).1
 rw [← Ny148.out] at HP79
 have HQ79 := aK HP79
 clear HP79
 refine hK.out _ _ (cz3 B128.out) (fun hHeld => ?_)
 clear hK K
 refine nm 49 ?_
 refine pure_ (i := 5) (N := some 50) (v := ?_) (a' := ?_) (bz [6, 1]) rfl rfl (by kernel_rfl) (fun _ _ _ h => h) (Or.inl ⟨by rfl, ?_⟩) ?_ ?_
 rotate_left
 ·
  intro w'
  go_simp
  with_reducible rfl
 rotate_left
 ·
  simp only [sP]
  rfl
 refine last_ (i := 6) (N := none) (bz [7, 0]) rfl rfl (by kernel_rfl) (by decide) (fun K hK => ?_)
 refine skip_ (w1 := ?_) (by rfl) rfl ?_ ?_
 rotate_left
 ·
  go_simp
  rfl
 refine hK.out _ _ ?_
 clear hK K
 refine done_ (by kernel_rfl) ?_
 try go_wp2
 go_roundg k3
 case measure => have := HJ3.out; have := HJ23.out; have := HK3.out; omega
 case rel => exact ⟨(wrap64 (x6_3 + 1)), (t146), (t147), (x111002_3), (y148), (u111002), (.slice (some ⟨go70, oo70, none⟩) x129002_3.length co76), (by first | rfl | (simp; done) | (simp [*]; done)), H', ⟨by have := HJ3.out; have := HJ23.out; have := HK3.out; omega⟩, ⟨by (with_reducible repeat (first | apply Kd.Q_alloc | apply Kd.Q_drewN | apply Kd.Q_drew)); exact Kd.Q_mono (Kd.Q_far (p := ⟨go70, oo70 + (x6_3 : Int).toNat, none⟩) (Kd.Q_mono O0.out (fun k_ hk => (⟨hk, fun e_ => hk (by rw [e_]; rfl)⟩ : _ ∧ k_ ≠ go70))) (fun _ hk => hk.2) (.int .i64 t145)) (fun _ hk => hk.1)⟩, ⟨pQ HQ79.out⟩, ⟨by refine bk ?_; refine blk_far ?_ (by have h_ := Kd.Q_ne O1.out B101.out (by decide); intro e_; exact h_ (by rw [e_]; rfl)) _; refine bk ?_; exact B101.out⟩, ⟨by refine bk ?_; refine blk_far ?_ (by have h_ := Kd.Q_ne O1.out B102.out (by decide); intro e_; exact h_ (by rw [e_]; rfl)) _; refine bk ?_; exact B102.out⟩, ⟨by refine bk ?_; refine blk_far ?_ (by have h_ := Kd.Q_ne O1.out B110.out (by decide); intro e_; exact h_ (by rw [e_]; rfl)) _; refine bk ?_; exact B110.out⟩, ⟨by refine bk ?_; refine blk_far ?_ (by have h_ := Kd.Q_ne O1.out B128.out (by decide); intro e_; exact h_ (by rw [e_]; rfl)) _; refine bk ?_; exact B128.out⟩, ⟨by repeat (first | (with_reducible first | exact HI0.out | apply IsS49.alloc | apply IsS49.drewN | apply IsS49.drew | apply IsS49.set_1 | apply IsS49.set_2 | refine IsS49.far ?_ HN0_go70.out _ | refine IsS49.far ?_ N0_101.out _ | refine IsS49.far ?_ N0_102.out _ | refine IsS49.far ?_ N0_110.out _ | refine IsS49.far ?_ N0_128.out _) | exact HI0.out)⟩, ⟨by repeat (first | (with_reducible first | exact HK.out | apply KeepBut.set_ | apply keep_drewN | apply keep_drew | apply keep_alloc | refine keep_far ?_ GB70.out _ | refine keep_far ?_ GW101.out _ | refine keep_far ?_ GW102.out _ | refine keep_far ?_ GW110.out _ | refine keep_far ?_ GW128.out _) | exact HK.out)⟩, ⟨by repeat (first | (with_reducible first | exact HB.out | apply below_alloc | apply pw_below_drewN | apply below_drew1 | refine below_set ?_ (Nat.le_trans HL.out GB70.out) | refine below_set ?_ (IsS49.ge HI0.out) | refine below_set ?_ GE101.out | refine below_set ?_ GE102.out | refine below_set ?_ GE110.out | refine below_set ?_ GE128.out) | exact HB.out)⟩⟩
end Go.Proofs.Ytmekfmhnpinjlaa.P
