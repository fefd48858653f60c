/- Texts of the claim FnEnsembles, merged: part 8 of 11: the program's and the reference's functions as Lean functions, the walks that show it, and plain lemmas; no conditions. -/
import Derived.Test.YtpggcolcabmdeaaKFnEnsembles3
import Derived.Test.YtpggcolcabmdeaaKFnEnsembles7
import Derived.Test.YtpggcolcabmdeaaKFnEnsembles4
import Derived.Test.YtpggcolcabmdeaaKFnEnsembles6
open Go.RowKit Go.Proofs.YtpggcolcabmdeaaW.PrintWords Go.Proofs.YtpggcolcabmdeaaW.PrintLast Go.Proofs.YtpggcolcabmdeaaW.PrintMore
set_option linter.unusedVariables false
set_option linter.unusedSimpArgs false
set_option maxHeartbeats 8000000
set_option maxRecDepth 100000
namespace Go.Proofs.Ytpggcolcabmdeaa.P
attribute [local go_sem] max2_int min2_int max_two min_two max_three min_three max_four min_four
mutual
def spec_QuantileField.j0 : Nat → List (S29) → Int → Int → Bool → Option (Int × Int × List Int × Bool)
 | 0, _, _, _, _ => none
 | k + 1, x0, x1, x2, x25 => if x25 = true then (some (0, 0, ([] : List Int), false)) else (if 0 < (x0.length : Int) then ((spec_l2Own.f ((rd_T29 x0 0).f0) ((rd_T29 x0 0).f1) ((rd_T29 x0 0).f2)).bind fun bt106 => (spec_QuantileField.l0 k x0 x1 x2 0 bt106.1 bt106.2.1 bt106.2.2)) else (none))
def spec_QuantileField.l0 : Nat → List (S29) → Int → Int → Int → Int → Int → List Int → Option (Int × Int × List Int × Bool)
 | 0, _, _, _, _, _, _, _ => none
 | k + 1, x0, x1, x2, x9, x112000, x112001, x112002 => if x9 < (x112002.length : Int) then ((spec_l9Values.f k x0 x9).bind fun t112 => (if 0 ≤ x9 then ((some (x112002.set (x9 : Int).toNat (-9999) : List Int)).bind fun y115 => (if (t112.length : Int) > 0 then (if x2 = 0 then (none) else ((spec_l1Most.f (wrap64 (Int.tdiv (wrap64 ((wrap64 ((wrap64 (x1 * (t112.length : Int))) + x2)) - 1)) x2)) 1).bind fun t116 => (if 0 ≤ (wrap64 (t116 - 1)) then (if (wrap64 (t116 - 1)) < (t112.length : Int) then (spec_QuantileField.l0 k x0 x1 x2 (wrap64 (x9 + 1)) x112000 x112001 (y115.set (x9 : Int).toNat (rd t112 (wrap64 (t116 - 1))))) else (none)) else (none)))) else (spec_QuantileField.l0 k x0 x1 x2 (wrap64 (x9 + 1)) x112000 x112001 y115))) else (none))) else (some (x112000, x112001, x112002, true))
end
def spec_QuantileField.f (k : Nat) (l0 : List (S29)) (a1 : Int) (a2 : Int) : Option (Int × Int × List Int × Bool) := (spec_l9Good.f k l0).bind fun t102 => (if t102 = true then ((spec_l1In.f a2 1 100).bind fun t103 => (if t103 = true then ((spec_l1In.f a1 0 a2).bind fun t104 => (spec_QuantileField.j0 k l0 a1 a2 (!t104))) else (spec_QuantileField.j0 k l0 a1 a2 true))) else (spec_QuantileField.j0 k l0 a1 a2 true))
def spec_QuantileField.T11 : Bool × List (List Nat × List Nat) := (true, [([], []), ([0], [0]), ([], []), ([], []), ([], []), ([], []), ([4, 5], [4, 5]), ([], []), ([6, 7], [6, 7]), ([8], [8]), ([], []), ([9, 10], [9, 10]), ([11], [11]), ([12], [12]), ([3, 13], [3, 13]), ([14], [14]), ([1, 2, 0, 1, 2, 3, 4, 5, 6, 7, 8, 9, 10, 11, 12, 13, 14, 15], [1, 2]), ([16, 15, 12, 0, 1, 2, 3, 4, 5, 6, 7, 8, 9, 10, 11, 12, 13, 14, 15], [15, 16])])
def spec_QuantileField.B11 : List Nat := [0, 1, 0, 0, 0, 0, 48, 0, 240, 496, 0, 2032, 4080, 8176, 16376, 32760, 65535, 131071]
theorem spec_QuantileField.tab11 : rtab .any (opsOf Try.f14 11) = spec_QuantileField.T11 := by kernel_rfl
theorem spec_QuantileField.bits11 : waitsOk spec_QuantileField.T11.2 spec_QuantileField.B11 = true := by kernel_rfl
theorem spec_QuantileField.calls (k : Nat) (A0 : Option Addr) (c0 : Nat) (l0 : List (S29)) (a1 : Int) (a2 : Int) (r1 : Int) (r2 : Int) (r3 : List Int) (r4 : Bool) (w : World) (hr0 : Kd.C k29 w A0 l0.length l0) (hc0 : l0.length ≤ c0) (h : spec_QuantileField.f k l0 a1 a2 = some (r1, r2, r3, r4)) :
  Calls Try.prog 14 #[.slice A0 l0.length c0, .int .i64 a1, .int .i64 a2] w fun e w' => ∃ v2_ : Value, e = .returned (.tuple #[.agg #[.int .i64 r1, .int .i64 r2, v2_], .bool r4]) ∧ Kd.R (Kd.int .i64) 3 w' w.heap.size (fun _ => True) v2_ r3 ∧ Below w.heap.size w w' := by
 have hu29 := Try.underlying29
 have HR0 := aK hr0
 have HC0 := aK hc0
 clear hr0 hc0
 have HB := aK (Below.refl w.heap.size w)
 have H : ((spec_l9Good.f k l0).bind fun t102 => (if t102 = true then ((spec_l1In.f a2 1 100).bind fun t103 => (if t103 = true then ((spec_l1In.f a1 0 a2).bind fun t104 => (spec_QuantileField.j0 k l0 a1 a2 (!t104))) else (spec_QuantileField.j0 k l0 a1 a2 true))) else (spec_QuantileField.j0 k l0 a1 a2 true))) = some (r1, r2, r3, r4) := h
 clear h
 have HC4 := aK H
 clear H
 go_enter Try.func14, Try.ntmps14
 go_upto_region 1 with (first | ((with_reducible refine ga 6 rfl ?_); refine bxa #[.int .i64 0, .int .i64 0, .slice none 0 0] 29 ?_; intro g101 hg w5 B101 hb; have GW101 := gA hg HB; replace HB := bS HB hb; clear hb hg))
 (try simp only [Act.put, List.setIfInBounds_toArray, List.set_cons_zero, List.set_cons_succ])
 go_cut [25] (fun v25 wc => ∃ (kq : Nat) (x25_3 : Bool), v25 = .bool x25_3 ∧ Aside0 (spec_QuantileField.j0 kq l0 a1 a2 x25_3 = some (r1, r2, r3, r4)) ∧ Aside0 (kq ≤ k) ∧ Aside0 (wc.heap[g101]? = some (.cells #[.int .i64 0, .int .i64 0, (.slice none 0 0)] 29 (0, 0))) ∧ Aside0 (Below w.heap.size w wc))
 case first =>
  have H := HC4.out; clear HC4; replace H := oA H; obtain ⟨t102, A6, H⟩ := H
  replace H : (if t102 = true then ((spec_l1In.f a2 1 100).bind fun t103 => (if t103 = true then ((spec_l1In.f a1 0 a2).bind fun t104 => (spec_QuantileField.j0 k l0 a1 a2 (!t104))) else (spec_QuantileField.j0 k l0 a1 a2 true))) else (spec_QuantileField.j0 k l0 a1 a2 true)) = some (r1, r2, r3, r4) := H
  by_cases c7 : t102 = true
  rotate_left
  ·
   replace c7 := Bool.eq_false_iff.mpr c7; subst c7
   have H1 : (spec_QuantileField.j0 k l0 a1 a2 true) = some (r1, r2, r3, r4) := by rw [if_neg (show ¬ (false = true) by decide)] at H; exact H
   clear H; have H := H1; clear H1; have H' := aK H; clear H
   go_wp2_with (first | ((with_reducible refine gc 24 rfl ?_); refine gl (some 13) Try.func24 #[.slice A0 l0.length c0] ?_; (with_reducible refine (spec_l9Good.calls k _ _ l0 false _ ?side1 ?side2 A6.out).mono ?_); (case side1 => exact cB HR0 HB); (case side2 => exact HC0.out); rintro e w13 ⟨rfl, hb⟩; refine ⟨_, rfl, ?_⟩; replace B101 := bB B101 hb; replace HB := bS HB hb; (try clear hb)))
   go_meet
   case rel => exact ⟨_, (true), (by first | rfl | (simp; done) | (simp [*]; done)), H', ⟨by first | omega | exact Nat.le_refl _⟩, ⟨by refine bk ?_; exact B101.out⟩, ⟨pT HB.out⟩⟩
  subst c7
  have H1 : ((spec_l1In.f a2 1 100).bind fun t103 => (if t103 = true then ((spec_l1In.f a1 0 a2).bind fun t104 => (spec_QuantileField.j0 k l0 a1 a2 (!t104))) else (spec_QuantileField.j0 k l0 a1 a2 true))) = some (r1, r2, r3, r4) := by rw [if_pos rfl] at H; exact H
  clear H; have H := H1; clear H1; replace H := oA H; obtain ⟨t103, A8, H⟩ := H
  replace H : (if t103 = true then ((spec_l1In.f a1 0 a2).bind fun t104 => (spec_QuantileField.j0 k l0 a1 a2 (!t104))) else (spec_QuantileField.j0 k l0 a1 a2 true)) = some (r1, r2, r3, r4) := H
  by_cases c9 : t103 = true
  ·
   subst c9
   have H1 : ((spec_l1In.f a1 0 a2).bind fun t104 => (spec_QuantileField.j0 k l0 a1 a2 (!t104))) = some (r1, r2, r3, r4) := by rw [if_pos rfl] at H; exact H
   clear H; have H := H1; clear H1; replace H := oA H; obtain ⟨t104, A10, H⟩ := H
   replace H : (spec_QuantileField.j0 k l0 a1 a2 (!t104)) = some (r1, r2, r3, r4) := H
   have H' := aK H; clear H
   go_wp2_with (first | ((with_reducible refine gc 24 rfl ?_); refine gl (some 13) Try.func24 #[.slice A0 l0.length c0] ?_; (with_reducible refine (spec_l9Good.calls k _ _ l0 true _ ?side1 ?side2 A6.out).mono ?_); (case side1 => exact cB HR0 HB); (case side2 => exact HC0.out); rintro e w11 ⟨rfl, hb⟩; refine ⟨_, rfl, ?_⟩; replace B101 := bB B101 hb; replace HB := bS HB hb; (try clear hb)) | (go_at_call 40; (with_reducible refine (spec_l1In.calls a2 1 100 true _ A8.out).mono ?_); rintro e w' ⟨rfl, ⟨nd, rfl⟩⟩) | (go_at_call 40; (with_reducible refine (spec_l1In.calls a1 0 a2 t104 _ A10.out).mono ?_); rintro e w' ⟨rfl, ⟨nd, rfl⟩⟩))
   go_meet
   case rel => exact ⟨_, (!t104), (by first | rfl | (simp; done) | (simp [*]; done)), H', ⟨by first | omega | exact Nat.le_refl _⟩, ⟨by refine bk ?_; exact B101.out⟩, ⟨pT HB.out⟩⟩
  replace c9 := Bool.eq_false_iff.mpr c9; subst c9
  have H1 : (spec_QuantileField.j0 k l0 a1 a2 true) = some (r1, r2, r3, r4) := by rw [if_neg (show ¬ (false = true) by decide)] at H; exact H
  clear H; have H := H1; clear H1; have H' := aK H; clear H
  go_wp2_with (first | ((with_reducible refine gc 24 rfl ?_); refine gl (some 13) Try.func24 #[.slice A0 l0.length c0] ?_; (with_reducible refine (spec_l9Good.calls k _ _ l0 true _ ?side1 ?side2 A6.out).mono ?_); (case side1 => exact cB HR0 HB); (case side2 => exact HC0.out); rintro e w12 ⟨rfl, hb⟩; refine ⟨_, rfl, ?_⟩; replace B101 := bB B101 hb; replace HB := bS HB hb; (try clear hb)) | (go_at_call 40; (with_reducible refine (spec_l1In.calls a2 1 100 false _ A8.out).mono ?_); rintro e w' ⟨rfl, ⟨nd, rfl⟩⟩))
  go_meet
  case rel => exact ⟨_, (true), (by first | rfl | (simp; done) | (simp [*]; done)), H', ⟨by first | omega | exact Nat.le_refl _⟩, ⟨by refine bk ?_; exact B101.out⟩, ⟨pT HB.out⟩⟩
 case rest =>
 clear HC4
 try clear c1
 try clear c2
 try clear p2
 try clear c7
 try clear c9
 obtain ⟨kq, x25_3, rfl, HA, HJ3, B101, HB⟩ := hcut
 cases kq with
 | zero => exact absurd HA.out (by simp [spec_QuantileField.j0])
 | succ kj3 =>
 have H := HA.out
 clear HA
 simp only [spec_QuantileField.j0] at H
 by_cases c14 : x25_3 = true
 ·
  subst c14
  have H1 : (some (0, 0, ([] : List Int), false)) = some (r1, r2, r3, r4) := by rw [if_pos rfl] at H; exact H
  clear H; have H := H1; clear H1
  simp only [Option.some.injEq, Prod.mk.injEq] at H
  obtain ⟨rfl, rfl, rfl, rfl⟩ := H; obtain ⟨z15_0, z15_1, z15_2, y15_0, y15_1, y15_2⟩ := bc3 B101.out
  go_wp2
  refine bodyPost_ret (results_ct rfl _ _ g101 29 #[.int .i64 0, .int .i64 0, .slice none 0 0] (0, 0) _ rfl (by refine bq #[.int .i64 0, .int .i64 0, .slice none 0 0] 2 ?_; refine bq #[.int .i64 0, .int .i64 0, .slice none 0 0] 1 ?_; refine bq #[.int .i64 0, .int .i64 0, .slice none 0 0] 0 ?_; refine bk ?_; exact B101.out) Try.underlying29 rfl (by kernel_rfl)) rfl ?_
  exact ⟨_, er, by first | exact Kd.R_nil _ _ _ _ _ | exact Kd.N_nil _ _ _ _ _ | exact Kd.V_nil _ _ _ _ _ | exact Kd.Q_nil _ _ _ _ _ | exact Kd.S_nil _ _ _ _ _, pT HB.out⟩
 replace c14 := Bool.eq_false_iff.mpr c14
 subst c14
 have H1 : (if 0 < (l0.length : Int) then ((spec_l2Own.f ((rd_T29 l0 0).f0) ((rd_T29 l0 0).f1) ((rd_T29 l0 0).f2)).bind fun bt106 => (spec_QuantileField.l0 kj3 l0 a1 a2 0 bt106.1 bt106.2.1 bt106.2.2)) else (none)) = some (r1, r2, r3, r4) := by rw [if_neg (show ¬ (false = true) by decide)] at H; exact H
 clear H
 have H := H1
 clear H1
 by_cases c16 : 0 < (l0.length : Int)
 rotate_left
 ·
  rw [if_neg c16] at H
  exact absurd H (by simp)
 rw [if_pos c16] at H
 have c16b0 : decide (0 < (l0.length : Int)) = true := decide_eq_true c16
 have c16b1 : decide (0 < l0.length) = true := decide_eq_true (by omega)
 clear c16
 replace H := oA H
 obtain ⟨⟨t106, t107, t108⟩, A17, H⟩ := H
 replace H : (spec_QuantileField.l0 kj3 l0 a1 a2 0 t106 t107 t108) = some (r1, r2, r3, r4) := H
 have H' := aK H
 clear H
 have p105 : 0 ≤ (0 : Int) := (by omega)
 have q105 : 0 < (l0.length : Int) := dA
 obtain ⟨ad105, A105_2, c105_2, e105, hx105_0, hx105_1, hx105_2, hl105_2, hi105_2⟩ := at_T29 HR0.out 0 p105 q105
 cases e105
 have qi105 : (0 < l0.length) = True := eq_true (by omega)
 (try rw [show ((0 : Int)).toNat = 0 from rfl] at hx105_0)
 (try rw [show 0 * 3 = 0 from rfl] at hx105_0)
 (try rw [Addr.add_zero'] at hx105_0)
 (try rw [show ((0 : Int)).toNat = 0 from rfl] at hx105_1)
 (try rw [show 0 * 3 = 0 from rfl] at hx105_1)
 (try rw [Addr.add_zero'] at hx105_1)
 (try rw [show ((0 : Int)).toNat = 0 from rfl] at hx105_2)
 (try rw [show 0 * 3 = 0 from rfl] at hx105_2)
 (try rw [Addr.add_zero'] at hx105_2)
 replace hx105_0 := (HB.out.cell (World.block_lt_of_cell? w _ hx105_0)).trans hx105_0
 replace hx105_1 := (HB.out.cell (World.block_lt_of_cell? w _ hx105_1)).trans hx105_1
 replace hx105_2 := (HB.out.cell (World.block_lt_of_cell? w _ hx105_2)).trans hx105_2
 have HR105_2 := aK hi105_2
 have HC105_2 := aK hl105_2
 clear hi105_2 hl105_2
 replace p105 := eq_true p105
 replace q105 := eq_true q105
 go_wp2_with (first | ((with_reducible refine gc 26 rfl ?_); refine gl (some 30) Try.func26 #[.agg #[.int .i64 ((rd_T29 l0 0).f0), .int .i64 ((rd_T29 l0 0).f1), .slice A105_2 ((rd_T29 l0 0).f2).length c105_2]] ?_; (with_reducible refine (spec_l2Own.calls ((rd_T29 l0 0).f0) ((rd_T29 l0 0).f1) _ _ ((rd_T29 l0 0).f2) t106 t107 t108 _ ?side1 ?side2 A17.out).mono ?_); (case side1 => exact cB HR105_2 HB); (case side2 => exact HC105_2.out); rintro e w18 ⟨v109, rfl, ho0, hb⟩; refine ⟨_, rfl, ?_⟩; have HO110 := aK (Kd.R_lower ho0 (below_size (pS HB.out))); replace B101 := bB B101 hb; replace HB := bS HB hb; (try clear hb); (try clear ho0)) | ((with_reducible refine ga 8 rfl ?_); refine bxa #[.int .i64 0, .int .i64 0, .slice none 0 0] 29 ?_; intro g111 hg w19 B111 hb; replace HO110 := rb HO110 hb; have GW111 := gA hg HB; obtain ⟨N101_111, N111_101⟩ := na hg B101; replace B101 := bB B101 hb; replace HB := bS HB hb; clear hb hg; obtain ⟨_, _⟩ := nB N111_101; obtain ⟨z21_0, z21_1, z21_2, y21_0, y21_1, y21_2⟩ := bc3 B111.out; obtain ⟨Ao22, co22, eo22⟩ := Kd.R_slice HO110.out; subst eo22))
 go_loopg [9] kj3 (fun kq v9 w' => ∃ (x9_2 : Int) (x112002_2 : List Int) (u112002 : Value), v9 = .int .i64 x9_2 ∧ Aside0 (spec_QuantileField.l0 kq l0 a1 a2 x9_2 t106 t107 x112002_2 = some (r1, r2, r3, r4)) ∧ Aside0 (kq ≤ kj3) ∧ Aside0 (Kd.R (Kd.int .i64) 3 w' w.heap.size (fun _ => True) u112002 x112002_2) ∧ Aside0 (w'.heap[g101]? = some (.cells #[.int .i64 0, .int .i64 0, (.slice none 0 0)] 29 (0, 0))) ∧ Aside0 (w'.heap[g111]? = some (.cells #[.int .i64 t106, .int .i64 t107, u112002] 29 (0, 0))) ∧ Aside0 (Below w.heap.size w w'))
 case atStart => exact ⟨(0), (t108), (.slice Ao22 t108.length co22), (by first | rfl | (simp; done) | (simp [*]; done)), H', ⟨Nat.le_refl _⟩, ⟨pR (Kd.R_mono (rF3 HO110.out B111.out (.int .i64 t106) (.int .i64 t107) (.slice Ao22 t108.length co22)) (fun _ h => trivial))⟩, ⟨by refine bg N101_111 ?_; refine bg N101_111 ?_; refine bg N101_111 ?_; refine bk ?_; exact B101.out⟩, ⟨by refine bq #[.int .i64 t106, .int .i64 t107, .slice none 0 0] 2 ?_; refine bq #[.int .i64 t106, .int .i64 0, .slice none 0 0] 1 ?_; refine bq #[.int .i64 0, .int .i64 0, .slice none 0 0] 0 ?_; refine bk ?_; exact B111.out⟩, ⟨pT HB.out⟩⟩
 case round =>
 clear H'
 try clear c1
 try clear p1
 try clear q1
 try clear hx1
 try clear qi1
 try clear c2
 try clear p2
 try clear c7
 try clear c9
 try clear c10
 try clear p10
 try clear q10
 try clear hx10
 try clear qi10
 try clear c14
 try clear c16
 try clear c16b0
 try clear c16b1
 try clear c20
 try clear z15_0
 try clear z15_1
 try clear z15_2
 try clear z21_0
 try clear z21_1
 try clear z21_2
 try clear y15_0
 try clear y15_1
 try clear y15_2
 try clear y21_0
 try clear y21_1
 try clear y21_2
 try clear hx105_0
 try clear hx105_1
 try clear hx105_2
 try clear p105
 try clear p2
 try clear q105
 obtain ⟨x9_2, x112002_2, u112002, rfl, HA, HK2, O0, B101, B111, HB⟩ := hrel
 cases gk with
 | zero => exact absurd HA.out (by simp [spec_QuantileField.l0])
 | succ k2 =>
 have H := HA.out
 clear HA
 simp only [spec_QuantileField.l0] at H
 by_cases c23 : x9_2 < (x112002_2.length : Int)
 rotate_left
 ·
  rw [if_neg c23] at H
  have c23b0 : decide (x9_2 < (x112002_2.length : Int)) = false := decide_eq_false c23
  clear c23
  simp only [Option.some.injEq, Prod.mk.injEq] at H
  obtain ⟨rfl, rfl, rfl, rfl⟩ := H; obtain ⟨_, _⟩ := nB N111_101; obtain ⟨_, _, _, _, _, _⟩ := bc3 B111.out; obtain ⟨Ao54, co54, eo54⟩ := Kd.R_slice O0.out; subst eo54; obtain ⟨_, _, _, _, _, _⟩ := bc3 B101.out
  go_wp2
  refine bodyPost_ret (results_ct rfl _ _ g101 29 #[.int .i64 t106, .int .i64 t107, .slice Ao54 x112002_2.length co54] (0, 0) _ rfl (by refine bq #[.int .i64 t106, .int .i64 t107, .slice none 0 0] 2 ?_; refine bq #[.int .i64 t106, .int .i64 0, .slice none 0 0] 1 ?_; refine bq #[.int .i64 0, .int .i64 0, .slice none 0 0] 0 ?_; refine bk ?_; exact B101.out) Try.underlying29 rfl (by kernel_rfl)) rfl ?_
  exact ⟨_, er, by (with_reducible repeat (first | apply Kd.R_alloc | apply Kd.R_drewN | apply Kd.R_drew)); exact Kd.R_mono (rF3 O0.out B101.out (.int .i64 t106) (.int .i64 t107) (.slice Ao54 x112002_2.length co54)) (fun _ h => trivial), pT HB.out⟩
 rw [if_pos c23] at H
 have c23b0 : decide (x9_2 < (x112002_2.length : Int)) = true := decide_eq_true c23
 clear c23
 replace H := oA H
 obtain ⟨t112, A24, H⟩ := H
 replace H : (if 0 ≤ x9_2 then ((some (x112002_2.set (x9_2 : Int).toNat (-9999) : List Int)).bind fun y115 => (if (t112.length : Int) > 0 then (if a2 = 0 then (none) else ((spec_l1Most.f (wrap64 (Int.tdiv (wrap64 ((wrap64 ((wrap64 (a1 * (t112.length : Int))) + a2)) - 1)) a2)) 1).bind fun t116 => (if 0 ≤ (wrap64 (t116 - 1)) then (if (wrap64 (t116 - 1)) < (t112.length : Int) then (spec_QuantileField.l0 k2 l0 a1 a2 (wrap64 (x9_2 + 1)) t106 t107 (y115.set (x9_2 : Int).toNat (rd t112 (wrap64 (t116 - 1))))) else (none)) else (none)))) else (spec_QuantileField.l0 k2 l0 a1 a2 (wrap64 (x9_2 + 1)) t106 t107 y115))) else (none)) = some (r1, r2, r3, r4) := H
 by_cases c25 : 0 ≤ x9_2
 rotate_left
 ·
  rw [if_neg c25] at H
  exact absurd H (by simp)
 rw [if_pos c25] at H
 have c25b0 : decide (0 ≤ x9_2) = true := decide_eq_true c25
 clear c25
 obtain ⟨y115, hy115⟩ : ∃ y_ : List Int, y_ = (x112002_2.set (x9_2 : Int).toNat (-9999)) := ⟨_, rfl⟩
 replace H : (if (t112.length : Int) > 0 then (if a2 = 0 then (none) else ((spec_l1Most.f (wrap64 (Int.tdiv (wrap64 ((wrap64 ((wrap64 (a1 * (t112.length : Int))) + a2)) - 1)) a2)) 1).bind fun t116 => (if 0 ≤ (wrap64 (t116 - 1)) then (if (wrap64 (t116 - 1)) < (t112.length : Int) then (spec_QuantileField.l0 k2 l0 a1 a2 (wrap64 (x9_2 + 1)) t106 t107 (y115.set (x9_2 : Int).toNat (rd t112 (wrap64 (t116 - 1))))) else (none)) else (none)))) else (spec_QuantileField.l0 k2 l0 a1 a2 (wrap64 (x9_2 + 1)) t106 t107 y115)) = some (r1, r2, r3, r4) := by first | (rw [hy115]; first | with_reducible exact H | with_reducible exact (oS H :)) | with_reducible exact (oS H :) | with_reducible exact H | exact H
 have Ny115 := aK hy115
 clear hy115
 by_cases c27 : (t112.length : Int) > 0
 rotate_left
 ·
  rw [if_neg c27] at H
  have c27b0 : decide (0 < (t112.length : Int)) = false := decide_eq_false c27
  have c27b1 : decide (0 < t112.length) = false := decide_eq_false (by omega)
  clear c27; have H' := aK H; clear H; obtain ⟨_, _⟩ := nB N111_101; obtain ⟨_, _, _, _, _, _⟩ := bc3 B111.out; obtain ⟨Ao46, co46, eo46⟩ := Kd.R_slice O0.out; subst eo46
  go_wp2_with (first | ((with_reducible refine gc 27 rfl ?_); refine gl (some 40) Try.func27 #[.slice (some ad105) l0.length c0, .int .i64 x9_2] ?_; (with_reducible refine (spec_l9Values.calls k2 _ _ l0 x9_2 t112 _ ?side1 ?side2 A24.out).mono ?_); (case side1 => exact cB HR0 HB); (case side2 => exact HC0.out); rintro e w47 ⟨v113, rfl, ho0, hb⟩; refine ⟨_, rfl, ?_⟩; have n0_ := aK (Kd.R_elder' (pR O0.out) (Kd.R_base ho0) hb); have HO114 := aK (Kd.R_lower (nw1 ho0 (pR O0.out)) (below_size (pS HB.out))); replace B101 := bB B101 hb; replace B111 := bB B111 hb; replace HB := bS HB hb; clear O0; have O0 := n0_; clear n0_; (try clear hb); (try clear ho0); obtain ⟨Ao48, co48, eo48⟩ := Kd.R_slice HO114.out; subst eo48; obtain ⟨_, _, _, _, _, _⟩ := bc3 B111.out; have p26 : 0 ≤ (x9_2 : Int) := dA; have q26 : (x9_2 : Int) < ((x112002_2.length : Int) : Int) := dA; obtain ⟨go26, co26, eo26, g26, gl26, cl26, HG26⟩ := Kd.R_form O0.out (by omega); (first | cases eo26 | (injection eo26 with ea_ en_ ec_; (first | subst ea_ | (injection ea_ with ea_; subst ea_)); subst ec_; clear en_)); have GB26 := aK g26; have GG26 := aK HG26; clear g26 gl26 HG26; obtain ⟨hx26_0, hf26_0⟩ := Kd.R_celln 0 O0.out (x9_2 : Int) p26 q26; replace p26 := eq_true p26; replace q26 := eq_true q26; have n_ := aK (Kd.R_mono (ok' := (fun k_ => some k_ ≠ (.slice Ao48 t112.length co48 : Value).ownBlock)) O0.out (fun k_ hk => hk.2)); clear O0; have O0 := n_; clear n_; obtain ⟨hy50_, hz50_⟩ := Kd.R_celln 0 O0.out (x9_2 : Int) (dA) (dA); have HP50 := Kd.R_putg O0.out (x9_2 : Int) (-9999)) | ((with_reducible refine gate_store (t := 3) (p := 46) rfl ?_); refine store_event (t := 3) (p := 46) (v := ?vo_w51) (w1 := (w47.setCell ⟨go26, (x9_2 : Int).toNat, none⟩ (.int .i64 (-9999)))) ?hg ?ho ?hn ?hr ?_; (case ho => rfl); (case hg => rfl); (case hn => rfl); (case hr => first | (go_simp; done) | (go_simp; rfl)); intro w51 hw; have hg : w47.grownBy w51 (some go26) := (by rw [hw]; exact HP50.2); have hp_ : Kd.R (Kd.int .i64) 3 w51 w.heap.size (fun k_ => some k_ ≠ (.slice Ao48 t112.length co48 : Value).ownBlock) (.slice (some ⟨go26, 0, none⟩) x112002_2.length co46) y115 := (by rw [hw, Ny115.out]; exact HP50.1); clear HP50; have n0_ := aK (hp_); replace B101 := aK (blk_grown (pB B101.out) hg (Kd.R_ne O0.out B101.out (by decide))); replace B111 := aK (blk_grown (pB B111.out) hg (Kd.R_ne O0.out B111.out (by decide))); replace HO114 := aK (Kd.R_after (v := (.slice (some ⟨go26, 0, none⟩) x112002_2.length co46)) (v1 := (.slice (some ⟨go26, 0, none⟩) x112002_2.length co46)) (ok := (fun _ => True)) (pR HO114.out) hg (.inl rfl)); replace HB := aK ((by rw [hw]; exact below_set (HB.out) GB26.out : Below w.heap.size w w51)); clear O0; have O0 := n0_; clear n0_; clear hg hw hp_))
  go_roundg k2
  case measure => have := HJ3.out; have := HK2.out; omega
  case rel => exact ⟨(wrap64 (x9_2 + 1)), (y115), (.slice (some ⟨go26, 0, none⟩) x112002_2.length co46), (by first | rfl | (simp; done) | (simp [*]; done)), H', ⟨by have := HJ3.out; have := HK2.out; omega⟩, ⟨pR (Kd.R_mono O0.out (fun _ hk => trivial))⟩, ⟨by refine bk ?_; exact B101.out⟩, ⟨by refine bk ?_; exact B111.out⟩, ⟨pT HB.out⟩⟩
 rw [if_pos c27] at H
 have c27b0 : decide (0 < (t112.length : Int)) = true := decide_eq_true c27
 have c27b1 : decide (0 < t112.length) = true := decide_eq_true (by omega)
 clear c27
 by_cases c28 : a2 = 0
 ·
  rw [if_pos c28] at H
  exact absurd H (by simp)
 rw [if_neg c28] at H
 have c28b0 : (a2 == 0) = false := beq_eq_false_iff_ne.mpr c28
 have c28b1 : (a2 != 0) = true := bne_iff_ne.mpr c28
 replace H := oA H
 obtain ⟨t116, A29, H⟩ := H
 replace H : (if 0 ≤ (wrap64 (t116 - 1)) then (if (wrap64 (t116 - 1)) < (t112.length : Int) then (spec_QuantileField.l0 k2 l0 a1 a2 (wrap64 (x9_2 + 1)) t106 t107 (y115.set (x9_2 : Int).toNat (rd t112 (wrap64 (t116 - 1))))) else (none)) else (none)) = some (r1, r2, r3, r4) := H
 obtain ⟨ji30, hji30⟩ : ∃ j_ : Int, (wrap64 (t116 - 1)) = j_ := ⟨_, rfl⟩
 replace H : (if 0 ≤ (ji30) then (if (ji30) < (t112.length : Int) then (spec_QuantileField.l0 k2 l0 a1 a2 (wrap64 (x9_2 + 1)) t106 t107 (y115.set (x9_2 : Int).toNat (rd t112 (ji30)))) else (none)) else (none)) = some (r1, r2, r3, r4) := by first | (rw [hji30] at H; exact H) | (simp only [hji30] at H ⊢; exact H)
 (try rw [hji30] at A24)
 (try rw [hji30] at A29)
 have hji30w : (IntKind.i64.wrap (t116 - 1)) = ji30 := (i64_w _).trans hji30
 by_cases c31 : 0 ≤ (ji30)
 rotate_left
 ·
  rw [if_neg c31] at H
  exact absurd H (by simp)
 rw [if_pos c31] at H
 have c31b0 : decide (0 ≤ (ji30)) = true := decide_eq_true c31
 clear c31
 by_cases c32 : (ji30) < (t112.length : Int)
 rotate_left
 ·
  rw [if_neg c32] at H
  exact absurd H (by simp)
 rw [if_pos c32] at H
 have c32b0 : decide ((ji30) < (t112.length : Int)) = true := decide_eq_true c32
 clear c32
 obtain ⟨y118, hy118⟩ : ∃ y_ : List Int, y_ = (y115.set (x9_2 : Int).toNat (rd t112 (ji30))) := ⟨_, rfl⟩
 replace H : (spec_QuantileField.l0 k2 l0 a1 a2 (wrap64 (x9_2 + 1)) t106 t107 y118) = some (r1, r2, r3, r4) := by first | (rw [hy118]; first | with_reducible exact H | with_reducible exact (oS H :)) | with_reducible exact (oS H :) | with_reducible exact H | exact H
 have Ny118 := aK hy118
 clear hy118
 have H' := aK H
 clear H
 obtain ⟨_, _⟩ := nB N111_101
 obtain ⟨_, _, _, _, _, _⟩ := bc3 B111.out
 obtain ⟨Ao36, co36, eo36⟩ := Kd.R_slice O0.out
 subst eo36
 try go_wp2_with (first | ((with_reducible refine gc 27 rfl ?_); refine gl (some 40) Try.func27 #[.slice (some ad105) l0.length c0, .int .i64 x9_2] ?_; (with_reducible refine (spec_l9Values.calls k2 _ _ l0 x9_2 t112 _ ?side1 ?side2 A24.out).mono ?_); (case side1 => exact cB HR0 HB); (case side2 => exact HC0.out); rintro e w37 ⟨v113, rfl, ho0, hb⟩; refine ⟨_, rfl, ?_⟩; have n0_ := aK (Kd.R_elder' (pR O0.out) (Kd.R_base ho0) hb); have HO114 := aK (Kd.R_lower (nw1 ho0 (pR O0.out)) (below_size (pS HB.out))); replace B101 := bB B101 hb; replace B111 := bB B111 hb; replace HB := bS HB hb; clear O0; have O0 := n0_; clear n0_; (try clear hb); (try clear ho0); obtain ⟨Ao38, co38, eo38⟩ := Kd.R_slice HO114.out; subst eo38; obtain ⟨_, _, _, _, _, _⟩ := bc3 B111.out; have p26 : 0 ≤ (x9_2 : Int) := dA; have q26 : (x9_2 : Int) < ((x112002_2.length : Int) : Int) := dA; obtain ⟨go26, co26, eo26, g26, gl26, cl26, HG26⟩ := Kd.R_form O0.out (by omega); (first | cases eo26 | (injection eo26 with ea_ en_ ec_; (first | subst ea_ | (injection ea_ with ea_; subst ea_)); subst ec_; clear en_)); have GB26 := aK g26; have GG26 := aK HG26; clear g26 gl26 HG26; obtain ⟨hx26_0, hf26_0⟩ := Kd.R_celln 0 O0.out (x9_2 : Int) p26 q26; replace p26 := eq_true p26; replace q26 := eq_true q26; have n_ := aK (Kd.R_mono (ok' := (fun k_ => some k_ ≠ (.slice Ao38 t112.length co38 : Value).ownBlock)) O0.out (fun k_ hk => hk.2)); clear O0; have O0 := n_; clear n_; obtain ⟨hy40_, hz40_⟩ := Kd.R_celln 0 O0.out (x9_2 : Int) (dA) (dA); have HP40 := Kd.R_putg O0.out (x9_2 : Int) (-9999)) | ((with_reducible refine gate_store (t := 3) (p := 46) rfl ?_); refine store_event (t := 3) (p := 46) (v := ?vo_w41) (w1 := (w37.setCell ⟨go26, (x9_2 : Int).toNat, none⟩ (.int .i64 (-9999)))) ?hg ?ho ?hn ?hr ?_; (case ho => rfl); (case hg => rfl); (case hn => rfl); (case hr => first | (go_simp; done) | (go_simp; rfl)); intro w41 hw; have hg : w37.grownBy w41 (some go26) := (by rw [hw]; exact HP40.2); have hp_ : Kd.R (Kd.int .i64) 3 w41 w.heap.size (fun k_ => some k_ ≠ (.slice Ao38 t112.length co38 : Value).ownBlock) (.slice (some ⟨go26, 0, none⟩) x112002_2.length co36) y115 := (by rw [hw, Ny115.out]; exact HP40.1); clear HP40; have n0_ := aK (hp_); replace B101 := aK (blk_grown (pB B101.out) hg (Kd.R_ne O0.out B101.out (by decide))); replace B111 := aK (blk_grown (pB B111.out) hg (Kd.R_ne O0.out B111.out (by decide))); replace HO114 := aK (Kd.R_after (v := (.slice (some ⟨go26, 0, none⟩) x112002_2.length co36)) (v1 := (.slice (some ⟨go26, 0, none⟩) x112002_2.length co36)) (ok := (fun _ => True)) (pR HO114.out) hg (.inl rfl)); replace HB := aK ((by rw [hw]; exact below_set (HB.out) GB26.out : Below w.heap.size w w41)); clear O0; have O0 := n0_; clear n0_; clear hg hw hp_))
 replace O0 := rdw O0
 replace HO114 := rdw HO114
 replace B101 := bD B101
 replace B111 := bD B111
 replace HB := aK (below_drew1 HB.out)
 have p117 : 0 ≤ ((ji30) : Int) := dA
 have q117 : (ji30) < (t112.length : Int) := dA
 obtain ⟨ad117, e117, hx117_0⟩ := Kd.at_int (Kd.R_reads' HO114.out).2.2 (ji30) p117 q117
 cases e117
 replace p117 := eq_true p117
 replace q117 := eq_true q117
 refine start_ (n := 18) (S := fun w' => w'.cell? ⟨g111, 0, none⟩ = some (.int .i64 t106) ∧ w'.cell? ⟨g111, 1, none⟩ = some (.int .i64 t107) ∧ w'.cell? ⟨g111, 2, none⟩ = some (.slice (some ⟨go26, 0, none⟩) x112002_2.length co36) ∧ w'.cell? (ad117.add ((ji30)).toNat) = some (.int .i64 (rd t112 (ji30)))) (ds := [17]) (bz [0, 18]) (by kernel_rfl) rfl rfl (cj3 B111.out hx117_0) (fun hHeld => ?_); refine with_tabW spec_QuantileField.tab11 spec_QuantileField.bits11 (fun HT_ HW_ => ?_)
 generalize w41.drew = w42 at O0 HO114 B101 B111 HB hx117_0 hHeld ⊢
 refine pz 0 49 [1, 17] HT_ ?_
 refine pz 2 51 [1, 1, 1, 15] HT_ ?_
 refine pz 3 52 [1, 1, 2, 14] HT_ ?_
 refine pz 4 53 [1, 1, 3, 13] HT_ ?_
 refine pz 5 54 [1, 1, 4, 12] HT_ ?_
 refine pz 6 55 [1, 1, 5, 11] HT_ ?_
 refine pz 7 56 [1, 1, 6, 10] HT_ ?_
 refine pz 8 57 [1, 1, 7, 9] HT_ ?_
 refine pz 9 58 [1, 1, 8, 8] HT_ ?_
 refine pz 10 59 [1, 1, 9, 7] HT_ ?_
 refine pz 11 60 [1, 1, 10, 6] HT_ ?_
 refine tz 1 50 [12, 6] HT_ HW_ rfl (by rintro w' ⟨s0, s1, s2, s3⟩; go_simp; with_reducible rfl) hHeld ?_
 refine oz 12 61 [13, 5] HT_ fun K hK => ?_
 refine gs Try.func41 #[.int .i64 (wrap64 (Int.tdiv (wrap64 ((wrap64 ((wrap64 (a1 * (t112.length : Int))) + a2)) - 1)) a2)), .int .i64 1] ?_
 with_reducible refine (spec_l1Most.calls (wrap64 (Int.tdiv (wrap64 ((wrap64 ((wrap64 (a1 * (t112.length : Int))) + a2)) - 1)) a2)) 1 t116 _ A29.out).mono ?_
 rintro e w' ⟨rfl, ⟨nd, rfl⟩⟩
 refine ⟨_, rfl, ?_⟩
 have p33 : 0 ≤ (x9_2 : Int) := dA
 have q33 : (x9_2 : Int) < ((x112002_2.length : Int) : Int) := dA
 obtain ⟨hx33_0, hf33_0⟩ := Kd.R_celln 0 O0.out (x9_2 : Int) p33 q33
 replace p33 := eq_true p33
 replace q33 := eq_true q33
 have HP43 := Kd.R_putn O0.out (x9_2 : Int) (rd t112 (ji30))
 rw [← Ny118.out] at HP43
 have HQ43 := aK HP43
 clear HP43
 refine hK.out _ _ (cj3 B111.out hHeld.2.2.2) (fun hHeld => ?_)
 clear hK K
 refine nm 61 ?_
 refine pz 13 62 [14, 4] HT_ ?_
 refine pz 14 63 [15, 3] HT_ ?_
 refine tz 15 64 [16, 2] HT_ HW_ rfl (by rintro w' ⟨s0, s1, s2, s3⟩; go_simp; with_reducible rfl) hHeld ?_
 refine pz 16 65 [17, 1] HT_ ?_
 refine last_ (i := 17) (N := none) (bz [18, 0]) rfl rfl (one_of HT_.out (by kernel_rfl)) (by decide) (fun K hK => ?_)
 refine skip_ (w1 := ?_) (by rfl) rfl ?_ ?_
 rotate_left
 ·
  go_simp
  rfl
 refine hK.out _ _ ?_
 clear hK K
 refine done_ (done_of HT_.out (by kernel_rfl)) ?_
 try go_wp2
 go_roundg k2
 case measure => have := HJ3.out; have := HK2.out; omega
 case rel => exact ⟨(wrap64 (x9_2 + 1)), (y118), (.slice (some ⟨go26, 0, none⟩) x112002_2.length co36), (by first | rfl | (simp; done) | (simp [*]; done)), H', ⟨by have := HJ3.out; have := HK2.out; omega⟩, ⟨pR (Kd.R_mono HQ43.out (fun _ hk => trivial))⟩, ⟨by refine bk ?_; refine blk_far ?_ (by have h_ := Kd.R_ne O0.out B101.out (by decide); intro e_; exact h_ (by rw [e_]; rfl)) _; refine bk ?_; exact B101.out⟩, ⟨by refine bk ?_; refine blk_far ?_ (by have h_ := Kd.R_ne O0.out B111.out (by decide); intro e_; exact h_ (by rw [e_]; rfl)) _; refine bk ?_; exact B111.out⟩, ⟨by repeat (first | (with_reducible first | exact HB.out | apply below_alloc | apply pw_below_drewN | apply below_drew1 | refine below_set ?_ GB26.out | refine below_set ?_ GW101.out | refine below_set ?_ GW111.out) | exact HB.out)⟩⟩
def spec_DrawIsValidEnsemble.f (k : Nat) (l0 : List Int) : Option ((List (S29))) := (spec_l1Cur_ensemble.f k l0 0 0).bind fun bt102 => (some bt102.1)
theorem spec_DrawIsValidEnsemble.calls (k : Nat) (A0 : Option Addr) (c0 : Nat) (l0 : List Int) (r : List (S29)) (w : World) (hr0 : Kd.C (Kd.int .u8) w A0 l0.length l0) (hc0 : l0.length ≤ c0) (h : spec_DrawIsValidEnsemble.f k l0 = some r) :
  Calls Try.prog 42 #[.slice A0 l0.length c0] w fun e w' => ∃ v0_ : Value, e = .returned (v0_) ∧ Kd.V k29 29 w' w.heap.size (fun k_ => (w.heap.size ≤ k_)) v0_ r ∧ Below w.heap.size w w' := by
 have hu44 := Try.underlying44
 have HR0 := aK hr0
 have HC0 := aK hc0
 clear hr0 hc0
 have HB := aK (Below.refl w.heap.size w)
 have H : ((spec_l1Cur_ensemble.f k l0 0 0).bind fun bt102 => (some bt102.1)) = some r := h
 clear h
 replace H := oA H
 obtain ⟨⟨t102, t105, t106⟩, A2, H⟩ := H
 replace H : (some t102) = some r := H
 obtain rfl := Option.some.inj H
 go_enter Try.func42, Try.ntmps42
 go_wp2_with (first | ((with_reducible refine ga 6 rfl ?_); refine bxe (cs := #[.slice A0 l0.length c0, .int .i64 0, .int .u64 0]) (t := 44) ?_; intro g101 hg w3 hbox hb; have HI101 := aK ((⟨_, _, hbox, (by rw [hg]; exact (below_size (pS HB.out)) : w.heap.size ≤ g101), HR0.out⟩ : IsS44 w w3 g101 l0 0 0)); replace HB := bS HB hb; clear hb hbox hg) | ((with_reducible refine gc 18 rfl ?_); refine gl (some 8) Try.func18 #[.pointer (some ⟨g101, 0, none⟩)] ?_; (with_reducible refine (spec_l1Cur_ensemble.calls k g101 l0 0 0 t102 t105 t106 w _ ?side1 ?side2 A2.out).mono ?_); (case side1 => exact pI44 HI101.out); (case side2 => exact pV HB.out (IsS44.ge HI101.out)); rintro e w4 ⟨v103, rfl, ho0, hi, hb, hk⟩; refine ⟨_, rfl, ?_⟩; have HO104 := aK (Kd.V_lower (Kd.V_mono (ok' := fun k_ => (w.heap.size ≤ k_) ∧ k_ ≠ g101) ho0 (fun k_ hk_ => ⟨(Nat.le_trans (below_size ((pV HB.out (IsS44.ge HI101.out)))) hk_), (IsS44.fresh (pI44 HI101.out) k_ hk_)⟩)) (below_size ((pV HB.out (IsS44.ge HI101.out))))); have n1_ := aK (hb); have n2_ := aK (hi); clear HB HI101; have HB := n1_; have HI101 := n2_; clear n1_ n2_; (try clear hb); (try clear hk); (try clear hi); (try clear ho0)))
 go_ret
 exact ⟨_, er, by (with_reducible repeat (first | apply Kd.V_alloc | apply Kd.V_drewN | apply Kd.V_drew)); exact Kd.V_mono HO104.out (fun _ hk => hk.1), (pV HB.out (IsS44.ge HI101.out))⟩
def spec_DrawMeanMember.f (k : Nat) (l0 : List Int) : Option ((List (S29))) := (spec_DrawIsValidEnsemble.f k l0).bind fun t101 => (some t101)
theorem spec_DrawMeanMember.calls (k : Nat) (A0 : Option Addr) (c0 : Nat) (l0 : List Int) (r : List (S29)) (w : World) (hr0 : Kd.C (Kd.int .u8) w A0 l0.length l0) (hc0 : l0.length ≤ c0) (h : spec_DrawMeanMember.f k l0 = some r) :
  Calls Try.prog 15 #[.slice A0 l0.length c0] w fun e w' => ∃ v0_ : Value, e = .returned (v0_) ∧ Kd.V k29 29 w' w.heap.size (fun k_ => (w.heap.size ≤ k_)) v0_ r ∧ Below w.heap.size w w' := by
 have HR0 := aK hr0
 have HC0 := aK hc0
 clear hr0 hc0
 have HB := aK (Below.refl w.heap.size w)
 have H : ((spec_DrawIsValidEnsemble.f k l0).bind fun t101 => (some t101)) = some r := h
 clear h
 replace H := oA H
 obtain ⟨t101, A2, H⟩ := H
 replace H : (some t101) = some r := H
 obtain rfl := Option.some.inj H
 go_enter Try.func15, Try.ntmps15
 go_wp2_with (first | ((with_reducible refine gc 42 rfl ?_); refine gl (some 4) Try.func42 #[.slice A0 l0.length c0] ?_; (with_reducible refine (spec_DrawIsValidEnsemble.calls k _ _ l0 t101 _ ?side1 ?side2 A2.out).mono ?_); (case side1 => exact pC HR0.out); (case side2 => exact HC0.out); rintro e w3 ⟨v102, rfl, ho0, hb⟩; refine ⟨_, rfl, ?_⟩; have HO103 := aK (Kd.V_lower (Kd.V_mono (ok' := fun k_ => (w.heap.size ≤ k_)) ho0 (fun k_ hk_ => (Nat.le_trans (below_size (pS HB.out)) hk_))) (below_size (pS HB.out))); replace HB := bS HB hb; (try clear hb); (try clear ho0)))
 go_ret
 exact ⟨_, er, by (with_reducible repeat (first | apply Kd.V_alloc | apply Kd.V_drewN | apply Kd.V_drew)); exact HO103.out, pT HB.out⟩
def impl_nearest.f (a0 : Int) (a1 : Int) : Option (Int) := if a0 < 0 then (if (wrap64 (2 * a1)) = 0 then (none) else (some (wrap64 (-(wrap64 (Int.tdiv (wrap64 ((wrap64 ((-2) * a0)) + a1)) (wrap64 (2 * a1)))))))) else (if (wrap64 (2 * a1)) = 0 then (none) else (some (wrap64 (Int.tdiv (wrap64 ((wrap64 (2 * a0)) + a1)) (wrap64 (2 * a1))))))
theorem impl_nearest.calls (a0 : Int) (a1 : Int) (r : Int) (w : World) (h : impl_nearest.f a0 a1 = some r) :
  Calls Try.prog 55 #[.int .i64 a0, .int .i64 a1] w fun e w' => e = .returned (.int .i64 r) ∧ Drawn0 w w' := by
 have H : (if a0 < 0 then (if (wrap64 (2 * a1)) = 0 then (none) else (some (wrap64 (-(wrap64 (Int.tdiv (wrap64 ((wrap64 ((-2) * a0)) + a1)) (wrap64 (2 * a1)))))))) else (if (wrap64 (2 * a1)) = 0 then (none) else (some (wrap64 (Int.tdiv (wrap64 ((wrap64 (2 * a0)) + a1)) (wrap64 (2 * a1))))))) = some r := h
 clear h
 by_cases c3 : a0 < 0
 ·
  rw [if_pos c3] at H
  have c3b0 : decide (a0 < 0) = true := decide_eq_true c3
  clear c3
  by_cases c4 : (wrap64 (2 * a1)) = 0
  ·
   rw [if_pos c4] at H
   exact absurd H (by simp)
  rw [if_neg c4] at H
  have c4b0 : ((wrap64 (2 * a1)) == 0) = false := beq_eq_false_iff_ne.mpr c4
  have c4b1 : ((wrap64 (2 * a1)) != 0) = true := bne_iff_ne.mpr c4
  obtain rfl := Option.some.inj H
  go_enter Try.func55, Try.ntmps55
  go_wp2
  go_ret
  exact ⟨by first | rfl | (simp; done) | (simp [*]; done), by repeat (first | exact Drawn0.refl _ | apply Drawn0.step)⟩
 rw [if_neg c3] at H
 have c3b0 : decide (a0 < 0) = false := decide_eq_false c3
 clear c3
 by_cases c5 : (wrap64 (2 * a1)) = 0
 ·
  rw [if_pos c5] at H
  exact absurd H (by simp)
 rw [if_neg c5] at H
 have c5b0 : ((wrap64 (2 * a1)) == 0) = false := beq_eq_false_iff_ne.mpr c5
 have c5b1 : ((wrap64 (2 * a1)) != 0) = true := bne_iff_ne.mpr c5
 obtain rfl := Option.some.inj H
 go_enter Try.func55, Try.ntmps55
 go_wp2
 go_ret
 exact ⟨by first | rfl | (simp; done) | (simp [*]; done), by repeat (first | exact Drawn0.refl _ | apply Drawn0.step)⟩
def impl_sumOf.l0 : Nat → Int → List Int → Int → Int → Option (Int)
 | 0, _, _, _, _ => none
 | k + 1, x3, x6, x7, x8 => if x8 < x7 then (if 0 ≤ x8 then (if x8 < (x6.length : Int) then (impl_sumOf.l0 k (wrap64 (x3 + (rd x6 x8))) x6 x7 (wrap64 (x8 + 1))) else (none)) else (none)) else (some x3)
def impl_sumOf.f (k : Nat) (l0 : List Int) : Option (Int) := impl_sumOf.l0 k 0 l0 (l0.length : Int) 0
theorem impl_sumOf.calls (k : Nat) (A0 : Option Addr) (c0 : Nat) (l0 : List Int) (r : Int) (w : World) (hr0 : Kd.C (Kd.int .i64) w A0 l0.length l0) (hc0 : l0.length ≤ c0) (h : impl_sumOf.f k l0 = some r) :
  Calls Try.prog 56 #[.slice A0 l0.length c0] w fun e w' => e = .returned (.int .i64 r) ∧ Drawn0 w w' := by
 have HR0 := aK hr0
 have HC0 := aK hc0
 clear hr0 hc0
 have H : (impl_sumOf.l0 k 0 l0 (l0.length : Int) 0) = some r := h
 clear h
 have H' := aK H
 clear H
 go_enter Try.func56, Try.ntmps56
 go_wp2
 go_loopg [3, 8] k (fun kq v3 v8 w' => ∃ (x3_1 : Int) (x8_1 : Int), v3 = .int .i64 x3_1 ∧ v8 = .int .i64 x8_1 ∧ Aside0 (impl_sumOf.l0 kq x3_1 l0 (l0.length : Int) x8_1 = some r) ∧ Aside0 (kq ≤ k) ∧ Drawn0 w w')
 case atStart => exact ⟨(0), (0), (by first | rfl | (simp; done) | (simp [*]; done)), (by first | rfl | (simp; done) | (simp [*]; done)), H', ⟨Nat.le_refl _⟩, by repeat (first | exact Drawn0.refl _ | apply Drawn0.step)⟩
 case round =>
 clear H'
 obtain ⟨x3_1, x8_1, rfl, rfl, HA, HK1, ⟨m1, rfl⟩⟩ := hrel
 cases gk with
 | zero => exact absurd HA.out (by simp [impl_sumOf.l0])
 | succ k1 =>
 have H := HA.out
 clear HA
 simp only [impl_sumOf.l0] at H
 by_cases c2 : x8_1 < (l0.length : Int)
 rotate_left
 ·
  rw [if_neg c2] at H
  have c2b0 : decide (x8_1 < (l0.length : Int)) = false := decide_eq_false c2
  clear c2
  obtain rfl := Option.some.inj H
  go_wp2
  go_ret
  exact ⟨by first | rfl | (simp; done) | (simp [*]; done), by repeat (first | exact Drawn0.refl _ | apply Drawn0.step)⟩
 rw [if_pos c2] at H
 have c2b0 : decide (x8_1 < (l0.length : Int)) = true := decide_eq_true c2
 clear c2
 by_cases c3 : 0 ≤ x8_1
 rotate_left
 ·
  rw [if_neg c3] at H
  exact absurd H (by simp)
 rw [if_pos c3] at H
 have c3b0 : decide (0 ≤ x8_1) = true := decide_eq_true c3
 clear c3
 by_cases c4 : x8_1 < (l0.length : Int)
 rotate_left
 ·
  rw [if_neg c4] at H
  exact absurd H (by simp)
 rw [if_pos c4] at H
 have c4b0 : decide (x8_1 < (l0.length : Int)) = true := decide_eq_true c4
 clear c4
 have H' := aK H
 clear H
 have p101 : 0 ≤ (x8_1 : Int) := dA
 have q101 : x8_1 < (l0.length : Int) := dA
 obtain ⟨ad101, e101, hx101_0⟩ := Kd.at_int HR0.out x8_1 p101 q101
 cases e101
 replace p101 := eq_true p101
 replace q101 := eq_true q101
 go_wp2
 go_roundg k1
 case measure => have := HK1.out; omega
 case rel => exact ⟨(wrap64 (x3_1 + (rd l0 x8_1))), (wrap64 (x8_1 + 1)), (by first | rfl | (simp; done) | (simp [*]; done)), (by first | rfl | (simp; done) | (simp [*]; done)), H', ⟨by have := HK1.out; omega⟩, by repeat (first | exact Drawn0.refl _ | apply Drawn0.step)⟩
def impl_meanOf.f (k : Nat) (l0 : List Int) : Option (Int) := (impl_sumOf.f k l0).bind fun t101 => ((impl_nearest.f t101 (l0.length : Int)).bind fun t102 => (some t102))
theorem impl_meanOf.calls (k : Nat) (A0 : Option Addr) (c0 : Nat) (l0 : List Int) (r : Int) (w : World) (hr0 : Kd.C (Kd.int .i64) w A0 l0.length l0) (hc0 : l0.length ≤ c0) (h : impl_meanOf.f k l0 = some r) :
  Calls Try.prog 43 #[.slice A0 l0.length c0] w fun e w' => e = .returned (.int .i64 r) ∧ Drawn0 w w' := by
 have HR0 := aK hr0
 have HC0 := aK hc0
 clear hr0 hc0
 have H : ((impl_sumOf.f k l0).bind fun t101 => ((impl_nearest.f t101 (l0.length : Int)).bind fun t102 => (some t102))) = some r := h
 clear h
 replace H := oA H
 obtain ⟨t101, A2, H⟩ := H
 replace H : ((impl_nearest.f t101 (l0.length : Int)).bind fun t102 => (some t102)) = some r := H
 replace H := oA H
 obtain ⟨t102, A3, H⟩ := H
 replace H : (some t102) = some r := H
 obtain rfl := Option.some.inj H
 go_enter Try.func43, Try.ntmps43
 go_wp2_with (first | ((with_reducible refine gc 56 rfl ?_); refine gl (some 4) Try.func56 #[.slice A0 l0.length c0] ?_; (with_reducible refine (impl_sumOf.calls k _ _ l0 t101 _ ?side1 ?side2 A2.out).mono ?_); (case side1 => exact pC HR0.out); (case side2 => exact HC0.out); rintro e w' ⟨rfl, ⟨nd, rfl⟩⟩; refine ⟨_, rfl, ?_⟩) | ((with_reducible refine gc 55 rfl ?_); refine gl (some 7) Try.func55 #[.int .i64 t101, .int .i64 (l0.length : Int)] ?_; (with_reducible refine (impl_nearest.calls t101 (l0.length : Int) t102 _ A3.out).mono ?_); rintro e w' ⟨rfl, ⟨nd, rfl⟩⟩; refine ⟨_, rfl, ?_⟩))
 go_ret
 exact ⟨by first | rfl | (simp; done) | (simp [*]; done), by repeat (first | exact Drawn0.refl _ | apply Drawn0.step)⟩
def impl_MeanMember.f (k : Nat) (l0 : List (S29)) : Option (Int × Int × List Int × Bool) := (impl_ensembleField_at_mp_mpOwn.f k (fun z0_ => impl_meanOf.f k z0_) l0).bind fun bt102 => (some (bt102.1, bt102.2.1, bt102.2.2.1, bt102.2.2.2))
theorem impl_MeanMember.calls (k : Nat) (A0 : Option Addr) (c0 : Nat) (l0 : List (S29)) (r1 : Int) (r2 : Int) (r3 : List Int) (r4 : Bool) (w : World) (hr0 : Kd.C k29 w A0 l0.length l0) (hc0 : l0.length ≤ c0) (h : impl_MeanMember.f k l0 = some (r1, r2, r3, r4)) :
  Calls Try.prog 16 #[.slice A0 l0.length c0] w fun e w' => ∃ v2_ : Value, e = .returned (.tuple #[.agg #[.int .i64 r1, .int .i64 r2, v2_], .bool r4]) ∧ Kd.R (Kd.int .i64) 3 w' w.heap.size (fun _ => True) v2_ r3 ∧ Below w.heap.size w w' := by
 have hu29 := Try.underlying29
 have HR0 := aK hr0
 have HC0 := aK hc0
 clear hr0 hc0
 have HB := aK (Below.refl w.heap.size w)
 have H : ((impl_ensembleField_at_mp_mpOwn.f k (fun z0_ => impl_meanOf.f k z0_) l0).bind fun bt102 => (some (bt102.1, bt102.2.1, bt102.2.2.1, bt102.2.2.2))) = some (r1, r2, r3, r4) := h
 clear h
 replace H := oA H
 obtain ⟨⟨t102, t103, t104, t107⟩, A2, H⟩ := H
 replace H : (some (t102, t103, t104, t107)) = some (r1, r2, r3, r4) := H
 simp only [Option.some.injEq, Prod.mk.injEq] at H
 obtain ⟨rfl, rfl, rfl, rfl⟩ := H
 go_enter Try.func16, Try.ntmps16
 go_wp2_with (first | ((with_reducible refine ga 2 rfl ?_); refine bxa #[.int .i64 0, .int .i64 0, .slice none 0 0] 29 ?_; intro g101 hg w3 B101 hb; have GW101 := gA hg HB; replace HB := bS HB hb; clear hb hg) | ((with_reducible refine gc 21 rfl ?_); refine gl (some 5) Try.func21 #[.slice A0 l0.length c0, .func (.func 43) #[] #[]] ?_; (with_reducible refine (impl_ensembleField_at_mp_mpOwn.calls (fun z0_ => impl_meanOf.f k z0_) 43 #[] k _ _ l0  t102 t103 t104 t107 _ ?side1 ?side2 ?side3 ?side4 A2.out).mono ?_); (case side1 => exact fun args_ w_ => enters_ Try.func43 (by kernel_rfl) rfl args_ w_); (case side2 => refine FnOwn.of_read ?_; intro A_ c_ l_ r_ W_ hz_ hB_ hr_ hc_; refine (impl_meanOf.calls k A_ c_ l_ r_ W_ hr_ hc_ hz_).mono ?_; rintro e_ w_ ⟨rfl, hd_⟩; exact ⟨rfl, hd_.below⟩); (case side3 => exact cB HR0 HB); (case side4 => exact HC0.out); rintro e w4 ⟨v105, rfl, ho0, hb⟩; refine ⟨_, rfl, ?_⟩; have HO106 := aK (Kd.R_lower ho0 (below_size (pS HB.out))); replace B101 := bB B101 hb; replace HB := bS HB hb; (try clear hb); (try clear ho0); obtain ⟨_, _, _, _, _, _⟩ := bc3 B101.out; obtain ⟨Ao6, co6, eo6⟩ := Kd.R_slice HO106.out; subst eo6))
 refine bodyPost_ret (results_ct rfl _ _ g101 29 #[.int .i64 t102, .int .i64 t103, .slice Ao6 t104.length co6] (0, 0) _ rfl (by refine bq #[.int .i64 t102, .int .i64 t103, .slice none 0 0] 2 ?_; refine bq #[.int .i64 t102, .int .i64 0, .slice none 0 0] 1 ?_; refine bq #[.int .i64 0, .int .i64 0, .slice none 0 0] 0 ?_; refine bk ?_; exact B101.out) Try.underlying29 rfl (by kernel_rfl)) rfl ?_
 exact ⟨_, er, by (with_reducible repeat (first | apply Kd.R_alloc | apply Kd.R_drewN | apply Kd.R_drew)); exact Kd.R_mono (rF3 HO106.out B101.out (.int .i64 t102) (.int .i64 t103) (.slice Ao6 t104.length co6)) (fun _ h => trivial), pT HB.out⟩
def spec_l3Round.f (a0 : Int) (a1 : Int) : Option (Int) := if a0 < 0 then (if (wrap64 (2 * a1)) = 0 then (none) else (some (wrap64 (-(wrap64 (Int.tdiv (wrap64 ((wrap64 ((-2) * a0)) + a1)) (wrap64 (2 * a1)))))))) else (if (wrap64 (2 * a1)) = 0 then (none) else (some (wrap64 (Int.tdiv (wrap64 ((wrap64 (2 * a0)) + a1)) (wrap64 (2 * a1))))))
theorem spec_l3Round.calls (a0 : Int) (a1 : Int) (r : Int) (w : World) (h : spec_l3Round.f a0 a1 = some r) :
  Calls Try.prog 57 #[.int .i64 a0, .int .i64 a1] w fun e w' => e = .returned (.int .i64 r) ∧ Drawn0 w w' := by
 have H : (if a0 < 0 then (if (wrap64 (2 * a1)) = 0 then (none) else (some (wrap64 (-(wrap64 (Int.tdiv (wrap64 ((wrap64 ((-2) * a0)) + a1)) (wrap64 (2 * a1)))))))) else (if (wrap64 (2 * a1)) = 0 then (none) else (some (wrap64 (Int.tdiv (wrap64 ((wrap64 (2 * a0)) + a1)) (wrap64 (2 * a1))))))) = some r := h
 clear h
 by_cases c3 : a0 < 0
 ·
  rw [if_pos c3] at H
  have c3b0 : decide (a0 < 0) = true := decide_eq_true c3
  clear c3
  by_cases c4 : (wrap64 (2 * a1)) = 0
  ·
   rw [if_pos c4] at H
   exact absurd H (by simp)
  rw [if_neg c4] at H
  have c4b0 : ((wrap64 (2 * a1)) == 0) = false := beq_eq_false_iff_ne.mpr c4
  have c4b1 : ((wrap64 (2 * a1)) != 0) = true := bne_iff_ne.mpr c4
  obtain rfl := Option.some.inj H
  go_enter Try.func57, Try.ntmps57
  go_wp2
  go_ret
  exact ⟨by first | rfl | (simp; done) | (simp [*]; done), by repeat (first | exact Drawn0.refl _ | apply Drawn0.step)⟩
 rw [if_neg c3] at H
 have c3b0 : decide (a0 < 0) = false := decide_eq_false c3
 clear c3
 by_cases c5 : (wrap64 (2 * a1)) = 0
 ·
  rw [if_pos c5] at H
  exact absurd H (by simp)
 rw [if_neg c5] at H
 have c5b0 : ((wrap64 (2 * a1)) == 0) = false := beq_eq_false_iff_ne.mpr c5
 have c5b1 : ((wrap64 (2 * a1)) != 0) = true := bne_iff_ne.mpr c5
 obtain rfl := Option.some.inj H
 go_enter Try.func57, Try.ntmps57
 go_wp2
 go_ret
 exact ⟨by first | rfl | (simp; done) | (simp [*]; done), by repeat (first | exact Drawn0.refl _ | apply Drawn0.step)⟩
def spec_l6Result.l0 : Nat → List Int → Int → Int → Int → Int → Int → Int → Option (Int)
 | 0, _, _, _, _, _, _, _ => none
 | k + 1, x0, x1, x2, x7, x8, x9, x10 => if x10 < x7 then (if 0 ≤ x10 then (if x10 < (x0.length : Int) then (if (rd x0 x10) ≥ x2 then (spec_l6Result.l0 k x0 x1 x2 x7 (wrap64 (x8 + (rd x0 x10))) (wrap64 (x9 + 1)) (wrap64 (x10 + 1))) else (spec_l6Result.l0 k x0 x1 x2 x7 (wrap64 (x8 + (rd x0 x10))) x9 (wrap64 (x10 + 1)))) else (none)) else (none)) else (if x1 = 3 then ((spec_l3Round.f x8 x7).bind fun t106 => (some t106)) else ((spec_l3Round.f (wrap64 (100 * x9)) x7).bind fun t107 => (some t107)))
def spec_l6Result.f (k : Nat) (l0 : List Int) (a1 : Int) (a2 : Int) : Option (Int) := if (l0.length : Int) = 0 then (some (-9999)) else (if a1 = 1 then (if 0 ≤ (wrap64 ((l0.length : Int) - 1)) then (if (wrap64 ((l0.length : Int) - 1)) < (l0.length : Int) then (some (rd l0 (wrap64 ((l0.length : Int) - 1)))) else (none)) else (none)) else (if a1 = 2 then (if 0 < (l0.length : Int) then (some (rd l0 0)) else (none)) else (if a1 = 4 then (if 0 ≤ (wrap64 (Int.tdiv (wrap64 ((l0.length : Int) - 1)) 2)) then (if (wrap64 (Int.tdiv (wrap64 ((l0.length : Int) - 1)) 2)) < (l0.length : Int) then (some (rd l0 (wrap64 (Int.tdiv (wrap64 ((l0.length : Int) - 1)) 2)))) else (none)) else (none)) else (spec_l6Result.l0 k l0 a1 a2 (l0.length : Int) 0 0 0))))
theorem spec_l6Result.calls (k : Nat) (A0 : Option Addr) (c0 : Nat) (l0 : List Int) (a1 : Int) (a2 : Int) (r : Int) (w : World) (hr0 : Kd.C (Kd.int .i64) w A0 l0.length l0) (hc0 : l0.length ≤ c0) (h : spec_l6Result.f k l0 a1 a2 = some r) :
  Calls Try.prog 44 #[.slice A0 l0.length c0, .int .i64 a1, .int .i64 a2] w fun e w' => e = .returned (.int .i64 r) ∧ Drawn0 w w' := by
 have HR0 := aK hr0
 have HC0 := aK hc0
 clear hr0 hc0
 have H : (if (l0.length : Int) = 0 then (some (-9999)) else (if a1 = 1 then (if 0 ≤ (wrap64 ((l0.length : Int) - 1)) then (if (wrap64 ((l0.length : Int) - 1)) < (l0.length : Int) then (some (rd l0 (wrap64 ((l0.length : Int) - 1)))) else (none)) else (none)) else (if a1 = 2 then (if 0 < (l0.length : Int) then (some (rd l0 0)) else (none)) else (if a1 = 4 then (if 0 ≤ (wrap64 (Int.tdiv (wrap64 ((l0.length : Int) - 1)) 2)) then (if (wrap64 (Int.tdiv (wrap64 ((l0.length : Int) - 1)) 2)) < (l0.length : Int) then (some (rd l0 (wrap64 (Int.tdiv (wrap64 ((l0.length : Int) - 1)) 2)))) else (none)) else (none)) else (spec_l6Result.l0 k l0 a1 a2 (l0.length : Int) 0 0 0))))) = some r := h
 clear h
 by_cases c4 : (l0.length : Int) = 0
 ·
  rw [if_pos c4] at H
  have c4b0 : ((l0.length : Int) == 0) = true := beq_iff_eq.mpr c4
  have c4b1 : ((l0.length : Int) != 0) = false := bne_eq_false_iff_eq.mpr c4
  clear c4
  obtain rfl := Option.some.inj H
  go_enter Try.func44, Try.ntmps44
  go_wp2
  go_ret
  exact ⟨by first | rfl | (simp; done) | (simp [*]; done), by repeat (first | exact Drawn0.refl _ | apply Drawn0.step)⟩
 rw [if_neg c4] at H
 have c4b0 : ((l0.length : Int) == 0) = false := beq_eq_false_iff_ne.mpr c4
 have c4b1 : ((l0.length : Int) != 0) = true := bne_iff_ne.mpr c4
 have c4b2 : ¬ (l0 = []) := fun h_ => c4 (by rw [h_]; rfl)
 by_cases c5 : a1 = 1
 ·
  rw [if_pos c5] at H
  have c5b0 : (a1 == 1) = true := beq_iff_eq.mpr c5
  have c5b1 : (a1 != 1) = false := bne_eq_false_iff_eq.mpr c5
  clear c5
  obtain ⟨ji6, hji6⟩ : ∃ j_ : Int, (wrap64 ((l0.length : Int) - 1)) = j_ := ⟨_, rfl⟩
  replace H : (if 0 ≤ (ji6) then (if (ji6) < (l0.length : Int) then (some (rd l0 (ji6))) else (none)) else (none)) = some r := by first | (rw [hji6] at H; exact H) | (simp only [hji6] at H ⊢; exact H)
  have hji6w : (IntKind.i64.wrap ((l0.length : Int) - 1)) = ji6 := (i64_w _).trans hji6
  by_cases c7 : 0 ≤ (ji6)
  rotate_left
  ·
   rw [if_neg c7] at H
   exact absurd H (by simp)
  rw [if_pos c7] at H
  have c7b0 : decide (0 ≤ (ji6)) = true := decide_eq_true c7
  clear c7
  by_cases c8 : (ji6) < (l0.length : Int)
  rotate_left
  ·
   rw [if_neg c8] at H
   exact absurd H (by simp)
  rw [if_pos c8] at H
  have c8b0 : decide ((ji6) < (l0.length : Int)) = true := decide_eq_true c8
  clear c8
  obtain rfl := Option.some.inj H
  have p101 : 0 ≤ ((ji6) : Int) := dA
  have q101 : (ji6) < (l0.length : Int) := dA
  obtain ⟨ad101, e101, hx101_0⟩ := Kd.at_int HR0.out (ji6) p101 q101; cases e101; replace p101 := eq_true p101; replace q101 := eq_true q101
  go_enter Try.func44, Try.ntmps44
  go_wp2
  go_ret
  exact ⟨by first | rfl | (simp; done) | (simp only [← hji6] <;> (first | rfl | simp)) | (simp [*]; done), by repeat (first | exact Drawn0.refl _ | apply Drawn0.step)⟩
 rw [if_neg c5] at H
 have c5b0 : (a1 == 1) = false := beq_eq_false_iff_ne.mpr c5
 have c5b1 : (a1 != 1) = true := bne_iff_ne.mpr c5
 by_cases c9 : a1 = 2
 ·
  rw [if_pos c9] at H
  have c9b0 : (a1 == 2) = true := beq_iff_eq.mpr c9
  have c9b1 : (a1 != 2) = false := bne_eq_false_iff_eq.mpr c9
  clear c9
  by_cases c10 : 0 < (l0.length : Int)
  rotate_left
  ·
   rw [if_neg c10] at H
   exact absurd H (by simp)
  rw [if_pos c10] at H
  have c10b0 : decide (0 < (l0.length : Int)) = true := decide_eq_true c10
  have c10b1 : decide (0 < l0.length) = true := decide_eq_true (by omega)
  clear c10
  obtain rfl := Option.some.inj H
  have p102 : 0 ≤ (0 : Int) := (by omega)
  have q102 : 0 < (l0.length : Int) := dA
  obtain ⟨ad102, e102, hx102_0⟩ := Kd.at_int HR0.out 0 p102 q102; cases e102
  have qi102 : (0 < l0.length) = True := eq_true (by omega)
  (try rw [show ((0 : Int)).toNat = 0 from rfl] at hx102_0)
  (try rw [Addr.add_zero'] at hx102_0)
  replace p102 := eq_true p102; replace q102 := eq_true q102
  go_enter Try.func44, Try.ntmps44
  go_wp2
  go_ret
  exact ⟨by first | rfl | (simp; done) | (simp [*]; done), by repeat (first | exact Drawn0.refl _ | apply Drawn0.step)⟩
 rw [if_neg c9] at H
 have c9b0 : (a1 == 2) = false := beq_eq_false_iff_ne.mpr c9
 have c9b1 : (a1 != 2) = true := bne_iff_ne.mpr c9
 by_cases c11 : a1 = 4
 ·
  rw [if_pos c11] at H
  have c11b0 : (a1 == 4) = true := beq_iff_eq.mpr c11
  have c11b1 : (a1 != 4) = false := bne_eq_false_iff_eq.mpr c11
  clear c11
  obtain ⟨ji12, hji12⟩ : ∃ j_ : Int, (wrap64 (Int.tdiv (wrap64 ((l0.length : Int) - 1)) 2)) = j_ := ⟨_, rfl⟩
  replace H : (if 0 ≤ (ji12) then (if (ji12) < (l0.length : Int) then (some (rd l0 (ji12))) else (none)) else (none)) = some r := by first | (rw [hji12] at H; exact H) | (simp only [hji12] at H ⊢; exact H)
  have hji12w : (IntKind.i64.wrap (Int.tdiv (wrap64 ((l0.length : Int) - 1)) 2)) = ji12 := (i64_w _).trans hji12
  by_cases c13 : 0 ≤ (ji12)
  rotate_left
  ·
   rw [if_neg c13] at H
   exact absurd H (by simp)
  rw [if_pos c13] at H
  have c13b0 : decide (0 ≤ (ji12)) = true := decide_eq_true c13
  clear c13
  by_cases c14 : (ji12) < (l0.length : Int)
  rotate_left
  ·
   rw [if_neg c14] at H
   exact absurd H (by simp)
  rw [if_pos c14] at H
  have c14b0 : decide ((ji12) < (l0.length : Int)) = true := decide_eq_true c14
  clear c14
  obtain rfl := Option.some.inj H
  have p103 : 0 ≤ ((ji12) : Int) := dA
  have q103 : (ji12) < (l0.length : Int) := dA
  obtain ⟨ad103, e103, hx103_0⟩ := Kd.at_int HR0.out (ji12) p103 q103; cases e103; replace p103 := eq_true p103; replace q103 := eq_true q103
  go_enter Try.func44, Try.ntmps44
  go_wp2
  go_ret
  exact ⟨by first | rfl | (simp; done) | (simp only [← hji12] <;> (first | rfl | simp)) | (simp [*]; done), by repeat (first | exact Drawn0.refl _ | apply Drawn0.step)⟩
 rw [if_neg c11] at H
 have c11b0 : (a1 == 4) = false := beq_eq_false_iff_ne.mpr c11
 have c11b1 : (a1 != 4) = true := bne_iff_ne.mpr c11
 have H' := aK H
 clear H
 go_enter Try.func44, Try.ntmps44
 go_wp2
 go_loopg [8, 9, 10] k (fun kq v8 v9 v10 w' => ∃ (x8_1 : Int) (x9_1 : Int) (x10_1 : Int), v8 = .int .i64 x8_1 ∧ v9 = .int .i64 x9_1 ∧ v10 = .int .i64 x10_1 ∧ Aside0 (spec_l6Result.l0 kq l0 a1 a2 (l0.length : Int) x8_1 x9_1 x10_1 = some r) ∧ Aside0 (kq ≤ k) ∧ Drawn0 w w')
 case atStart => exact ⟨(0), (0), (0), (by first | rfl | (simp; done) | (simp [*]; done)), (by first | rfl | (simp; done) | (simp [*]; done)), (by first | rfl | (simp; done) | (simp [*]; done)), H', ⟨Nat.le_refl _⟩, by repeat (first | exact Drawn0.refl _ | apply Drawn0.step)⟩
 case round =>
 clear H'
 try clear c1
 try clear p1
 try clear q1
 try clear hx1
 try clear qi1
 try clear p2
 try clear c4
 try clear c4b0
 try clear c4b1
 try clear c4b2
 try clear c5
 try clear c5b0
 try clear c5b1
 try clear p6
 try clear c7
 try clear c7b0
 try clear c8
 try clear c8b0
 try clear c9
 try clear c9b0
 try clear c9b1
 try clear c10
 try clear c10b0
 try clear c10b1
 try clear p10
 try clear q10
 try clear hx10
 try clear qi10
 try clear c11
 try clear c11b0
 try clear c11b1
 try clear c13
 try clear c13b0
 try clear c14
 try clear c14b0
 try clear hx101_0
 try clear hx102_0
 try clear hx103_0
 try clear p101
 try clear p102
 try clear p103
 try clear q101
 try clear q102
 try clear q103
 obtain ⟨x8_1, x9_1, x10_1, rfl, rfl, rfl, HA, HK1, ⟨m1, rfl⟩⟩ := hrel
 cases gk with
 | zero => exact absurd HA.out (by simp [spec_l6Result.l0])
 | succ k1 =>
 have H := HA.out
 clear HA
 simp only [spec_l6Result.l0] at H
 by_cases c15 : x10_1 < (l0.length : Int)
 rotate_left
 ·
  rw [if_neg c15] at H
  have c15b0 : decide (x10_1 < (l0.length : Int)) = false := decide_eq_false c15
  clear c15
  by_cases c19 : a1 = 3
  ·
   rw [if_pos c19] at H
   have c19b0 : (a1 == 3) = true := beq_iff_eq.mpr c19
   have c19b1 : (a1 != 3) = false := bne_eq_false_iff_eq.mpr c19
   clear c19; replace H := oA H; obtain ⟨t106, A20, H⟩ := H
   replace H : (some t106) = some r := H
   obtain rfl := Option.some.inj H
   go_wp2_with (first | ((with_reducible refine gc 57 rfl ?_); refine gl (some 59) Try.func57 #[.int .i64 x8_1, .int .i64 (l0.length : Int)] ?_; (with_reducible refine (spec_l3Round.calls x8_1 (l0.length : Int) t106 _ A20.out).mono ?_); rintro e w' ⟨rfl, ⟨nd, rfl⟩⟩; refine ⟨_, rfl, ?_⟩))
   go_ret
   exact ⟨by first | rfl | (simp; done) | (simp [*]; done), by repeat (first | exact Drawn0.refl _ | apply Drawn0.step)⟩
  rw [if_neg c19] at H
  have c19b0 : (a1 == 3) = false := beq_eq_false_iff_ne.mpr c19
  have c19b1 : (a1 != 3) = true := bne_iff_ne.mpr c19
  replace H := oA H; obtain ⟨t107, A21, H⟩ := H
  replace H : (some t107) = some r := H
  obtain rfl := Option.some.inj H
  go_wp2_with (first | ((with_reducible refine gc 57 rfl ?_); refine gl (some 63) Try.func57 #[.int .i64 (wrap64 (100 * x9_1)), .int .i64 (l0.length : Int)] ?_; (with_reducible refine (spec_l3Round.calls (wrap64 (100 * x9_1)) (l0.length : Int) t107 _ A21.out).mono ?_); rintro e w' ⟨rfl, ⟨nd, rfl⟩⟩; refine ⟨_, rfl, ?_⟩))
  go_ret
  exact ⟨by first | rfl | (simp; done) | (simp [*]; done), by repeat (first | exact Drawn0.refl _ | apply Drawn0.step)⟩
 rw [if_pos c15] at H
 have c15b0 : decide (x10_1 < (l0.length : Int)) = true := decide_eq_true c15
 clear c15
 by_cases c16 : 0 ≤ x10_1
 rotate_left
 ·
  rw [if_neg c16] at H
  exact absurd H (by simp)
 rw [if_pos c16] at H
 have c16b0 : decide (0 ≤ x10_1) = true := decide_eq_true c16
 clear c16
 by_cases c17 : x10_1 < (l0.length : Int)
 rotate_left
 ·
  rw [if_neg c17] at H
  exact absurd H (by simp)
 rw [if_pos c17] at H
 have c17b0 : decide (x10_1 < (l0.length : Int)) = true := decide_eq_true c17
 clear c17
 by_cases c18 : (rd l0 x10_1) ≥ a2
 ·
  rw [if_pos c18] at H
  have c18b0 : decide (a2 ≤ (rd l0 x10_1)) = true := decide_eq_true c18
  clear c18; have H' := aK H; clear H
  have p104 : 0 ≤ (x10_1 : Int) := dA
  have q104 : x10_1 < (l0.length : Int) := dA
  obtain ⟨ad104, e104, hx104_0⟩ := Kd.at_int HR0.out x10_1 p104 q104; cases e104; replace p104 := eq_true p104; replace q104 := eq_true q104
  have p105 : 0 ≤ (x10_1 : Int) := dA
  have q105 : x10_1 < (l0.length : Int) := dA
  obtain ⟨ad105, e105, hx105_0⟩ := Kd.at_int HR0.out x10_1 p105 q105
  obtain rfl : ad104 = ad105 := (by injection e105)
  replace p105 := eq_true p105; replace q105 := eq_true q105
  go_wp2
  go_roundg k1
  case measure => have := HK1.out; omega
  case rel => exact ⟨(wrap64 (x8_1 + (rd l0 x10_1))), (wrap64 (x9_1 + 1)), (wrap64 (x10_1 + 1)), (by first | rfl | (simp; done) | (simp [*]; done)), (by first | rfl | (simp; done) | (simp [*]; done)), (by first | rfl | (simp; done) | (simp [*]; done)), H', ⟨by have := HK1.out; omega⟩, by repeat (first | exact Drawn0.refl _ | apply Drawn0.step)⟩
 rw [if_neg c18] at H
 have c18b0 : decide (a2 ≤ (rd l0 x10_1)) = false := decide_eq_false c18
 clear c18
 have H' := aK H
 clear H
 have p104 : 0 ≤ (x10_1 : Int) := dA
 have q104 : x10_1 < (l0.length : Int) := dA
 obtain ⟨ad104, e104, hx104_0⟩ := Kd.at_int HR0.out x10_1 p104 q104
 cases e104
 replace p104 := eq_true p104
 replace q104 := eq_true q104
 have p105 : 0 ≤ (x10_1 : Int) := dA
 have q105 : x10_1 < (l0.length : Int) := dA
 obtain ⟨ad105, e105, hx105_0⟩ := Kd.at_int HR0.out x10_1 p105 q105
 obtain rfl : ad104 = ad105 := (by injection e105)
 replace p105 := eq_true p105
 replace q105 := eq_true q105
 go_wp2
 go_roundg k1
 case measure => have := HK1.out; omega
 case rel => exact ⟨(wrap64 (x8_1 + (rd l0 x10_1))), (x9_1), (wrap64 (x10_1 + 1)), (by first | rfl | (simp; done) | (simp [*]; done)), (by first | rfl | (simp; done) | (simp [*]; done)), (by first | rfl | (simp; done) | (simp [*]; done)), H', ⟨by have := HK1.out; omega⟩, by repeat (first | exact Drawn0.refl _ | apply Drawn0.step)⟩
def spec_MeanMember.l0 : Nat → List (S29) → Int → Int → Int → List Int → Option (Int × Int × List Int × Bool)
 | 0, _, _, _, _, _ => none
 | k + 1, x0, x5, x110000, x110001, x110002 => if x5 < (x110002.length : Int) then ((spec_l9Values.f k x0 x5).bind fun t110 => ((spec_l6Result.f k t110 3 0).bind fun t113 => (if 0 ≤ x5 then (spec_MeanMember.l0 k x0 (wrap64 (x5 + 1)) x110000 x110001 (x110002.set (x5 : Int).toNat t113)) else (none)))) else (some (x110000, x110001, x110002, true))
def spec_MeanMember.f (k : Nat) (l0 : List (S29)) : Option (Int × Int × List Int × Bool) := (spec_l9Good.f k l0).bind fun t102 => (if t102 = true then (if 0 < (l0.length : Int) then ((spec_l2Own.f ((rd_T29 l0 0).f0) ((rd_T29 l0 0).f1) ((rd_T29 l0 0).f2)).bind fun bt104 => (spec_MeanMember.l0 k l0 0 bt104.1 bt104.2.1 bt104.2.2)) else (none)) else (some (0, 0, ([] : List Int), false)))
def spec_MeanMember.T7 : Bool × List (List Nat × List Nat) := (true, [([], []), ([0], [0]), ([], []), ([], []), ([], []), ([3, 4], [3, 4]), ([5, 5], [5]), ([1, 2, 0, 1, 2, 3, 4, 5, 6], [1, 2]), ([7, 6, 6, 0, 1, 2, 3, 4, 5, 6], [6, 7])])
def spec_MeanMember.B7 : List Nat := [0, 1, 0, 0, 0, 24, 56, 127, 255]
theorem spec_MeanMember.tab7 : rtab .any (opsOf Try.f17 7) = spec_MeanMember.T7 := by kernel_rfl
theorem spec_MeanMember.bits7 : waitsOk spec_MeanMember.T7.2 spec_MeanMember.B7 = true := by kernel_rfl
theorem spec_MeanMember.calls (k : Nat) (A0 : Option Addr) (c0 : Nat) (l0 : List (S29)) (r1 : Int) (r2 : Int) (r3 : List Int) (r4 : Bool) (w : World) (hr0 : Kd.C k29 w A0 l0.length l0) (hc0 : l0.length ≤ c0) (h : spec_MeanMember.f k l0 = some (r1, r2, r3, r4)) :
  Calls Try.prog 17 #[.slice A0 l0.length c0] w fun e w' => ∃ v2_ : Value, e = .returned (.tuple #[.agg #[.int .i64 r1, .int .i64 r2, v2_], .bool r4]) ∧ Kd.R (Kd.int .i64) 3 w' w.heap.size (fun _ => True) v2_ r3 ∧ Below w.heap.size w w' := by
 have hu29 := Try.underlying29
 have HR0 := aK hr0
 have HC0 := aK hc0
 clear hr0 hc0
 have HB := aK (Below.refl w.heap.size w)
 have H : ((spec_l9Good.f k l0).bind fun t102 => (if t102 = true then (if 0 < (l0.length : Int) then ((spec_l2Own.f ((rd_T29 l0 0).f0) ((rd_T29 l0 0).f1) ((rd_T29 l0 0).f2)).bind fun bt104 => (spec_MeanMember.l0 k l0 0 bt104.1 bt104.2.1 bt104.2.2)) else (none)) else (some (0, 0, ([] : List Int), false)))) = some (r1, r2, r3, r4) := h
 clear h
 replace H := oA H
 obtain ⟨t102, A2, H⟩ := H
 replace H : (if t102 = true then (if 0 < (l0.length : Int) then ((spec_l2Own.f ((rd_T29 l0 0).f0) ((rd_T29 l0 0).f1) ((rd_T29 l0 0).f2)).bind fun bt104 => (spec_MeanMember.l0 k l0 0 bt104.1 bt104.2.1 bt104.2.2)) else (none)) else (some (0, 0, ([] : List Int), false))) = some (r1, r2, r3, r4) := H
 by_cases c3 : t102 = true
 rotate_left
 ·
  replace c3 := Bool.eq_false_iff.mpr c3; subst c3
  have H1 : (some (0, 0, ([] : List Int), false)) = some (r1, r2, r3, r4) := by rw [if_neg (show ¬ (false = true) by decide)] at H; exact H
  clear H; have H := H1; clear H1
  simp only [Option.some.injEq, Prod.mk.injEq] at H
  obtain ⟨rfl, rfl, rfl, rfl⟩ := H
  go_enter Try.func17, Try.ntmps17
  go_wp2_with (first | ((with_reducible refine ga 2 rfl ?_); refine bxa #[.int .i64 0, .int .i64 0, .slice none 0 0] 29 ?_; intro g101 hg w29 B101 hb; have GW101 := gA hg HB; replace HB := bS HB hb; clear hb hg) | ((with_reducible refine gc 24 rfl ?_); refine gl (some 7) Try.func24 #[.slice A0 l0.length c0] ?_; (with_reducible refine (spec_l9Good.calls k _ _ l0 false _ ?side1 ?side2 A2.out).mono ?_); (case side1 => exact cB HR0 HB); (case side2 => exact HC0.out); rintro e w30 ⟨rfl, hb⟩; refine ⟨_, rfl, ?_⟩; replace B101 := bB B101 hb; replace HB := bS HB hb; (try clear hb); obtain ⟨_, _, _, _, _, _⟩ := bc3 B101.out))
  refine bodyPost_ret (results_ct rfl _ _ g101 29 #[.int .i64 0, .int .i64 0, .slice none 0 0] (0, 0) _ rfl (by refine bq #[.int .i64 0, .int .i64 0, .slice none 0 0] 2 ?_; refine bq #[.int .i64 0, .int .i64 0, .slice none 0 0] 1 ?_; refine bq #[.int .i64 0, .int .i64 0, .slice none 0 0] 0 ?_; refine bk ?_; exact B101.out) Try.underlying29 rfl (by kernel_rfl)) rfl ?_
  exact ⟨_, er, by first | exact Kd.R_nil _ _ _ _ _ | exact Kd.N_nil _ _ _ _ _ | exact Kd.V_nil _ _ _ _ _ | exact Kd.Q_nil _ _ _ _ _ | exact Kd.S_nil _ _ _ _ _, pT HB.out⟩
 subst c3
 have H1 : (if 0 < (l0.length : Int) then ((spec_l2Own.f ((rd_T29 l0 0).f0) ((rd_T29 l0 0).f1) ((rd_T29 l0 0).f2)).bind fun bt104 => (spec_MeanMember.l0 k l0 0 bt104.1 bt104.2.1 bt104.2.2)) else (none)) = some (r1, r2, r3, r4) := by rw [if_pos rfl] at H; exact H
 clear H
 have H := H1
 clear H1
 by_cases c4 : 0 < (l0.length : Int)
 rotate_left
 ·
  rw [if_neg c4] at H
  exact absurd H (by simp)
 rw [if_pos c4] at H
 have c4b0 : decide (0 < (l0.length : Int)) = true := decide_eq_true c4
 have c4b1 : decide (0 < l0.length) = true := decide_eq_true (by omega)
 clear c4
 replace H := oA H
 obtain ⟨⟨t104, t105, t106⟩, A5, H⟩ := H
 replace H : (spec_MeanMember.l0 k l0 0 t104 t105 t106) = some (r1, r2, r3, r4) := H
 have H' := aK H
 clear H
 go_enter Try.func17, Try.ntmps17
 go_wp2_with (first | ((with_reducible refine ga 2 rfl ?_); refine bxa #[.int .i64 0, .int .i64 0, .slice none 0 0] 29 ?_; intro g101 hg w6 B101 hb; have GW101 := gA hg HB; replace HB := bS HB hb; clear hb hg) | ((with_reducible refine gc 24 rfl ?_); refine gl (some 7) Try.func24 #[.slice A0 l0.length c0] ?_; (with_reducible refine (spec_l9Good.calls k _ _ l0 true _ ?side1 ?side2 A2.out).mono ?_); (case side1 => exact cB HR0 HB); (case side2 => exact HC0.out); rintro e w7 ⟨rfl, hb⟩; refine ⟨_, rfl, ?_⟩; replace B101 := bB B101 hb; replace HB := bS HB hb; (try clear hb); have p103 : 0 ≤ (0 : Int) := (by omega); have q103 : 0 < (l0.length : Int) := dA; obtain ⟨ad103, A103_2, c103_2, e103, hx103_0, hx103_1, hx103_2, hl103_2, hi103_2⟩ := at_T29 HR0.out 0 p103 q103; cases e103; have qi103 : (0 < l0.length) = True := eq_true (by omega); (try rw [show ((0 : Int)).toNat = 0 from rfl] at hx103_0); (try rw [show 0 * 3 = 0 from rfl] at hx103_0); (try rw [Addr.add_zero'] at hx103_0); (try rw [show ((0 : Int)).toNat = 0 from rfl] at hx103_1); (try rw [show 0 * 3 = 0 from rfl] at hx103_1); (try rw [Addr.add_zero'] at hx103_1); (try rw [show ((0 : Int)).toNat = 0 from rfl] at hx103_2); (try rw [show 0 * 3 = 0 from rfl] at hx103_2); (try rw [Addr.add_zero'] at hx103_2); replace hx103_0 := (HB.out.cell (World.block_lt_of_cell? w _ hx103_0)).trans hx103_0; replace hx103_1 := (HB.out.cell (World.block_lt_of_cell? w _ hx103_1)).trans hx103_1; replace hx103_2 := (HB.out.cell (World.block_lt_of_cell? w _ hx103_2)).trans hx103_2; have HR103_2 := aK hi103_2; have HC103_2 := aK hl103_2; clear hi103_2 hl103_2; replace p103 := eq_true p103; replace q103 := eq_true q103) | ((with_reducible refine gc 26 rfl ?_); refine gl (some 13) Try.func26 #[.agg #[.int .i64 ((rd_T29 l0 0).f0), .int .i64 ((rd_T29 l0 0).f1), .slice A103_2 ((rd_T29 l0 0).f2).length c103_2]] ?_; (with_reducible refine (spec_l2Own.calls ((rd_T29 l0 0).f0) ((rd_T29 l0 0).f1) _ _ ((rd_T29 l0 0).f2) t104 t105 t106 _ ?side1 ?side2 A5.out).mono ?_); (case side1 => exact cB HR103_2 HB); (case side2 => exact HC103_2.out); rintro e w8 ⟨v107, rfl, ho0, hb⟩; refine ⟨_, rfl, ?_⟩; have HO108 := aK (Kd.R_lower ho0 (below_size (pS HB.out))); replace B101 := bB B101 hb; replace HB := bS HB hb; (try clear hb); (try clear ho0)) | ((with_reducible refine ga 4 rfl ?_); refine bxa #[.int .i64 0, .int .i64 0, .slice none 0 0] 29 ?_; intro g109 hg w9 B109 hb; replace HO108 := rb HO108 hb; have GW109 := gA hg HB; obtain ⟨N101_109, N109_101⟩ := na hg B101; replace B101 := bB B101 hb; replace HB := bS HB hb; clear hb hg; obtain ⟨_, _⟩ := nB N109_101; obtain ⟨z11_0, z11_1, z11_2, y11_0, y11_1, y11_2⟩ := bc3 B109.out; obtain ⟨Ao12, co12, eo12⟩ := Kd.R_slice HO108.out; subst eo12))
 go_loopg [5] k (fun kq v5 w' => ∃ (x5_1 : Int) (x110002_1 : List Int) (u110002 : Value), v5 = .int .i64 x5_1 ∧ Aside0 (spec_MeanMember.l0 kq l0 x5_1 t104 t105 x110002_1 = some (r1, r2, r3, r4)) ∧ Aside0 (kq ≤ k) ∧ Aside0 (Kd.R (Kd.int .i64) 3 w' w.heap.size (fun _ => True) u110002 x110002_1) ∧ Aside0 (w'.heap[g101]? = some (.cells #[.int .i64 0, .int .i64 0, (.slice none 0 0)] 29 (0, 0))) ∧ Aside0 (w'.heap[g109]? = some (.cells #[.int .i64 t104, .int .i64 t105, u110002] 29 (0, 0))) ∧ Aside0 (Below w.heap.size w w'))
 case atStart => exact ⟨(0), (t106), (.slice Ao12 t106.length co12), (by first | rfl | (simp; done) | (simp [*]; done)), H', ⟨Nat.le_refl _⟩, ⟨pR (Kd.R_mono (rF3 HO108.out B109.out (.int .i64 t104) (.int .i64 t105) (.slice Ao12 t106.length co12)) (fun _ h => trivial))⟩, ⟨by refine bg N101_109 ?_; refine bg N101_109 ?_; refine bg N101_109 ?_; refine bk ?_; exact B101.out⟩, ⟨by refine bq #[.int .i64 t104, .int .i64 t105, .slice none 0 0] 2 ?_; refine bq #[.int .i64 t104, .int .i64 0, .slice none 0 0] 1 ?_; refine bq #[.int .i64 0, .int .i64 0, .slice none 0 0] 0 ?_; refine bk ?_; exact B109.out⟩, ⟨pT HB.out⟩⟩
 case round =>
 clear H'
 try clear c1
 try clear p1
 try clear q1
 try clear hx1
 try clear qi1
 try clear c2
 try clear p2
 try clear c3
 try clear c4
 try clear c4b0
 try clear c4b1
 try clear c10
 try clear p10
 try clear q10
 try clear hx10
 try clear qi10
 try clear z11_0
 try clear z11_1
 try clear z11_2
 try clear y11_0
 try clear y11_1
 try clear y11_2
 try clear hx103_0
 try clear hx103_1
 try clear hx103_2
 try clear p103
 try clear q103
 obtain ⟨x5_1, x110002_1, u110002, rfl, HA, HK1, O0, B101, B109, HB⟩ := hrel
 cases gk with
 | zero => exact absurd HA.out (by simp [spec_MeanMember.l0])
 | succ k1 =>
 have H := HA.out
 clear HA
 simp only [spec_MeanMember.l0] at H
 by_cases c13 : x5_1 < (x110002_1.length : Int)
 rotate_left
 ·
  rw [if_neg c13] at H
  have c13b0 : decide (x5_1 < (x110002_1.length : Int)) = false := decide_eq_false c13
  clear c13
  simp only [Option.some.injEq, Prod.mk.injEq] at H
  obtain ⟨rfl, rfl, rfl, rfl⟩ := H; obtain ⟨_, _⟩ := nB N109_101; obtain ⟨_, _, _, _, _, _⟩ := bc3 B109.out; obtain ⟨Ao27, co27, eo27⟩ := Kd.R_slice O0.out; subst eo27; obtain ⟨_, _, _, _, _, _⟩ := bc3 B101.out
  go_wp2
  refine bodyPost_ret (results_ct rfl _ _ g101 29 #[.int .i64 t104, .int .i64 t105, .slice Ao27 x110002_1.length co27] (0, 0) _ rfl (by refine bq #[.int .i64 t104, .int .i64 t105, .slice none 0 0] 2 ?_; refine bq #[.int .i64 t104, .int .i64 0, .slice none 0 0] 1 ?_; refine bq #[.int .i64 0, .int .i64 0, .slice none 0 0] 0 ?_; refine bk ?_; exact B101.out) Try.underlying29 rfl (by kernel_rfl)) rfl ?_
  exact ⟨_, er, by (with_reducible repeat (first | apply Kd.R_alloc | apply Kd.R_drewN | apply Kd.R_drew)); exact Kd.R_mono (rF3 O0.out B101.out (.int .i64 t104) (.int .i64 t105) (.slice Ao27 x110002_1.length co27)) (fun _ h => trivial), pT HB.out⟩
 rw [if_pos c13] at H
 have c13b0 : decide (x5_1 < (x110002_1.length : Int)) = true := decide_eq_true c13
 clear c13
 replace H := oA H
 obtain ⟨t110, A14, H⟩ := H
 replace H : ((spec_l6Result.f k1 t110 3 0).bind fun t113 => (if 0 ≤ x5_1 then (spec_MeanMember.l0 k1 l0 (wrap64 (x5_1 + 1)) t104 t105 (x110002_1.set (x5_1 : Int).toNat t113)) else (none))) = some (r1, r2, r3, r4) := H
 replace H := oA H
 obtain ⟨t113, A15, H⟩ := H
 replace H : (if 0 ≤ x5_1 then (spec_MeanMember.l0 k1 l0 (wrap64 (x5_1 + 1)) t104 t105 (x110002_1.set (x5_1 : Int).toNat t113)) else (none)) = some (r1, r2, r3, r4) := H
 by_cases c16 : 0 ≤ x5_1
 rotate_left
 ·
  rw [if_neg c16] at H
  exact absurd H (by simp)
 rw [if_pos c16] at H
 have c16b0 : decide (0 ≤ x5_1) = true := decide_eq_true c16
 clear c16
 obtain ⟨y114, hy114⟩ : ∃ y_ : List Int, y_ = (x110002_1.set (x5_1 : Int).toNat t113) := ⟨_, rfl⟩
 replace H : (spec_MeanMember.l0 k1 l0 (wrap64 (x5_1 + 1)) t104 t105 y114) = some (r1, r2, r3, r4) := by first | (rw [hy114]; first | with_reducible exact H | with_reducible exact (oS H :)) | with_reducible exact (oS H :) | with_reducible exact H | exact H
 have Ny114 := aK hy114
 clear hy114
 have H' := aK H
 clear H
 obtain ⟨_, _⟩ := nB N109_101
 obtain ⟨_, _, _, _, _, _⟩ := bc3 B109.out
 obtain ⟨Ao20, co20, eo20⟩ := Kd.R_slice O0.out
 subst eo20
 try go_wp2
 replace O0 := rdw O0
 replace B101 := bD B101
 replace B109 := bD B109
 replace HB := aK (below_drew1 HB.out)
 refine start_ (n := 9) (S := fun w' => w'.cell? ⟨g109, 0, none⟩ = some (.int .i64 t104) ∧ w'.cell? ⟨g109, 1, none⟩ = some (.int .i64 t105) ∧ w'.cell? ⟨g109, 2, none⟩ = some (.slice Ao20 x110002_1.length co20)) (ds := [8]) (bz [0, 9]) (by kernel_rfl) rfl rfl (cz3 B109.out) (fun hHeld => ?_); refine with_tabW spec_MeanMember.tab7 spec_MeanMember.bits7 (fun HT_ HW_ => ?_)
 generalize wr.drew = w21 at O0 B101 B109 HB hHeld ⊢
 refine pz 0 21 [1, 8] HT_ ?_
 refine pz 2 23 [1, 1, 1, 6] HT_ ?_
 refine pz 3 24 [1, 1, 2, 5] HT_ ?_
 refine pz 4 25 [1, 1, 3, 4] HT_ ?_
 refine tz 1 22 [5, 4] HT_ HW_ rfl (by rintro w' ⟨s0, s1, s2⟩; go_simp; with_reducible rfl) hHeld ?_
 refine oz 5 26 [6, 3] HT_ fun K hK => ?_
 refine gs Try.func27 #[.slice (some ad103) l0.length c0, .int .i64 x5_1] ?_
 with_reducible refine (spec_l9Values.calls k1 _ _ l0 x5_1 t110 _ ?side1 ?side2 A14.out).mono ?_
 (case side1 => exact cB HR0 HB)
 (case side2 => exact HC0.out)
 rintro e w22 ⟨v111, rfl, ho0, hb⟩
 refine ⟨_, rfl, ?_⟩
 have n0_ := aK (Kd.R_elder' (pR O0.out) (Kd.R_base ho0) hb)
 have HO112 := aK (Kd.R_lower (nw1 ho0 (pR O0.out)) (below_size (pS HB.out)))
 replace B101 := bB B101 hb
 replace B109 := bB B109 hb
 replace HB := bS HB hb
 clear O0
 have O0 := n0_
 clear n0_
 (try clear hb)
 (try clear hb2)
 (try clear hk)
 (try clear hi)
 (try clear ho0)
 obtain ⟨Ao23, co23, eo23⟩ := Kd.R_slice HO112.out
 (first | subst eo23 | (obtain ⟨f4_, f5_⟩ := sI eo23; subst f4_; subst f5_))
 refine hK.out _ _ (cz3 B109.out) (fun hHeld => ?_)
 clear hK K
 refine nm 26 ?_
 refine oz 6 27 [7, 2] HT_ fun K hK => ?_
 refine gs Try.func44 #[.slice Ao23 t110.length co23, .int .i64 3, .int .i64 0] ?_
 with_reducible refine (spec_l6Result.calls k1 _ _ t110 3 0 t113 _ ?side1 ?side2 A15.out).mono ?_
 (case side1 => exact pC (Kd.R_reads' HO112.out).2.2)
 (case side2 => exact (Kd.R_reads' HO112.out).2.1)
 rintro e w' ⟨rfl, ⟨nd, rfl⟩⟩
 refine ⟨_, rfl, ?_⟩
 have p17 : 0 ≤ (x5_1 : Int) := dA
 have q17 : (x5_1 : Int) < ((x110002_1.length : Int) : Int) := dA
 obtain ⟨go17, co17, eo17, g17, gl17, cl17, HG17⟩ := Kd.R_form O0.out (by omega)
 (first | cases eo17 | (injection eo17 with ea_ en_ ec_; (first | subst ea_ | (injection ea_ with ea_; subst ea_)); subst ec_; clear en_))
 have GB17 := aK g17
 have GG17 := aK HG17
 clear g17 gl17 HG17
 obtain ⟨hx17_0, hf17_0⟩ := Kd.R_celln 0 O0.out (x5_1 : Int) p17 q17
 replace p17 := eq_true p17
 replace q17 := eq_true q17
 have HP24 := Kd.R_putn O0.out (x5_1 : Int) t113
 rw [← Ny114.out] at HP24
 have HQ24 := aK HP24
 clear HP24
 refine hK.out _ _ (cz3 B109.out) (fun hHeld => ?_)
 clear hK K
 refine nm 27 ?_
 refine pz 7 28 [8, 1] HT_ ?_
 refine last_ (i := 8) (N := none) (bz [9, 0]) rfl rfl (one_of HT_.out (by kernel_rfl)) (by decide) (fun K hK => ?_)
 refine skip_ (w1 := ?_) (by rfl) rfl ?_ ?_
 rotate_left
 ·
  go_simp
  rfl
 refine hK.out _ _ ?_
 clear hK K
 refine done_ (done_of HT_.out (by kernel_rfl)) ?_
 try go_wp2
 go_roundg k1
 case measure => have := HK1.out; omega
 case rel => exact ⟨(wrap64 (x5_1 + 1)), (y114), (.slice (some ⟨go17, 0, none⟩) x110002_1.length co20), (by first | rfl | (simp; done) | (simp [*]; done)), H', ⟨by have := HK1.out; omega⟩, ⟨pR (Kd.R_mono HQ24.out (fun _ hk => trivial))⟩, ⟨by refine bk ?_; refine blk_far ?_ (by have h_ := Kd.R_ne O0.out B101.out (by decide); intro e_; exact h_ (by rw [e_]; rfl)) _; refine bk ?_; exact B101.out⟩, ⟨by refine bk ?_; refine blk_far ?_ (by have h_ := Kd.R_ne O0.out B109.out (by decide); intro e_; exact h_ (by rw [e_]; rfl)) _; refine bk ?_; exact B109.out⟩, ⟨by repeat (first | (with_reducible first | exact HB.out | apply below_alloc | apply pw_below_drewN | apply below_drew1 | refine below_set ?_ GB17.out | refine below_set ?_ GW101.out | refine below_set ?_ GW109.out) | exact HB.out)⟩⟩
def laws_rBig.f (l0 : List Int) : Option (Bool) := some (decide ((l0.length : Int) > 65536))
theorem laws_rBig.calls (A0 : Option Addr) (c0 : Nat) (l0 : List Int) (r : Bool) (w : World) (hr0 : Kd.C (Kd.int .u8) w A0 l0.length l0) (hc0 : l0.length ≤ c0) (h : laws_rBig.f l0 = some r) :
  Calls Try.prog 4 #[.slice A0 l0.length c0] w fun e w' => e = .returned (.bool r) ∧ Drawn0 w w' := by
 have HR0 := aK hr0
 have HC0 := aK hc0
 clear hr0 hc0
 have H : (some (decide ((l0.length : Int) > 65536))) = some r := h
 clear h
 obtain rfl := Option.some.inj H
 go_enter Try.func4, Try.ntmps4
 go_wp2
 go_ret
 exact ⟨by first | rfl | (simp; done) | (simp [*]; done), by repeat (first | exact Drawn0.refl _ | apply Drawn0.step)⟩
def spec_l1Cur_threshold9.f (s0_0 : List Int) (s0_1 : Int) (s0_2 : Int) : Option (Int × Int × Int) := (some (([0, 5, 10, 16, (-5), 9000, (-9000), 9001, (-9999)] : List Int) : List Int)).bind fun y101 => ((spec_l1Cur_pick.f s0_0 s0_1 s0_2 24).bind fun bt104 => (if 0 ≤ (wrap64 (7 + (wrap64 (Int.tdiv bt104.1 11)))) then (if (wrap64 (7 + (wrap64 (Int.tdiv bt104.1 11)))) ≤ (y101.length : Int) then ((spec_l1Cur_among.f s0_0 bt104.2.1 bt104.2.2 (y101.take ((wrap64 (7 + (wrap64 (Int.tdiv bt104.1 11)))) : Int).toNat)).bind fun bt111 => (some (bt111.1, bt111.2.1, bt111.2.2))) else (none)) else (none)))
theorem spec_l1Cur_threshold9.calls (g : Nat) (s0_0 : List Int) (s0_1 : Int) (s0_2 : Int) (r1 : Int) (r2 : Int) (r3 : Int) (w0 w : World) (hI : IsS44 w0 w g s0_0 s0_1 s0_2) (hB : Below w0.heap.size w0 w) (h : spec_l1Cur_threshold9.f s0_0 s0_1 s0_2 = some (r1, r2, r3)) :
  Calls Try.prog 19 #[.pointer (some ⟨g, 0, none⟩)] w fun e w' => e = .returned (.int .i64 r1) ∧ IsS44 w0 w' g s0_0 r2 r3 ∧ Below w0.heap.size w0 w' ∧ KeepBut w w' g none := by
 have HI0 := aK hI
 have HK := aK (KeepBut.refl w g none)
 have HL := aK hB.size
 clear hI
 have HW0 := aK hB.size
 have HB := aK hB
 clear hB
 have H : ((some (([0, 5, 10, 16, (-5), 9000, (-9000), 9001, (-9999)] : List Int) : List Int)).bind fun y101 => ((spec_l1Cur_pick.f s0_0 s0_1 s0_2 24).bind fun bt104 => (if 0 ≤ (wrap64 (7 + (wrap64 (Int.tdiv bt104.1 11)))) then (if (wrap64 (7 + (wrap64 (Int.tdiv bt104.1 11)))) ≤ (y101.length : Int) then ((spec_l1Cur_among.f s0_0 bt104.2.1 bt104.2.2 (y101.take ((wrap64 (7 + (wrap64 (Int.tdiv bt104.1 11)))) : Int).toNat)).bind fun bt111 => (some (bt111.1, bt111.2.1, bt111.2.2))) else (none)) else (none)))) = some (r1, r2, r3) := h
 clear h
 obtain ⟨y101, hy101⟩ : ∃ y_ : List Int, y_ = (([0, 5, 10, 16, (-5), 9000, (-9000), 9001, (-9999)] : List Int)) := ⟨_, rfl⟩
 replace H : ((spec_l1Cur_pick.f s0_0 s0_1 s0_2 24).bind fun bt104 => (if 0 ≤ (wrap64 (7 + (wrap64 (Int.tdiv bt104.1 11)))) then (if (wrap64 (7 + (wrap64 (Int.tdiv bt104.1 11)))) ≤ (y101.length : Int) then ((spec_l1Cur_among.f s0_0 bt104.2.1 bt104.2.2 (y101.take ((wrap64 (7 + (wrap64 (Int.tdiv bt104.1 11)))) : Int).toNat)).bind fun bt111 => (some (bt111.1, bt111.2.1, bt111.2.2))) else (none)) else (none))) = some (r1, r2, r3) := by first | (rw [hy101]; first | with_reducible exact H | with_reducible exact (oS H :)) | with_reducible exact (oS H :) | with_reducible exact H | exact H
 have Ny101 := aK hy101
 clear hy101
 replace H := oA H
 obtain ⟨⟨t104, t105, t106⟩, A2, H⟩ := H
 replace H : (if 0 ≤ (wrap64 (7 + (wrap64 (Int.tdiv t104 11)))) then (if (wrap64 (7 + (wrap64 (Int.tdiv t104 11)))) ≤ (y101.length : Int) then ((spec_l1Cur_among.f s0_0 t105 t106 (y101.take ((wrap64 (7 + (wrap64 (Int.tdiv t104 11)))) : Int).toNat)).bind fun bt111 => (some (bt111.1, bt111.2.1, bt111.2.2))) else (none)) else (none)) = some (r1, r2, r3) := H
 obtain ⟨ji3, hji3⟩ : ∃ j_ : Int, (wrap64 (7 + (wrap64 (Int.tdiv t104 11)))) = j_ := ⟨_, rfl⟩
 replace H : (if 0 ≤ (ji3) then (if (ji3) ≤ (y101.length : Int) then ((spec_l1Cur_among.f s0_0 t105 t106 (y101.take ((ji3) : Int).toNat)).bind fun bt111 => (some (bt111.1, bt111.2.1, bt111.2.2))) else (none)) else (none)) = some (r1, r2, r3) := by first | (rw [hji3] at H; exact H) | (simp only [hji3] at H ⊢; exact H)
 (try rw [hji3] at A2)
 have hji3w : (IntKind.i64.wrap (7 + (wrap64 (Int.tdiv t104 11)))) = ji3 := (i64_w _).trans hji3
 by_cases c4 : 0 ≤ (ji3)
 rotate_left
 ·
  rw [if_neg c4] at H
  exact absurd H (by simp)
 rw [if_pos c4] at H
 have c4b0 := eq_true c4
 have c4b1 : decide (0 ≤ (ji3)) = true := decide_eq_true c4
 clear c4
 by_cases c5 : (ji3) ≤ (y101.length : Int)
 rotate_left
 ·
  rw [if_neg c5] at H
  exact absurd H (by simp)
 rw [if_pos c5] at H
 have c5b0 := eq_true c5
 have c5b1 : decide ((ji3) ≤ (y101.length : Int)) = true := decide_eq_true c5
 clear c5
 obtain ⟨y107, hy107⟩ : ∃ y_ : List Int, y_ = (y101.take ((ji3) : Int).toNat) := ⟨_, rfl⟩
 replace H : ((spec_l1Cur_among.f s0_0 t105 t106 y107).bind fun bt111 => (some (bt111.1, bt111.2.1, bt111.2.2))) = some (r1, r2, r3) := by first | (rw [hy107]; first | with_reducible exact H | with_reducible exact (oS H :)) | with_reducible exact (oS H :) | with_reducible exact H | exact H
 have Ny107 := aK hy107
 clear hy107
 replace H := oA H
 obtain ⟨⟨t111, t112, t113⟩, A6, H⟩ := H
 replace H : (some (t111, t112, t113)) = some (r1, r2, r3) := H
 simp only [Option.some.injEq, Prod.mk.injEq] at H
 obtain ⟨rfl, rfl, rfl⟩ := H
 go_enter Try.func19, Try.ntmps19
 go_wp2_with (first | ((with_reducible refine ga 4 rfl ?_); refine Kd.R_lit (Kd.int .i64) _ 3 ?hg (N := 4) ?hd (xs := ([0, 5, 10, 16, (-5), 9000, (-9000), 9001, (-9999)] : List Int)) (inner := [.int .i64 0, .int .i64 5, .int .i64 10, .int .i64 16, .int .i64 (-5), .int .i64 9000, .int .i64 (-9000), .int .i64 9001, .int .i64 (-9999)]) (ok := fun _ => True) (okp := fun _ => True) ?hr ?hp (fun _ hk => hk) trivial (Below.refl _ _) (Nat.le_refl _) (by simp) ?_; (case hd => rfl); (case hg => rfl); (case hr => first | (go_simp; done) | (go_simp; rfl)); (case hp => exact (Reps.one (show Kd.M (Kd.int .i64) _ _ _ 0 [.int .i64 0] from rfl) (Reps.one (show Kd.M (Kd.int .i64) _ _ _ 5 [.int .i64 5] from rfl) (Reps.one (show Kd.M (Kd.int .i64) _ _ _ 10 [.int .i64 10] from rfl) (Reps.one (show Kd.M (Kd.int .i64) _ _ _ 16 [.int .i64 16] from rfl) (Reps.one (show Kd.M (Kd.int .i64) _ _ _ (-5) [.int .i64 (-5)] from rfl) (Reps.one (show Kd.M (Kd.int .i64) _ _ _ 9000 [.int .i64 9000] from rfl) (Reps.one (show Kd.M (Kd.int .i64) _ _ _ (-9000) [.int .i64 (-9000)] from rfl) (Reps.one (show Kd.M (Kd.int .i64) _ _ _ 9001 [.int .i64 9001] from rfl) (Reps.one (show Kd.M (Kd.int .i64) _ _ _ (-9999) [.int .i64 (-9999)] from rfl) (Reps.none _ _))))))))))); intro v102 w7 ho8 hb hg_ hnew_; clear hg_ hnew_; (first | rw [← Ny101.out] at ho8 | (simp only [Int.reduceToNat] at ho8; rw [← Ny101.out] at ho8)); have HO103 := aK (Kd.R_lower ho8 (keep_size (w := w) (g := g) (row := none) (pK HK.out))); have n1_ := aK (IsS44.below (pI44 HI0.out) hb); have n2_ := aK (KeepBut.trans (pK HK.out) (KeepBut.of_below hb g none) (.inl rfl)); have n3_ := aK (below_step ((pV HB.out (IsS44.ge HI0.out))) hb); clear HI0 HK HB; have HI0 := n1_; have HK := n2_; have HB := n3_; clear n1_ n2_ n3_; clear hb ho8) | ((with_reducible refine gc 39 rfl ?_); refine gl (some 6) Try.func39 #[.pointer (some ⟨g, 0, none⟩), .int .i64 24] ?_; (with_reducible refine (spec_l1Cur_pick.calls g s0_0 s0_1 s0_2 24 t104 t105 t106 w0 _ ?side1 ?side2 A2.out).mono ?_); (case side1 => exact pI44 HI0.out); (case side2 => exact pV HB.out (IsS44.ge HI0.out)); rintro e w9 ⟨rfl, hi, hb, hk⟩; refine ⟨_, rfl, ?_⟩; replace HO103 := aK (Kd.R_mono (Kd.R_keep (IsS44.apart (show IsS44 w0 _ g s0_0 s0_1 s0_2 from pI44 HI0.out) (pR HO103.out) (by decide)) hk (fun _ h => h.2)) (fun _ h => h.1)); replace HK := aK (KeepBut.trans (pK HK.out) hk (.inl rfl)); replace HB := aK (hb); replace HI0 := aK (hi); (try clear hb); (try clear hk); (try clear hi); obtain ⟨Ao11, co11, eo11⟩ := Kd.R_slice HO103.out; subst eo11; have q10 : ((ji3) : Int) ≤ ((y101.length : Int) : Int) := dA; obtain ⟨i010, hi010, _, hsz10, _⟩ := info_parts info3; have hroom10 : y101.length ≤ co11 := (Kd.R_reads' HO103.out).2.1; have hC10 : Kd.C (Kd.int .i64) _ Ao11 y101.length y101 := (Kd.R_reads' HO103.out).2.2; have hcut10 := cut_to (P := Try.prog) 27 3 .i64 Try.underlying27 hi010 Ao11 y101.length co11 (ji3) (dA) q10 hroom10; have hr10 := Kd.C_take (m := ((ji3) : Int).toNat) hC10 (by omega); have hy10 : y107.length = ((ji3) : Int).toNat := (by rw [Ny107.out, List.length_take]; omega); rw [← Ny107.out] at hr10; rw [← hy10] at hcut10; have HR110 := aK hr10; have HC110 := aK (show y107.length ≤ co11 from by omega); clear hr10 hC10 hroom10 hi010 hsz10; have KY10 := aK hy10; clear hy10; have KL10 := aK (show ((ji3) : Int).toNat ≤ y101.length from by omega); replace q10 := eq_true q10) | ((with_reducible refine gc 38 rfl ?_); refine gl (some 10) Try.func38 #[.pointer (some ⟨g, 0, none⟩), .slice Ao11 y107.length co11] ?_; (with_reducible refine (spec_l1Cur_among.calls g s0_0 t105 t106 _ _ y107 t111 t112 t113 w0 _ ?side1 ?side2 ?side3 ?side4 ?side5 A6.out).mono ?_); (case side1 => exact pI44 HI0.out); (case side2 => exact pV HB.out (IsS44.ge HI0.out)); (case side3 => repeat (first | exact (pC HR110.out) | (with_reducible refine Kd.C_alloc ?_ _) | (with_reducible refine Kd.C_drewN ?_ _) | (with_reducible refine Kd.C_drew ?_))); (case side4 => exact HC110.out); (case side5 => exact (by rintro ad_ rfl _ rfl; exact IsS44.own_ne HI0.out HO103.out (by decide) (by simp [Value.ownBlock]))); rintro e w12 ⟨rfl, hi, hb, hk⟩; refine ⟨_, rfl, ?_⟩; replace HO103 := aK (Kd.R_mono (Kd.R_keep (IsS44.apart (show IsS44 w0 _ g s0_0 t105 t106 from pI44 HI0.out) (pR HO103.out) (by decide)) hk (fun _ h => h.2)) (fun _ h => h.1)); replace HK := aK (KeepBut.trans (pK HK.out) hk (.inl rfl)); replace HB := aK (hb); replace HI0 := aK (hi); (try clear hb); (try clear hk); (try clear hi)))
 go_ret
 exact ⟨by first | rfl | (simp [errW_none, errW_some] <;> rfl) | (simp only [← hji3]; first | rfl | (simp [errW_none, errW_some] <;> rfl)) | (simp [*, errW_none, errW_some] <;> rfl), pI44 HI0.out, (pV HB.out (IsS44.ge HI0.out)), pK HK.out⟩
def spec_DrawCountAtLeast.f (k : Nat) (l0 : List Int) : Option ((List (S29)) × Int) := (spec_l1Cur_ensemble.f k l0 0 0).bind fun bt102 => ((spec_l1Cur_threshold9.f l0 bt102.2.1 bt102.2.2).bind fun bt107 => (some (bt102.1, bt107.1)))
theorem spec_DrawCountAtLeast.calls (k : Nat) (A0 : Option Addr) (c0 : Nat) (l0 : List Int) (r1 : List (S29)) (r2 : Int) (w : World) (hr0 : Kd.C (Kd.int .u8) w A0 l0.length l0) (hc0 : l0.length ≤ c0) (h : spec_DrawCountAtLeast.f k l0 = some (r1, r2)) :
  Calls Try.prog 5 #[.slice A0 l0.length c0] w fun e w' => ∃ v0_ : Value, e = .returned (.tuple #[v0_, .int .i64 r2]) ∧ Kd.V k29 29 w' w.heap.size (fun k_ => (w.heap.size ≤ k_)) v0_ r1 ∧ Below w.heap.size w w' := by
 have hu44 := Try.underlying44
 have HR0 := aK hr0
 have HC0 := aK hc0
 clear hr0 hc0
 have HB := aK (Below.refl w.heap.size w)
 have H : ((spec_l1Cur_ensemble.f k l0 0 0).bind fun bt102 => ((spec_l1Cur_threshold9.f l0 bt102.2.1 bt102.2.2).bind fun bt107 => (some (bt102.1, bt107.1)))) = some (r1, r2) := h
 clear h
 replace H := oA H
 obtain ⟨⟨t102, t105, t106⟩, A2, H⟩ := H
 replace H : ((spec_l1Cur_threshold9.f l0 t105 t106).bind fun bt107 => (some (t102, bt107.1))) = some (r1, r2) := H
 replace H := oA H
 obtain ⟨⟨t107, t108, t109⟩, A3, H⟩ := H
 replace H : (some (t102, t107)) = some (r1, r2) := H
 simp only [Option.some.injEq, Prod.mk.injEq] at H
 obtain ⟨rfl, rfl⟩ := H
 go_enter Try.func5, Try.ntmps5
 go_wp2_with (first | ((with_reducible refine ga 8 rfl ?_); refine bxe (cs := #[.slice A0 l0.length c0, .int .i64 0, .int .u64 0]) (t := 44) ?_; intro g101 hg w4 hbox hb; have HI101 := aK ((⟨_, _, hbox, (by rw [hg]; exact (below_size (pS HB.out)) : w.heap.size ≤ g101), HR0.out⟩ : IsS44 w w4 g101 l0 0 0)); replace HB := bS HB hb; clear hb hbox hg) | ((with_reducible refine gc 18 rfl ?_); refine gl (some 10) Try.func18 #[.pointer (some ⟨g101, 0, none⟩)] ?_; (with_reducible refine (spec_l1Cur_ensemble.calls k g101 l0 0 0 t102 t105 t106 w _ ?side1 ?side2 A2.out).mono ?_); (case side1 => exact pI44 HI101.out); (case side2 => exact pV HB.out (IsS44.ge HI101.out)); rintro e w5 ⟨v103, rfl, ho0, hi, hb, hk⟩; refine ⟨_, rfl, ?_⟩; have HO104 := aK (Kd.V_lower (Kd.V_mono (ok' := fun k_ => (w.heap.size ≤ k_) ∧ k_ ≠ g101) ho0 (fun k_ hk_ => ⟨(Nat.le_trans (below_size ((pV HB.out (IsS44.ge HI101.out)))) hk_), (IsS44.fresh (pI44 HI101.out) k_ hk_)⟩)) (below_size ((pV HB.out (IsS44.ge HI101.out))))); have n1_ := aK (hb); have n2_ := aK (hi); clear HB HI101; have HB := n1_; have HI101 := n2_; clear n1_ n2_; (try clear hb); (try clear hk); (try clear hi); (try clear ho0)) | ((with_reducible refine gc 19 rfl ?_); refine gl (some 13) Try.func19 #[.pointer (some ⟨g101, 0, none⟩)] ?_; (with_reducible refine (spec_l1Cur_threshold9.calls g101 l0 t105 t106 t107 t108 t109 w _ ?side1 ?side2 A3.out).mono ?_); (case side1 => exact pI44 HI101.out); (case side2 => exact pV HB.out (IsS44.ge HI101.out)); rintro e w6 ⟨rfl, hi, hb, hk⟩; refine ⟨_, rfl, ?_⟩; replace HO104 := aK (Kd.V_mono (Kd.V_keep (Kd.V_mono (ok := fun k_ => (((w.heap.size ≤ k_)) ∧ k_ ≠ g101)) (pW HO104.out) (fun _ h => And.intro h h.2)) hk (fun _ h => h.2)) (fun _ h => h.1)); replace HB := aK (hb); replace HI101 := aK (hi); (try clear hb); (try clear hk); (try clear hi)))
 go_ret2
 exact ⟨_, er, by (with_reducible repeat (first | apply Kd.V_alloc | apply Kd.V_drewN | apply Kd.V_drew)); exact Kd.V_mono HO104.out (fun _ hk => hk.1), (pV HB.out (IsS44.ge HI101.out))⟩
def impl_CountAtLeast_1.f (k : Nat) (l0 : List Int) (a1_0 : Int) : Option (Int) := (impl_countAtLeast.f k l0 a1_0).bind fun t102 => (some t102)
theorem impl_CountAtLeast_1.calls (k : Nat) (A0 : Option Addr) (c0 : Nat) (l0 : List Int) (cb1 : Nat) (a1_0 : Int) (r : Int) (w : World) (hr0 : Kd.C (Kd.int .i64) w A0 l0.length l0) (hc0 : l0.length ≤ c0) (hk1 : w.heap[cb1]? = some (.cells #[.int .i64 a1_0] 3 (0, 0))) (h : impl_CountAtLeast_1.f k l0 a1_0 = some r) :
  Calls Try.prog 22 #[.slice A0 l0.length c0, .pointer (some ⟨cb1, 0, none⟩)] w fun e w' => e = .returned (.int .i64 r) ∧ Drawn0 w w' := by
 have HR0 := aK hr0
 have HC0 := aK hc0
 clear hr0 hc0
 have B101 := aK hk1
 clear hk1
 have H : ((impl_countAtLeast.f k l0 a1_0).bind fun t102 => (some t102)) = some r := h
 clear h
 replace H := oA H
 obtain ⟨t102, A3, H⟩ := H
 replace H : (some t102) = some r := H
 obtain rfl := Option.some.inj H
 obtain ⟨_, _⟩ := bc1 B101.out
 go_enter Try.func22, Try.ntmps22
 go_wp2_with (first | ((with_reducible refine gc 23 rfl ?_); refine gl (some 6) Try.func23 #[.slice A0 l0.length c0, .int .i64 a1_0] ?_; (with_reducible refine (impl_countAtLeast.calls k _ _ l0 a1_0 t102 _ ?side1 ?side2 A3.out).mono ?_); (case side1 => exact pC HR0.out); (case side2 => exact HC0.out); rintro e w' ⟨rfl, ⟨nd, rfl⟩⟩; refine ⟨_, rfl, ?_⟩))
 go_ret
 exact ⟨by first | rfl | (simp; done) | (simp [*]; done), by repeat (first | exact Drawn0.refl _ | apply Drawn0.step)⟩
def impl_CountAtLeast.f (k : Nat) (l0 : List (S29)) (a1 : Int) : Option (Int × Int × List Int × Bool) := (impl_within.f a1 (-9000) 9000).bind fun t103 => (if t103 = true then ((impl_ensembleField_at_mp_mpOwn.f k (fun z0_ => impl_CountAtLeast_1.f k z0_ a1) l0).bind fun bt104 => (some (bt104.1, bt104.2.1, bt104.2.2.1, bt104.2.2.2))) else (some (0, 0, ([] : List Int), false)))
theorem impl_CountAtLeast.calls (k : Nat) (A0 : Option Addr) (c0 : Nat) (l0 : List (S29)) (a1 : Int) (r1 : Int) (r2 : Int) (r3 : List Int) (r4 : Bool) (w : World) (hr0 : Kd.C k29 w A0 l0.length l0) (hc0 : l0.length ≤ c0) (h : impl_CountAtLeast.f k l0 a1 = some (r1, r2, r3, r4)) :
  Calls Try.prog 6 #[.slice A0 l0.length c0, .int .i64 a1] w fun e w' => ∃ v2_ : Value, e = .returned (.tuple #[.agg #[.int .i64 r1, .int .i64 r2, v2_], .bool r4]) ∧ Kd.R (Kd.int .i64) 3 w' w.heap.size (fun _ => True) v2_ r3 ∧ Below w.heap.size w w' := by
 have hu29 := Try.underlying29
 have HR0 := aK hr0
 have HC0 := aK hc0
 clear hr0 hc0
 have HB := aK (Below.refl w.heap.size w)
 have H : ((impl_within.f a1 (-9000) 9000).bind fun t103 => (if t103 = true then ((impl_ensembleField_at_mp_mpOwn.f k (fun z0_ => impl_CountAtLeast_1.f k z0_ a1) l0).bind fun bt104 => (some (bt104.1, bt104.2.1, bt104.2.2.1, bt104.2.2.2))) else (some (0, 0, ([] : List Int), false)))) = some (r1, r2, r3, r4) := h
 clear h
 replace H := oA H
 obtain ⟨t103, A3, H⟩ := H
 replace H : (if t103 = true then ((impl_ensembleField_at_mp_mpOwn.f k (fun z0_ => impl_CountAtLeast_1.f k z0_ a1) l0).bind fun bt104 => (some (bt104.1, bt104.2.1, bt104.2.2.1, bt104.2.2.2))) else (some (0, 0, ([] : List Int), false))) = some (r1, r2, r3, r4) := H
 by_cases c4 : t103 = true
 ·
  subst c4
  have H1 : ((impl_ensembleField_at_mp_mpOwn.f k (fun z0_ => impl_CountAtLeast_1.f k z0_ a1) l0).bind fun bt104 => (some (bt104.1, bt104.2.1, bt104.2.2.1, bt104.2.2.2))) = some (r1, r2, r3, r4) := by rw [if_pos rfl] at H; exact H
  clear H; have H := H1; clear H1; replace H := oA H
  obtain ⟨⟨t104, t105, t106, t109⟩, A5, H⟩ := H
  replace H : (some (t104, t105, t106, t109)) = some (r1, r2, r3, r4) := H
  simp only [Option.some.injEq, Prod.mk.injEq] at H
  obtain ⟨rfl, rfl, rfl, rfl⟩ := H
  go_enter Try.func6, Try.ntmps6
  go_wp2_with (first | ((with_reducible refine ga 3 rfl ?_); refine bxa #[.int .i64 a1] 3 ?_; intro g101 hg w6 B101 hb; have GW101 := gA hg HB; replace HB := bS HB hb; clear hb hg) | ((with_reducible refine ga 4 rfl ?_); refine bxa #[.int .i64 0, .int .i64 0, .slice none 0 0] 29 ?_; intro g102 hg w7 B102 hb; have GW102 := gA hg HB; obtain ⟨N101_102, N102_101⟩ := na hg B101; replace B101 := bB B101 hb; replace HB := bS HB hb; clear hb hg; obtain ⟨_, _⟩ := nB N101_102; obtain ⟨_, _⟩ := bc1 B101.out) | ((with_reducible refine gc 20 rfl ?_); refine gl (some 7) Try.func20 #[.int .i64 a1, .int .i64 (-9000), .int .i64 9000] ?_; (with_reducible refine (impl_within.calls a1 (-9000) 9000 true _ A3.out).mono ?_); rintro e w' ⟨rfl, ⟨nd, rfl⟩⟩; refine ⟨_, rfl, ?_⟩; (try (rw [drewN_self w7]; generalize hq_ : World.drewN w7 _ = w7; replace B101 : Aside0 (w7.heap[g101]? = some (.cells #[.int .i64 a1] 3 (0, 0))) := ⟨by rw [← hq_]; exact (pB B101.out)⟩; replace B102 : Aside0 (w7.heap[g102]? = some (.cells #[.int .i64 0, .int .i64 0, .slice none 0 0] 29 (0, 0))) := ⟨by rw [← hq_]; exact (pB B102.out)⟩; replace HB : Aside0 (Below w.heap.size w w7) := ⟨by rw [← hq_]; exact (pS HB.out)⟩; clear hq_))) | ((with_reducible refine gc 21 rfl ?_); refine gl (some 12) Try.func21 #[.slice A0 l0.length c0, .func (.func 22) #[] #[.pointer (some ⟨g101, 0, none⟩)]] ?_; (with_reducible refine (impl_ensembleField_at_mp_mpOwn.calls (fun z0_ => impl_CountAtLeast_1.f k z0_ a1) 22 #[.pointer (some ⟨g101, 0, none⟩)] k _ _ l0  t104 t105 t106 t109 _ ?side1 ?side2 ?side3 ?side4 A5.out).mono ?_); (case side1 => exact fun args_ w_ => enters_ Try.func22 (by kernel_rfl) rfl args_ w_); (case side2 => refine FnOwn.of_read ?_; intro A_ c_ l_ r_ W_ hz_ hB_ hr_ hc_; refine (impl_CountAtLeast_1.calls k A_ c_ l_ g101 a1 r_ W_ hr_ hc_ (blk_below (pB B101.out) hB_) hz_).mono ?_; rintro e_ w_ ⟨rfl, hd_⟩; exact ⟨rfl, hd_.below⟩); (case side3 => exact cB HR0 HB); (case side4 => exact HC0.out); rintro e w10 ⟨v107, rfl, ho0, hb⟩; refine ⟨_, rfl, ?_⟩; have HO108 := aK (Kd.R_lower (Kd.R_newB ho0 (g := g101) (o := .cells #[.int .i64 a1] 3 (0, 0)) (pB B101.out)) (below_size (pS HB.out))); replace B101 := bB B101 hb; replace B102 := bB B102 hb; replace HB := bS HB hb; (try clear hb); (try clear ho0); obtain ⟨_, _, _, _, _, _⟩ := bc3 B102.out; obtain ⟨Ao12, co12, eo12⟩ := Kd.R_slice HO108.out; subst eo12))
  refine bodyPost_ret (results_ct rfl _ _ g102 29 #[.int .i64 t104, .int .i64 t105, .slice Ao12 t106.length co12] (0, 0) _ rfl (by refine bq #[.int .i64 t104, .int .i64 t105, .slice none 0 0] 2 ?_; refine bq #[.int .i64 t104, .int .i64 0, .slice none 0 0] 1 ?_; refine bq #[.int .i64 0, .int .i64 0, .slice none 0 0] 0 ?_; refine bk ?_; exact B102.out) Try.underlying29 rfl (by kernel_rfl)) rfl ?_
  exact ⟨_, er, by (with_reducible repeat (first | apply Kd.R_alloc | apply Kd.R_drewN | apply Kd.R_drew)); exact Kd.R_mono (rF3 HO108.out B102.out (.int .i64 t104) (.int .i64 t105) (.slice Ao12 t106.length co12)) (fun _ h => trivial), pT HB.out⟩
 replace c4 := Bool.eq_false_iff.mpr c4
 subst c4
 have H1 : (some (0, 0, ([] : List Int), false)) = some (r1, r2, r3, r4) := by rw [if_neg (show ¬ (false = true) by decide)] at H; exact H
 clear H
 have H := H1
 clear H1
 simp only [Option.some.injEq, Prod.mk.injEq] at H
 obtain ⟨rfl, rfl, rfl, rfl⟩ := H
 go_enter Try.func6, Try.ntmps6
 go_wp2_with (first | ((with_reducible refine ga 3 rfl ?_); refine bxa #[.int .i64 a1] 3 ?_; intro g101 hg w13 B101 hb; have GW101 := gA hg HB; replace HB := bS HB hb; clear hb hg) | ((with_reducible refine ga 4 rfl ?_); refine bxa #[.int .i64 0, .int .i64 0, .slice none 0 0] 29 ?_; intro g102 hg w14 B102 hb; have GW102 := gA hg HB; obtain ⟨N101_102, N102_101⟩ := na hg B101; replace B101 := bB B101 hb; replace HB := bS HB hb; clear hb hg; obtain ⟨_, _⟩ := nB N101_102; obtain ⟨_, _⟩ := bc1 B101.out) | ((with_reducible refine gc 20 rfl ?_); refine gl (some 7) Try.func20 #[.int .i64 a1, .int .i64 (-9000), .int .i64 9000] ?_; (with_reducible refine (impl_within.calls a1 (-9000) 9000 false _ A3.out).mono ?_); rintro e w' ⟨rfl, ⟨nd, rfl⟩⟩; refine ⟨_, rfl, ?_⟩; (try (rw [drewN_self w14]; generalize hq_ : World.drewN w14 _ = w14; replace B101 : Aside0 (w14.heap[g101]? = some (.cells #[.int .i64 a1] 3 (0, 0))) := ⟨by rw [← hq_]; exact (pB B101.out)⟩; replace B102 : Aside0 (w14.heap[g102]? = some (.cells #[.int .i64 0, .int .i64 0, .slice none 0 0] 29 (0, 0))) := ⟨by rw [← hq_]; exact (pB B102.out)⟩; replace HB : Aside0 (Below w.heap.size w w14) := ⟨by rw [← hq_]; exact (pS HB.out)⟩; clear hq_)); obtain ⟨_, _, _, _, _, _⟩ := bc3 B102.out))
 refine bodyPost_ret (results_ct rfl _ _ g102 29 #[.int .i64 0, .int .i64 0, .slice none 0 0] (0, 0) _ rfl (by refine bq #[.int .i64 0, .int .i64 0, .slice none 0 0] 2 ?_; refine bq #[.int .i64 0, .int .i64 0, .slice none 0 0] 1 ?_; refine bq #[.int .i64 0, .int .i64 0, .slice none 0 0] 0 ?_; refine bk ?_; exact B102.out) Try.underlying29 rfl (by kernel_rfl)) rfl ?_
 exact ⟨_, er, by first | exact Kd.R_nil _ _ _ _ _ | exact Kd.N_nil _ _ _ _ _ | exact Kd.V_nil _ _ _ _ _ | exact Kd.Q_nil _ _ _ _ _ | exact Kd.S_nil _ _ _ _ _, pT HB.out⟩
def spec_l13Threshold.f (a0 : Int) : Option (Bool) := (spec_l1In.f a0 (-9000) 9000).bind fun t101 => (some t101)
theorem spec_l13Threshold.calls (a0 : Int) (r : Bool) (w : World) (h : spec_l13Threshold.f a0 = some r) :
  Calls Try.prog 25 #[.int .i64 a0] w fun e w' => e = .returned (.bool r) ∧ Drawn0 w w' := by
 have H : ((spec_l1In.f a0 (-9000) 9000).bind fun t101 => (some t101)) = some r := h
 clear h
 replace H := oA H
 obtain ⟨t101, A2, H⟩ := H
 replace H : (some t101) = some r := H
 obtain rfl := Option.some.inj H
 go_enter Try.func25, Try.ntmps25
 go_wp2_with (first | ((with_reducible refine gc 40 rfl ?_); refine gl (some 4) Try.func40 #[.int .i64 a0, .int .i64 (-9000), .int .i64 9000] ?_; (with_reducible refine (spec_l1In.calls a0 (-9000) 9000 t101 _ A2.out).mono ?_); rintro e w' ⟨rfl, ⟨nd, rfl⟩⟩; refine ⟨_, rfl, ?_⟩))
 go_ret
 exact ⟨by first | rfl | (simp; done) | (simp [*]; done), by repeat (first | exact Drawn0.refl _ | apply Drawn0.step)⟩
def spec_l9Least.l0 : Nat → List Int → Int → Int → Int → Option (Int)
 | 0, _, _, _, _ => none
 | k + 1, x0, x1, x5, x6 => if x6 < (x0.length : Int) then (if 0 ≤ x6 then (if (rd x0 x6) ≥ x1 then (spec_l9Least.l0 k x0 x1 (wrap64 (x5 + 1)) (wrap64 (x6 + 1))) else (spec_l9Least.l0 k x0 x1 x5 (wrap64 (x6 + 1)))) else (none)) else (some x5)
def spec_l9Least.f (k : Nat) (l0 : List Int) (a1 : Int) : Option (Int) := spec_l9Least.l0 k l0 a1 0 0
theorem spec_l9Least.calls (k : Nat) (A0 : Option Addr) (c0 : Nat) (l0 : List Int) (a1 : Int) (r : Int) (w : World) (hr0 : Kd.C (Kd.int .i64) w A0 l0.length l0) (hc0 : l0.length ≤ c0) (h : spec_l9Least.f k l0 a1 = some r) :
  Calls Try.prog 28 #[.slice A0 l0.length c0, .int .i64 a1] w fun e w' => e = .returned (.int .i64 r) ∧ Drawn0 w w' := by
 have HR0 := aK hr0
 have HC0 := aK hc0
 clear hr0 hc0
 have H : (spec_l9Least.l0 k l0 a1 0 0) = some r := h
 clear h
 have H' := aK H
 clear H
 go_enter Try.func28, Try.ntmps28
 go_wp2
 go_loopg [5, 6] k (fun kq v5 v6 w' => ∃ (x5_1 : Int) (x6_1 : Int), v5 = .int .i64 x5_1 ∧ v6 = .int .i64 x6_1 ∧ Aside0 (spec_l9Least.l0 kq l0 a1 x5_1 x6_1 = some r) ∧ Aside0 (kq ≤ k) ∧ Drawn0 w w')
 case atStart => exact ⟨(0), (0), (by first | rfl | (simp; done) | (simp [*]; done)), (by first | rfl | (simp; done) | (simp [*]; done)), H', ⟨Nat.le_refl _⟩, by repeat (first | exact Drawn0.refl _ | apply Drawn0.step)⟩
 case round =>
 clear H'
 try clear c2
 try clear p2
 obtain ⟨x5_1, x6_1, rfl, rfl, HA, HK1, ⟨m1, rfl⟩⟩ := hrel
 cases gk with
 | zero => exact absurd HA.out (by simp [spec_l9Least.l0])
 | succ k1 =>
 have H := HA.out
 clear HA
 simp only [spec_l9Least.l0] at H
 by_cases c3 : x6_1 < (l0.length : Int)
 rotate_left
 ·
  rw [if_neg c3] at H
  have c3b0 : decide (x6_1 < (l0.length : Int)) = false := decide_eq_false c3
  clear c3
  obtain rfl := Option.some.inj H
  go_wp2
  go_ret
  exact ⟨by first | rfl | (simp; done) | (simp [*]; done), by repeat (first | exact Drawn0.refl _ | apply Drawn0.step)⟩
 rw [if_pos c3] at H
 have c3b0 : decide (x6_1 < (l0.length : Int)) = true := decide_eq_true c3
 clear c3
 by_cases c4 : 0 ≤ x6_1
 rotate_left
 ·
  rw [if_neg c4] at H
  exact absurd H (by simp)
 rw [if_pos c4] at H
 have c4b0 : decide (0 ≤ x6_1) = true := decide_eq_true c4
 clear c4
 by_cases c5 : (rd l0 x6_1) ≥ a1
 ·
  rw [if_pos c5] at H
  have c5b0 : decide (a1 ≤ (rd l0 x6_1)) = true := decide_eq_true c5
  clear c5; have H' := aK H; clear H
  have p101 : 0 ≤ (x6_1 : Int) := dA
  have q101 : x6_1 < (l0.length : Int) := dA
  obtain ⟨ad101, e101, hx101_0⟩ := Kd.at_int HR0.out x6_1 p101 q101; cases e101; replace p101 := eq_true p101; replace q101 := eq_true q101
  go_wp2
  go_roundg k1
  case measure => have := HK1.out; omega
  case rel => exact ⟨(wrap64 (x5_1 + 1)), (wrap64 (x6_1 + 1)), (by first | rfl | (simp; done) | (simp [*]; done)), (by first | rfl | (simp; done) | (simp [*]; done)), H', ⟨by have := HK1.out; omega⟩, by repeat (first | exact Drawn0.refl _ | apply Drawn0.step)⟩
 rw [if_neg c5] at H
 have c5b0 : decide (a1 ≤ (rd l0 x6_1)) = false := decide_eq_false c5
 clear c5
 have H' := aK H
 clear H
 have p101 : 0 ≤ (x6_1 : Int) := dA
 have q101 : x6_1 < (l0.length : Int) := dA
 obtain ⟨ad101, e101, hx101_0⟩ := Kd.at_int HR0.out x6_1 p101 q101
 cases e101
 replace p101 := eq_true p101
 replace q101 := eq_true q101
 go_wp2
 go_roundg k1
 case measure => have := HK1.out; omega
 case rel => exact ⟨(x5_1), (wrap64 (x6_1 + 1)), (by first | rfl | (simp; done) | (simp [*]; done)), (by first | rfl | (simp; done) | (simp [*]; done)), H', ⟨by have := HK1.out; omega⟩, by repeat (first | exact Drawn0.refl _ | apply Drawn0.step)⟩
mutual
def spec_CountAtLeast.j0 : Nat → List (S29) → Int → Bool → Option (Int × Int × List Int × Bool)
 | 0, _, _, _ => none
 | k + 1, x0, x1, x16 => if x16 = true then (some (0, 0, ([] : List Int), false)) else (if 0 < (x0.length : Int) then ((spec_l2Own.f ((rd_T29 x0 0).f0) ((rd_T29 x0 0).f1) ((rd_T29 x0 0).f2)).bind fun bt105 => (spec_CountAtLeast.l0 k x0 x1 0 bt105.1 bt105.2.1 bt105.2.2)) else (none))
def spec_CountAtLeast.l0 : Nat → List (S29) → Int → Int → Int → Int → List Int → Option (Int × Int × List Int × Bool)
 | 0, _, _, _, _, _, _ => none
 | k + 1, x0, x1, x7, x111000, x111001, x111002 => if x7 < (x111002.length : Int) then ((spec_l9Values.f k x0 x7).bind fun t111 => (if 0 ≤ x7 then ((some (x111002.set (x7 : Int).toNat (-9999) : List Int)).bind fun y114 => (if (t111.length : Int) > 0 then ((spec_l9Least.f k t111 x1).bind fun t115 => (spec_CountAtLeast.l0 k x0 x1 (wrap64 (x7 + 1)) x111000 x111001 (y114.set (x7 : Int).toNat t115))) else (spec_CountAtLeast.l0 k x0 x1 (wrap64 (x7 + 1)) x111000 x111001 y114))) else (none))) else (some (x111000, x111001, x111002, true))
end
def spec_CountAtLeast.f (k : Nat) (l0 : List (S29)) (a1 : Int) : Option (Int × Int × List Int × Bool) := (spec_l9Good.f k l0).bind fun t102 => (if t102 = true then ((spec_l13Threshold.f a1).bind fun t103 => (spec_CountAtLeast.j0 k l0 a1 (!t103))) else (spec_CountAtLeast.j0 k l0 a1 true))
def spec_CountAtLeast.T10 : Bool × List (List Nat × List Nat) := (true, [([], []), ([0], [0]), ([], []), ([], []), ([], []), ([3, 4], [3, 4]), ([1, 2, 0, 1, 2, 3, 4, 5], [1, 2]), ([6, 5, 5, 0, 1, 2, 3, 4, 5], [5, 6])])
def spec_CountAtLeast.B10 : List Nat := [0, 1, 0, 0, 0, 24, 63, 127]
theorem spec_CountAtLeast.tab10 : rtab .any (opsOf Try.f7 10) = spec_CountAtLeast.T10 := by kernel_rfl
theorem spec_CountAtLeast.bits10 : waitsOk spec_CountAtLeast.T10.2 spec_CountAtLeast.B10 = true := by kernel_rfl
theorem spec_CountAtLeast.calls (k : Nat) (A0 : Option Addr) (c0 : Nat) (l0 : List (S29)) (a1 : Int) (r1 : Int) (r2 : Int) (r3 : List Int) (r4 : Bool) (w : World) (hr0 : Kd.C k29 w A0 l0.length l0) (hc0 : l0.length ≤ c0) (h : spec_CountAtLeast.f k l0 a1 = some (r1, r2, r3, r4)) :
  Calls Try.prog 7 #[.slice A0 l0.length c0, .int .i64 a1] w fun e w' => ∃ v2_ : Value, e = .returned (.tuple #[.agg #[.int .i64 r1, .int .i64 r2, v2_], .bool r4]) ∧ Kd.R (Kd.int .i64) 3 w' w.heap.size (fun _ => True) v2_ r3 ∧ Below w.heap.size w w' := by
 have hu29 := Try.underlying29
 have HR0 := aK hr0
 have HC0 := aK hc0
 clear hr0 hc0
 have HB := aK (Below.refl w.heap.size w)
 have H : ((spec_l9Good.f k l0).bind fun t102 => (if t102 = true then ((spec_l13Threshold.f a1).bind fun t103 => (spec_CountAtLeast.j0 k l0 a1 (!t103))) else (spec_CountAtLeast.j0 k l0 a1 true))) = some (r1, r2, r3, r4) := h
 clear h
 have HC3 := aK H
 clear H
 go_enter Try.func7, Try.ntmps7
 go_upto_region 1 with (first | ((with_reducible refine ga 4 rfl ?_); refine bxa #[.int .i64 0, .int .i64 0, .slice none 0 0] 29 ?_; intro g101 hg w4 B101 hb; have GW101 := gA hg HB; replace HB := bS HB hb; clear hb hg))
 (try simp only [Act.put, List.setIfInBounds_toArray, List.set_cons_zero, List.set_cons_succ])
 go_cut [16] (fun v16 wc => ∃ (kq : Nat) (x16_2 : Bool), v16 = .bool x16_2 ∧ Aside0 (spec_CountAtLeast.j0 kq l0 a1 x16_2 = some (r1, r2, r3, r4)) ∧ Aside0 (kq ≤ k) ∧ Aside0 (wc.heap[g101]? = some (.cells #[.int .i64 0, .int .i64 0, (.slice none 0 0)] 29 (0, 0))) ∧ Aside0 (Below w.heap.size w wc))
 case first =>
  have H := HC3.out; clear HC3; replace H := oA H; obtain ⟨t102, A5, H⟩ := H
  replace H : (if t102 = true then ((spec_l13Threshold.f a1).bind fun t103 => (spec_CountAtLeast.j0 k l0 a1 (!t103))) else (spec_CountAtLeast.j0 k l0 a1 true)) = some (r1, r2, r3, r4) := H
  by_cases c6 : t102 = true
  ·
   subst c6
   have H1 : ((spec_l13Threshold.f a1).bind fun t103 => (spec_CountAtLeast.j0 k l0 a1 (!t103))) = some (r1, r2, r3, r4) := by rw [if_pos rfl] at H; exact H
   clear H; have H := H1; clear H1; replace H := oA H; obtain ⟨t103, A7, H⟩ := H
   replace H : (spec_CountAtLeast.j0 k l0 a1 (!t103)) = some (r1, r2, r3, r4) := H
   have H' := aK H; clear H
   go_wp2_with (first | ((with_reducible refine gc 24 rfl ?_); refine gl (some 10) Try.func24 #[.slice A0 l0.length c0] ?_; (with_reducible refine (spec_l9Good.calls k _ _ l0 true _ ?side1 ?side2 A5.out).mono ?_); (case side1 => exact cB HR0 HB); (case side2 => exact HC0.out); rintro e w8 ⟨rfl, hb⟩; refine ⟨_, rfl, ?_⟩; replace B101 := bB B101 hb; replace HB := bS HB hb; (try clear hb)) | (go_at_call 25; (with_reducible refine (spec_l13Threshold.calls a1 t103 _ A7.out).mono ?_); rintro e w' ⟨rfl, ⟨nd, rfl⟩⟩))
   go_meet
   case rel => exact ⟨_, (!t103), (by first | rfl | (simp; done) | (simp [*]; done)), H', ⟨by first | omega | exact Nat.le_refl _⟩, ⟨by refine bk ?_; exact B101.out⟩, ⟨pT HB.out⟩⟩
  replace c6 := Bool.eq_false_iff.mpr c6; subst c6
  have H1 : (spec_CountAtLeast.j0 k l0 a1 true) = some (r1, r2, r3, r4) := by rw [if_neg (show ¬ (false = true) by decide)] at H; exact H
  clear H; have H := H1; clear H1; have H' := aK H; clear H
  go_wp2_with (first | ((with_reducible refine gc 24 rfl ?_); refine gl (some 10) Try.func24 #[.slice A0 l0.length c0] ?_; (with_reducible refine (spec_l9Good.calls k _ _ l0 false _ ?side1 ?side2 A5.out).mono ?_); (case side1 => exact cB HR0 HB); (case side2 => exact HC0.out); rintro e w9 ⟨rfl, hb⟩; refine ⟨_, rfl, ?_⟩; replace B101 := bB B101 hb; replace HB := bS HB hb; (try clear hb)))
  go_meet
  case rel => exact ⟨_, (true), (by first | rfl | (simp; done) | (simp [*]; done)), H', ⟨by first | omega | exact Nat.le_refl _⟩, ⟨by refine bk ?_; exact B101.out⟩, ⟨pT HB.out⟩⟩
 case rest =>
 clear HC3
 try clear c2
 try clear p2
 try clear c6
 try clear c7
 obtain ⟨kq, x16_2, rfl, HA, HJ2, B101, HB⟩ := hcut
 cases kq with
 | zero => exact absurd HA.out (by simp [spec_CountAtLeast.j0])
 | succ kj2 =>
 have H := HA.out
 clear HA
 simp only [spec_CountAtLeast.j0] at H
 by_cases c10 : x16_2 = true
 ·
  subst c10
  have H1 : (some (0, 0, ([] : List Int), false)) = some (r1, r2, r3, r4) := by rw [if_pos rfl] at H; exact H
  clear H; have H := H1; clear H1
  simp only [Option.some.injEq, Prod.mk.injEq] at H
  obtain ⟨rfl, rfl, rfl, rfl⟩ := H; obtain ⟨z11_0, z11_1, z11_2, y11_0, y11_1, y11_2⟩ := bc3 B101.out
  go_wp2
  refine bodyPost_ret (results_ct rfl _ _ g101 29 #[.int .i64 0, .int .i64 0, .slice none 0 0] (0, 0) _ rfl (by refine bq #[.int .i64 0, .int .i64 0, .slice none 0 0] 2 ?_; refine bq #[.int .i64 0, .int .i64 0, .slice none 0 0] 1 ?_; refine bq #[.int .i64 0, .int .i64 0, .slice none 0 0] 0 ?_; refine bk ?_; exact B101.out) Try.underlying29 rfl (by kernel_rfl)) rfl ?_
  exact ⟨_, er, by first | exact Kd.R_nil _ _ _ _ _ | exact Kd.N_nil _ _ _ _ _ | exact Kd.V_nil _ _ _ _ _ | exact Kd.Q_nil _ _ _ _ _ | exact Kd.S_nil _ _ _ _ _, pT HB.out⟩
 replace c10 := Bool.eq_false_iff.mpr c10
 subst c10
 have H1 : (if 0 < (l0.length : Int) then ((spec_l2Own.f ((rd_T29 l0 0).f0) ((rd_T29 l0 0).f1) ((rd_T29 l0 0).f2)).bind fun bt105 => (spec_CountAtLeast.l0 kj2 l0 a1 0 bt105.1 bt105.2.1 bt105.2.2)) else (none)) = some (r1, r2, r3, r4) := by rw [if_neg (show ¬ (false = true) by decide)] at H; exact H
 clear H
 have H := H1
 clear H1
 by_cases c12 : 0 < (l0.length : Int)
 rotate_left
 ·
  rw [if_neg c12] at H
  exact absurd H (by simp)
 rw [if_pos c12] at H
 have c12b0 : decide (0 < (l0.length : Int)) = true := decide_eq_true c12
 have c12b1 : decide (0 < l0.length) = true := decide_eq_true (by omega)
 clear c12
 replace H := oA H
 obtain ⟨⟨t105, t106, t107⟩, A13, H⟩ := H
 replace H : (spec_CountAtLeast.l0 kj2 l0 a1 0 t105 t106 t107) = some (r1, r2, r3, r4) := H
 have H' := aK H
 clear H
 have p104 : 0 ≤ (0 : Int) := (by omega)
 have q104 : 0 < (l0.length : Int) := dA
 obtain ⟨ad104, A104_2, c104_2, e104, hx104_0, hx104_1, hx104_2, hl104_2, hi104_2⟩ := at_T29 HR0.out 0 p104 q104
 cases e104
 have qi104 : (0 < l0.length) = True := eq_true (by omega)
 (try rw [show ((0 : Int)).toNat = 0 from rfl] at hx104_0)
 (try rw [show 0 * 3 = 0 from rfl] at hx104_0)
 (try rw [Addr.add_zero'] at hx104_0)
 (try rw [show ((0 : Int)).toNat = 0 from rfl] at hx104_1)
 (try rw [show 0 * 3 = 0 from rfl] at hx104_1)
 (try rw [Addr.add_zero'] at hx104_1)
 (try rw [show ((0 : Int)).toNat = 0 from rfl] at hx104_2)
 (try rw [show 0 * 3 = 0 from rfl] at hx104_2)
 (try rw [Addr.add_zero'] at hx104_2)
 replace hx104_0 := (HB.out.cell (World.block_lt_of_cell? w _ hx104_0)).trans hx104_0
 replace hx104_1 := (HB.out.cell (World.block_lt_of_cell? w _ hx104_1)).trans hx104_1
 replace hx104_2 := (HB.out.cell (World.block_lt_of_cell? w _ hx104_2)).trans hx104_2
 have HR104_2 := aK hi104_2
 have HC104_2 := aK hl104_2
 clear hi104_2 hl104_2
 replace p104 := eq_true p104
 replace q104 := eq_true q104
 go_wp2_with (first | ((with_reducible refine gc 26 rfl ?_); refine gl (some 21) Try.func26 #[.agg #[.int .i64 ((rd_T29 l0 0).f0), .int .i64 ((rd_T29 l0 0).f1), .slice A104_2 ((rd_T29 l0 0).f2).length c104_2]] ?_; (with_reducible refine (spec_l2Own.calls ((rd_T29 l0 0).f0) ((rd_T29 l0 0).f1) _ _ ((rd_T29 l0 0).f2) t105 t106 t107 _ ?side1 ?side2 A13.out).mono ?_); (case side1 => exact cB HR104_2 HB); (case side2 => exact HC104_2.out); rintro e w14 ⟨v108, rfl, ho0, hb⟩; refine ⟨_, rfl, ?_⟩; have HO109 := aK (Kd.R_lower ho0 (below_size (pS HB.out))); replace B101 := bB B101 hb; replace HB := bS HB hb; (try clear hb); (try clear ho0)) | ((with_reducible refine ga 6 rfl ?_); refine bxa #[.int .i64 0, .int .i64 0, .slice none 0 0] 29 ?_; intro g110 hg w15 B110 hb; replace HO109 := rb HO109 hb; have GW110 := gA hg HB; obtain ⟨N101_110, N110_101⟩ := na hg B101; replace B101 := bB B101 hb; replace HB := bS HB hb; clear hb hg; obtain ⟨_, _⟩ := nB N110_101; obtain ⟨z17_0, z17_1, z17_2, y17_0, y17_1, y17_2⟩ := bc3 B110.out; obtain ⟨Ao18, co18, eo18⟩ := Kd.R_slice HO109.out; subst eo18))
 go_loopg [7] kj2 (fun kq v7 w' => ∃ (x7_2 : Int) (x111002_2 : List Int) (u111002 : Value), v7 = .int .i64 x7_2 ∧ Aside0 (spec_CountAtLeast.l0 kq l0 a1 x7_2 t105 t106 x111002_2 = some (r1, r2, r3, r4)) ∧ Aside0 (kq ≤ kj2) ∧ Aside0 (Kd.R (Kd.int .i64) 3 w' w.heap.size (fun _ => True) u111002 x111002_2) ∧ Aside0 (w'.heap[g101]? = some (.cells #[.int .i64 0, .int .i64 0, (.slice none 0 0)] 29 (0, 0))) ∧ Aside0 (w'.heap[g110]? = some (.cells #[.int .i64 t105, .int .i64 t106, u111002] 29 (0, 0))) ∧ Aside0 (Below w.heap.size w w'))
 case atStart => exact ⟨(0), (t107), (.slice Ao18 t107.length co18), (by first | rfl | (simp; done) | (simp [*]; done)), H', ⟨Nat.le_refl _⟩, ⟨pR (Kd.R_mono (rF3 HO109.out B110.out (.int .i64 t105) (.int .i64 t106) (.slice Ao18 t107.length co18)) (fun _ h => trivial))⟩, ⟨by refine bg N101_110 ?_; refine bg N101_110 ?_; refine bg N101_110 ?_; refine bk ?_; exact B101.out⟩, ⟨by refine bq #[.int .i64 t105, .int .i64 t106, .slice none 0 0] 2 ?_; refine bq #[.int .i64 t105, .int .i64 0, .slice none 0 0] 1 ?_; refine bq #[.int .i64 0, .int .i64 0, .slice none 0 0] 0 ?_; refine bk ?_; exact B110.out⟩, ⟨pT HB.out⟩⟩
 case round =>
 clear H'
 try clear c1
 try clear p1
 try clear q1
 try clear hx1
 try clear qi1
 try clear c2
 try clear p2
 try clear c6
 try clear c7
 try clear c10
 try clear p10
 try clear q10
 try clear hx10
 try clear qi10
 try clear c12
 try clear c12b0
 try clear c12b1
 try clear c16
 try clear z11_0
 try clear z11_1
 try clear z11_2
 try clear z17_0
 try clear z17_1
 try clear z17_2
 try clear y11_0
 try clear y11_1
 try clear y11_2
 try clear y17_0
 try clear y17_1
 try clear y17_2
 try clear hx104_0
 try clear hx104_1
 try clear hx104_2
 try clear p104
 try clear p2
 try clear q104
 obtain ⟨x7_2, x111002_2, u111002, rfl, HA, HK2, O0, B101, B110, HB⟩ := hrel
 cases gk with
 | zero => exact absurd HA.out (by simp [spec_CountAtLeast.l0])
 | succ k2 =>
 have H := HA.out
 clear HA
 simp only [spec_CountAtLeast.l0] at H
 by_cases c19 : x7_2 < (x111002_2.length : Int)
 rotate_left
 ·
  rw [if_neg c19] at H
  have c19b0 : decide (x7_2 < (x111002_2.length : Int)) = false := decide_eq_false c19
  clear c19
  simp only [Option.some.injEq, Prod.mk.injEq] at H
  obtain ⟨rfl, rfl, rfl, rfl⟩ := H; obtain ⟨_, _⟩ := nB N110_101; obtain ⟨_, _, _, _, _, _⟩ := bc3 B110.out; obtain ⟨Ao46, co46, eo46⟩ := Kd.R_slice O0.out; subst eo46; obtain ⟨_, _, _, _, _, _⟩ := bc3 B101.out
  go_wp2
  refine bodyPost_ret (results_ct rfl _ _ g101 29 #[.int .i64 t105, .int .i64 t106, .slice Ao46 x111002_2.length co46] (0, 0) _ rfl (by refine bq #[.int .i64 t105, .int .i64 t106, .slice none 0 0] 2 ?_; refine bq #[.int .i64 t105, .int .i64 0, .slice none 0 0] 1 ?_; refine bq #[.int .i64 0, .int .i64 0, .slice none 0 0] 0 ?_; refine bk ?_; exact B101.out) Try.underlying29 rfl (by kernel_rfl)) rfl ?_
  exact ⟨_, er, by (with_reducible repeat (first | apply Kd.R_alloc | apply Kd.R_drewN | apply Kd.R_drew)); exact Kd.R_mono (rF3 O0.out B101.out (.int .i64 t105) (.int .i64 t106) (.slice Ao46 x111002_2.length co46)) (fun _ h => trivial), pT HB.out⟩
 rw [if_pos c19] at H
 have c19b0 : decide (x7_2 < (x111002_2.length : Int)) = true := decide_eq_true c19
 clear c19
 replace H := oA H
 obtain ⟨t111, A20, H⟩ := H
 replace H : (if 0 ≤ x7_2 then ((some (x111002_2.set (x7_2 : Int).toNat (-9999) : List Int)).bind fun y114 => (if (t111.length : Int) > 0 then ((spec_l9Least.f k2 t111 a1).bind fun t115 => (spec_CountAtLeast.l0 k2 l0 a1 (wrap64 (x7_2 + 1)) t105 t106 (y114.set (x7_2 : Int).toNat t115))) else (spec_CountAtLeast.l0 k2 l0 a1 (wrap64 (x7_2 + 1)) t105 t106 y114))) else (none)) = some (r1, r2, r3, r4) := H
 by_cases c21 : 0 ≤ x7_2
 rotate_left
 ·
  rw [if_neg c21] at H
  exact absurd H (by simp)
 rw [if_pos c21] at H
 have c21b0 : decide (0 ≤ x7_2) = true := decide_eq_true c21
 clear c21
 obtain ⟨y114, hy114⟩ : ∃ y_ : List Int, y_ = (x111002_2.set (x7_2 : Int).toNat (-9999)) := ⟨_, rfl⟩
 replace H : (if (t111.length : Int) > 0 then ((spec_l9Least.f k2 t111 a1).bind fun t115 => (spec_CountAtLeast.l0 k2 l0 a1 (wrap64 (x7_2 + 1)) t105 t106 (y114.set (x7_2 : Int).toNat t115))) else (spec_CountAtLeast.l0 k2 l0 a1 (wrap64 (x7_2 + 1)) t105 t106 y114)) = some (r1, r2, r3, r4) := by first | (rw [hy114]; first | with_reducible exact H | with_reducible exact (oS H :)) | with_reducible exact (oS H :) | with_reducible exact H | exact H
 have Ny114 := aK hy114
 clear hy114
 by_cases c23 : (t111.length : Int) > 0
 rotate_left
 ·
  rw [if_neg c23] at H
  have c23b0 : decide (0 < (t111.length : Int)) = false := decide_eq_false c23
  have c23b1 : decide (0 < t111.length) = false := decide_eq_false (by omega)
  clear c23; have H' := aK H; clear H; obtain ⟨_, _⟩ := nB N110_101; obtain ⟨_, _, _, _, _, _⟩ := bc3 B110.out; obtain ⟨Ao38, co38, eo38⟩ := Kd.R_slice O0.out; subst eo38
  go_wp2_with (first | ((with_reducible refine gc 27 rfl ?_); refine gl (some 31) Try.func27 #[.slice (some ad104) l0.length c0, .int .i64 x7_2] ?_; (with_reducible refine (spec_l9Values.calls k2 _ _ l0 x7_2 t111 _ ?side1 ?side2 A20.out).mono ?_); (case side1 => exact cB HR0 HB); (case side2 => exact HC0.out); rintro e w39 ⟨v112, rfl, ho0, hb⟩; refine ⟨_, rfl, ?_⟩; have n0_ := aK (Kd.R_elder' (pR O0.out) (Kd.R_base ho0) hb); have HO113 := aK (Kd.R_lower (nw1 ho0 (pR O0.out)) (below_size (pS HB.out))); replace B101 := bB B101 hb; replace B110 := bB B110 hb; replace HB := bS HB hb; clear O0; have O0 := n0_; clear n0_; (try clear hb); (try clear ho0); obtain ⟨_, _, _, _, _, _⟩ := bc3 B110.out; have p22 : 0 ≤ (x7_2 : Int) := dA; have q22 : (x7_2 : Int) < ((x111002_2.length : Int) : Int) := dA; obtain ⟨go22, co22, eo22, g22, gl22, cl22, HG22⟩ := Kd.R_form O0.out (by omega); (first | cases eo22 | (injection eo22 with ea_ en_ ec_; (first | subst ea_ | (injection ea_ with ea_; subst ea_)); subst ec_; clear en_)); have GB22 := aK g22; have GG22 := aK HG22; clear g22 gl22 HG22; obtain ⟨hx22_0, hf22_0⟩ := Kd.R_celln 0 O0.out (x7_2 : Int) p22 q22; replace p22 := eq_true p22; replace q22 := eq_true q22; have n_ := aK (Kd.R_mono (ok' := (fun k_ => some k_ ≠ (v112 : Value).ownBlock)) O0.out (fun k_ hk => hk.2)); clear O0; have O0 := n_; clear n_; obtain ⟨hy41_, hz41_⟩ := Kd.R_celln 0 O0.out (x7_2 : Int) (dA) (dA); have HP41 := Kd.R_putg O0.out (x7_2 : Int) (-9999)) | ((with_reducible refine gate_store (t := 3) (p := 35) rfl ?_); refine store_event (t := 3) (p := 35) (v := ?vo_w42) (w1 := (w39.setCell ⟨go22, (x7_2 : Int).toNat, none⟩ (.int .i64 (-9999)))) ?hg ?ho ?hn ?hr ?_; (case ho => rfl); (case hg => rfl); (case hn => rfl); (case hr => first | (go_simp; done) | (go_simp; rfl)); intro w42 hw; have hg : w39.grownBy w42 (some go22) := (by rw [hw]; exact HP41.2); have hp_ : Kd.R (Kd.int .i64) 3 w42 w.heap.size (fun k_ => some k_ ≠ (v112 : Value).ownBlock) (.slice (some ⟨go22, 0, none⟩) x111002_2.length co38) y114 := (by rw [hw, Ny114.out]; exact HP41.1); clear HP41; have n0_ := aK (hp_); replace B101 := aK (blk_grown (pB B101.out) hg (Kd.R_ne O0.out B101.out (by decide))); replace B110 := aK (blk_grown (pB B110.out) hg (Kd.R_ne O0.out B110.out (by decide))); replace HO113 := aK (Kd.R_after (v := (.slice (some ⟨go22, 0, none⟩) x111002_2.length co38)) (v1 := (.slice (some ⟨go22, 0, none⟩) x111002_2.length co38)) (ok := (fun _ => True)) (pR HO113.out) hg (.inl rfl)); replace HB := aK ((by rw [hw]; exact below_set (HB.out) GB22.out : Below w.heap.size w w42)); clear O0; have O0 := n0_; clear n0_ hg hw hp_; obtain ⟨Ao43, co43, eo43⟩ := Kd.R_slice HO113.out; subst eo43))
  go_roundg k2
  case measure => have := HJ2.out; have := HK2.out; omega
  case rel => exact ⟨(wrap64 (x7_2 + 1)), (y114), (.slice (some ⟨go22, 0, none⟩) x111002_2.length co38), (by first | rfl | (simp; done) | (simp [*]; done)), H', ⟨by have := HJ2.out; have := HK2.out; omega⟩, ⟨pR (Kd.R_mono O0.out (fun _ hk => trivial))⟩, ⟨by refine bk ?_; exact B101.out⟩, ⟨by refine bk ?_; exact B110.out⟩, ⟨pT HB.out⟩⟩
 rw [if_pos c23] at H
 have c23b0 : decide (0 < (t111.length : Int)) = true := decide_eq_true c23
 have c23b1 : decide (0 < t111.length) = true := decide_eq_true (by omega)
 clear c23
 replace H := oA H
 obtain ⟨t115, A24, H⟩ := H
 replace H : (spec_CountAtLeast.l0 k2 l0 a1 (wrap64 (x7_2 + 1)) t105 t106 (y114.set (x7_2 : Int).toNat t115)) = some (r1, r2, r3, r4) := H
 obtain ⟨y116, hy116⟩ : ∃ y_ : List Int, y_ = (y114.set (x7_2 : Int).toNat t115) := ⟨_, rfl⟩
 replace H : (spec_CountAtLeast.l0 k2 l0 a1 (wrap64 (x7_2 + 1)) t105 t106 y116) = some (r1, r2, r3, r4) := by first | (rw [hy116]; first | with_reducible exact H | with_reducible exact (oS H :)) | with_reducible exact (oS H :) | with_reducible exact H | exact H
 have Ny116 := aK hy116
 clear hy116
 have H' := aK H
 clear H
 obtain ⟨_, _⟩ := nB N110_101
 obtain ⟨_, _, _, _, _, _⟩ := bc3 B110.out
 obtain ⟨Ao28, co28, eo28⟩ := Kd.R_slice O0.out
 subst eo28
 try go_wp2_with (first | ((with_reducible refine gc 27 rfl ?_); refine gl (some 31) Try.func27 #[.slice (some ad104) l0.length c0, .int .i64 x7_2] ?_; (with_reducible refine (spec_l9Values.calls k2 _ _ l0 x7_2 t111 _ ?side1 ?side2 A20.out).mono ?_); (case side1 => exact cB HR0 HB); (case side2 => exact HC0.out); rintro e w29 ⟨v112, rfl, ho0, hb⟩; refine ⟨_, rfl, ?_⟩; have n0_ := aK (Kd.R_elder' (pR O0.out) (Kd.R_base ho0) hb); have HO113 := aK (Kd.R_lower (nw1 ho0 (pR O0.out)) (below_size (pS HB.out))); replace B101 := bB B101 hb; replace B110 := bB B110 hb; replace HB := bS HB hb; clear O0; have O0 := n0_; clear n0_; (try clear hb); (try clear ho0); obtain ⟨_, _, _, _, _, _⟩ := bc3 B110.out; have p22 : 0 ≤ (x7_2 : Int) := dA; have q22 : (x7_2 : Int) < ((x111002_2.length : Int) : Int) := dA; obtain ⟨go22, co22, eo22, g22, gl22, cl22, HG22⟩ := Kd.R_form O0.out (by omega); (first | cases eo22 | (injection eo22 with ea_ en_ ec_; (first | subst ea_ | (injection ea_ with ea_; subst ea_)); subst ec_; clear en_)); have GB22 := aK g22; have GG22 := aK HG22; clear g22 gl22 HG22; obtain ⟨hx22_0, hf22_0⟩ := Kd.R_celln 0 O0.out (x7_2 : Int) p22 q22; replace p22 := eq_true p22; replace q22 := eq_true q22; have n_ := aK (Kd.R_mono (ok' := (fun k_ => some k_ ≠ (v112 : Value).ownBlock)) O0.out (fun k_ hk => hk.2)); clear O0; have O0 := n_; clear n_; obtain ⟨hy31_, hz31_⟩ := Kd.R_celln 0 O0.out (x7_2 : Int) (dA) (dA); have HP31 := Kd.R_putg O0.out (x7_2 : Int) (-9999)) | ((with_reducible refine gate_store (t := 3) (p := 35) rfl ?_); refine store_event (t := 3) (p := 35) (v := ?vo_w32) (w1 := (w29.setCell ⟨go22, (x7_2 : Int).toNat, none⟩ (.int .i64 (-9999)))) ?hg ?ho ?hn ?hr ?_; (case ho => rfl); (case hg => rfl); (case hn => rfl); (case hr => first | (go_simp; done) | (go_simp; rfl)); intro w32 hw; have hg : w29.grownBy w32 (some go22) := (by rw [hw]; exact HP31.2); have hp_ : Kd.R (Kd.int .i64) 3 w32 w.heap.size (fun k_ => some k_ ≠ (v112 : Value).ownBlock) (.slice (some ⟨go22, 0, none⟩) x111002_2.length co28) y114 := (by rw [hw, Ny114.out]; exact HP31.1); clear HP31; have n0_ := aK (hp_); replace B101 := aK (blk_grown (pB B101.out) hg (Kd.R_ne O0.out B101.out (by decide))); replace B110 := aK (blk_grown (pB B110.out) hg (Kd.R_ne O0.out B110.out (by decide))); replace HO113 := aK (Kd.R_after (v := (.slice (some ⟨go22, 0, none⟩) x111002_2.length co28)) (v1 := (.slice (some ⟨go22, 0, none⟩) x111002_2.length co28)) (ok := (fun _ => True)) (pR HO113.out) hg (.inl rfl)); replace HB := aK ((by rw [hw]; exact below_set (HB.out) GB22.out : Below w.heap.size w w32)); clear O0; have O0 := n0_; clear n0_ hg hw hp_; obtain ⟨Ao33, co33, eo33⟩ := Kd.R_slice HO113.out; subst eo33))
 replace O0 := rdw O0
 replace HO113 := rdw HO113
 replace B101 := bD B101
 replace B110 := bD B110
 replace HB := aK (below_drew1 HB.out)
 refine start_ (n := 8) (S := fun w' => w'.cell? ⟨g110, 0, none⟩ = some (.int .i64 t105) ∧ w'.cell? ⟨g110, 1, none⟩ = some (.int .i64 t106) ∧ w'.cell? ⟨g110, 2, none⟩ = some (.slice (some ⟨go22, 0, none⟩) x111002_2.length co28)) (ds := [7]) (bz [0, 8]) (by kernel_rfl) rfl rfl (cz3 B110.out) (fun hHeld => ?_); refine with_tabW spec_CountAtLeast.tab10 spec_CountAtLeast.bits10 (fun HT_ HW_ => ?_)
 generalize w32.drew = w34 at O0 HO113 B101 B110 HB hHeld ⊢
 refine pz 0 39 [1, 7] HT_ ?_
 refine pz 2 41 [1, 1, 1, 5] HT_ ?_
 refine pz 3 42 [1, 1, 2, 4] HT_ ?_
 refine pz 4 43 [1, 1, 3, 3] HT_ ?_
 refine tz 1 40 [5, 3] HT_ HW_ rfl (by rintro w' ⟨s0, s1, s2⟩; go_simp; with_reducible rfl) hHeld ?_
 refine oz 5 44 [6, 2] HT_ fun K hK => ?_
 refine gs Try.func28 #[.slice Ao33 t111.length co33, .int .i64 a1] ?_
 with_reducible refine (spec_l9Least.calls k2 _ _ t111 a1 t115 _ ?side1 ?side2 A24.out).mono ?_
 (case side1 => exact pC (Kd.R_reads' HO113.out).2.2)
 (case side2 => exact (Kd.R_reads' HO113.out).2.1)
 rintro e w' ⟨rfl, ⟨nd, rfl⟩⟩
 refine ⟨_, rfl, ?_⟩
 have p25 : 0 ≤ (x7_2 : Int) := dA
 have q25 : (x7_2 : Int) < ((x111002_2.length : Int) : Int) := dA
 obtain ⟨hx25_0, hf25_0⟩ := Kd.R_celln 0 O0.out (x7_2 : Int) p25 q25
 replace p25 := eq_true p25
 replace q25 := eq_true q25
 have HP35 := Kd.R_putn O0.out (x7_2 : Int) t115
 rw [← Ny116.out] at HP35
 have HQ35 := aK HP35
 clear HP35
 refine hK.out _ _ (cz3 B110.out) (fun hHeld => ?_)
 clear hK K
 refine nm 44 ?_
 refine pz 6 45 [7, 1] HT_ ?_
 refine last_ (i := 7) (N := none) (bz [8, 0]) rfl rfl (one_of HT_.out (by kernel_rfl)) (by decide) (fun K hK => ?_)
 refine skip_ (w1 := ?_) (by rfl) rfl ?_ ?_
 rotate_left
 ·
  go_simp
  rfl
 refine hK.out _ _ ?_
 clear hK K
 refine done_ (done_of HT_.out (by kernel_rfl)) ?_
 try go_wp2
 go_roundg k2
 case measure => have := HJ2.out; have := HK2.out; omega
 case rel => exact ⟨(wrap64 (x7_2 + 1)), (y116), (.slice (some ⟨go22, 0, none⟩) x111002_2.length co28), (by first | rfl | (simp; done) | (simp [*]; done)), H', ⟨by have := HJ2.out; have := HK2.out; omega⟩, ⟨pR (Kd.R_mono HQ35.out (fun _ hk => trivial))⟩, ⟨by refine bk ?_; refine blk_far ?_ (by have h_ := Kd.R_ne O0.out B101.out (by decide); intro e_; exact h_ (by rw [e_]; rfl)) _; refine bk ?_; exact B101.out⟩, ⟨by refine bk ?_; refine blk_far ?_ (by have h_ := Kd.R_ne O0.out B110.out (by decide); intro e_; exact h_ (by rw [e_]; rfl)) _; refine bk ?_; exact B110.out⟩, ⟨by repeat (first | (with_reducible first | exact HB.out | apply below_alloc | apply pw_below_drewN | apply below_drew1 | refine below_set ?_ GB22.out | refine below_set ?_ GW101.out | refine below_set ?_ GW110.out) | exact HB.out)⟩⟩
end Go.Proofs.Ytpggcolcabmdeaa.P
