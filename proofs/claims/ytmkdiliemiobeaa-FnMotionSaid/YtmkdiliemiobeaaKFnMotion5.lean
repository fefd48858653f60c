/- Texts of the claim FnMotion, merged: part 5 of 13: the program's and the reference's functions as Lean functions, the walks that show it, and plain lemmas; no conditions. -/
import Derived.Test.YtmkdiliemiobeaaKFnMotion3
import Derived.Test.YtmkdiliemiobeaaKFnMotion4
namespace Go.Proofs.Ytmkdiliemiobeaa.P
open Go.RowKit Go.Proofs.YtmkdiliemiobeaaW.PrintWords Go.Proofs.YtmkdiliemiobeaaW.PrintLast Go.Proofs.YtmkdiliemiobeaaW.PrintMore
attribute [local go_sem] max2_int min2_int max_two min_two max_three min_three max_four min_four
set_option linter.unusedVariables false
set_option linter.unusedSimpArgs false
set_option maxHeartbeats 8000000
set_option maxRecDepth 100000
mutual
def spec_l11Move.l0 : Nat → Int → Int → Int → List Int → Int → Int → Int → Int → List Int → Option (Int × Int × List Int)
 | 0, _, _, _, _, _, _, _, _, _ => none
 | k + 1, x6, x102000, x102001, x102002, x103000, x103001, x110000, x110001, x110002 => if x6 < x102001 then (spec_l11Move.l1 k x6 0 x102000 x102001 x102002 x103000 x103001 x110000 x110001 x110002) else (some (x110000, x110001, x110002))
def spec_l11Move.l1 : Nat → Int → Int → Int → Int → List Int → Int → Int → Int → Int → List Int → Option (Int × Int × List Int)
 | 0, _, _, _, _, _, _, _, _, _, _ => none
 | k + 1, x6, x7, x102000, x102001, x102002, x103000, x103001, x110000, x110001, x110002 => if x7 < x102000 then ((spec_l2Has.f x102000 x102001 x102002 (wrap64 (x7 - x103000)) (wrap64 (x6 - x103001))).bind fun t110 => (if t110 = true then ((spec_l2At.f x102000 x102001 x102002 (wrap64 (x7 - x103000)) (wrap64 (x6 - x103001))).bind fun t111 => (if 0 ≤ (wrap64 ((wrap64 (x6 * x102000)) + x7)) then (if (wrap64 ((wrap64 (x6 * x102000)) + x7)) < (x110002.length : Int) then (spec_l11Move.l1 k x6 (wrap64 (x7 + 1)) x102000 x102001 x102002 x103000 x103001 x110000 x110001 (x110002.set ((wrap64 ((wrap64 (x6 * x102000)) + x7)) : Int).toNat t111)) else (none)) else (none))) else (if 0 ≤ (wrap64 ((wrap64 (x6 * x102000)) + x7)) then (if (wrap64 ((wrap64 (x6 * x102000)) + x7)) < (x110002.length : Int) then (spec_l11Move.l1 k x6 (wrap64 (x7 + 1)) x102000 x102001 x102002 x103000 x103001 x110000 x110001 (x110002.set ((wrap64 ((wrap64 (x6 * x102000)) + x7)) : Int).toNat (-9999))) else (none)) else (none)))) else (spec_l11Move.l0 k (wrap64 (x6 + 1)) x102000 x102001 x102002 x103000 x103001 x110000 x110001 x110002)
end
def spec_l11Move.f (k : Nat) (a0_0 : Int) (a0_1 : Int) (l0_2 : List Int) (a1_0 : Int) (a1_1 : Int) : Option (Int × Int × List Int) := (spec_l2Own.f a0_0 a0_1 l0_2).bind fun bt104 => (spec_l11Move.l0 k 0 a0_0 a0_1 l0_2 a1_0 a1_1 bt104.1 bt104.2.1 bt104.2.2)
theorem spec_l11Move.calls (k : Nat) (a0_0 : Int) (a0_1 : Int) (A0_2 : Option Addr) (c0_2 : Nat) (l0_2 : List Int) (a1_0 : Int) (a1_1 : Int) (r1 : Int) (r2 : Int) (r3 : List Int) (w : World) (hr0_2 : Kd.C (Kd.int .i64) w A0_2 l0_2.length l0_2) (hc0_2 : l0_2.length ≤ c0_2) (h : spec_l11Move.f k a0_0 a0_1 l0_2 a1_0 a1_1 = some (r1, r2, r3)) :
  Calls Try.prog 43 #[.agg #[.int .i64 a0_0, .int .i64 a0_1, .slice A0_2 l0_2.length c0_2], .agg #[.int .i64 a1_0, .int .i64 a1_1]] w fun e w' => ∃ v2_ : Value, e = .returned (.agg #[.int .i64 r1, .int .i64 r2, v2_]) ∧ Kd.R (Kd.int .i64) 3 w' w.heap.size (fun _ => True) v2_ r3 ∧ Below w.heap.size w w' := by
 have hu26 := Try.underlying26
 have hu33 := Try.underlying33
 have HR0_2 := Aside0.mk hr0_2
 have HC0_2 := Aside0.mk hc0_2
 clear hr0_2 hc0_2
 have HB := aK (Below.refl w.heap.size w)
 have H : ((spec_l2Own.f a0_0 a0_1 l0_2).bind fun bt104 => (spec_l11Move.l0 k 0 a0_0 a0_1 l0_2 a1_0 a1_1 bt104.1 bt104.2.1 bt104.2.2)) = some (r1, r2, r3) := h
 clear h
 replace H := Option.bind_eq_some_iff.mp H
 obtain ⟨⟨t104, t105, t106⟩, A30, H⟩ := H
 replace H : (spec_l11Move.l0 k 0 a0_0 a0_1 l0_2 a1_0 a1_1 t104 t105 t106) = some (r1, r2, r3) := H
 have A3 := Aside0.mk A30
 clear A30
 have H' := Aside0.mk H
 clear H
 go_enter Try.func43, Try.ntmps43
 go_wp2_with (first | ((with_reducible refine gate_dst (N := 2) rfl ?_); refine bxe (cs := #[.int .i64 a0_0, .int .i64 a0_1, .slice A0_2 l0_2.length c0_2]) (t := 26) ?_; intro gb101 hg w4 hbox hb; have BK101 := aK (hbox); have GW101 := aK (gE hg (pS HB.out)); have GE101 := GW101; replace HB := bS HB hb; clear hb hbox hg) | ((with_reducible refine gate_dst (N := 3) rfl ?_); refine bxe (cs := #[.int .i64 a1_0, .int .i64 a1_1]) (t := 33) ?_; intro gb102 hg w5 hbox hb; have BK102 := aK (hbox); have GW102 := aK (gE hg (pS HB.out)); have GE102 := GW102; obtain ⟨NB101_102, NB102_101⟩ := nb hg (pB BK101.out); replace BK101 := bB BK101 hb; replace HB := bS HB hb; clear hb hbox hg) | ((with_reducible refine gate_dst (N := 4) rfl ?_); refine bxe (cs := #[.int .i64 0, .int .i64 0, .slice none 0 0]) (t := 26) ?_; intro gb103 hg w6 hbox hb; have BK103 := aK (hbox); have GW103 := aK (gE hg (pS HB.out)); have GE103 := GW103; obtain ⟨NB101_103, NB103_101⟩ := nb hg (pB BK101.out); obtain ⟨NB102_103, NB103_102⟩ := nb hg (pB BK102.out); replace BK101 := bB BK101 hb; replace BK102 := bB BK102 hb; replace HB := bS HB hb; clear hb hbox hg; obtain ⟨hnb7, hnc7⟩ := nB NB101_102; obtain ⟨hnb8, hnc8⟩ := nB NB101_103; obtain ⟨z9_0, z9_1, z9_2, y9_0, y9_1, y9_2⟩ := bc3 BK101.out) | ((with_reducible refine gate_callee (f := 69) rfl ?_); refine gl (some 10) Try.func69 #[.agg #[.int .i64 a0_0, .int .i64 a0_1, .slice A0_2 l0_2.length c0_2]] ?_; (with_reducible refine (spec_l2Own.calls a0_0 a0_1 _ _ l0_2 t104 t105 t106 _ ?side1 ?side2 A3.out).mono ?_); (case side1 => exact pC (Kd.C_below HR0_2.out HB.out)); (case side2 => exact HC0_2.out); rintro e w10 ⟨v107, rfl, ho0, hb⟩; refine ⟨_, rfl, ?_⟩; have HO108 := aK (Kd.R_lower ho0 (below_size (pS HB.out))); replace BK101 := bB BK101 hb; replace BK102 := bB BK102 hb; replace BK103 := bB BK103 hb; replace HB := bS HB hb; (try clear hb); (try clear ho0)) | ((with_reducible refine gate_dst (N := 5) rfl ?_); refine bxe (cs := #[.int .i64 0, .int .i64 0, .slice none 0 0]) (t := 26) ?_; intro gb109 hg w11 hbox hb; replace HO108 := aK (Kd.R_below (pR HO108.out) hb); have BK109 := aK (hbox); have GW109 := aK (gE hg (pS HB.out)); have GE109 := GW109; obtain ⟨NB101_109, NB109_101⟩ := nb hg (pB BK101.out); obtain ⟨NB102_109, NB109_102⟩ := nb hg (pB BK102.out); obtain ⟨NB103_109, NB109_103⟩ := nb hg (pB BK103.out); replace BK101 := bB BK101 hb; replace BK102 := bB BK102 hb; replace BK103 := bB BK103 hb; replace HB := bS HB hb; clear hb hbox hg; obtain ⟨hnb12, hnc12⟩ := nB NB109_101; obtain ⟨hnb13, hnc13⟩ := nB NB109_102; obtain ⟨hnb14, hnc14⟩ := nB NB109_103; obtain ⟨z15_0, z15_1, z15_2, y15_0, y15_1, y15_2⟩ := bc3 BK109.out; obtain ⟨Ao16, co16, eo16⟩ := Kd.R_slice HO108.out; subst eo16))
 go_loopg [6] k (fun kq v6 w' => ∃ (x6_1 : Int) (x110002_1 : List Int) (u110002 : Value), v6 = .int .i64 x6_1 ∧ Aside0 (spec_l11Move.l0 kq x6_1 a0_0 a0_1 l0_2 a1_0 a1_1 t104 t105 x110002_1 = some (r1, r2, r3)) ∧ Aside0 (kq ≤ k) ∧ Aside0 (Kd.R (Kd.int .i64) 3 w' w.heap.size (fun _ => True) u110002 x110002_1) ∧ Aside0 (w'.heap[gb101]? = some (.cells #[.int .i64 a0_0, .int .i64 a0_1, (.slice A0_2 l0_2.length c0_2)] 26 (0, 0))) ∧ Aside0 (w'.heap[gb102]? = some (.cells #[.int .i64 a1_0, .int .i64 a1_1] 33 (0, 0))) ∧ Aside0 (w'.heap[gb103]? = some (.cells #[.int .i64 0, .int .i64 0, (.slice none 0 0)] 26 (0, 0))) ∧ Aside0 (w'.heap[gb109]? = some (.cells #[.int .i64 t104, .int .i64 t105, u110002] 26 (0, 0))) ∧ Aside0 (Below w.heap.size w w'))
 case atStart => exact ⟨(0), (t106), (.slice Ao16 t106.length co16), (by first | rfl | (simp; done) | (simp [*]; done)), H', ⟨Nat.le_refl _⟩, ⟨pR (Kd.R_mono (rF3 HO108.out BK109.out (.int .i64 t104) (.int .i64 t105) (.slice Ao16 t106.length co16)) (fun _ h => trivial))⟩, ⟨by refine bk ?_; refine blk_far ?_ NB101_109.out _; refine bk ?_; refine blk_far ?_ NB101_109.out _; refine bk ?_; refine blk_far ?_ NB101_109.out _; refine bk ?_; exact BK101.out⟩, ⟨by refine bk ?_; refine blk_far ?_ NB102_109.out _; refine bk ?_; refine blk_far ?_ NB102_109.out _; refine bk ?_; refine blk_far ?_ NB102_109.out _; refine bk ?_; exact BK102.out⟩, ⟨by refine bk ?_; refine blk_far ?_ NB103_109.out _; refine bk ?_; refine blk_far ?_ NB103_109.out _; refine bk ?_; refine blk_far ?_ NB103_109.out _; refine bk ?_; exact BK103.out⟩, ⟨by refine bk ?_; refine blk_put (cs := #[.int .i64 t104, .int .i64 t105, .slice none 0 0]) ?_ 2 _ rfl; refine bk ?_; refine blk_put (cs := #[.int .i64 t104, .int .i64 0, .slice none 0 0]) ?_ 1 _ rfl; refine bk ?_; refine blk_put (cs := #[.int .i64 0, .int .i64 0, .slice none 0 0]) ?_ 0 _ rfl; refine bk ?_; exact BK109.out⟩, ⟨pT HB.out⟩⟩
 case round =>
  clear H'
  try clear z15_0
  try clear z15_1
  try clear z15_2
  try clear z9_0
  try clear z9_1
  try clear z9_2
  try clear y15_0
  try clear y15_1
  try clear y15_2
  try clear y9_0
  try clear y9_1
  try clear y9_2
  obtain ⟨x6_1, x110002_1, u110002, rfl, HA, HK1, HO_110002, BK101, BK102, BK103, BK109, HB⟩ := hrel
  cases gk with
  | zero => exact absurd HA.out (by simp [spec_l11Move.l0])
  | succ k1 =>
   have H := HA.out; clear HA
   simp only [spec_l11Move.l0] at H
   by_cases c17 : x6_1 < a0_1
   rotate_left
   ·
    rw [if_neg c17] at H
    have c17b0 : decide (x6_1 < a0_1) = false := decide_eq_false c17
    clear c17
    simp only [Option.some.injEq, Prod.mk.injEq] at H
    obtain ⟨rfl, rfl, rfl⟩ := H; obtain ⟨hnb67, hnc67⟩ := nB NB101_102; obtain ⟨hnb68, hnc68⟩ := nB NB101_103; obtain ⟨hnb69, hnc69⟩ := nB NB101_109; obtain ⟨z70_0, z70_1, z70_2, y70_0, y70_1, y70_2⟩ := bc3 BK101.out; obtain ⟨hnb71, hnc71⟩ := nB NB109_102; obtain ⟨hnb72, hnc72⟩ := nB NB109_103; obtain ⟨z73_0, z73_1, z73_2, y73_0, y73_1, y73_2⟩ := bc3 BK109.out; obtain ⟨hnb74, hnc74⟩ := nB NB103_102; obtain ⟨z75_0, z75_1, z75_2, y75_0, y75_1, y75_2⟩ := bc3 BK103.out; obtain ⟨Ao76, co76, eo76⟩ := Kd.R_slice HO_110002.out; subst eo76
    go_wp2
    refine bodyPost_ret (results_cell_row rfl _ _ gb103 26 #[.int .i64 t104, .int .i64 t105, .slice Ao76 x110002_1.length co76] (0, 0) _ rfl (by refine bk ?_; refine blk_put (cs := #[.int .i64 t104, .int .i64 t105, .slice none 0 0]) ?_ 2 _ rfl; refine bk ?_; refine blk_put (cs := #[.int .i64 t104, .int .i64 0, .slice none 0 0]) ?_ 1 _ rfl; refine bk ?_; refine blk_put (cs := #[.int .i64 0, .int .i64 0, .slice none 0 0]) ?_ 0 _ rfl; refine bk ?_; exact BK103.out) Try.underlying26 rfl (by kernel_rfl)) rfl ?_
    exact ⟨_, er, by (with_reducible repeat (first | apply Kd.R_alloc | apply Kd.R_drewN | apply Kd.R_drew)); exact Kd.R_mono (rF3 HO_110002.out BK103.out (.int .i64 t104) (.int .i64 t105) (.slice Ao76 x110002_1.length co76)) (fun _ h => trivial), pT HB.out⟩
   rw [if_pos c17] at H
   have c17b0 : decide (x6_1 < a0_1) = true := decide_eq_true c17
   clear c17; have H' := Aside0.mk H; clear H; obtain ⟨hnb18, hnc18⟩ := nB NB101_102; obtain ⟨hnb19, hnc19⟩ := nB NB101_103; obtain ⟨hnb20, hnc20⟩ := nB NB101_109; obtain ⟨z21_0, z21_1, z21_2, y21_0, y21_1, y21_2⟩ := bc3 BK101.out
   go_wp2
   go_loopg [7] k1 (fun kq v7 w' => ∃ (x7_2 : Int) (x110002_2 : List Int) (u110002 : Value), v7 = .int .i64 x7_2 ∧ Aside0 (spec_l11Move.l1 kq x6_1 x7_2 a0_0 a0_1 l0_2 a1_0 a1_1 t104 t105 x110002_2 = some (r1, r2, r3)) ∧ Aside0 (kq ≤ k1) ∧ Aside0 (Kd.R (Kd.int .i64) 3 w' w.heap.size (fun _ => True) u110002 x110002_2) ∧ Aside0 (w'.heap[gb101]? = some (.cells #[.int .i64 a0_0, .int .i64 a0_1, (.slice A0_2 l0_2.length c0_2)] 26 (0, 0))) ∧ Aside0 (w'.heap[gb102]? = some (.cells #[.int .i64 a1_0, .int .i64 a1_1] 33 (0, 0))) ∧ Aside0 (w'.heap[gb103]? = some (.cells #[.int .i64 0, .int .i64 0, (.slice none 0 0)] 26 (0, 0))) ∧ Aside0 (w'.heap[gb109]? = some (.cells #[.int .i64 t104, .int .i64 t105, u110002] 26 (0, 0))) ∧ Aside0 (Below w.heap.size w w'))
   case atStart => exact ⟨(0), (x110002_1), (u110002), (by first | rfl | (simp; done) | (simp [*]; done)), H', ⟨Nat.le_refl _⟩, ⟨pR HO_110002.out⟩, ⟨by refine bk ?_; exact BK101.out⟩, ⟨by refine bk ?_; exact BK102.out⟩, ⟨by refine bk ?_; exact BK103.out⟩, ⟨by refine bk ?_; exact BK109.out⟩, ⟨pT HB.out⟩⟩
   case round =>
    clear H'
    try clear c17b0
    try clear z21_0
    try clear z21_1
    try clear z21_2
    try clear y21_0
    try clear y21_1
    try clear y21_2
    obtain ⟨x7_2, x110002_2, u110002, rfl, HA, HK2, HO_110002, BK101, BK102, BK103, BK109, HB⟩ := hrel
    cases gk with
    | zero => exact absurd HA.out (by simp [spec_l11Move.l1])
    | succ k2 =>
     have H := HA.out; clear HA
     simp only [spec_l11Move.l1] at H
     by_cases c22 : x7_2 < a0_0
     rotate_left
     ·
      rw [if_neg c22] at H
      have c22b0 : decide (x7_2 < a0_0) = false := decide_eq_false c22
      clear c22; have H' := Aside0.mk H; clear H; obtain ⟨hnb63, hnc63⟩ := nB NB101_102; obtain ⟨hnb64, hnc64⟩ := nB NB101_103; obtain ⟨hnb65, hnc65⟩ := nB NB101_109; obtain ⟨z66_0, z66_1, z66_2, y66_0, y66_1, y66_2⟩ := bc3 BK101.out
      go_wp2
      go_roundg k2
      case measure => have := HK1.out; have := HK2.out; omega
      case rel => exact ⟨(wrap64 (x6_1 + 1)), (x110002_2), (u110002), (by first | rfl | (simp; done) | (simp [*]; done)), H', ⟨by have := HK1.out; have := HK2.out; omega⟩, ⟨pR HO_110002.out⟩, ⟨by refine bk ?_; exact BK101.out⟩, ⟨by refine bk ?_; exact BK102.out⟩, ⟨by refine bk ?_; exact BK103.out⟩, ⟨by refine bk ?_; exact BK109.out⟩, ⟨pT HB.out⟩⟩
     rw [if_pos c22] at H
     have c22b0 : decide (x7_2 < a0_0) = true := decide_eq_true c22
     clear c22; replace H := Option.bind_eq_some_iff.mp H; obtain ⟨t110, A230, H⟩ := H
     replace H : (if t110 = true then ((spec_l2At.f a0_0 a0_1 l0_2 (wrap64 (x7_2 - a1_0)) (wrap64 (x6_1 - a1_1))).bind fun t111 => (if 0 ≤ (wrap64 ((wrap64 (x6_1 * a0_0)) + x7_2)) then (if (wrap64 ((wrap64 (x6_1 * a0_0)) + x7_2)) < (x110002_2.length : Int) then (spec_l11Move.l1 k2 x6_1 (wrap64 (x7_2 + 1)) a0_0 a0_1 l0_2 a1_0 a1_1 t104 t105 (x110002_2.set ((wrap64 ((wrap64 (x6_1 * a0_0)) + x7_2)) : Int).toNat t111)) else (none)) else (none))) else (if 0 ≤ (wrap64 ((wrap64 (x6_1 * a0_0)) + x7_2)) then (if (wrap64 ((wrap64 (x6_1 * a0_0)) + x7_2)) < (x110002_2.length : Int) then (spec_l11Move.l1 k2 x6_1 (wrap64 (x7_2 + 1)) a0_0 a0_1 l0_2 a1_0 a1_1 t104 t105 (x110002_2.set ((wrap64 ((wrap64 (x6_1 * a0_0)) + x7_2)) : Int).toNat (-9999))) else (none)) else (none))) = some (r1, r2, r3) := H
     have A23 := Aside0.mk A230; clear A230
     by_cases c24 : t110 = true
     rotate_left
     ·
      replace c24 := Bool.eq_false_iff.mpr c24; subst c24
      have H1 : (if 0 ≤ (wrap64 ((wrap64 (x6_1 * a0_0)) + x7_2)) then (if (wrap64 ((wrap64 (x6_1 * a0_0)) + x7_2)) < (x110002_2.length : Int) then (spec_l11Move.l1 k2 x6_1 (wrap64 (x7_2 + 1)) a0_0 a0_1 l0_2 a1_0 a1_1 t104 t105 (x110002_2.set ((wrap64 ((wrap64 (x6_1 * a0_0)) + x7_2)) : Int).toNat (-9999))) else (none)) else (none)) = some (r1, r2, r3) := by rw [if_neg (show ¬ (false = true) by decide)] at H; exact H
      clear H; have H := H1; clear H1
      obtain ⟨ji46, hji46⟩ : ∃ j_ : Int, (wrap64 ((wrap64 (x6_1 * a0_0)) + x7_2)) = j_ := ⟨_, rfl⟩
      replace H : (if 0 ≤ (ji46) then (if (ji46) < (x110002_2.length : Int) then (spec_l11Move.l1 k2 x6_1 (wrap64 (x7_2 + 1)) a0_0 a0_1 l0_2 a1_0 a1_1 t104 t105 (x110002_2.set ((ji46) : Int).toNat (-9999))) else (none)) else (none)) = some (r1, r2, r3) := by first | (rw [hji46] at H; exact H) | (simp only [hji46] at H ⊢; exact H)
      (try rw [hji46] at A23)
      have hji46w : (IntKind.i64.wrap ((wrap64 (x6_1 * a0_0)) + x7_2)) = ji46 := (i64_w _).trans hji46
      by_cases c47 : 0 ≤ (ji46)
      rotate_left
      ·
       rw [if_neg c47] at H
       exact absurd H (by simp)
      rw [if_pos c47] at H
      have c47b0 : decide (0 ≤ (ji46)) = true := decide_eq_true c47
      clear c47
      by_cases c48 : (ji46) < (x110002_2.length : Int)
      rotate_left
      ·
       rw [if_neg c48] at H
       exact absurd H (by simp)
      rw [if_pos c48] at H
      have c48b0 : decide ((ji46) < (x110002_2.length : Int)) = true := decide_eq_true c48
      clear c48
      obtain ⟨y113, hy113⟩ : ∃ y_ : List Int, y_ = (x110002_2.set ((ji46) : Int).toNat (-9999)) := ⟨_, rfl⟩
      replace H : (spec_l11Move.l1 k2 x6_1 (wrap64 (x7_2 + 1)) a0_0 a0_1 l0_2 a1_0 a1_1 t104 t105 y113) = some (r1, r2, r3) := by first | (rw [hy113]; with_reducible exact H) | (have H2_ := (Option.bind_some _ _).symm.trans H; rw [hy113]; with_reducible exact H2_) | (have H2_ := (Option.bind_some _ _).symm.trans H; with_reducible exact H2_) | with_reducible exact H | (rw [hy113]; exact H) | exact H
      have Ny113 := Aside0.mk hy113; clear hy113; have H' := Aside0.mk H; clear H; obtain ⟨hnb50, hnc50⟩ := nB NB101_102; obtain ⟨hnb51, hnc51⟩ := nB NB101_103; obtain ⟨hnb52, hnc52⟩ := nB NB101_109; obtain ⟨z53_0, z53_1, z53_2, y53_0, y53_1, y53_2⟩ := bc3 BK101.out; obtain ⟨hnb54, hnc54⟩ := nB NB102_103; obtain ⟨hnb55, hnc55⟩ := nB NB102_109; obtain ⟨z56_0, z56_1, y56_0, y56_1⟩ := bc2 BK102.out
      go_wp2_with (first | ((with_reducible refine gate_callee (f := 47) rfl ?_); refine gl (some 32) Try.func47 #[.agg #[.int .i64 a0_0, .int .i64 a0_1, .slice A0_2 l0_2.length c0_2], .int .i64 (wrap64 (x7_2 - a1_0)), .int .i64 (wrap64 (x6_1 - a1_1))] ?_; (with_reducible refine (spec_l2Has.calls a0_0 a0_1 _ _ l0_2 (wrap64 (x7_2 - a1_0)) (wrap64 (x6_1 - a1_1)) false _ ?side1 ?side2 A23.out).mono ?_); (case side1 => exact pC (Kd.C_below HR0_2.out HB.out)); (case side2 => exact HC0_2.out); rintro e w57 ⟨rfl, hb⟩; refine ⟨_, rfl, ?_⟩; replace HO_110002 := aK (Kd.R_below (pR HO_110002.out) hb); replace BK101 := bB BK101 hb; replace BK102 := bB BK102 hb; replace BK103 := bB BK103 hb; replace BK109 := bB BK109 hb; replace HB := bS HB hb; (try clear hb); obtain ⟨hnb58, hnc58⟩ := nB NB109_103; obtain ⟨z59_0, z59_1, z59_2, y59_0, y59_1, y59_2⟩ := bc3 BK109.out; obtain ⟨z60_0, z60_1, z60_2, y60_0, y60_1, y60_2⟩ := bc3 BK101.out; have p49 : 0 ≤ ((ji46) : Int) := of_decide_eq_true (by first | (with_reducible assumption) | assumption); have q49 : ((ji46) : Int) < ((x110002_2.length : Int) : Int) := of_decide_eq_true (by first | (with_reducible assumption) | assumption); obtain ⟨go49, co49, eo49, gb49, gl49, cl49, HG49⟩ := Kd.R_form HO_110002.out (by omega); (first | cases eo49 | (injection eo49 with ea_ en_ ec_; (first | subst ea_ | (injection ea_ with ea_; subst ea_)); subst ec_; clear en_)); have GB49 := Aside0.mk gb49; have GG49 := Aside0.mk HG49; clear gb49 gl49 HG49; obtain ⟨hx49_0, hf49_0⟩ := Kd.R_celln 0 HO_110002.out ((ji46) : Int) p49 q49; replace p49 := eq_true p49; replace q49 := eq_true q49; obtain ⟨hy61_, hz61_⟩ := Kd.R_celln 0 HO_110002.out ((ji46) : Int) (of_decide_eq_true (by first | (with_reducible assumption) | assumption)) (of_decide_eq_true (by first | (with_reducible assumption) | assumption)); have HP61 := Kd.R_putg HO_110002.out ((ji46) : Int) (-9999)) | ((with_reducible refine gate_store (t := 3) (p := 52) rfl ?_); refine store_event (t := 3) (p := 52) (v := ?vo_w62) (w1 := (w57.setCell ⟨go49, ((ji46) : Int).toNat, none⟩ (.int .i64 (-9999)))) ?hg ?ho ?hn ?hr ?_; (case ho => rfl); (case hg => rfl); (case hn => rfl); (case hr => first | (go_simp; done) | (go_simp; rfl)); intro w62 hw; have hg : w57.grownBy w62 (some go49) := (by rw [hw]; exact HP61.2); have hp_ : Kd.R (Kd.int .i64) 3 w62 w.heap.size (fun _ => True) (.slice (some ⟨go49, 0, none⟩) x110002_2.length co49) y113 := (by rw [hw, Ny113.out]; exact HP61.1); clear HP61; have n0_ := aK (hp_); replace BK101 := aK (blk_grown (pB BK101.out) hg (Kd.R_ne HO_110002.out BK101.out (by decide))); replace BK102 := aK (blk_grown (pB BK102.out) hg (Kd.R_ne HO_110002.out BK102.out (by decide))); replace BK103 := aK (blk_grown (pB BK103.out) hg (Kd.R_ne HO_110002.out BK103.out (by decide))); replace BK109 := aK (blk_grown (pB BK109.out) hg (Kd.R_ne HO_110002.out BK109.out (by decide))); replace HB := aK ((by rw [hw]; exact below_set (HB.out) GB49.out : Below w.heap.size w w62)); clear HO_110002; have HO_110002 := n0_; clear n0_; clear hg hw hp_))
      go_roundg k2
      case measure => have := HK1.out; have := HK2.out; omega
      case rel => exact ⟨(wrap64 (x7_2 + 1)), (y113), (.slice (some ⟨go49, 0, none⟩) x110002_2.length co49), (by first | rfl | (simp; done) | (simp [*]; done)), H', ⟨by have := HK1.out; have := HK2.out; omega⟩, ⟨pR HO_110002.out⟩, ⟨by refine bk ?_; exact BK101.out⟩, ⟨by refine bk ?_; exact BK102.out⟩, ⟨by refine bk ?_; exact BK103.out⟩, ⟨by refine bk ?_; exact BK109.out⟩, ⟨pT HB.out⟩⟩
     subst c24
     have H1 : ((spec_l2At.f a0_0 a0_1 l0_2 (wrap64 (x7_2 - a1_0)) (wrap64 (x6_1 - a1_1))).bind fun t111 => (if 0 ≤ (wrap64 ((wrap64 (x6_1 * a0_0)) + x7_2)) then (if (wrap64 ((wrap64 (x6_1 * a0_0)) + x7_2)) < (x110002_2.length : Int) then (spec_l11Move.l1 k2 x6_1 (wrap64 (x7_2 + 1)) a0_0 a0_1 l0_2 a1_0 a1_1 t104 t105 (x110002_2.set ((wrap64 ((wrap64 (x6_1 * a0_0)) + x7_2)) : Int).toNat t111)) else (none)) else (none))) = some (r1, r2, r3) := by rw [if_pos rfl] at H; exact H
     clear H; have H := H1; clear H1; replace H := Option.bind_eq_some_iff.mp H; obtain ⟨t111, A250, H⟩ := H
     replace H : (if 0 ≤ (wrap64 ((wrap64 (x6_1 * a0_0)) + x7_2)) then (if (wrap64 ((wrap64 (x6_1 * a0_0)) + x7_2)) < (x110002_2.length : Int) then (spec_l11Move.l1 k2 x6_1 (wrap64 (x7_2 + 1)) a0_0 a0_1 l0_2 a1_0 a1_1 t104 t105 (x110002_2.set ((wrap64 ((wrap64 (x6_1 * a0_0)) + x7_2)) : Int).toNat t111)) else (none)) else (none)) = some (r1, r2, r3) := H
     have A25 := Aside0.mk A250; clear A250
     obtain ⟨ji26, hji26⟩ : ∃ j_ : Int, (wrap64 ((wrap64 (x6_1 * a0_0)) + x7_2)) = j_ := ⟨_, rfl⟩
     replace H : (if 0 ≤ (ji26) then (if (ji26) < (x110002_2.length : Int) then (spec_l11Move.l1 k2 x6_1 (wrap64 (x7_2 + 1)) a0_0 a0_1 l0_2 a1_0 a1_1 t104 t105 (x110002_2.set ((ji26) : Int).toNat t111)) else (none)) else (none)) = some (r1, r2, r3) := by first | (rw [hji26] at H; exact H) | (simp only [hji26] at H ⊢; exact H)
     (try rw [hji26] at A23)
     (try rw [hji26] at A25)
     have hji26w : (IntKind.i64.wrap ((wrap64 (x6_1 * a0_0)) + x7_2)) = ji26 := (i64_w _).trans hji26
     by_cases c27 : 0 ≤ (ji26)
     rotate_left
     ·
      rw [if_neg c27] at H
      exact absurd H (by simp)
     rw [if_pos c27] at H
     have c27b0 : decide (0 ≤ (ji26)) = true := decide_eq_true c27
     clear c27
     by_cases c28 : (ji26) < (x110002_2.length : Int)
     rotate_left
     ·
      rw [if_neg c28] at H
      exact absurd H (by simp)
     rw [if_pos c28] at H
     have c28b0 : decide ((ji26) < (x110002_2.length : Int)) = true := decide_eq_true c28
     clear c28
     obtain ⟨y112, hy112⟩ : ∃ y_ : List Int, y_ = (x110002_2.set ((ji26) : Int).toNat t111) := ⟨_, rfl⟩
     replace H : (spec_l11Move.l1 k2 x6_1 (wrap64 (x7_2 + 1)) a0_0 a0_1 l0_2 a1_0 a1_1 t104 t105 y112) = some (r1, r2, r3) := by first | (rw [hy112]; with_reducible exact H) | (have H2_ := (Option.bind_some _ _).symm.trans H; rw [hy112]; with_reducible exact H2_) | (have H2_ := (Option.bind_some _ _).symm.trans H; with_reducible exact H2_) | with_reducible exact H | (rw [hy112]; exact H) | exact H
     have Ny112 := Aside0.mk hy112; clear hy112; have H' := Aside0.mk H; clear H; obtain ⟨hnb30, hnc30⟩ := nB NB101_102; obtain ⟨hnb31, hnc31⟩ := nB NB101_103; obtain ⟨hnb32, hnc32⟩ := nB NB101_109; obtain ⟨z33_0, z33_1, z33_2, y33_0, y33_1, y33_2⟩ := bc3 BK101.out; obtain ⟨hnb34, hnc34⟩ := nB NB102_103; obtain ⟨hnb35, hnc35⟩ := nB NB102_109; obtain ⟨z36_0, z36_1, y36_0, y36_1⟩ := bc2 BK102.out
     go_wp2_with (first | ((with_reducible refine gate_callee (f := 47) rfl ?_); refine gl (some 32) Try.func47 #[.agg #[.int .i64 a0_0, .int .i64 a0_1, .slice A0_2 l0_2.length c0_2], .int .i64 (wrap64 (x7_2 - a1_0)), .int .i64 (wrap64 (x6_1 - a1_1))] ?_; (with_reducible refine (spec_l2Has.calls a0_0 a0_1 _ _ l0_2 (wrap64 (x7_2 - a1_0)) (wrap64 (x6_1 - a1_1)) true _ ?side1 ?side2 A23.out).mono ?_); (case side1 => exact pC (Kd.C_below HR0_2.out HB.out)); (case side2 => exact HC0_2.out); rintro e w37 ⟨rfl, hb⟩; refine ⟨_, rfl, ?_⟩; replace HO_110002 := aK (Kd.R_below (pR HO_110002.out) hb); replace BK101 := bB BK101 hb; replace BK102 := bB BK102 hb; replace BK103 := bB BK103 hb; replace BK109 := bB BK109 hb; replace HB := bS HB hb; (try clear hb); obtain ⟨z38_0, z38_1, z38_2, y38_0, y38_1, y38_2⟩ := bc3 BK101.out; obtain ⟨z39_0, z39_1, y39_0, y39_1⟩ := bc2 BK102.out) | ((with_reducible refine gate_callee (f := 48) rfl ?_); refine gl (some 42) Try.func48 #[.agg #[.int .i64 a0_0, .int .i64 a0_1, .slice A0_2 l0_2.length c0_2], .int .i64 (wrap64 (x7_2 - a1_0)), .int .i64 (wrap64 (x6_1 - a1_1))] ?_; (with_reducible refine (spec_l2At.calls a0_0 a0_1 _ _ l0_2 (wrap64 (x7_2 - a1_0)) (wrap64 (x6_1 - a1_1)) t111 _ ?side1 ?side2 A25.out).mono ?_); (case side1 => exact pC (Kd.C_below HR0_2.out HB.out)); (case side2 => exact HC0_2.out); rintro e w40 ⟨rfl, hb⟩; refine ⟨_, rfl, ?_⟩; replace HO_110002 := aK (Kd.R_below (pR HO_110002.out) hb); replace BK101 := bB BK101 hb; replace BK102 := bB BK102 hb; replace BK103 := bB BK103 hb; replace BK109 := bB BK109 hb; replace HB := bS HB hb; (try clear hb); obtain ⟨hnb41, hnc41⟩ := nB NB109_103; obtain ⟨z42_0, z42_1, z42_2, y42_0, y42_1, y42_2⟩ := bc3 BK109.out; obtain ⟨z43_0, z43_1, z43_2, y43_0, y43_1, y43_2⟩ := bc3 BK101.out; have p29 : 0 ≤ ((ji26) : Int) := of_decide_eq_true (by first | (with_reducible assumption) | assumption); have q29 : ((ji26) : Int) < ((x110002_2.length : Int) : Int) := of_decide_eq_true (by first | (with_reducible assumption) | assumption); obtain ⟨go29, co29, eo29, gb29, gl29, cl29, HG29⟩ := Kd.R_form HO_110002.out (by omega); (first | cases eo29 | (injection eo29 with ea_ en_ ec_; (first | subst ea_ | (injection ea_ with ea_; subst ea_)); subst ec_; clear en_)); have GB29 := Aside0.mk gb29; have GG29 := Aside0.mk HG29; clear gb29 gl29 HG29; obtain ⟨hx29_0, hf29_0⟩ := Kd.R_celln 0 HO_110002.out ((ji26) : Int) p29 q29; replace p29 := eq_true p29; replace q29 := eq_true q29; obtain ⟨hy44_, hz44_⟩ := Kd.R_celln 0 HO_110002.out ((ji26) : Int) (of_decide_eq_true (by first | (with_reducible assumption) | assumption)) (of_decide_eq_true (by first | (with_reducible assumption) | assumption)); have HP44 := Kd.R_putg HO_110002.out ((ji26) : Int) t111) | ((with_reducible refine gate_store (t := 3) (p := 52) rfl ?_); refine store_event (t := 3) (p := 52) (v := ?vo_w45) (w1 := (w40.setCell ⟨go29, ((ji26) : Int).toNat, none⟩ (.int .i64 t111))) ?hg ?ho ?hn ?hr ?_; (case ho => rfl); (case hg => rfl); (case hn => rfl); (case hr => first | (go_simp; done) | (go_simp; rfl)); intro w45 hw; have hg : w40.grownBy w45 (some go29) := (by rw [hw]; exact HP44.2); have hp_ : Kd.R (Kd.int .i64) 3 w45 w.heap.size (fun _ => True) (.slice (some ⟨go29, 0, none⟩) x110002_2.length co29) y112 := (by rw [hw, Ny112.out]; exact HP44.1); clear HP44; have n0_ := aK (hp_); replace BK101 := aK (blk_grown (pB BK101.out) hg (Kd.R_ne HO_110002.out BK101.out (by decide))); replace BK102 := aK (blk_grown (pB BK102.out) hg (Kd.R_ne HO_110002.out BK102.out (by decide))); replace BK103 := aK (blk_grown (pB BK103.out) hg (Kd.R_ne HO_110002.out BK103.out (by decide))); replace BK109 := aK (blk_grown (pB BK109.out) hg (Kd.R_ne HO_110002.out BK109.out (by decide))); replace HB := aK ((by rw [hw]; exact below_set (HB.out) GB29.out : Below w.heap.size w w45)); clear HO_110002; have HO_110002 := n0_; clear n0_; clear hg hw hp_))
     go_roundg k2
     case measure => have := HK1.out; have := HK2.out; omega
     case rel => exact ⟨(wrap64 (x7_2 + 1)), (y112), (.slice (some ⟨go29, 0, none⟩) x110002_2.length co29), (by first | rfl | (simp; done) | (simp [*]; done)), H', ⟨by have := HK1.out; have := HK2.out; omega⟩, ⟨pR HO_110002.out⟩, ⟨by refine bk ?_; exact BK101.out⟩, ⟨by refine bk ?_; exact BK102.out⟩, ⟨by refine bk ?_; exact BK103.out⟩, ⟨by refine bk ?_; exact BK109.out⟩, ⟨pT HB.out⟩⟩
mutual
def spec_l1Cur_moved.j0 : Nat → List Int → Int → Int → Int → Int → List Int → Option (Int × Int × List Int × Int × Int × List Int × Int × Int)
 | 0, _, _, _, _, _, _ => none
 | k + 1, x1000, x1001, x1002, x111000, x111001, x111002 => (spec_l1Cur_like.f k x1000 x1001 x1002 x111000 x111001 x111002).bind fun bt121 => ((spec_l2Good.f k x111000 x111001 x111002).bind fun t129 => (if t129 = true then ((spec_l1Cur_one.f x1000 bt121.2.2.2.1 bt121.2.2.2.2 3).bind fun bt130 => (spec_l1Cur_moved.j1 k (!bt130.1) x1000 bt130.2.1 bt130.2.2 x111000 x111001 x111002 bt121.1 bt121.2.1 bt121.2.2.1)) else (spec_l1Cur_moved.j1 k false x1000 bt121.2.2.2.1 bt121.2.2.2.2 x111000 x111001 x111002 bt121.1 bt121.2.1 bt121.2.2.1)))
def spec_l1Cur_moved.j1 : Nat → Bool → List Int → Int → Int → Int → Int → List Int → Int → Int → List Int → Option (Int × Int × List Int × Int × Int × List Int × Int × Int)
 | 0, _, _, _, _, _, _, _, _, _, _ => none
 | k + 1, x22, x1000, x1001, x1002, x111000, x111001, x111002, x129000, x129001, x129002 => if x22 = true then ((spec_l1Cur_pick.f x1000 x1001 x1002 3).bind fun bt133 => ((spec_l1Cur_pick.f x1000 bt133.2.1 bt133.2.2 3).bind fun bt136 => ((spec_l11Move.f k x111000 x111001 x111002 (wrap64 (bt133.1 - 1)) (wrap64 (bt136.1 - 1))).bind fun bt139 => (spec_l1Cur_moved.l0 k 0 x1000 bt136.2.1 bt136.2.2 x111000 x111001 x111002 bt139.1 bt139.2.1 bt139.2.2)))) else (some (x111000, x111001, x111002, x129000, x129001, x129002, x1001, x1002))
def spec_l1Cur_moved.l0 : Nat → Int → List Int → Int → Int → Int → Int → List Int → Int → Int → List Int → Option (Int × Int × List Int × Int × Int × List Int × Int × Int)
 | 0, _, _, _, _, _, _, _, _, _, _ => none
 | k + 1, x6, x1000, x1001, x1002, x111000, x111001, x111002, x129000, x129001, x129002 => if x6 < (x129002.length : Int) then (if 0 ≤ x6 then (if (rd x129002 x6) = (-9999) then ((spec_l1Cur_pick.f x1000 x1001 x1002 30).bind fun bt145 => (spec_l1Cur_moved.l0 k (wrap64 (x6 + 1)) x1000 bt145.2.1 bt145.2.2 x111000 x111001 x111002 x129000 x129001 (x129002.set (x6 : Int).toNat bt145.1))) else (spec_l1Cur_moved.l0 k (wrap64 (x6 + 1)) x1000 x1001 x1002 x111000 x111001 x111002 x129000 x129001 x129002)) else (none)) else (some (x111000, x111001, x111002, x129000, x129001, x129002, x1001, x1002))
end
def spec_l1Cur_moved.f (k : Nat) (s0_0 : List Int) (s0_1 : Int) (s0_2 : Int) : Option (Int × Int × List Int × Int × Int × List Int × Int × Int) := (spec_l1Cur_field.f k s0_0 s0_1 s0_2).bind fun bt103 => ((spec_l1Cur_one.f s0_0 bt103.2.2.2.1 bt103.2.2.2.2 16).bind fun bt111 => (if bt111.1 = true then ((spec_l1Cur_anyField.f k s0_0 bt111.2.1 bt111.2.2).bind fun bt114 => (spec_l1Cur_moved.j0 k s0_0 bt114.2.2.2.1 bt114.2.2.2.2 bt114.1 bt114.2.1 bt114.2.2.1)) else (spec_l1Cur_moved.j0 k s0_0 bt111.2.1 bt111.2.2 bt103.1 bt103.2.1 bt103.2.2.1)))
def spec_l1Cur_moved.T6 : Bool × List (List Nat × List Nat) := (true, [([], []), ([], []), ([1], [1]), ([2], [2]), ([], []), ([4, 2], [4]), ([5], [5]), ([3, 6], [3, 6]), ([0, 7, 5], [0, 7]), ([8, 8, 0, 1, 2, 3, 4, 5, 6, 7, 8], [8])])
def spec_l1Cur_moved.B6 : List Nat := [0, 0, 2, 6, 0, 22, 54, 126, 255, 511]
theorem spec_l1Cur_moved.tab6 : rtab .any (opsOf Try.f24 6) = spec_l1Cur_moved.T6 := by kernel_rfl
theorem spec_l1Cur_moved.bits6 : waitsOk spec_l1Cur_moved.T6.2 spec_l1Cur_moved.B6 = true := by kernel_rfl
theorem spec_l1Cur_moved.calls (k : Nat) (g : Nat) (s0_0 : List Int) (s0_1 : Int) (s0_2 : Int) (r1 : Int) (r2 : Int) (r3 : List Int) (r4 : Int) (r5 : Int) (r6 : List Int) (r7 : Int) (r8 : Int) (w0 w : World) (hI : IsS58 w0 w g s0_0 s0_1 s0_2) (hB : Below w0.heap.size w0 w) (h : spec_l1Cur_moved.f k s0_0 s0_1 s0_2 = some (r1, r2, r3, r4, r5, r6, r7, r8)) :
  Calls Try.prog 24 #[.pointer (some ⟨g, 0, none⟩)] w fun e w' => ∃ v2_ v5_ : Value, e = .returned (.tuple #[.agg #[.int .i64 r1, .int .i64 r2, v2_], .agg #[.int .i64 r4, .int .i64 r5, v5_]]) ∧ Kd.Q (Kd.int .i64) 3 w' w.heap.size (fun k_ => some k_ ≠ (v5_ : Value).ownBlock) v2_ r3 ∧ Kd.Q (Kd.int .i64) 3 w' w.heap.size (fun k_ => some k_ ≠ (v2_ : Value).ownBlock) v5_ r6 ∧ IsS58 w0 w' g s0_0 r7 r8 ∧ Below w0.heap.size w0 w' ∧ KeepBut w w' g none := by
 have hu26 := Try.underlying26
 have hu33 := Try.underlying33
 have HI0 := Aside0.mk hI
 have HK := aK (KeepBut.refl w g none)
 have HL := Aside0.mk hB.size
 clear hI
 have HW0 := Aside0.mk hB.size
 have HB := Aside0.mk hB
 clear hB
 have H : ((spec_l1Cur_field.f k s0_0 s0_1 s0_2).bind fun bt103 => ((spec_l1Cur_one.f s0_0 bt103.2.2.2.1 bt103.2.2.2.2 16).bind fun bt111 => (if bt111.1 = true then ((spec_l1Cur_anyField.f k s0_0 bt111.2.1 bt111.2.2).bind fun bt114 => (spec_l1Cur_moved.j0 k s0_0 bt114.2.2.2.1 bt114.2.2.2.2 bt114.1 bt114.2.1 bt114.2.2.1)) else (spec_l1Cur_moved.j0 k s0_0 bt111.2.1 bt111.2.2 bt103.1 bt103.2.1 bt103.2.2.1)))) = some (r1, r2, r3, r4, r5, r6, r7, r8) := h
 clear h
 replace H := Option.bind_eq_some_iff.mp H
 obtain ⟨⟨t103, t104, t105, t108, t109⟩, A20, H⟩ := H
 replace H : ((spec_l1Cur_one.f s0_0 t108 t109 16).bind fun bt111 => (if bt111.1 = true then ((spec_l1Cur_anyField.f k s0_0 bt111.2.1 bt111.2.2).bind fun bt114 => (spec_l1Cur_moved.j0 k s0_0 bt114.2.2.2.1 bt114.2.2.2.2 bt114.1 bt114.2.1 bt114.2.2.1)) else (spec_l1Cur_moved.j0 k s0_0 bt111.2.1 bt111.2.2 t103 t104 t105))) = some (r1, r2, r3, r4, r5, r6, r7, r8) := H
 have A2 := Aside0.mk A20
 clear A20
 replace H := Option.bind_eq_some_iff.mp H
 obtain ⟨⟨t111, t112, t113⟩, A30, H⟩ := H
 replace H : (if t111 = true then ((spec_l1Cur_anyField.f k s0_0 t112 t113).bind fun bt114 => (spec_l1Cur_moved.j0 k s0_0 bt114.2.2.2.1 bt114.2.2.2.2 bt114.1 bt114.2.1 bt114.2.2.1)) else (spec_l1Cur_moved.j0 k s0_0 t112 t113 t103 t104 t105)) = some (r1, r2, r3, r4, r5, r6, r7, r8) := H
 have A3 := Aside0.mk A30
 clear A30
 have HC4 := Aside0.mk H
 clear H
 go_enter Try.func24, Try.ntmps24
 go_upto_if 10 with (first | ((with_reducible refine gate_dst (N := 2) rfl ?_); refine bxe (cs := #[.int .i64 0, .int .i64 0, .slice none 0 0]) (t := 26) ?_; intro gb101 hg w5 hbox hb; have n0_ := aK (IsS58.below (pI58 HI0.out) hb); have n1_ := aK (KeepBut.trans (pK HK.out) (KeepBut.of_below hb g none) (.inl rfl)); replace HB := aK (below_step ((pV HB.out (IsS58.ge HI0.out))) hb); have BK101 := aK (hbox); have GW101 := aK ((by rw [hg]; exact (keep_size (w := w) (g := g) (row := none) (pK HK.out)) : w.heap.size ≤ gb101)); have GE101 := aK ((Nat.le_trans HW0.out (by rw [hg]; exact (keep_size (w := w) (g := g) (row := none) (pK HK.out)) : w.heap.size ≤ gb101) : w0.heap.size ≤ gb101)); have NB0_101 := aK ((by rw [hg]; exact Nat.ne_of_lt (IsS58.lt (show IsS58 w0 _ g s0_0 s0_1 s0_2 from pI58 HI0.out)) : g ≠ gb101)); have NB101_0 := aK ((by rw [hg]; exact Nat.ne_of_gt (IsS58.lt (show IsS58 w0 _ g s0_0 s0_1 s0_2 from pI58 HI0.out)) : gb101 ≠ g)); clear HI0 HK; have HI0 := n0_; have HK := n1_; clear n0_ n1_; clear hb hbox hg) | ((with_reducible refine gate_dst (N := 3) rfl ?_); refine bxe (cs := #[.int .i64 0, .int .i64 0, .slice none 0 0]) (t := 26) ?_; intro gb102 hg w6 hbox hb; have n0_ := aK (IsS58.below (pI58 HI0.out) hb); have n2_ := aK (KeepBut.trans (pK HK.out) (KeepBut.of_below hb g none) (.inl rfl)); replace HB := aK (below_step ((pV HB.out (IsS58.ge HI0.out))) hb); have BK102 := aK (hbox); have GW102 := aK ((by rw [hg]; exact (keep_size (w := w) (g := g) (row := none) (pK HK.out)) : w.heap.size ≤ gb102)); have GE102 := aK ((Nat.le_trans HW0.out (by rw [hg]; exact (keep_size (w := w) (g := g) (row := none) (pK HK.out)) : w.heap.size ≤ gb102) : w0.heap.size ≤ gb102)); obtain ⟨NB101_102, NB102_101⟩ := nb hg (pB BK101.out); have NB0_102 := aK ((by rw [hg]; exact Nat.ne_of_lt (IsS58.lt (show IsS58 w0 _ g s0_0 s0_1 s0_2 from pI58 HI0.out)) : g ≠ gb102)); have NB102_0 := aK ((by rw [hg]; exact Nat.ne_of_gt (IsS58.lt (show IsS58 w0 _ g s0_0 s0_1 s0_2 from pI58 HI0.out)) : gb102 ≠ g)); replace BK101 := bB BK101 hb; clear HI0 HK; have HI0 := n0_; have HK := n2_; clear n0_ n2_; clear hb hbox hg) | ((with_reducible refine gate_callee (f := 39) rfl ?_); refine gl (some 8) Try.func39 #[.pointer (some ⟨g, 0, none⟩)] ?_; (with_reducible refine (spec_l1Cur_field.calls k g s0_0 s0_1 s0_2 t103 t104 t105 t108 t109 w0 _ ?side1 ?side2 A2.out).mono ?_); (case side1 => exact pI58 HI0.out); (case side2 => exact pV HB.out (IsS58.ge HI0.out)); rintro e w7 ⟨v106, rfl, ho0, hi, hb, hk⟩; refine ⟨_, rfl, ?_⟩; replace BK101 := aK (KeepBut.blk hk (pB BK101.out) NB101_0.out (by simp)); replace BK102 := aK (KeepBut.blk hk (pB BK102.out) NB102_0.out (by simp)); have HO107 := aK (Kd.R_lower ho0 (keep_size (w := w) (g := g) (row := none) (pK HK.out))); replace HK := aK (KeepBut.trans (pK HK.out) hk (.inl rfl)); replace HB := aK (hb); replace HI0 := aK (hi); (try clear hb); (try clear hk); (try clear hi); (try clear ho0)) | ((with_reducible refine gate_dst (N := 4) rfl ?_); refine bxe (cs := #[.int .i64 0, .int .i64 0, .slice none 0 0]) (t := 26) ?_; intro gb110 hg w8 hbox hb; replace HO107 := aK (Kd.R_below (pR HO107.out) hb); have n1_ := aK (IsS58.below (pI58 HI0.out) hb); have n4_ := aK (KeepBut.trans (pK HK.out) (KeepBut.of_below hb g none) (.inl rfl)); replace HB := aK (below_step ((pV HB.out (IsS58.ge HI0.out))) hb); have BK110 := aK (hbox); have GW110 := aK ((by rw [hg]; exact (keep_size (w := w) (g := g) (row := none) (pK HK.out)) : w.heap.size ≤ gb110)); have GE110 := aK ((Nat.le_trans HW0.out (by rw [hg]; exact (keep_size (w := w) (g := g) (row := none) (pK HK.out)) : w.heap.size ≤ gb110) : w0.heap.size ≤ gb110)); obtain ⟨NB101_110, NB110_101⟩ := nb hg (pB BK101.out); obtain ⟨NB102_110, NB110_102⟩ := nb hg (pB BK102.out); have NB0_110 := aK ((by rw [hg]; exact Nat.ne_of_lt (IsS58.lt (show IsS58 w0 _ g s0_0 t108 t109 from pI58 HI0.out)) : g ≠ gb110)); have NB110_0 := aK ((by rw [hg]; exact Nat.ne_of_gt (IsS58.lt (show IsS58 w0 _ g s0_0 t108 t109 from pI58 HI0.out)) : gb110 ≠ g)); replace BK101 := bB BK101 hb; replace BK102 := bB BK102 hb; clear HI0 HK; have HI0 := n1_; have HK := n4_; clear n1_ n4_ hb hbox hg; obtain ⟨hnb9, hnc9⟩ := nB NB110_101; obtain ⟨hnb10, hnc10⟩ := nB NB110_102; obtain ⟨hnb11, hnc11⟩ := nB NB110_0; obtain ⟨z12_0, z12_1, z12_2, y12_0, y12_1, y12_2⟩ := bc3 BK110.out; obtain ⟨Ao13, co13, eo13⟩ := Kd.R_slice HO107.out; subst eo13) | ((with_reducible refine gate_callee (f := 40) rfl ?_); refine gl (some 10) Try.func40 #[.pointer (some ⟨g, 0, none⟩), .int .i64 16] ?_; (with_reducible refine (spec_l1Cur_one.calls g s0_0 t108 t109 16 t111 t112 t113 w0 _ ?side1 ?side2 A3.out).mono ?_); (case side1 => exact pI58 HI0.out); (case side2 => exact pV HB.out (IsS58.ge HI0.out)); rintro e w14 ⟨rfl, hi, hb, hk⟩; refine ⟨_, rfl, ?_⟩; replace BK101 := aK (KeepBut.blk hk (g' := gb101) (o := .cells #[.int .i64 0, .int .i64 0, .slice none 0 0] 26 (0, 0)) (by refine bk ?_; refine blk_far ?_ NB101_110.out _; refine bk ?_; refine blk_far ?_ NB101_110.out _; refine bk ?_; refine blk_far ?_ NB101_110.out _; refine bk ?_; exact BK101.out) NB101_0.out (by simp)); replace BK102 := aK (KeepBut.blk hk (g' := gb102) (o := .cells #[.int .i64 0, .int .i64 0, .slice none 0 0] 26 (0, 0)) (by refine bk ?_; refine blk_far ?_ NB102_110.out _; refine bk ?_; refine blk_far ?_ NB102_110.out _; refine bk ?_; refine blk_far ?_ NB102_110.out _; refine bk ?_; exact BK102.out) NB102_0.out (by simp)); replace HO107 := aK (Kd.R_mono (Kd.R_keep (IsS58.apart (show IsS58 w0 _ g s0_0 t108 t109 from pI58 HI0.out) (pR (rF3 HO107.out BK110.out (.int .i64 t103) (.int .i64 t104) (.slice Ao13 t105.length co13))) (by decide)) hk (fun _ h => h.2)) (fun _ h => h.1)); replace BK110 := aK (KeepBut.blk hk (g' := gb110) (o := .cells #[.int .i64 t103, .int .i64 t104, .slice Ao13 t105.length co13] 26 (0, 0)) (by refine bk ?_; refine blk_put (cs := #[.int .i64 t103, .int .i64 t104, .slice none 0 0]) ?_ 2 _ rfl; refine bk ?_; refine blk_put (cs := #[.int .i64 t103, .int .i64 0, .slice none 0 0]) ?_ 1 _ rfl; refine bk ?_; refine blk_put (cs := #[.int .i64 0, .int .i64 0, .slice none 0 0]) ?_ 0 _ rfl; refine bk ?_; exact BK110.out) NB110_0.out (by simp)); replace HK := aK (KeepBut.trans (pK HK.out) hk (.inl rfl)); replace HB := aK (hb); replace HI0 := aK (hi); (try clear hb); (try clear hk); (try clear hi)))
 (try simp only [Act.put, List.setIfInBounds_toArray, List.set_cons_zero, List.set_cons_succ])
 go_cut [] (fun wc => ∃ (kq : Nat) (x1001_3 : Int) (x1002_3 : Int) (x111000_3 : Int) (x111001_3 : Int) (x111002_3 : List Int) (u111002 : Value), Aside0 (spec_l1Cur_moved.j0 kq s0_0 x1001_3 x1002_3 x111000_3 x111001_3 x111002_3 = some (r1, r2, r3, r4, r5, r6, r7, r8)) ∧ Aside0 (kq ≤ k) ∧ Aside0 (Kd.Q (Kd.int .i64) 3 wc w.heap.size (fun _ => True) u111002 x111002_3) ∧ Aside0 (wc.heap[gb101]? = some (.cells #[.int .i64 0, .int .i64 0, (.slice none 0 0)] 26 (0, 0))) ∧ Aside0 (wc.heap[gb102]? = some (.cells #[.int .i64 0, .int .i64 0, (.slice none 0 0)] 26 (0, 0))) ∧ Aside0 (wc.heap[gb110]? = some (.cells #[.int .i64 x111000_3, .int .i64 x111001_3, u111002] 26 (0, 0))) ∧ Aside0 (IsS58 w0 wc g s0_0 x1001_3 x1002_3) ∧ Aside0 (KeepBut w wc g none) ∧ Aside0 (Below w0.heap.size w0 wc))
 case first =>
  have H := HC4.out; clear HC4
  by_cases c15 : t111 = true
  ·
   subst c15
   have H1 : ((spec_l1Cur_anyField.f k s0_0 t112 t113).bind fun bt114 => (spec_l1Cur_moved.j0 k s0_0 bt114.2.2.2.1 bt114.2.2.2.2 bt114.1 bt114.2.1 bt114.2.2.1)) = some (r1, r2, r3, r4, r5, r6, r7, r8) := by rw [if_pos rfl] at H; exact H
   clear H; have H := H1; clear H1; replace H := Option.bind_eq_some_iff.mp H
   obtain ⟨⟨t114, t115, t116, t119, t120⟩, A160, H⟩ := H
   replace H : (spec_l1Cur_moved.j0 k s0_0 t119 t120 t114 t115 t116) = some (r1, r2, r3, r4, r5, r6, r7, r8) := H
   have A16 := Aside0.mk A160; clear A160; have H' := Aside0.mk H; clear H
   go_wp2_with (first | ((with_reducible refine gate_callee (f := 41) rfl ?_); refine gl (some 12) Try.func41 #[.pointer (some ⟨g, 0, none⟩)] ?_; (with_reducible refine (spec_l1Cur_anyField.calls k g s0_0 t112 t113 t114 t115 t116 t119 t120 w0 _ ?side1 ?side2 A16.out).mono ?_); (case side1 => exact pI58 HI0.out); (case side2 => exact pV HB.out (IsS58.ge HI0.out)); rintro e w17 ⟨v117, rfl, ho0, hi, hb, hk⟩; refine ⟨_, rfl, ?_⟩; replace BK101 := aK (KeepBut.blk hk (pB BK101.out) NB101_0.out (by simp)); replace BK102 := aK (KeepBut.blk hk (pB BK102.out) NB102_0.out (by simp)); have n2_ := aK (Kd.R_mono (Kd.R_told (Kd.R_oldK (IsS58.apart (show IsS58 w0 _ g s0_0 t112 t113 from pI58 HI0.out) (pR HO107.out) (by decide)) hk) (Kd.Q_base ho0)) (fun _ h_ => h_.1)); replace BK110 := aK (KeepBut.blk hk (pB BK110.out) NB110_0.out (by simp)); have HO118 := aK (Kd.Q_lower (Kd.Q_new' ho0 (Kd.R_lt (pR HO107.out))) (keep_size (w := w) (g := g) (row := none) (pK HK.out))); replace HK := aK (KeepBut.trans (pK HK.out) hk (.inl rfl)); replace HB := aK (hb); replace HI0 := aK (hi); clear HO107; have HO107 := n2_; clear n2_; (try clear hb); (try clear hk); (try clear hi); (try clear ho0); obtain ⟨hnb18, hnc18⟩ := nB NB110_101; obtain ⟨hnb19, hnc19⟩ := nB NB110_102; obtain ⟨hnb20, hnc20⟩ := nB NB110_0; obtain ⟨z21_0, z21_1, z21_2, y21_0, y21_1, y21_2⟩ := bc3 BK110.out; obtain ⟨Ao22, co22, eo22, _⟩ := Kd.Q_slice HO118.out; subst eo22))
   go_meet
   case rel => exact ⟨_, (t119), (t120), (t114), (t115), (t116), (.slice Ao22 t116.length co22), H', ⟨by first | omega | exact Nat.le_refl _⟩, ⟨by (with_reducible repeat (first | apply Kd.Q_alloc | apply Kd.Q_drewN | apply Kd.Q_drew)); exact Kd.Q_mono (qF3 HO118.out BK110.out (.int .i64 t114) (.int .i64 t115) (.slice Ao22 t116.length co22)) (fun _ h => trivial)⟩, ⟨by refine bk ?_; refine blk_far ?_ NB101_110.out _; refine bk ?_; refine blk_far ?_ NB101_110.out _; refine bk ?_; refine blk_far ?_ NB101_110.out _; refine bk ?_; exact BK101.out⟩, ⟨by refine bk ?_; refine blk_far ?_ NB102_110.out _; refine bk ?_; refine blk_far ?_ NB102_110.out _; refine bk ?_; refine blk_far ?_ NB102_110.out _; refine bk ?_; exact BK102.out⟩, ⟨by refine bk ?_; refine blk_put (cs := #[.int .i64 t114, .int .i64 t115, .slice Ao13 t105.length co13]) ?_ 2 _ rfl; refine bk ?_; refine blk_put (cs := #[.int .i64 t114, .int .i64 t104, .slice Ao13 t105.length co13]) ?_ 1 _ rfl; refine bk ?_; refine blk_put (cs := #[.int .i64 t103, .int .i64 t104, .slice Ao13 t105.length co13]) ?_ 0 _ rfl; refine bk ?_; exact BK110.out⟩, ⟨pI58 HI0.out⟩, ⟨pK HK.out⟩, ⟨(pV HB.out (IsS58.ge HI0.out))⟩⟩
  replace c15 := Bool.eq_false_iff.mpr c15; subst c15
  have H1 : (spec_l1Cur_moved.j0 k s0_0 t112 t113 t103 t104 t105) = some (r1, r2, r3, r4, r5, r6, r7, r8) := by rw [if_neg (show ¬ (false = true) by decide)] at H; exact H
  clear H; have H := H1; clear H1; have H' := Aside0.mk H; clear H
  go_wp2
  go_meet
  case rel => exact ⟨_, (t112), (t113), (t103), (t104), (t105), (.slice Ao13 t105.length co13), H', ⟨by first | omega | exact Nat.le_refl _⟩, ⟨Kd.Q_of_R (pR HO107.out)⟩, ⟨by refine bk ?_; exact BK101.out⟩, ⟨by refine bk ?_; exact BK102.out⟩, ⟨by refine bk ?_; exact BK110.out⟩, ⟨pI58 HI0.out⟩, ⟨pK HK.out⟩, ⟨(pV HB.out (IsS58.ge HI0.out))⟩⟩
 case rest =>
  clear HC4
  try clear z12_0
  try clear z12_1
  try clear z12_2
  try clear y12_0
  try clear y12_1
  try clear y12_2
  obtain ⟨kq, x1001_3, x1002_3, x111000_3, x111001_3, x111002_3, u111002, HA, HJ3, HO_111002, BK101, BK102, BK110, HI0, HK, HB⟩ := hcut
  cases kq with
  | zero => exact absurd HA.out (by simp [spec_l1Cur_moved.j0])
  | succ kj3 =>
   have H := HA.out; clear HA
   simp only [spec_l1Cur_moved.j0] at H
   replace H := Option.bind_eq_some_iff.mp H
   obtain ⟨⟨t121, t122, t123, t126, t127⟩, A230, H⟩ := H
   replace H : ((spec_l2Good.f kj3 x111000_3 x111001_3 x111002_3).bind fun t129 => (if t129 = true then ((spec_l1Cur_one.f s0_0 t126 t127 3).bind fun bt130 => (spec_l1Cur_moved.j1 kj3 (!bt130.1) s0_0 bt130.2.1 bt130.2.2 x111000_3 x111001_3 x111002_3 t121 t122 t123)) else (spec_l1Cur_moved.j1 kj3 false s0_0 t126 t127 x111000_3 x111001_3 x111002_3 t121 t122 t123))) = some (r1, r2, r3, r4, r5, r6, r7, r8) := H
   have A23 := Aside0.mk A230; clear A230; have HC24 := Aside0.mk H; clear H; obtain ⟨hnb25, hnc25⟩ := nB NB110_101; obtain ⟨hnb26, hnc26⟩ := nB NB110_102; obtain ⟨hnb27, hnc27⟩ := nB NB110_0; obtain ⟨z28_0, z28_1, z28_2, y28_0, y28_1, y28_2⟩ := bc3 BK110.out; obtain ⟨Ao29, co29, eo29, _⟩ := Kd.Q_slice HO_111002.out; subst eo29
   go_upto_region 5 with (first | ((with_reducible refine gate_callee (f := 42) rfl ?_); refine gl (some 15) Try.func42 #[.pointer (some ⟨g, 0, none⟩), .agg #[.int .i64 x111000_3, .int .i64 x111001_3, .slice Ao29 x111002_3.length co29]] ?_; (with_reducible refine (spec_l1Cur_like.calls kj3 g s0_0 x1001_3 x1002_3 x111000_3 x111001_3 _ _ x111002_3 t121 t122 t123 t126 t127 w0 _ ?side1 ?side2 ?side3 ?side4 ?side5 A23.out).mono ?_); (case side1 => exact pI58 HI0.out); (case side2 => exact pV HB.out (IsS58.ge HI0.out)); (case side3 => exact pC (Kd.Q_reads' HO_111002.out).2.2); (case side4 => exact (Kd.Q_reads' HO_111002.out).2.1); (case side5 => exact far_slice (IsS58.own_neQ HI0.out HO_111002.out (by decide))); rintro e w30 ⟨v124, rfl, ho0, hi, hb, hk⟩; refine ⟨_, rfl, ?_⟩; have n0_ := aK (Kd.Q_mono (Kd.Q_told (Kd.Q_oldK (IsS58.apartQ (show IsS58 w0 _ g s0_0 x1001_3 x1002_3 from pI58 HI0.out) (pQ HO_111002.out) (by decide)) hk) (Kd.R_base ho0)) (fun _ h_ => h_.1)); replace BK101 := aK (KeepBut.blk hk (pB BK101.out) NB101_0.out (by simp)); replace BK102 := aK (KeepBut.blk hk (pB BK102.out) NB102_0.out (by simp)); replace BK110 := aK (KeepBut.blk hk (pB BK110.out) NB110_0.out (by simp)); have HO125 := aK (Kd.R_lower (Kd.R_new' ho0 (Kd.Q_lt (pQ HO_111002.out))) (keep_size (w := w) (g := g) (row := none) (pK HK.out))); replace HK := aK (KeepBut.trans (pK HK.out) hk (.inl rfl)); replace HB := aK (hb); replace HI0 := aK (hi); clear HO_111002; have HO_111002 := n0_; clear n0_; (try clear hb); (try clear hk); (try clear hi); (try clear ho0)) | ((with_reducible refine gate_dst (N := 5) rfl ?_); refine bxe (cs := #[.int .i64 0, .int .i64 0, .slice none 0 0]) (t := 26) ?_; intro gb128 hg w31 hbox hb; replace HO_111002 := aK (Kd.Q_below (pQ HO_111002.out) hb); replace HO125 := aK (Kd.R_below (pR HO125.out) hb); have n5_ := aK (IsS58.below (pI58 HI0.out) hb); have n6_ := aK (KeepBut.trans (pK HK.out) (KeepBut.of_below hb g none) (.inl rfl)); replace HB := aK (below_step ((pV HB.out (IsS58.ge HI0.out))) hb); have BK128 := aK (hbox); have GW128 := aK ((by rw [hg]; exact (keep_size (w := w) (g := g) (row := none) (pK HK.out)) : w.heap.size ≤ gb128)); have GE128 := aK ((Nat.le_trans HW0.out (by rw [hg]; exact (keep_size (w := w) (g := g) (row := none) (pK HK.out)) : w.heap.size ≤ gb128) : w0.heap.size ≤ gb128)); obtain ⟨NB101_128, NB128_101⟩ := nb hg (pB BK101.out); obtain ⟨NB102_128, NB128_102⟩ := nb hg (pB BK102.out); obtain ⟨NB110_128, NB128_110⟩ := nb hg (pB BK110.out); have NB0_128 := aK ((by rw [hg]; exact Nat.ne_of_lt (IsS58.lt (show IsS58 w0 _ g s0_0 t126 t127 from pI58 HI0.out)) : g ≠ gb128)); have NB128_0 := aK ((by rw [hg]; exact Nat.ne_of_gt (IsS58.lt (show IsS58 w0 _ g s0_0 t126 t127 from pI58 HI0.out)) : gb128 ≠ g)); replace BK101 := bB BK101 hb; replace BK102 := bB BK102 hb; replace BK110 := bB BK110 hb; clear HI0 HK; have HI0 := n5_; have HK := n6_; clear n5_ n6_ hb hbox hg; obtain ⟨hnb32, hnc32⟩ := nB NB128_101; obtain ⟨hnb33, hnc33⟩ := nB NB128_102; obtain ⟨hnb34, hnc34⟩ := nB NB128_110; obtain ⟨hnb35, hnc35⟩ := nB NB128_0; obtain ⟨z36_0, z36_1, z36_2, y36_0, y36_1, y36_2⟩ := bc3 BK128.out; obtain ⟨Ao37, co37, eo37⟩ := Kd.R_slice HO125.out; subst eo37))
   (try simp only [Act.put, List.setIfInBounds_toArray, List.set_cons_zero, List.set_cons_succ])
   go_cut [22] (fun v22 wc => ∃ (kq : Nat) (x22_23 : Bool) (x1001_23 : Int) (x1002_23 : Int), v22 = .bool x22_23 ∧ Aside0 (spec_l1Cur_moved.j1 kq x22_23 s0_0 x1001_23 x1002_23 x111000_3 x111001_3 x111002_3 t121 t122 t123 = some (r1, r2, r3, r4, r5, r6, r7, r8)) ∧ Aside0 (kq ≤ kj3) ∧ Aside0 (Kd.Q (Kd.int .i64) 3 wc w.heap.size (fun k_ => some k_ ≠ ((.slice Ao37 t123.length co37) : Value).ownBlock) (.slice Ao29 x111002_3.length co29) x111002_3) ∧ Aside0 (Kd.Q (Kd.int .i64) 3 wc w.heap.size (fun k_ => some k_ ≠ ((.slice Ao29 x111002_3.length co29) : Value).ownBlock) (.slice Ao37 t123.length co37) t123) ∧ Aside0 (wc.heap[gb101]? = some (.cells #[.int .i64 0, .int .i64 0, (.slice none 0 0)] 26 (0, 0))) ∧ Aside0 (wc.heap[gb102]? = some (.cells #[.int .i64 0, .int .i64 0, (.slice none 0 0)] 26 (0, 0))) ∧ Aside0 (wc.heap[gb110]? = some (.cells #[.int .i64 x111000_3, .int .i64 x111001_3, (.slice Ao29 x111002_3.length co29)] 26 (0, 0))) ∧ Aside0 (wc.heap[gb128]? = some (.cells #[.int .i64 t121, .int .i64 t122, (.slice Ao37 t123.length co37)] 26 (0, 0))) ∧ Aside0 (IsS58 w0 wc g s0_0 x1001_23 x1002_23) ∧ Aside0 (KeepBut w wc g none) ∧ Aside0 (Below w0.heap.size w0 wc))
   case first =>
    have H := HC24.out; clear HC24; replace H := Option.bind_eq_some_iff.mp H; obtain ⟨t129, A380, H⟩ := H
    replace H : (if t129 = true then ((spec_l1Cur_one.f s0_0 t126 t127 3).bind fun bt130 => (spec_l1Cur_moved.j1 kj3 (!bt130.1) s0_0 bt130.2.1 bt130.2.2 x111000_3 x111001_3 x111002_3 t121 t122 t123)) else (spec_l1Cur_moved.j1 kj3 false s0_0 t126 t127 x111000_3 x111001_3 x111002_3 t121 t122 t123)) = some (r1, r2, r3, r4, r5, r6, r7, r8) := H
    have A38 := Aside0.mk A380; clear A380
    by_cases c39 : t129 = true
    ·
     subst c39
     have H1 : ((spec_l1Cur_one.f s0_0 t126 t127 3).bind fun bt130 => (spec_l1Cur_moved.j1 kj3 (!bt130.1) s0_0 bt130.2.1 bt130.2.2 x111000_3 x111001_3 x111002_3 t121 t122 t123)) = some (r1, r2, r3, r4, r5, r6, r7, r8) := by rw [if_pos rfl] at H; exact H
     clear H; have H := H1; clear H1; replace H := Option.bind_eq_some_iff.mp H
     obtain ⟨⟨t130, t131, t132⟩, A400, H⟩ := H
     replace H : (spec_l1Cur_moved.j1 kj3 (!t130) s0_0 t131 t132 x111000_3 x111001_3 x111002_3 t121 t122 t123) = some (r1, r2, r3, r4, r5, r6, r7, r8) := H
     have A40 := Aside0.mk A400; clear A400; have H' := Aside0.mk H; clear H; obtain ⟨hnb41, hnc41⟩ := nB NB110_101; obtain ⟨hnb42, hnc42⟩ := nB NB110_102; obtain ⟨hnb43, hnc43⟩ := nB NB110_128; obtain ⟨hnb44, hnc44⟩ := nB NB110_0; obtain ⟨z45_0, z45_1, z45_2, y45_0, y45_1, y45_2⟩ := bc3 BK110.out
     go_wp2_with (first | ((with_reducible refine gate_callee (f := 35) rfl ?_); refine gl (some 17) Try.func35 #[.agg #[.int .i64 x111000_3, .int .i64 x111001_3, .slice Ao29 x111002_3.length co29]] ?_; (with_reducible refine (spec_l2Good.calls kj3 x111000_3 x111001_3 _ _ x111002_3 true _ ?side1 ?side2 A38.out).mono ?_); (case side1 => refine (Kd.Q_reads' (e := 3) (base := w.heap.size) (ok := fun k_ => (True ∧ some k_ ≠ (.slice Ao37 t123.length co37 : Value).ownBlock)) (n := x111002_3.length) (c := co29) ?_).2.2; exact (pQ (qF3 HO_111002.out BK128.out (.int .i64 t121) (.int .i64 t122) (.slice Ao37 t123.length co37)))); (case side2 => exact (Kd.Q_reads' HO_111002.out).2.1); rintro e w46 ⟨rfl, hb⟩; refine ⟨_, rfl, ?_⟩; replace HO_111002 := aK (Kd.Q_below (pQ (qF3 HO_111002.out BK128.out (.int .i64 t121) (.int .i64 t122) (.slice Ao37 t123.length co37))) hb); replace HO125 := aK (Kd.R_below (pR (rF3 HO125.out BK128.out (.int .i64 t121) (.int .i64 t122) (.slice Ao37 t123.length co37))) hb); replace BK101 := aK (blk_below (g := gb101) (o := .cells #[.int .i64 0, .int .i64 0, .slice none 0 0] 26 (0, 0)) (by refine bk ?_; refine blk_far ?_ NB101_128.out _; refine bk ?_; refine blk_far ?_ NB101_128.out _; refine bk ?_; refine blk_far ?_ NB101_128.out _; refine bk ?_; exact BK101.out) hb); replace BK102 := aK (blk_below (g := gb102) (o := .cells #[.int .i64 0, .int .i64 0, .slice none 0 0] 26 (0, 0)) (by refine bk ?_; refine blk_far ?_ NB102_128.out _; refine bk ?_; refine blk_far ?_ NB102_128.out _; refine bk ?_; refine blk_far ?_ NB102_128.out _; refine bk ?_; exact BK102.out) hb); replace BK110 := aK (blk_below (g := gb110) (o := .cells #[.int .i64 x111000_3, .int .i64 x111001_3, .slice Ao29 x111002_3.length co29] 26 (0, 0)) (by refine bk ?_; refine blk_far ?_ NB110_128.out _; refine bk ?_; refine blk_far ?_ NB110_128.out _; refine bk ?_; refine blk_far ?_ NB110_128.out _; refine bk ?_; exact BK110.out) hb); have n5_ := aK (IsS58.below (show IsS58 w0 (((w31.setCell ⟨gb128, 0, none⟩ (.int .i64 t121)).setCell ⟨gb128, 1, none⟩ (.int .i64 t122)).setCell ⟨gb128, 2, none⟩ (.slice Ao37 t123.length co37)) g s0_0 t126 t127 from pI58 HI0.out) hb); replace BK128 := aK (blk_below (g := gb128) (o := .cells #[.int .i64 t121, .int .i64 t122, .slice Ao37 t123.length co37] 26 (0, 0)) (by refine bk ?_; refine blk_put (cs := #[.int .i64 t121, .int .i64 t122, .slice none 0 0]) ?_ 2 _ rfl; refine bk ?_; refine blk_put (cs := #[.int .i64 t121, .int .i64 0, .slice none 0 0]) ?_ 1 _ rfl; refine bk ?_; refine blk_put (cs := #[.int .i64 0, .int .i64 0, .slice none 0 0]) ?_ 0 _ rfl; refine bk ?_; exact BK128.out) hb); replace HK := aK (KeepBut.trans (pK HK.out) (KeepBut.of_below hb g none) (.inl rfl)); replace HB := aK (below_step ((pV HB.out (IsS58.ge HI0.out))) hb); clear HI0; have HI0 := n5_; clear n5_; (try clear hb)) | (go_at_call 40; (with_reducible refine (spec_l1Cur_one.calls g s0_0 t126 t127 3 t130 t131 t132 w0 _ ?side1 ?side2 A40.out).mono ?_); (case side1 => exact pI58 HI0.out); (case side2 => exact pV HB.out (IsS58.ge HI0.out)); rintro e w47 ⟨rfl, hi, hb, hk⟩; replace HO_111002 := aK (Kd.Q_mono (Kd.Q_keep (IsS58.apartQ (show IsS58 w0 _ g s0_0 t126 t127 from pI58 HI0.out) (pQ HO_111002.out) (by decide)) hk (fun _ h => h.2)) (fun _ h => h.1)); replace BK101 := aK (KeepBut.blk hk (pB BK101.out) NB101_0.out (by simp)); replace BK102 := aK (KeepBut.blk hk (pB BK102.out) NB102_0.out (by simp)); replace BK110 := aK (KeepBut.blk hk (pB BK110.out) NB110_0.out (by simp)); replace HO125 := aK (Kd.R_mono (Kd.R_keep (IsS58.apart (show IsS58 w0 _ g s0_0 t126 t127 from pI58 HI0.out) (pR HO125.out) (by decide)) hk (fun _ h => h.2)) (fun _ h => h.1)); replace BK128 := aK (KeepBut.blk hk (pB BK128.out) NB128_0.out (by simp)); replace HK := aK (KeepBut.trans (pK HK.out) hk (.inl rfl)); replace HB := aK (hb); replace HI0 := aK (hi); (try clear hb); (try clear hk); (try clear hi)))
     go_meet
     case rel => exact ⟨_, (!t130), (t131), (t132), (by first | rfl | (simp; done) | (simp [*]; done)), H', ⟨by have := HJ3.out; first | omega | exact Nat.le_refl _⟩, ⟨by (with_reducible repeat (first | apply Kd.Q_alloc | apply Kd.Q_drewN | apply Kd.Q_drew)); exact Kd.Q_mono HO_111002.out (fun _ hk => hk.2)⟩, ⟨Kd.Q_of_R (pR (Kd.R_mono HO125.out (fun _ hk => hk.2)))⟩, ⟨by refine bk ?_; exact BK101.out⟩, ⟨by refine bk ?_; exact BK102.out⟩, ⟨by refine bk ?_; exact BK110.out⟩, ⟨by refine bk ?_; exact BK128.out⟩, ⟨pI58 HI0.out⟩, ⟨pK HK.out⟩, ⟨(pV HB.out (IsS58.ge HI0.out))⟩⟩
    replace c39 := Bool.eq_false_iff.mpr c39; subst c39
    have H1 : (spec_l1Cur_moved.j1 kj3 false s0_0 t126 t127 x111000_3 x111001_3 x111002_3 t121 t122 t123) = some (r1, r2, r3, r4, r5, r6, r7, r8) := by rw [if_neg (show ¬ (false = true) by decide)] at H; exact H
    clear H; have H := H1; clear H1; have H' := Aside0.mk H; clear H; obtain ⟨hnb48, hnc48⟩ := nB NB110_101; obtain ⟨hnb49, hnc49⟩ := nB NB110_102; obtain ⟨hnb50, hnc50⟩ := nB NB110_128; obtain ⟨hnb51, hnc51⟩ := nB NB110_0; obtain ⟨z52_0, z52_1, z52_2, y52_0, y52_1, y52_2⟩ := bc3 BK110.out
    go_wp2_with (first | ((with_reducible refine gate_callee (f := 35) rfl ?_); refine gl (some 17) Try.func35 #[.agg #[.int .i64 x111000_3, .int .i64 x111001_3, .slice Ao29 x111002_3.length co29]] ?_; (with_reducible refine (spec_l2Good.calls kj3 x111000_3 x111001_3 _ _ x111002_3 false _ ?side1 ?side2 A38.out).mono ?_); (case side1 => refine (Kd.Q_reads' (e := 3) (base := w.heap.size) (ok := fun k_ => (True ∧ some k_ ≠ (.slice Ao37 t123.length co37 : Value).ownBlock)) (n := x111002_3.length) (c := co29) ?_).2.2; exact (pQ (qF3 HO_111002.out BK128.out (.int .i64 t121) (.int .i64 t122) (.slice Ao37 t123.length co37)))); (case side2 => exact (Kd.Q_reads' HO_111002.out).2.1); rintro e w53 ⟨rfl, hb⟩; refine ⟨_, rfl, ?_⟩; replace HO_111002 := aK (Kd.Q_below (pQ (qF3 HO_111002.out BK128.out (.int .i64 t121) (.int .i64 t122) (.slice Ao37 t123.length co37))) hb); replace HO125 := aK (Kd.R_below (pR (rF3 HO125.out BK128.out (.int .i64 t121) (.int .i64 t122) (.slice Ao37 t123.length co37))) hb); replace BK101 := aK (blk_below (g := gb101) (o := .cells #[.int .i64 0, .int .i64 0, .slice none 0 0] 26 (0, 0)) (by refine bk ?_; refine blk_far ?_ NB101_128.out _; refine bk ?_; refine blk_far ?_ NB101_128.out _; refine bk ?_; refine blk_far ?_ NB101_128.out _; refine bk ?_; exact BK101.out) hb); replace BK102 := aK (blk_below (g := gb102) (o := .cells #[.int .i64 0, .int .i64 0, .slice none 0 0] 26 (0, 0)) (by refine bk ?_; refine blk_far ?_ NB102_128.out _; refine bk ?_; refine blk_far ?_ NB102_128.out _; refine bk ?_; refine blk_far ?_ NB102_128.out _; refine bk ?_; exact BK102.out) hb); replace BK110 := aK (blk_below (g := gb110) (o := .cells #[.int .i64 x111000_3, .int .i64 x111001_3, .slice Ao29 x111002_3.length co29] 26 (0, 0)) (by refine bk ?_; refine blk_far ?_ NB110_128.out _; refine bk ?_; refine blk_far ?_ NB110_128.out _; refine bk ?_; refine blk_far ?_ NB110_128.out _; refine bk ?_; exact BK110.out) hb); have n5_ := aK (IsS58.below (show IsS58 w0 (((w31.setCell ⟨gb128, 0, none⟩ (.int .i64 t121)).setCell ⟨gb128, 1, none⟩ (.int .i64 t122)).setCell ⟨gb128, 2, none⟩ (.slice Ao37 t123.length co37)) g s0_0 t126 t127 from pI58 HI0.out) hb); replace BK128 := aK (blk_below (g := gb128) (o := .cells #[.int .i64 t121, .int .i64 t122, .slice Ao37 t123.length co37] 26 (0, 0)) (by refine bk ?_; refine blk_put (cs := #[.int .i64 t121, .int .i64 t122, .slice none 0 0]) ?_ 2 _ rfl; refine bk ?_; refine blk_put (cs := #[.int .i64 t121, .int .i64 0, .slice none 0 0]) ?_ 1 _ rfl; refine bk ?_; refine blk_put (cs := #[.int .i64 0, .int .i64 0, .slice none 0 0]) ?_ 0 _ rfl; refine bk ?_; exact BK128.out) hb); replace HK := aK (KeepBut.trans (pK HK.out) (KeepBut.of_below hb g none) (.inl rfl)); replace HB := aK (below_step ((pV HB.out (IsS58.ge HI0.out))) hb); clear HI0; have HI0 := n5_; clear n5_; (try clear hb)))
    go_meet
    case rel => exact ⟨_, (false), (t126), (t127), (by first | rfl | (simp; done) | (simp [*]; done)), H', ⟨by have := HJ3.out; first | omega | exact Nat.le_refl _⟩, ⟨by (with_reducible repeat (first | apply Kd.Q_alloc | apply Kd.Q_drewN | apply Kd.Q_drew)); exact Kd.Q_mono HO_111002.out (fun _ hk => hk.2)⟩, ⟨Kd.Q_of_R (pR (Kd.R_mono HO125.out (fun _ hk => hk.2)))⟩, ⟨by refine bk ?_; exact BK101.out⟩, ⟨by refine bk ?_; exact BK102.out⟩, ⟨by refine bk ?_; exact BK110.out⟩, ⟨by refine bk ?_; exact BK128.out⟩, ⟨pI58 HI0.out⟩, ⟨pK HK.out⟩, ⟨(pV HB.out (IsS58.ge HI0.out))⟩⟩
   case rest =>
    clear HC24
    try clear z28_0
    try clear z28_1
    try clear z28_2
    try clear z36_0
    try clear z36_1
    try clear z36_2
    try clear y28_0
    try clear y28_1
    try clear y28_2
    try clear y36_0
    try clear y36_1
    try clear y36_2
    obtain ⟨kq, x22_23, x1001_23, x1002_23, rfl, HA, HJ23, HO_111002, HO_129002, BK101, BK102, BK110, BK128, HI0, HK, HB⟩ := hcut
    cases kq with
    | zero => exact absurd HA.out (by simp [spec_l1Cur_moved.j1])
    | succ kj23 =>
     have H := HA.out; clear HA
     simp only [spec_l1Cur_moved.j1] at H
     by_cases c54 : x22_23 = true
     rotate_left
     ·
      replace c54 := Bool.eq_false_iff.mpr c54; subst c54
      have H1 : (some (x111000_3, x111001_3, x111002_3, t121, t122, t123, x1001_23, x1002_23)) = some (r1, r2, r3, r4, r5, r6, r7, r8) := by rw [if_neg (show ¬ (false = true) by decide)] at H; exact H
      clear H; have H := H1; clear H1
      simp only [Option.some.injEq, Prod.mk.injEq] at H
      obtain ⟨rfl, rfl, rfl, rfl, rfl, rfl, rfl, rfl⟩ := H
      try go_wp2
      replace HO_111002 := aK (Kd.Q_drew HO_111002.out); replace HO_129002 := aK (Kd.Q_drew HO_129002.out); replace BK101 := aK (blk_drew BK101.out); replace BK102 := aK (blk_drew BK102.out); replace BK110 := aK (blk_drew BK110.out); replace BK128 := aK (blk_drew BK128.out); replace HI0 := aK (IsS58.drew HI0.out); replace HK := aK (keep_drew HK.out); replace HB := aK (below_drew1 HB.out)
      refine start_ (n := 4) (S := fun w' => w'.cell? ⟨gb110, 0, none⟩ = some (.int .i64 x111000_3) ∧ w'.cell? ⟨gb110, 1, none⟩ = some (.int .i64 x111001_3) ∧ w'.cell? ⟨gb110, 2, none⟩ = some (.slice Ao29 x111002_3.length co29) ∧ w'.cell? ⟨gb128, 0, none⟩ = some (.int .i64 t121) ∧ w'.cell? ⟨gb128, 1, none⟩ = some (.int .i64 t122) ∧ w'.cell? ⟨gb128, 2, none⟩ = some (.slice Ao37 t123.length co37)) (ds := []) (bz [0, 4]) (by kernel_rfl) rfl rfl (cj3 BK110.out (cz3 BK128.out)) (fun hHeld => ?_)
      generalize wc.drew = w100 at HO_111002 HO_129002 BK101 BK102 BK110 BK128 HI0 HK HB hHeld ⊢
      refine take_ (i := 0) (N := some 51) (v := ?_) (a' := ?_) (bz [1, 3]) rfl rfl (by kernel_rfl) (fun _ _ _ h => h) (Or.inl ⟨by rfl, ?_⟩) hHeld ?_ ?_
      rotate_left
      ·
       rintro w' ⟨s0, s1, s2, s3, s4, s5⟩
       go_simp
       with_reducible rfl
      rotate_left
      ·
       simp only [sP]
       rfl
      refine take_ (i := 1) (N := some 52) (v := ?_) (a' := ?_) (bz [2, 2]) rfl rfl (by kernel_rfl) (fun _ _ _ h => h) (Or.inl ⟨by rfl, ?_⟩) hHeld ?_ ?_
      rotate_left
      ·
       rintro w' ⟨s0, s1, s2, s3, s4, s5⟩
       go_simp
       with_reducible rfl
      rotate_left
      ·
       simp only [sP]
       rfl
      refine one_ (i := 2) (N := none) (bz [3, 1]) rfl rfl (by kernel_rfl) (by decide) (fun K hK => ?_)
      have hs101 : w100.cell? ⟨gb101, 0, none⟩ = some (.int .i64 0) := (blk_cell BK101.out 0).trans rfl
      have hfs101 := blk_frozen BK101.out 0; have hns101_1 := NB102_101.out; have hns101_2 := NB110_101.out; have hns101_3 := NB128_101.out; have hms101_1 := NB101_102.out; have hms101_2 := NB101_110.out; have hms101_3 := NB101_128.out
      have hs102 : w100.cell? ⟨gb101, 1, none⟩ = some (.int .i64 0) := (blk_cell BK101.out 1).trans rfl
      have hfs102 := blk_frozen BK101.out 1; have hns102_1 := NB102_101.out; have hns102_2 := NB110_101.out; have hns102_3 := NB128_101.out; have hms102_1 := NB101_102.out; have hms102_2 := NB101_110.out; have hms102_3 := NB101_128.out
      have hs103 : w100.cell? ⟨gb101, 2, none⟩ = some (.slice none 0 0) := (blk_cell BK101.out 2).trans rfl
      have hfs103 := blk_frozen BK101.out 2; have hns103_1 := NB102_101.out; have hns103_2 := NB110_101.out; have hns103_3 := NB128_101.out; have hms103_1 := NB101_102.out; have hms103_2 := NB101_110.out; have hms103_3 := NB101_128.out
      refine skip_ (w1 := ?_) (by rfl) rfl ?_ ?_
      rotate_left
      ·
       go_simp
       rfl
      refine hK.out _ _ ⟨(cf3 NB110_101 hHeld.1), (cf3 NB110_101 hHeld.2.1), (cf3 NB110_101 hHeld.2.2.1), (cf3 NB128_101 hHeld.2.2.2.1), (cf3 NB128_101 hHeld.2.2.2.2.1), (cf3 NB128_101 hHeld.2.2.2.2.2)⟩ (fun hHeld => ?_)
      clear hK K
      refine one_ (i := 3) (N := none) (bz [4, 0]) rfl rfl (by kernel_rfl) (by decide) (fun K hK => ?_)
      have hs104 : w100.cell? ⟨gb102, 0, none⟩ = some (.int .i64 0) := (blk_cell BK102.out 0).trans rfl
      have hfs104 := blk_frozen BK102.out 0; have hns104_0 := NB101_102.out; have hns104_2 := NB110_102.out; have hns104_3 := NB128_102.out; have hms104_0 := NB102_101.out; have hms104_2 := NB102_110.out; have hms104_3 := NB102_128.out
      have hs105 : w100.cell? ⟨gb102, 1, none⟩ = some (.int .i64 0) := (blk_cell BK102.out 1).trans rfl
      have hfs105 := blk_frozen BK102.out 1; have hns105_0 := NB101_102.out; have hns105_2 := NB110_102.out; have hns105_3 := NB128_102.out; have hms105_0 := NB102_101.out; have hms105_2 := NB102_110.out; have hms105_3 := NB102_128.out
      have hs106 : w100.cell? ⟨gb102, 2, none⟩ = some (.slice none 0 0) := (blk_cell BK102.out 2).trans rfl
      have hfs106 := blk_frozen BK102.out 2; have hns106_0 := NB101_102.out; have hns106_2 := NB110_102.out; have hns106_3 := NB128_102.out; have hms106_0 := NB102_101.out; have hms106_2 := NB102_110.out; have hms106_3 := NB102_128.out
      refine skip_ (w1 := ?_) (by rfl) rfl ?_ ?_
      rotate_left
      ·
       go_simp
       rfl
      refine hK.out _ _ ⟨(cf3 NB110_102 hHeld.1), (cf3 NB110_102 hHeld.2.1), (cf3 NB110_102 hHeld.2.2.1), (cf3 NB128_102 hHeld.2.2.2.1), (cf3 NB128_102 hHeld.2.2.2.2.1), (cf3 NB128_102 hHeld.2.2.2.2.2)⟩ (fun hHeld => ?_)
      clear hK K
      refine done_ (by kernel_rfl) ?_
      try go_wp2
      refine bodyPost_ret (results_cc rfl _ _ gb101 gb102 26 26 #[.int .i64 x111000_3, .int .i64 x111001_3, .slice Ao29 x111002_3.length co29] #[.int .i64 t121, .int .i64 t122, .slice Ao37 t123.length co37] (0, 0) (0, 0) _ _ rfl (by refine bk ?_; refine blk_far ?_ NB101_102.out _; refine bk ?_; refine blk_far ?_ NB101_102.out _; refine bk ?_; refine blk_far ?_ NB101_102.out _; refine bk ?_; refine blk_put (cs := #[.int .i64 x111000_3, .int .i64 x111001_3, .slice none 0 0]) ?_ 2 _ rfl; refine bk ?_; refine blk_put (cs := #[.int .i64 x111000_3, .int .i64 0, .slice none 0 0]) ?_ 1 _ rfl; refine bk ?_; refine blk_put (cs := #[.int .i64 0, .int .i64 0, .slice none 0 0]) ?_ 0 _ rfl; refine bk ?_; exact BK101.out) Try.underlying26 rfl (by kernel_rfl) rfl (by refine bk ?_; refine blk_put (cs := #[.int .i64 t121, .int .i64 t122, .slice none 0 0]) ?_ 2 _ rfl; refine bk ?_; refine blk_put (cs := #[.int .i64 t121, .int .i64 0, .slice none 0 0]) ?_ 1 _ rfl; refine bk ?_; refine blk_put (cs := #[.int .i64 0, .int .i64 0, .slice none 0 0]) ?_ 0 _ rfl; refine bk ?_; refine blk_far ?_ NB102_101.out _; refine bk ?_; refine blk_far ?_ NB102_101.out _; refine bk ?_; refine blk_far ?_ NB102_101.out _; refine bk ?_; exact BK102.out) Try.underlying26 rfl (by kernel_rfl)) rfl ?_
      exact ⟨_, _, er, by (with_reducible repeat (first | apply Kd.Q_alloc | apply Kd.Q_drewN | apply Kd.Q_drew)); exact Kd.Q_mono (Kd.Q_far (p := ⟨gb102, 2, none⟩) (Kd.Q_far (p := ⟨gb102, 1, none⟩) (Kd.Q_far (p := ⟨gb102, 0, none⟩) (Kd.Q_far (p := ⟨gb101, 2, none⟩) (Kd.Q_far (p := ⟨gb101, 1, none⟩) (Kd.Q_far (p := ⟨gb101, 0, none⟩) (Kd.Q_types (Kd.Q_types HO_111002.out BK101.out (by decide)) BK102.out (by decide)) (fun _ hk => hk.1.2) (.int .i64 x111000_3)) (fun _ hk => hk.1.2) (.int .i64 x111001_3)) (fun _ hk => hk.1.2) (.slice Ao29 x111002_3.length co29)) (fun _ hk => hk.2) (.int .i64 t121)) (fun _ hk => hk.2) (.int .i64 t122)) (fun _ hk => hk.2) (.slice Ao37 t123.length co37)) (fun _ hk => hk.1.1), by (with_reducible repeat (first | apply Kd.Q_alloc | apply Kd.Q_drewN | apply Kd.Q_drew)); exact Kd.Q_mono (Kd.Q_far (p := ⟨gb102, 2, none⟩) (Kd.Q_far (p := ⟨gb102, 1, none⟩) (Kd.Q_far (p := ⟨gb102, 0, none⟩) (Kd.Q_far (p := ⟨gb101, 2, none⟩) (Kd.Q_far (p := ⟨gb101, 1, none⟩) (Kd.Q_far (p := ⟨gb101, 0, none⟩) (Kd.Q_types (Kd.Q_types HO_129002.out BK101.out (by decide)) BK102.out (by decide)) (fun _ hk => hk.1.2) (.int .i64 x111000_3)) (fun _ hk => hk.1.2) (.int .i64 x111001_3)) (fun _ hk => hk.1.2) (.slice Ao29 x111002_3.length co29)) (fun _ hk => hk.2) (.int .i64 t121)) (fun _ hk => hk.2) (.int .i64 t122)) (fun _ hk => hk.2) (.slice Ao37 t123.length co37)) (fun _ hk => hk.1.1), pI58 HI0.out, (pV HB.out (IsS58.ge HI0.out)), pK HK.out⟩
     subst c54
     have H1 : ((spec_l1Cur_pick.f s0_0 x1001_23 x1002_23 3).bind fun bt133 => ((spec_l1Cur_pick.f s0_0 bt133.2.1 bt133.2.2 3).bind fun bt136 => ((spec_l11Move.f kj23 x111000_3 x111001_3 x111002_3 (wrap64 (bt133.1 - 1)) (wrap64 (bt136.1 - 1))).bind fun bt139 => (spec_l1Cur_moved.l0 kj23 0 s0_0 bt136.2.1 bt136.2.2 x111000_3 x111001_3 x111002_3 bt139.1 bt139.2.1 bt139.2.2)))) = some (r1, r2, r3, r4, r5, r6, r7, r8) := by rw [if_pos rfl] at H; exact H
     clear H; have H := H1; clear H1; replace H := Option.bind_eq_some_iff.mp H
     obtain ⟨⟨t133, t134, t135⟩, A550, H⟩ := H
     replace H : ((spec_l1Cur_pick.f s0_0 t134 t135 3).bind fun bt136 => ((spec_l11Move.f kj23 x111000_3 x111001_3 x111002_3 (wrap64 (t133 - 1)) (wrap64 (bt136.1 - 1))).bind fun bt139 => (spec_l1Cur_moved.l0 kj23 0 s0_0 bt136.2.1 bt136.2.2 x111000_3 x111001_3 x111002_3 bt139.1 bt139.2.1 bt139.2.2))) = some (r1, r2, r3, r4, r5, r6, r7, r8) := H
     have A55 := Aside0.mk A550; clear A550; replace H := Option.bind_eq_some_iff.mp H
     obtain ⟨⟨t136, t137, t138⟩, A560, H⟩ := H
     replace H : ((spec_l11Move.f kj23 x111000_3 x111001_3 x111002_3 (wrap64 (t133 - 1)) (wrap64 (t136 - 1))).bind fun bt139 => (spec_l1Cur_moved.l0 kj23 0 s0_0 t137 t138 x111000_3 x111001_3 x111002_3 bt139.1 bt139.2.1 bt139.2.2)) = some (r1, r2, r3, r4, r5, r6, r7, r8) := H
     have A56 := Aside0.mk A560; clear A560; replace H := Option.bind_eq_some_iff.mp H
     obtain ⟨⟨t139, t140, t141⟩, A570, H⟩ := H
     replace H : (spec_l1Cur_moved.l0 kj23 0 s0_0 t137 t138 x111000_3 x111001_3 x111002_3 t139 t140 t141) = some (r1, r2, r3, r4, r5, r6, r7, r8) := H
     have A57 := Aside0.mk A570; clear A570; have H' := Aside0.mk H; clear H
     try go_wp2
     replace HO_111002 := aK (Kd.Q_drew HO_111002.out); replace HO_129002 := aK (Kd.Q_drew HO_129002.out); replace BK101 := aK (blk_drew BK101.out); replace BK102 := aK (blk_drew BK102.out); replace BK110 := aK (blk_drew BK110.out); replace BK128 := aK (blk_drew BK128.out); replace HI0 := aK (IsS58.drew HI0.out); replace HK := aK (keep_drew HK.out); replace HB := aK (below_drew1 HB.out)
     refine start_ (n := 10) (S := fun w' => w'.cell? ⟨gb110, 0, none⟩ = some (.int .i64 x111000_3) ∧ w'.cell? ⟨gb110, 1, none⟩ = some (.int .i64 x111001_3) ∧ w'.cell? ⟨gb110, 2, none⟩ = some (.slice Ao29 x111002_3.length co29)) (ds := []) (bz [0, 10]) (by kernel_rfl) rfl rfl (cz3 BK110.out) (fun hHeld => ?_); refine with_tabW spec_l1Cur_moved.tab6 spec_l1Cur_moved.bits6 (fun HT_ HW_ => ?_)
     generalize wc.drew = w58 at HO_111002 HO_129002 BK101 BK102 BK110 BK128 HI0 HK HB hHeld ⊢
     refine pz 1 24 [0, 1, 1, 8] HT_.out ?_
     refine pz 4 27 [0, 1, 1, 2, 1, 5] HT_.out ?_
     refine tk (i := 0) (N := some 23) (bz [2, 2, 1, 5]) rfl rfl HT_.out HW_.out (Or.inl ⟨by rfl, by rintro w' ⟨s0, s1, s2⟩; go_simp; with_reducible rfl⟩) hHeld ?_
     refine one_ (i := 2) (N := some 25) (bz [3, 1, 1, 5]) rfl rfl (one_of HT_.out (by kernel_rfl)) (by decide) (fun K hK => ?_)
     refine goes_ Try.func44 (by kernel_rfl) rfl #[.pointer (some ⟨g, 0, none⟩), .int .i64 3] (by rfl) rfl rfl (by (try simp only [List.map_toArray, List.map_cons, List.map_nil]); first | done | rfl | (simp only [List.length_drop, List.length_take]; rfl)) ?_
     with_reducible refine (spec_l1Cur_pick.calls g s0_0 x1001_23 x1002_23 3 t133 t134 t135 w0 _ ?side1 ?side2 A55.out).mono ?_
     (case side1 => exact pI58 HI0.out)
     (case side2 => exact pV HB.out (IsS58.ge HI0.out))
     rintro e w59 ⟨rfl, hi, hb, hk⟩
     refine ⟨_, rfl, ?_⟩
     replace HO_111002 := aK (Kd.Q_mono (Kd.Q_keep (IsS58.apartQ (show IsS58 w0 _ g s0_0 x1001_23 x1002_23 from pI58 HI0.out) (pQ HO_111002.out) (by decide)) hk (fun _ h => h.2)) (fun _ h => h.1))
     replace HO_129002 := aK (Kd.Q_mono (Kd.Q_keep (IsS58.apartQ (show IsS58 w0 _ g s0_0 x1001_23 x1002_23 from pI58 HI0.out) (pQ HO_129002.out) (by decide)) hk (fun _ h => h.2)) (fun _ h => h.1))
     replace BK101 := aK (KeepBut.blk hk (pB BK101.out) NB101_0.out (by simp))
     replace BK102 := aK (KeepBut.blk hk (pB BK102.out) NB102_0.out (by simp))
     replace BK110 := aK (KeepBut.blk hk (pB BK110.out) NB110_0.out (by simp))
     replace BK128 := aK (KeepBut.blk hk (pB BK128.out) NB128_0.out (by simp))
     replace HK := aK (KeepBut.trans (pK HK.out) hk (.inl rfl)); replace HB := aK (hb); replace HI0 := aK (hi)
     (try clear hb)
     (try clear hb2)
     (try clear hk)
     (try clear hi)
     refine hK.out _ _ (cz3 BK110.out) (fun hHeld => ?_)
     clear hK K
     refine norm_ (a' := ?_) ?_ ?_
     rotate_left
     ·
      show Act.put _ (some 25) _ = _
      simp only [sP]
      rfl
     refine pz 3 26 [5, 5] HT_.out ?_
     refine one_ (i := 5) (N := some 28) (bz [6, 4]) rfl rfl (one_of HT_.out (by kernel_rfl)) (by decide) (fun K hK => ?_)
     refine goes_ Try.func44 (by kernel_rfl) rfl #[.pointer (some ⟨g, 0, none⟩), .int .i64 3] (by rfl) rfl rfl (by (try simp only [List.map_toArray, List.map_cons, List.map_nil]); first | done | rfl | (simp only [List.length_drop, List.length_take]; rfl)) ?_
     with_reducible refine (spec_l1Cur_pick.calls g s0_0 t134 t135 3 t136 t137 t138 w0 _ ?side1 ?side2 A56.out).mono ?_
     (case side1 => exact pI58 HI0.out)
     (case side2 => exact pV HB.out (IsS58.ge HI0.out))
     rintro e w60 ⟨rfl, hi, hb, hk⟩
     refine ⟨_, rfl, ?_⟩
     replace HO_111002 := aK (Kd.Q_mono (Kd.Q_keep (IsS58.apartQ (show IsS58 w0 _ g s0_0 t134 t135 from pI58 HI0.out) (pQ HO_111002.out) (by decide)) hk (fun _ h => h.2)) (fun _ h => h.1))
     replace HO_129002 := aK (Kd.Q_mono (Kd.Q_keep (IsS58.apartQ (show IsS58 w0 _ g s0_0 t134 t135 from pI58 HI0.out) (pQ HO_129002.out) (by decide)) hk (fun _ h => h.2)) (fun _ h => h.1))
     replace BK101 := aK (KeepBut.blk hk (pB BK101.out) NB101_0.out (by simp))
     replace BK102 := aK (KeepBut.blk hk (pB BK102.out) NB102_0.out (by simp))
     replace BK110 := aK (KeepBut.blk hk (pB BK110.out) NB110_0.out (by simp))
     replace BK128 := aK (KeepBut.blk hk (pB BK128.out) NB128_0.out (by simp))
     replace HK := aK (KeepBut.trans (pK HK.out) hk (.inl rfl)); replace HB := aK (hb); replace HI0 := aK (hi)
     (try clear hb)
     (try clear hb2)
     (try clear hk)
     (try clear hi)
     refine hK.out _ _ (cz3 BK110.out) (fun hHeld => ?_)
     clear hK K
     refine norm_ (a' := ?_) ?_ ?_
     rotate_left
     ·
      show Act.put _ (some 28) _ = _
      simp only [sP]
      rfl
     refine pz 6 29 [7, 3] HT_.out ?_
     refine pz 7 30 [8, 2] HT_.out ?_
     refine one_ (i := 8) (N := some 31) (bz [9, 1]) rfl rfl (one_of HT_.out (by kernel_rfl)) (by decide) (fun K hK => ?_)
     refine goes_ Try.func43 (by kernel_rfl) rfl #[.agg #[.int .i64 x111000_3, .int .i64 x111001_3, .slice Ao29 x111002_3.length co29], .agg #[.int .i64 (wrap64 (t133 - 1)), .int .i64 (wrap64 (t136 - 1))]] (by rfl) rfl rfl (by (try simp only [List.map_toArray, List.map_cons, List.map_nil]); first | done | rfl | (simp only [List.length_drop, List.length_take]; rfl)) ?_
     with_reducible refine (spec_l11Move.calls kj23 x111000_3 x111001_3 _ _ x111002_3 (wrap64 (t133 - 1)) (wrap64 (t136 - 1)) t139 t140 t141 _ ?side1 ?side2 A57.out).mono ?_
     (case side1 => exact pC (Kd.Q_reads' HO_111002.out).2.2)
     (case side2 => exact (Kd.Q_reads' HO_111002.out).2.1)
     rintro e w61 ⟨v142, rfl, ho0, hb⟩
     refine ⟨_, rfl, ?_⟩
     have n0_ := aK (Kd.Q_elder' (pQ HO_111002.out) (Kd.R_base ho0) hb); have n1_ := aK (Kd.Q_elder' (pQ HO_129002.out) (Kd.R_base ho0) hb); have HO143 := aK (Kd.R_lower (Kd.R_new' (Kd.R_new' ho0 (Kd.Q_lt (pQ HO_111002.out))) (Kd.Q_lt (pQ HO_129002.out))) (keep_size (w := w) (g := g) (row := none) (pK HK.out))); have n7_ := aK (IsS58.below (pI58 HI0.out) hb); replace HK := aK (KeepBut.trans (pK HK.out) (KeepBut.of_below hb g none) (.inl rfl)); replace HB := aK (below_step ((pV HB.out (IsS58.ge HI0.out))) hb); replace BK101 := bB BK101 hb; replace BK102 := bB BK102 hb; replace BK110 := bB BK110 hb; replace BK128 := bB BK128 hb; clear HO_111002 HO_129002 HI0; have HO_111002 := n0_; have HO_129002 := n1_; have HI0 := n7_; clear n0_ n1_ n7_
     (try clear hb)
     (try clear hb2)
     (try clear hk)
     (try clear hi)
     (try clear ho0)
     obtain ⟨Ao64, co64, eo64⟩ := Kd.R_slice HO143.out
     (first | subst eo64 | (obtain ⟨f4_, f5_⟩ := sI eo64; subst f4_; subst f5_))
     refine hK.out _ _ (cz3 BK110.out) (fun hHeld => ?_)
     clear hK K
     refine norm_ (a' := ?_) ?_ ?_
     rotate_left
     ·
      show Act.put _ (some 31) _ = _
      simp only [sP]
      rfl
     refine one_ (i := 9) (N := none) (bz [10, 0]) rfl rfl (one_of HT_.out (by kernel_rfl)) (by decide) (fun K hK => ?_)
     have hs62 : w61.cell? ⟨gb128, 0, none⟩ = some (.int .i64 t121) := (blk_cell BK128.out 0).trans rfl
     have hfs62 := blk_frozen BK128.out 0; have hns62_0 := NB101_128.out; have hns62_1 := NB102_128.out; have hns62_2 := NB110_128.out; have hms62_0 := NB128_101.out; have hms62_1 := NB128_102.out; have hms62_2 := NB128_110.out
     have hs63 : w61.cell? ⟨gb128, 1, none⟩ = some (.int .i64 t122) := (blk_cell BK128.out 1).trans rfl
     have hfs63 := blk_frozen BK128.out 1; have hns63_0 := NB101_128.out; have hns63_1 := NB102_128.out; have hns63_2 := NB110_128.out; have hms63_0 := NB128_101.out; have hms63_1 := NB128_102.out; have hms63_2 := NB128_110.out
     have hs65 : w61.cell? ⟨gb128, 2, none⟩ = some (.slice Ao37 t123.length co37) := (blk_cell BK128.out 2).trans rfl
     have hfs65 := blk_frozen BK128.out 2; have hns65_0 := NB101_128.out; have hns65_1 := NB102_128.out; have hns65_2 := NB110_128.out; have hms65_0 := NB128_101.out; have hms65_1 := NB128_102.out; have hms65_2 := NB128_110.out
     refine skip_ (w1 := ?_) (by rfl) rfl ?_ ?_
     rotate_left
     ·
      go_simp
      rfl
     refine hK.out _ _ ⟨(cf3 NB110_128 hHeld.1), (cf3 NB110_128 hHeld.2.1), (cf3 NB110_128 hHeld.2.2)⟩ (fun hHeld => ?_)
     clear hK K
     refine done_ (done_of HT_.out (by kernel_rfl)) ?_
     try go_wp2
     go_loopg [6] kj23 (fun kq v6 w' => ∃ (x6_3 : Int) (x1001_3 : Int) (x1002_3 : Int) (x111002_3 : List Int) (x129002_3 : List Int) (u111002 : Value) (u129002 : Value), v6 = .int .i64 x6_3 ∧ Aside0 (spec_l1Cur_moved.l0 kq x6_3 s0_0 x1001_3 x1002_3 x111000_3 x111001_3 x111002_3 t139 t140 x129002_3 = some (r1, r2, r3, r4, r5, r6, r7, r8)) ∧ Aside0 (kq ≤ kj23) ∧ Aside0 (Kd.Q (Kd.int .i64) 3 w' w.heap.size (fun k_ => some k_ ≠ (u129002 : Value).ownBlock) u111002 x111002_3) ∧ Aside0 (Kd.Q (Kd.int .i64) 3 w' w.heap.size (fun k_ => some k_ ≠ (u111002 : Value).ownBlock) u129002 x129002_3) ∧ Aside0 (w'.heap[gb101]? = some (.cells #[.int .i64 0, .int .i64 0, (.slice none 0 0)] 26 (0, 0))) ∧ Aside0 (w'.heap[gb102]? = some (.cells #[.int .i64 0, .int .i64 0, (.slice none 0 0)] 26 (0, 0))) ∧ Aside0 (w'.heap[gb110]? = some (.cells #[.int .i64 x111000_3, .int .i64 x111001_3, u111002] 26 (0, 0))) ∧ Aside0 (w'.heap[gb128]? = some (.cells #[.int .i64 t139, .int .i64 t140, u129002] 26 (0, 0))) ∧ Aside0 (IsS58 w0 w' g s0_0 x1001_3 x1002_3) ∧ Aside0 (KeepBut w w' g none) ∧ Aside0 (Below w0.heap.size w0 w'))
     case atStart => exact ⟨(0), (t137), (t138), (x111002_3), (t141), (.slice Ao29 x111002_3.length co29), (.slice Ao64 t141.length co64), (by first | rfl | (simp; done) | (simp [*]; done)), H', ⟨Nat.le_refl _⟩, ⟨by (with_reducible repeat (first | apply Kd.Q_alloc | apply Kd.Q_drewN | apply Kd.Q_drew)); exact Kd.Q_mono (qF3 HO_111002.out BK128.out (.int .i64 t139) (.int .i64 t140) (.slice Ao64 t141.length co64)) (fun _ h => h.2)⟩, ⟨Kd.Q_of_R (pR (Kd.R_mono (rF3 HO143.out BK128.out (.int .i64 t139) (.int .i64 t140) (.slice Ao64 t141.length co64)) (fun _ h => h.1.2)))⟩, ⟨by refine bk ?_; refine blk_far ?_ NB101_128.out _; refine bk ?_; refine blk_far ?_ NB101_128.out _; refine bk ?_; refine blk_far ?_ NB101_128.out _; refine bk ?_; exact BK101.out⟩, ⟨by refine bk ?_; refine blk_far ?_ NB102_128.out _; refine bk ?_; refine blk_far ?_ NB102_128.out _; refine bk ?_; refine blk_far ?_ NB102_128.out _; refine bk ?_; exact BK102.out⟩, ⟨by refine bk ?_; refine blk_far ?_ NB110_128.out _; refine bk ?_; refine blk_far ?_ NB110_128.out _; refine bk ?_; refine blk_far ?_ NB110_128.out _; refine bk ?_; exact BK110.out⟩, ⟨by refine bk ?_; refine blk_put (cs := #[.int .i64 t139, .int .i64 t140, .slice Ao37 t123.length co37]) ?_ 2 _ rfl; refine bk ?_; refine blk_put (cs := #[.int .i64 t139, .int .i64 t122, .slice Ao37 t123.length co37]) ?_ 1 _ rfl; refine bk ?_; refine blk_put (cs := #[.int .i64 t121, .int .i64 t122, .slice Ao37 t123.length co37]) ?_ 0 _ rfl; refine bk ?_; exact BK128.out⟩, ⟨pI58 HI0.out⟩, ⟨pK HK.out⟩, ⟨(pV HB.out (IsS58.ge HI0.out))⟩⟩
     case round =>
      clear H'; obtain ⟨x6_3, x1001_3, x1002_3, x111002_3, x129002_3, u111002, u129002, rfl, HA, HK3, HO_111002, HO_129002, BK101, BK102, BK110, BK128, HI0, HK, HB⟩ := hrel
      cases gk with
      | zero => exact absurd HA.out (by simp [spec_l1Cur_moved.l0])
      | succ k3 =>
       have H := HA.out; clear HA
       simp only [spec_l1Cur_moved.l0] at H
       by_cases c66 : x6_3 < (x129002_3.length : Int)
       rotate_left
       ·
        rw [if_neg c66] at H
        have c66b0 : decide (x6_3 < (x129002_3.length : Int)) = false := decide_eq_false c66
        clear c66
        simp only [Option.some.injEq, Prod.mk.injEq] at H
        obtain ⟨rfl, rfl, rfl, rfl, rfl, rfl, rfl, rfl⟩ := H; obtain ⟨hnb86, hnc86⟩ := nB NB128_101; obtain ⟨hnb87, hnc87⟩ := nB NB128_102; obtain ⟨hnb88, hnc88⟩ := nB NB128_110; obtain ⟨hnb89, hnc89⟩ := nB NB128_0; obtain ⟨z90_0, z90_1, z90_2, y90_0, y90_1, y90_2⟩ := bc3 BK128.out; obtain ⟨Ao91, co91, eo91, _⟩ := Kd.Q_slice HO_129002.out; subst eo91
        try go_wp2
        replace HO_111002 := aK (Kd.Q_drew HO_111002.out); replace HO_129002 := aK (Kd.Q_drew HO_129002.out); replace BK101 := aK (blk_drew BK101.out); replace BK102 := aK (blk_drew BK102.out); replace BK110 := aK (blk_drew BK110.out); replace BK128 := aK (blk_drew BK128.out); replace HI0 := aK (IsS58.drew HI0.out); replace HK := aK (keep_drew HK.out); replace HB := aK (below_drew1 HB.out); obtain ⟨Ao95, co95, eo95, _⟩ := Kd.Q_slice HO_111002.out
        (first | subst eo95 | (obtain ⟨f4_, f5_⟩ := sI eo95; subst f4_; subst f5_))
        refine start_ (n := 4) (S := fun w' => w'.cell? ⟨gb110, 0, none⟩ = some (.int .i64 x111000_3) ∧ w'.cell? ⟨gb110, 1, none⟩ = some (.int .i64 x111001_3) ∧ w'.cell? ⟨gb110, 2, none⟩ = some (.slice Ao95 x111002_3.length co95) ∧ w'.cell? ⟨gb128, 0, none⟩ = some (.int .i64 t139) ∧ w'.cell? ⟨gb128, 1, none⟩ = some (.int .i64 t140) ∧ w'.cell? ⟨gb128, 2, none⟩ = some (.slice Ao91 x129002_3.length co91)) (ds := []) (bz [0, 4]) (by kernel_rfl) rfl rfl (cj3 BK110.out (cz3 BK128.out)) (fun hHeld => ?_)
        generalize wr.drew = w92 at HO_111002 HO_129002 BK101 BK102 BK110 BK128 HI0 HK HB hHeld ⊢
        refine take_ (i := 0) (N := some 51) (v := ?_) (a' := ?_) (bz [1, 3]) rfl rfl (by kernel_rfl) (fun _ _ _ h => h) (Or.inl ⟨by rfl, ?_⟩) hHeld ?_ ?_
        rotate_left
        ·
         rintro w' ⟨s0, s1, s2, s3, s4, s5⟩
         go_simp
         with_reducible rfl
        rotate_left
        ·
         simp only [sP]
         rfl
        refine take_ (i := 1) (N := some 52) (v := ?_) (a' := ?_) (bz [2, 2]) rfl rfl (by kernel_rfl) (fun _ _ _ h => h) (Or.inl ⟨by rfl, ?_⟩) hHeld ?_ ?_
        rotate_left
        ·
         rintro w' ⟨s0, s1, s2, s3, s4, s5⟩
         go_simp
         with_reducible rfl
        rotate_left
        ·
         simp only [sP]
         rfl
        refine one_ (i := 2) (N := none) (bz [3, 1]) rfl rfl (by kernel_rfl) (by decide) (fun K hK => ?_)
        have hs93 : w92.cell? ⟨gb101, 0, none⟩ = some (.int .i64 0) := (blk_cell BK101.out 0).trans rfl
        have hfs93 := blk_frozen BK101.out 0; have hns93_1 := NB102_101.out; have hns93_2 := NB110_101.out; have hns93_3 := NB128_101.out; have hms93_1 := NB101_102.out; have hms93_2 := NB101_110.out; have hms93_3 := NB101_128.out
        have hs94 : w92.cell? ⟨gb101, 1, none⟩ = some (.int .i64 0) := (blk_cell BK101.out 1).trans rfl
        have hfs94 := blk_frozen BK101.out 1; have hns94_1 := NB102_101.out; have hns94_2 := NB110_101.out; have hns94_3 := NB128_101.out; have hms94_1 := NB101_102.out; have hms94_2 := NB101_110.out; have hms94_3 := NB101_128.out
        have hs96 : w92.cell? ⟨gb101, 2, none⟩ = some (.slice none 0 0) := (blk_cell BK101.out 2).trans rfl
        have hfs96 := blk_frozen BK101.out 2; have hns96_1 := NB102_101.out; have hns96_2 := NB110_101.out; have hns96_3 := NB128_101.out; have hms96_1 := NB101_102.out; have hms96_2 := NB101_110.out; have hms96_3 := NB101_128.out
        refine skip_ (w1 := ?_) (by rfl) rfl ?_ ?_
        rotate_left
        ·
         go_simp
         rfl
        refine hK.out _ _ ⟨(cf3 NB110_101 hHeld.1), (cf3 NB110_101 hHeld.2.1), (cf3 NB110_101 hHeld.2.2.1), (cf3 NB128_101 hHeld.2.2.2.1), (cf3 NB128_101 hHeld.2.2.2.2.1), (cf3 NB128_101 hHeld.2.2.2.2.2)⟩ (fun hHeld => ?_)
        clear hK K
        refine one_ (i := 3) (N := none) (bz [4, 0]) rfl rfl (by kernel_rfl) (by decide) (fun K hK => ?_)
        have hs97 : w92.cell? ⟨gb102, 0, none⟩ = some (.int .i64 0) := (blk_cell BK102.out 0).trans rfl
        have hfs97 := blk_frozen BK102.out 0; have hns97_0 := NB101_102.out; have hns97_2 := NB110_102.out; have hns97_3 := NB128_102.out; have hms97_0 := NB102_101.out; have hms97_2 := NB102_110.out; have hms97_3 := NB102_128.out
        have hs98 : w92.cell? ⟨gb102, 1, none⟩ = some (.int .i64 0) := (blk_cell BK102.out 1).trans rfl
        have hfs98 := blk_frozen BK102.out 1; have hns98_0 := NB101_102.out; have hns98_2 := NB110_102.out; have hns98_3 := NB128_102.out; have hms98_0 := NB102_101.out; have hms98_2 := NB102_110.out; have hms98_3 := NB102_128.out
        have hs99 : w92.cell? ⟨gb102, 2, none⟩ = some (.slice none 0 0) := (blk_cell BK102.out 2).trans rfl
        have hfs99 := blk_frozen BK102.out 2; have hns99_0 := NB101_102.out; have hns99_2 := NB110_102.out; have hns99_3 := NB128_102.out; have hms99_0 := NB102_101.out; have hms99_2 := NB102_110.out; have hms99_3 := NB102_128.out
        refine skip_ (w1 := ?_) (by rfl) rfl ?_ ?_
        rotate_left
        ·
         go_simp
         rfl
        refine hK.out _ _ ⟨(cf3 NB110_102 hHeld.1), (cf3 NB110_102 hHeld.2.1), (cf3 NB110_102 hHeld.2.2.1), (cf3 NB128_102 hHeld.2.2.2.1), (cf3 NB128_102 hHeld.2.2.2.2.1), (cf3 NB128_102 hHeld.2.2.2.2.2)⟩ (fun hHeld => ?_)
        clear hK K
        refine done_ (by kernel_rfl) ?_
        try go_wp2
        refine bodyPost_ret (results_cc rfl _ _ gb101 gb102 26 26 #[.int .i64 x111000_3, .int .i64 x111001_3, .slice Ao95 x111002_3.length co95] #[.int .i64 t139, .int .i64 t140, .slice Ao91 x129002_3.length co91] (0, 0) (0, 0) _ _ rfl (by refine bk ?_; refine blk_far ?_ NB101_102.out _; refine bk ?_; refine blk_far ?_ NB101_102.out _; refine bk ?_; refine blk_far ?_ NB101_102.out _; refine bk ?_; refine blk_put (cs := #[.int .i64 x111000_3, .int .i64 x111001_3, .slice none 0 0]) ?_ 2 _ rfl; refine bk ?_; refine blk_put (cs := #[.int .i64 x111000_3, .int .i64 0, .slice none 0 0]) ?_ 1 _ rfl; refine bk ?_; refine blk_put (cs := #[.int .i64 0, .int .i64 0, .slice none 0 0]) ?_ 0 _ rfl; refine bk ?_; exact BK101.out) Try.underlying26 rfl (by kernel_rfl) rfl (by refine bk ?_; refine blk_put (cs := #[.int .i64 t139, .int .i64 t140, .slice none 0 0]) ?_ 2 _ rfl; refine bk ?_; refine blk_put (cs := #[.int .i64 t139, .int .i64 0, .slice none 0 0]) ?_ 1 _ rfl; refine bk ?_; refine blk_put (cs := #[.int .i64 0, .int .i64 0, .slice none 0 0]) ?_ 0 _ rfl; refine bk ?_; refine blk_far ?_ NB102_101.out _; refine bk ?_; refine blk_far ?_ NB102_101.out _; refine bk ?_; refine blk_far ?_ NB102_101.out _; refine bk ?_; exact BK102.out) Try.underlying26 rfl (by kernel_rfl)) rfl ?_
        exact ⟨_, _, er, by (with_reducible repeat (first | apply Kd.Q_alloc | apply Kd.Q_drewN | apply Kd.Q_drew)); exact Kd.Q_mono (Kd.Q_far (p := ⟨gb102, 2, none⟩) (Kd.Q_far (p := ⟨gb102, 1, none⟩) (Kd.Q_far (p := ⟨gb102, 0, none⟩) (Kd.Q_far (p := ⟨gb101, 2, none⟩) (Kd.Q_far (p := ⟨gb101, 1, none⟩) (Kd.Q_far (p := ⟨gb101, 0, none⟩) (Kd.Q_types (Kd.Q_types HO_111002.out BK101.out (by decide)) BK102.out (by decide)) (fun _ hk => hk.1.2) (.int .i64 x111000_3)) (fun _ hk => hk.1.2) (.int .i64 x111001_3)) (fun _ hk => hk.1.2) (.slice Ao95 x111002_3.length co95)) (fun _ hk => hk.2) (.int .i64 t139)) (fun _ hk => hk.2) (.int .i64 t140)) (fun _ hk => hk.2) (.slice Ao91 x129002_3.length co91)) (fun _ hk => hk.1.1), by (with_reducible repeat (first | apply Kd.Q_alloc | apply Kd.Q_drewN | apply Kd.Q_drew)); exact Kd.Q_mono (Kd.Q_far (p := ⟨gb102, 2, none⟩) (Kd.Q_far (p := ⟨gb102, 1, none⟩) (Kd.Q_far (p := ⟨gb102, 0, none⟩) (Kd.Q_far (p := ⟨gb101, 2, none⟩) (Kd.Q_far (p := ⟨gb101, 1, none⟩) (Kd.Q_far (p := ⟨gb101, 0, none⟩) (Kd.Q_types (Kd.Q_types HO_129002.out BK101.out (by decide)) BK102.out (by decide)) (fun _ hk => hk.1.2) (.int .i64 x111000_3)) (fun _ hk => hk.1.2) (.int .i64 x111001_3)) (fun _ hk => hk.1.2) (.slice Ao95 x111002_3.length co95)) (fun _ hk => hk.2) (.int .i64 t139)) (fun _ hk => hk.2) (.int .i64 t140)) (fun _ hk => hk.2) (.slice Ao91 x129002_3.length co91)) (fun _ hk => hk.1.1), pI58 HI0.out, (pV HB.out (IsS58.ge HI0.out)), pK HK.out⟩
       rw [if_pos c66] at H
       have c66b0 : decide (x6_3 < (x129002_3.length : Int)) = true := decide_eq_true c66
       clear c66
       by_cases c67 : 0 ≤ x6_3
       rotate_left
       ·
        rw [if_neg c67] at H
        exact absurd H (by simp)
       rw [if_pos c67] at H
       have c67b0 : decide (0 ≤ x6_3) = true := decide_eq_true c67
       clear c67
       by_cases c68 : (rd x129002_3 x6_3) = (-9999)
       rotate_left
       ·
        rw [if_neg c68] at H
        have c68b0 : ((rd x129002_3 x6_3) == (-9999)) = false := beq_eq_false_iff_ne.mpr c68
        have c68b1 : ((rd x129002_3 x6_3) != (-9999)) = true := bne_iff_ne.mpr c68
        have H' := Aside0.mk H; clear H; obtain ⟨hnb80, hnc80⟩ := nB NB128_101; obtain ⟨hnb81, hnc81⟩ := nB NB128_102; obtain ⟨hnb82, hnc82⟩ := nB NB128_110; obtain ⟨hnb83, hnc83⟩ := nB NB128_0; obtain ⟨z84_0, z84_1, z84_2, y84_0, y84_1, y84_2⟩ := bc3 BK128.out; obtain ⟨Ao85, co85, eo85, _⟩ := Kd.Q_slice HO_129002.out; subst eo85
        have p144 : 0 ≤ (x6_3 : Int) := of_decide_eq_true (by first | (with_reducible assumption) | assumption)
        have q144 : x6_3 < (x129002_3.length : Int) := of_decide_eq_true (by first | (with_reducible assumption) | assumption)
        obtain ⟨ad144, e144, hx144_0⟩ := Kd.at_int (Kd.Q_reads' HO_129002.out).2.2 x6_3 p144 q144; cases e144; replace p144 := eq_true p144; replace q144 := eq_true q144
        go_wp2
        go_roundg k3
        case measure => have := HJ3.out; have := HJ23.out; have := HK3.out; omega
        case rel => exact ⟨(wrap64 (x6_3 + 1)), (x1001_3), (x1002_3), (x111002_3), (x129002_3), (u111002), (.slice (some ad144) x129002_3.length co85), (by first | rfl | (simp; done) | (simp [*]; done)), H', ⟨by have := HJ3.out; have := HJ23.out; have := HK3.out; omega⟩, ⟨pQ HO_111002.out⟩, ⟨pQ HO_129002.out⟩, ⟨by refine bk ?_; exact BK101.out⟩, ⟨by refine bk ?_; exact BK102.out⟩, ⟨by refine bk ?_; exact BK110.out⟩, ⟨by refine bk ?_; exact BK128.out⟩, ⟨pI58 HI0.out⟩, ⟨pK HK.out⟩, ⟨(pV HB.out (IsS58.ge HI0.out))⟩⟩
       rw [if_pos c68] at H
       have c68b0 : ((rd x129002_3 x6_3) == (-9999)) = true := beq_iff_eq.mpr c68
       have c68b1 : ((rd x129002_3 x6_3) != (-9999)) = false := bne_eq_false_iff_eq.mpr c68
       clear c68; replace H := Option.bind_eq_some_iff.mp H
       obtain ⟨⟨t145, t146, t147⟩, A690, H⟩ := H
       replace H : (spec_l1Cur_moved.l0 k3 (wrap64 (x6_3 + 1)) s0_0 t146 t147 x111000_3 x111001_3 x111002_3 t139 t140 (x129002_3.set (x6_3 : Int).toNat t145)) = some (r1, r2, r3, r4, r5, r6, r7, r8) := H
       have A69 := Aside0.mk A690; clear A690
       obtain ⟨y148, hy148⟩ : ∃ y_ : List Int, y_ = (x129002_3.set (x6_3 : Int).toNat t145) := ⟨_, rfl⟩
       replace H : (spec_l1Cur_moved.l0 k3 (wrap64 (x6_3 + 1)) s0_0 t146 t147 x111000_3 x111001_3 x111002_3 t139 t140 y148) = some (r1, r2, r3, r4, r5, r6, r7, r8) := by first | (rw [hy148]; with_reducible exact H) | (have H2_ := (Option.bind_some _ _).symm.trans H; rw [hy148]; with_reducible exact H2_) | (have H2_ := (Option.bind_some _ _).symm.trans H; with_reducible exact H2_) | with_reducible exact H | (rw [hy148]; exact H) | exact H
       have Ny148 := Aside0.mk hy148; clear hy148; have H' := Aside0.mk H; clear H; obtain ⟨hnb71, hnc71⟩ := nB NB128_101; obtain ⟨hnb72, hnc72⟩ := nB NB128_102; obtain ⟨hnb73, hnc73⟩ := nB NB128_110; obtain ⟨hnb74, hnc74⟩ := nB NB128_0; obtain ⟨z75_0, z75_1, z75_2, y75_0, y75_1, y75_2⟩ := bc3 BK128.out; obtain ⟨Ao76, co76, eo76, _⟩ := Kd.Q_slice HO_129002.out; subst eo76
       have p144 : 0 ≤ (x6_3 : Int) := of_decide_eq_true (by first | (with_reducible assumption) | assumption)
       have q144 : x6_3 < (x129002_3.length : Int) := of_decide_eq_true (by first | (with_reducible assumption) | assumption)
       obtain ⟨ad144, e144, hx144_0⟩ := Kd.at_int (Kd.Q_reads' HO_129002.out).2.2 x6_3 p144 q144; cases e144; replace p144 := eq_true p144; replace q144 := eq_true q144
       try go_wp2
       replace HO_111002 := aK (Kd.Q_drew HO_111002.out); replace HO_129002 := aK (Kd.Q_drew HO_129002.out); replace BK101 := aK (blk_drew BK101.out); replace BK102 := aK (blk_drew BK102.out); replace BK110 := aK (blk_drew BK110.out); replace BK128 := aK (blk_drew BK128.out); replace HI0 := aK (IsS58.drew HI0.out); replace HK := aK (keep_drew HK.out); replace HB := aK (below_drew1 HB.out)
       refine start_ (n := 7) (S := fun w' => w'.cell? ⟨gb128, 0, none⟩ = some (.int .i64 t139) ∧ w'.cell? ⟨gb128, 1, none⟩ = some (.int .i64 t140) ∧ w'.cell? ⟨gb128, 2, none⟩ = some (.slice (some ad144) x129002_3.length co76)) (ds := [6]) (bz [0, 7]) (by kernel_rfl) rfl rfl (cz3 BK128.out) (fun hHeld => ?_)
       generalize wr.drew = w77 at HO_111002 HO_129002 BK101 BK102 BK110 BK128 HI0 HK HB hHeld ⊢
       refine pure_ (i := 0) (N := some 45) (v := ?_) (a' := ?_) (bz [1, 6]) rfl rfl (by kernel_rfl) (fun _ _ _ h => h) (Or.inl ⟨by rfl, ?_⟩) ?_ ?_
       rotate_left
       ·
        intro w'
        go_simp
        with_reducible rfl
       rotate_left
       ·
        simp only [sP]
        rfl
       refine pure_ (i := 2) (N := some 47) (v := ?_) (a' := ?_) (bz [1, 1, 1, 4]) rfl rfl (by kernel_rfl) (fun _ _ _ h => h) (Or.inl ⟨by rfl, ?_⟩) ?_ ?_
       rotate_left
       ·
        intro w'
        go_simp
        with_reducible rfl
       rotate_left
       ·
        simp only [sP]
        rfl
       refine pure_ (i := 3) (N := some 48) (v := ?_) (a' := ?_) (bz [1, 1, 2, 3]) rfl rfl (by kernel_rfl) (fun _ _ _ h => h) (Or.inl ⟨by rfl, ?_⟩) ?_ ?_
       rotate_left
       ·
        intro w'
        go_simp
        with_reducible rfl
       rotate_left
       ·
        simp only [sP]
        rfl
       refine take_ (i := 1) (N := some 46) (v := ?_) (a' := ?_) (bz [4, 3]) rfl rfl (by kernel_rfl) (fun _ _ _ h => h) (Or.inl ⟨by rfl, ?_⟩) hHeld ?_ ?_
       rotate_left
       ·
        rintro w' ⟨s0, s1, s2⟩
        go_simp
        with_reducible rfl
       rotate_left
       ·
        simp only [sP]
        rfl
       refine one_ (i := 4) (N := some 49) (bz [5, 2]) rfl rfl (by kernel_rfl) (by decide) (fun K hK => ?_)
       refine goes_ Try.func44 (by kernel_rfl) rfl #[.pointer (some ⟨g, 0, none⟩), .int .i64 30] (by rfl) rfl rfl (by (try simp only [List.map_toArray, List.map_cons, List.map_nil]); first | done | rfl | (simp only [List.length_drop, List.length_take]; rfl)) ?_
       with_reducible refine (spec_l1Cur_pick.calls g s0_0 x1001_3 x1002_3 30 t145 t146 t147 w0 _ ?side1 ?side2 A69.out).mono ?_
       (case side1 => exact pI58 HI0.out)
       (case side2 => exact pV HB.out (IsS58.ge HI0.out))
       rintro e w78 ⟨rfl, hi, hb, hk⟩
       refine ⟨_, rfl, ?_⟩
       replace HO_111002 := aK (Kd.Q_mono (Kd.Q_keep (IsS58.apartQ (show IsS58 w0 _ g s0_0 x1001_3 x1002_3 from pI58 HI0.out) (pQ HO_111002.out) (by decide)) hk (fun _ h => h.2)) (fun _ h => h.1))
       replace HO_129002 := aK (Kd.Q_mono (Kd.Q_keep (IsS58.apartQ (show IsS58 w0 _ g s0_0 x1001_3 x1002_3 from pI58 HI0.out) (pQ HO_129002.out) (by decide)) hk (fun _ h => h.2)) (fun _ h => h.1))
       replace BK101 := aK (KeepBut.blk hk (pB BK101.out) NB101_0.out (by simp))
       replace BK102 := aK (KeepBut.blk hk (pB BK102.out) NB102_0.out (by simp))
       replace BK110 := aK (KeepBut.blk hk (pB BK110.out) NB110_0.out (by simp))
       replace BK128 := aK (KeepBut.blk hk (pB BK128.out) NB128_0.out (by simp))
       replace HK := aK (KeepBut.trans (pK HK.out) hk (.inl rfl)); replace HB := aK (hb); replace HI0 := aK (hi)
       (try clear hb)
       (try clear hb2)
       (try clear hk)
       (try clear hi)
       have p70 : 0 ≤ (x6_3 : Int) := of_decide_eq_true (by first | (with_reducible assumption) | assumption)
       have q70 : (x6_3 : Int) < ((x129002_3.length : Int) : Int) := of_decide_eq_true (by first | (with_reducible assumption) | assumption)
       obtain ⟨go70, oo70, co70, eo70, gb70, gl70, cl70, HG70⟩ := Kd.Q_form HO_129002.out (by omega)
       (first | cases eo70 | (injection eo70 with ea_ en_ ec_; (first | subst ea_ | (injection ea_ with ea_; subst ea_)); subst ec_; clear en_))
       have GB70 := Aside0.mk gb70; have GG70 := Aside0.mk HG70; clear gb70 gl70 HG70
       (first | simp only [add_at] at hx144_0 | skip)
       obtain ⟨hx70_0, hf70_0⟩ := Kd.Q_cell 0 HO_129002.out (x6_3 : Int) p70 q70; replace p70 := eq_true p70; replace q70 := eq_true q70
       have HN0_go70 := aK (show g ≠ go70 from by have h_ := IsS58.own_neQ HI0.out HO_129002.out (by decide); intro e_; exact h_ (by rw [e_]; rfl))
       have HP79 := (Kd.Q_putg HO_129002.out (x6_3 : Int) (of_decide_eq_true (by first | (with_reducible assumption) | assumption)) (by have h_ : (x6_3 : Int) < ((x129002_3.length : Int) : Int) := of_decide_eq_true (by first | (with_reducible assumption) | assumption); first | exact h_ | (have e_ := (Kd.Q_reads' HO_129002.out).1; omega) | simpa using h_) t145).1
       rw [← Ny148.out] at HP79; have HQ79 := Aside0.mk HP79; clear HP79
       refine hK.out _ _ (cz3 BK128.out) (fun hHeld => ?_)
       clear hK K
       refine norm_ (a' := ?_) ?_ ?_
       rotate_left
       ·
        show Act.put _ (some 49) _ = _
        simp only [sP]
        rfl
       refine pure_ (i := 5) (N := some 50) (v := ?_) (a' := ?_) (bz [6, 1]) rfl rfl (by kernel_rfl) (fun _ _ _ h => h) (Or.inl ⟨by rfl, ?_⟩) ?_ ?_
       rotate_left
       ·
        intro w'
        go_simp
        with_reducible rfl
       rotate_left
       ·
        simp only [sP]
        rfl
       refine last_ (i := 6) (N := none) (bz [7, 0]) rfl rfl (by kernel_rfl) (by decide) (fun K hK => ?_)
       refine skip_ (w1 := ?_) (by rfl) rfl ?_ ?_
       rotate_left
       ·
        go_simp
        rfl
       refine hK.out _ _ ?_
       clear hK K
       refine done_ (by kernel_rfl) ?_
       try go_wp2
       go_roundg k3
       case measure => have := HJ3.out; have := HJ23.out; have := HK3.out; omega
       case rel => exact ⟨(wrap64 (x6_3 + 1)), (t146), (t147), (x111002_3), (y148), (u111002), (.slice (some ⟨go70, oo70, none⟩) x129002_3.length co76), (by first | rfl | (simp; done) | (simp [*]; done)), H', ⟨by have := HJ3.out; have := HJ23.out; have := HK3.out; omega⟩, ⟨by (with_reducible repeat (first | apply Kd.Q_alloc | apply Kd.Q_drewN | apply Kd.Q_drew)); exact Kd.Q_mono (Kd.Q_far (p := ⟨go70, oo70 + (x6_3 : Int).toNat, none⟩) (Kd.Q_mono HO_111002.out (fun k_ hk => (⟨hk, fun e_ => hk (by rw [e_]; rfl)⟩ : _ ∧ k_ ≠ go70))) (fun _ hk => hk.2) (.int .i64 t145)) (fun _ hk => hk.1)⟩, ⟨pQ HQ79.out⟩, ⟨by refine bk ?_; refine blk_far ?_ (by have h_ := Kd.Q_ne HO_129002.out BK101.out (by decide); intro e_; exact h_ (by rw [e_]; rfl)) _; refine bk ?_; exact BK101.out⟩, ⟨by refine bk ?_; refine blk_far ?_ (by have h_ := Kd.Q_ne HO_129002.out BK102.out (by decide); intro e_; exact h_ (by rw [e_]; rfl)) _; refine bk ?_; exact BK102.out⟩, ⟨by refine bk ?_; refine blk_far ?_ (by have h_ := Kd.Q_ne HO_129002.out BK110.out (by decide); intro e_; exact h_ (by rw [e_]; rfl)) _; refine bk ?_; exact BK110.out⟩, ⟨by refine bk ?_; refine blk_far ?_ (by have h_ := Kd.Q_ne HO_129002.out BK128.out (by decide); intro e_; exact h_ (by rw [e_]; rfl)) _; refine bk ?_; exact BK128.out⟩, ⟨by repeat (first | (with_reducible first | exact HI0.out | apply IsS58.alloc | apply IsS58.drewN | apply IsS58.drew | apply IsS58.set_1 | apply IsS58.set_2 | refine IsS58.far ?_ HN0_go70.out _ | refine IsS58.far ?_ NB0_101.out _ | refine IsS58.far ?_ NB0_102.out _ | refine IsS58.far ?_ NB0_110.out _ | refine IsS58.far ?_ NB0_128.out _) | exact HI0.out)⟩, ⟨by repeat (first | (with_reducible first | exact HK.out | apply KeepBut.set_ | apply keep_drewN | apply keep_drew | apply keep_alloc | refine keep_far ?_ GB70.out _ | refine keep_far ?_ GW101.out _ | refine keep_far ?_ GW102.out _ | refine keep_far ?_ GW110.out _ | refine keep_far ?_ GW128.out _) | exact HK.out)⟩, ⟨by repeat (first | (with_reducible first | exact HB.out | apply below_alloc | apply pw_below_drewN | apply below_drew1 | refine below_set ?_ (Nat.le_trans HL.out GB70.out) | refine below_set ?_ (IsS58.ge HI0.out) | refine below_set ?_ GE101.out | refine below_set ?_ GE102.out | refine below_set ?_ GE110.out | refine below_set ?_ GE128.out) | exact HB.out)⟩⟩
def spec_l1Cur_motion.f (s0_0 : List Int) (s0_1 : Int) (s0_2 : Int) : Option (Int × Int × Int × Int) := (spec_l1Cur_pick.f s0_0 s0_1 s0_2 5).bind fun bt102 => ((spec_l1Cur_pick.f s0_0 bt102.2.1 bt102.2.2 5).bind fun bt105 => ((spec_l1Cur_one.f s0_0 bt105.2.1 bt105.2.2 16).bind fun bt109 => (if bt109.1 = true then ((spec_l1Cur_among.f s0_0 bt109.2.1 bt109.2.2 (([3, (-3)] : List Int))).bind fun bt115 => (some (bt115.1, wrap64 (bt105.1 - 2), bt115.2.1, bt115.2.2))) else (some (wrap64 (bt102.1 - 2), wrap64 (bt105.1 - 2), bt109.2.1, bt109.2.2)))))
theorem spec_l1Cur_motion.calls (g : Nat) (s0_0 : List Int) (s0_1 : Int) (s0_2 : Int) (r1 : Int) (r2 : Int) (r3 : Int) (r4 : Int) (w0 w : World) (hI : IsS58 w0 w g s0_0 s0_1 s0_2) (hB : Below w0.heap.size w0 w) (h : spec_l1Cur_motion.f s0_0 s0_1 s0_2 = some (r1, r2, r3, r4)) :
  Calls Try.prog 25 #[.pointer (some ⟨g, 0, none⟩)] w fun e w' => e = .returned (.agg #[.int .i64 r1, .int .i64 r2]) ∧ IsS58 w0 w' g s0_0 r3 r4 ∧ Below w0.heap.size w0 w' ∧ KeepBut w w' g none := by
 have hu33 := Try.underlying33
 have HI0 := Aside0.mk hI
 have HK := aK (KeepBut.refl w g none)
 have HL := Aside0.mk hB.size
 clear hI
 have HW0 := Aside0.mk hB.size
 have HB := Aside0.mk hB
 clear hB
 have H : ((spec_l1Cur_pick.f s0_0 s0_1 s0_2 5).bind fun bt102 => ((spec_l1Cur_pick.f s0_0 bt102.2.1 bt102.2.2 5).bind fun bt105 => ((spec_l1Cur_one.f s0_0 bt105.2.1 bt105.2.2 16).bind fun bt109 => (if bt109.1 = true then ((spec_l1Cur_among.f s0_0 bt109.2.1 bt109.2.2 (([3, (-3)] : List Int))).bind fun bt115 => (some (bt115.1, wrap64 (bt105.1 - 2), bt115.2.1, bt115.2.2))) else (some (wrap64 (bt102.1 - 2), wrap64 (bt105.1 - 2), bt109.2.1, bt109.2.2)))))) = some (r1, r2, r3, r4) := h
 clear h
 replace H := Option.bind_eq_some_iff.mp H
 obtain ⟨⟨t102, t103, t104⟩, A20, H⟩ := H
 replace H : ((spec_l1Cur_pick.f s0_0 t103 t104 5).bind fun bt105 => ((spec_l1Cur_one.f s0_0 bt105.2.1 bt105.2.2 16).bind fun bt109 => (if bt109.1 = true then ((spec_l1Cur_among.f s0_0 bt109.2.1 bt109.2.2 (([3, (-3)] : List Int))).bind fun bt115 => (some (bt115.1, wrap64 (bt105.1 - 2), bt115.2.1, bt115.2.2))) else (some (wrap64 (t102 - 2), wrap64 (bt105.1 - 2), bt109.2.1, bt109.2.2))))) = some (r1, r2, r3, r4) := H
 have A2 := Aside0.mk A20
 clear A20
 replace H := Option.bind_eq_some_iff.mp H
 obtain ⟨⟨t105, t106, t107⟩, A30, H⟩ := H
 replace H : ((spec_l1Cur_one.f s0_0 t106 t107 16).bind fun bt109 => (if bt109.1 = true then ((spec_l1Cur_among.f s0_0 bt109.2.1 bt109.2.2 (([3, (-3)] : List Int))).bind fun bt115 => (some (bt115.1, wrap64 (t105 - 2), bt115.2.1, bt115.2.2))) else (some (wrap64 (t102 - 2), wrap64 (t105 - 2), bt109.2.1, bt109.2.2)))) = some (r1, r2, r3, r4) := H
 have A3 := Aside0.mk A30
 clear A30
 replace H := Option.bind_eq_some_iff.mp H
 obtain ⟨⟨t109, t110, t111⟩, A40, H⟩ := H
 replace H : (if t109 = true then ((spec_l1Cur_among.f s0_0 t110 t111 (([3, (-3)] : List Int))).bind fun bt115 => (some (bt115.1, wrap64 (t105 - 2), bt115.2.1, bt115.2.2))) else (some (wrap64 (t102 - 2), wrap64 (t105 - 2), t110, t111))) = some (r1, r2, r3, r4) := H
 have A4 := Aside0.mk A40
 clear A40
 by_cases c5 : t109 = true
 rotate_left
 ·
  replace c5 := Bool.eq_false_iff.mpr c5; subst c5
  have H1 : (some (wrap64 (t102 - 2), wrap64 (t105 - 2), t110, t111)) = some (r1, r2, r3, r4) := by rw [if_neg (show ¬ (false = true) by decide)] at H; exact H
  clear H; have H := H1; clear H1
  simp only [Option.some.injEq, Prod.mk.injEq] at H
  obtain ⟨rfl, rfl, rfl, rfl⟩ := H
  go_enter Try.func25, Try.ntmps25
  go_wp2_with (first | ((with_reducible refine gate_dst (N := 2) rfl ?_); refine bxe (cs := #[.int .i64 0, .int .i64 0]) (t := 33) ?_; intro gb101 hg w22 hbox hb; have n0_ := aK (IsS58.below (pI58 HI0.out) hb); have n1_ := aK (KeepBut.trans (pK HK.out) (KeepBut.of_below hb g none) (.inl rfl)); replace HB := aK (below_step ((pV HB.out (IsS58.ge HI0.out))) hb); have BK101 := aK (hbox); have GW101 := aK ((by rw [hg]; exact (keep_size (w := w) (g := g) (row := none) (pK HK.out)) : w.heap.size ≤ gb101)); have GE101 := aK ((Nat.le_trans HW0.out (by rw [hg]; exact (keep_size (w := w) (g := g) (row := none) (pK HK.out)) : w.heap.size ≤ gb101) : w0.heap.size ≤ gb101)); have NB0_101 := aK ((by rw [hg]; exact Nat.ne_of_lt (IsS58.lt (show IsS58 w0 _ g s0_0 s0_1 s0_2 from pI58 HI0.out)) : g ≠ gb101)); have NB101_0 := aK ((by rw [hg]; exact Nat.ne_of_gt (IsS58.lt (show IsS58 w0 _ g s0_0 s0_1 s0_2 from pI58 HI0.out)) : gb101 ≠ g)); clear HI0 HK; have HI0 := n0_; have HK := n1_; clear n0_ n1_; clear hb hbox hg) | ((with_reducible refine gate_callee (f := 44) rfl ?_); refine gl (some 5) Try.func44 #[.pointer (some ⟨g, 0, none⟩), .int .i64 5] ?_; (with_reducible refine (spec_l1Cur_pick.calls g s0_0 s0_1 s0_2 5 t102 t103 t104 w0 _ ?side1 ?side2 A2.out).mono ?_); (case side1 => exact pI58 HI0.out); (case side2 => exact pV HB.out (IsS58.ge HI0.out)); rintro e w23 ⟨rfl, hi, hb, hk⟩; refine ⟨_, rfl, ?_⟩; replace BK101 := aK (KeepBut.blk hk (pB BK101.out) NB101_0.out (by simp)); replace HK := aK (KeepBut.trans (pK HK.out) hk (.inl rfl)); replace HB := aK (hb); replace HI0 := aK (hi); (try clear hb); (try clear hb2); (try clear hk); (try clear hi)) | ((with_reducible refine gate_callee (f := 44) rfl ?_); refine gl (some 8) Try.func44 #[.pointer (some ⟨g, 0, none⟩), .int .i64 5] ?_; (with_reducible refine (spec_l1Cur_pick.calls g s0_0 t103 t104 5 t105 t106 t107 w0 _ ?side1 ?side2 A3.out).mono ?_); (case side1 => exact pI58 HI0.out); (case side2 => exact pV HB.out (IsS58.ge HI0.out)); rintro e w24 ⟨rfl, hi, hb, hk⟩; refine ⟨_, rfl, ?_⟩; replace BK101 := aK (KeepBut.blk hk (pB BK101.out) NB101_0.out (by simp)); replace HK := aK (KeepBut.trans (pK HK.out) hk (.inl rfl)); replace HB := aK (hb); replace HI0 := aK (hi); (try clear hb); (try clear hb2); (try clear hk); (try clear hi)) | ((with_reducible refine gate_dst (N := 3) rfl ?_); refine bxe (cs := #[.int .i64 0, .int .i64 0]) (t := 33) ?_; intro gb108 hg w25 hbox hb; have n0_ := aK (IsS58.below (pI58 HI0.out) hb); have n2_ := aK (KeepBut.trans (pK HK.out) (KeepBut.of_below hb g none) (.inl rfl)); replace HB := aK (below_step ((pV HB.out (IsS58.ge HI0.out))) hb); have BK108 := aK (hbox); have GW108 := aK ((by rw [hg]; exact (keep_size (w := w) (g := g) (row := none) (pK HK.out)) : w.heap.size ≤ gb108)); have GE108 := aK ((Nat.le_trans HW0.out (by rw [hg]; exact (keep_size (w := w) (g := g) (row := none) (pK HK.out)) : w.heap.size ≤ gb108) : w0.heap.size ≤ gb108)); obtain ⟨NB101_108, NB108_101⟩ := nb hg (pB BK101.out); have NB0_108 := aK ((by rw [hg]; exact Nat.ne_of_lt (IsS58.lt (show IsS58 w0 _ g s0_0 t106 t107 from pI58 HI0.out)) : g ≠ gb108)); have NB108_0 := aK ((by rw [hg]; exact Nat.ne_of_gt (IsS58.lt (show IsS58 w0 _ g s0_0 t106 t107 from pI58 HI0.out)) : gb108 ≠ g)); replace BK101 := bB BK101 hb; clear HI0 HK; have HI0 := n0_; have HK := n2_; clear n0_ n2_ hb hbox hg; obtain ⟨hnb26, hnc26⟩ := nB NB108_101; obtain ⟨hnb27, hnc27⟩ := nB NB108_0; obtain ⟨z28_0, z28_1, y28_0, y28_1⟩ := bc2 BK108.out) | ((with_reducible refine gate_callee (f := 40) rfl ?_); refine gl (some 12) Try.func40 #[.pointer (some ⟨g, 0, none⟩), .int .i64 16] ?_; (with_reducible refine (spec_l1Cur_one.calls g s0_0 t106 t107 16 false t110 t111 w0 _ ?side1 ?side2 A4.out).mono ?_); (case side1 => exact pI58 HI0.out); (case side2 => exact pV HB.out (IsS58.ge HI0.out)); rintro e w29 ⟨rfl, hi, hb, hk⟩; refine ⟨_, rfl, ?_⟩; replace BK101 := aK (KeepBut.blk hk (g' := gb101) (o := .cells #[.int .i64 0, .int .i64 0] 33 (0, 0)) (by refine bk ?_; refine blk_far ?_ NB101_108.out _; refine bk ?_; refine blk_far ?_ NB101_108.out _; refine bk ?_; exact BK101.out) NB101_0.out (by simp)); replace BK108 := aK (KeepBut.blk hk (g' := gb108) (o := .cells #[.int .i64 (wrap64 (t102 - 2)), .int .i64 (wrap64 (t105 - 2))] 33 (0, 0)) (by refine bk ?_; refine blk_put (cs := #[.int .i64 (wrap64 (t102 - 2)), .int .i64 0]) ?_ 1 _ rfl; refine bk ?_; refine blk_put (cs := #[.int .i64 0, .int .i64 0]) ?_ 0 _ rfl; refine bk ?_; exact BK108.out) NB108_0.out (by simp)); replace HK := aK (KeepBut.trans (pK HK.out) hk (.inl rfl)); replace HB := aK (hb); replace HI0 := aK (hi); (try clear hb); (try clear hb2); (try clear hk); (try clear hi); obtain ⟨z30_0, z30_1, y30_0, y30_1⟩ := bc2 BK108.out; obtain ⟨hnb31, hnc31⟩ := nB NB101_0; obtain ⟨z32_0, z32_1, y32_0, y32_1⟩ := bc2 BK101.out))
  refine bodyPost_ret (results_cell_row rfl _ _ gb101 33 #[.int .i64 (wrap64 (t102 - 2)), .int .i64 (wrap64 (t105 - 2))] (0, 0) _ rfl (by refine bk ?_; refine blk_put (cs := #[.int .i64 (wrap64 (t102 - 2)), .int .i64 0]) ?_ 1 _ rfl; refine bk ?_; refine blk_put (cs := #[.int .i64 0, .int .i64 0]) ?_ 0 _ rfl; refine bk ?_; exact BK101.out) Try.underlying33 rfl (by kernel_rfl)) rfl ?_
  exact ⟨er, pI58 HI0.out, (pV HB.out (IsS58.ge HI0.out)), pK HK.out⟩
 subst c5
 have H1 : ((spec_l1Cur_among.f s0_0 t110 t111 (([3, (-3)] : List Int))).bind fun bt115 => (some (bt115.1, wrap64 (t105 - 2), bt115.2.1, bt115.2.2))) = some (r1, r2, r3, r4) := by rw [if_pos rfl] at H; exact H
 clear H
 have H := H1
 clear H1
 obtain ⟨y112, hy112⟩ : ∃ y_ : List Int, y_ = (([3, (-3)] : List Int)) := ⟨_, rfl⟩
 replace H : ((spec_l1Cur_among.f s0_0 t110 t111 y112).bind fun bt115 => (some (bt115.1, wrap64 (t105 - 2), bt115.2.1, bt115.2.2))) = some (r1, r2, r3, r4) := by first | (rw [hy112]; with_reducible exact H) | (have H2_ := (Option.bind_some _ _).symm.trans H; rw [hy112]; with_reducible exact H2_) | (have H2_ := (Option.bind_some _ _).symm.trans H; with_reducible exact H2_) | with_reducible exact H | (rw [hy112]; exact H) | exact H
 have Ny112 := Aside0.mk hy112
 clear hy112
 replace H := Option.bind_eq_some_iff.mp H
 obtain ⟨⟨t115, t116, t117⟩, A60, H⟩ := H
 replace H : (some (t115, wrap64 (t105 - 2), t116, t117)) = some (r1, r2, r3, r4) := H
 have A6 := Aside0.mk A60
 clear A60
 simp only [Option.some.injEq, Prod.mk.injEq] at H
 obtain ⟨rfl, rfl, rfl, rfl⟩ := H
 go_enter Try.func25, Try.ntmps25
 go_wp2_with (first | ((with_reducible refine gate_dst (N := 2) rfl ?_); refine bxe (cs := #[.int .i64 0, .int .i64 0]) (t := 33) ?_; intro gb101 hg w7 hbox hb; have n0_ := aK (IsS58.below (pI58 HI0.out) hb); have n1_ := aK (KeepBut.trans (pK HK.out) (KeepBut.of_below hb g none) (.inl rfl)); replace HB := aK (below_step ((pV HB.out (IsS58.ge HI0.out))) hb); have BK101 := aK (hbox); have GW101 := aK ((by rw [hg]; exact (keep_size (w := w) (g := g) (row := none) (pK HK.out)) : w.heap.size ≤ gb101)); have GE101 := aK ((Nat.le_trans HW0.out (by rw [hg]; exact (keep_size (w := w) (g := g) (row := none) (pK HK.out)) : w.heap.size ≤ gb101) : w0.heap.size ≤ gb101)); have NB0_101 := aK ((by rw [hg]; exact Nat.ne_of_lt (IsS58.lt (show IsS58 w0 _ g s0_0 s0_1 s0_2 from pI58 HI0.out)) : g ≠ gb101)); have NB101_0 := aK ((by rw [hg]; exact Nat.ne_of_gt (IsS58.lt (show IsS58 w0 _ g s0_0 s0_1 s0_2 from pI58 HI0.out)) : gb101 ≠ g)); clear HI0 HK; have HI0 := n0_; have HK := n1_; clear n0_ n1_; clear hb hbox hg) | ((with_reducible refine gate_callee (f := 44) rfl ?_); refine gl (some 5) Try.func44 #[.pointer (some ⟨g, 0, none⟩), .int .i64 5] ?_; (with_reducible refine (spec_l1Cur_pick.calls g s0_0 s0_1 s0_2 5 t102 t103 t104 w0 _ ?side1 ?side2 A2.out).mono ?_); (case side1 => exact pI58 HI0.out); (case side2 => exact pV HB.out (IsS58.ge HI0.out)); rintro e w8 ⟨rfl, hi, hb, hk⟩; refine ⟨_, rfl, ?_⟩; replace BK101 := aK (KeepBut.blk hk (pB BK101.out) NB101_0.out (by simp)); replace HK := aK (KeepBut.trans (pK HK.out) hk (.inl rfl)); replace HB := aK (hb); replace HI0 := aK (hi); (try clear hb); (try clear hb2); (try clear hk); (try clear hi)) | ((with_reducible refine gate_callee (f := 44) rfl ?_); refine gl (some 8) Try.func44 #[.pointer (some ⟨g, 0, none⟩), .int .i64 5] ?_; (with_reducible refine (spec_l1Cur_pick.calls g s0_0 t103 t104 5 t105 t106 t107 w0 _ ?side1 ?side2 A3.out).mono ?_); (case side1 => exact pI58 HI0.out); (case side2 => exact pV HB.out (IsS58.ge HI0.out)); rintro e w9 ⟨rfl, hi, hb, hk⟩; refine ⟨_, rfl, ?_⟩; replace BK101 := aK (KeepBut.blk hk (pB BK101.out) NB101_0.out (by simp)); replace HK := aK (KeepBut.trans (pK HK.out) hk (.inl rfl)); replace HB := aK (hb); replace HI0 := aK (hi); (try clear hb); (try clear hb2); (try clear hk); (try clear hi)) | ((with_reducible refine gate_dst (N := 3) rfl ?_); refine bxe (cs := #[.int .i64 0, .int .i64 0]) (t := 33) ?_; intro gb108 hg w10 hbox hb; have n0_ := aK (IsS58.below (pI58 HI0.out) hb); have n2_ := aK (KeepBut.trans (pK HK.out) (KeepBut.of_below hb g none) (.inl rfl)); replace HB := aK (below_step ((pV HB.out (IsS58.ge HI0.out))) hb); have BK108 := aK (hbox); have GW108 := aK ((by rw [hg]; exact (keep_size (w := w) (g := g) (row := none) (pK HK.out)) : w.heap.size ≤ gb108)); have GE108 := aK ((Nat.le_trans HW0.out (by rw [hg]; exact (keep_size (w := w) (g := g) (row := none) (pK HK.out)) : w.heap.size ≤ gb108) : w0.heap.size ≤ gb108)); obtain ⟨NB101_108, NB108_101⟩ := nb hg (pB BK101.out); have NB0_108 := aK ((by rw [hg]; exact Nat.ne_of_lt (IsS58.lt (show IsS58 w0 _ g s0_0 t106 t107 from pI58 HI0.out)) : g ≠ gb108)); have NB108_0 := aK ((by rw [hg]; exact Nat.ne_of_gt (IsS58.lt (show IsS58 w0 _ g s0_0 t106 t107 from pI58 HI0.out)) : gb108 ≠ g)); replace BK101 := bB BK101 hb; clear HI0 HK; have HI0 := n0_; have HK := n2_; clear n0_ n2_ hb hbox hg; obtain ⟨hnb11, hnc11⟩ := nB NB108_101; obtain ⟨hnb12, hnc12⟩ := nB NB108_0; obtain ⟨z13_0, z13_1, y13_0, y13_1⟩ := bc2 BK108.out) | ((with_reducible refine gate_callee (f := 40) rfl ?_); refine gl (some 12) Try.func40 #[.pointer (some ⟨g, 0, none⟩), .int .i64 16] ?_; (with_reducible refine (spec_l1Cur_one.calls g s0_0 t106 t107 16 true t110 t111 w0 _ ?side1 ?side2 A4.out).mono ?_); (case side1 => exact pI58 HI0.out); (case side2 => exact pV HB.out (IsS58.ge HI0.out)); rintro e w14 ⟨rfl, hi, hb, hk⟩; refine ⟨_, rfl, ?_⟩; replace BK101 := aK (KeepBut.blk hk (g' := gb101) (o := .cells #[.int .i64 0, .int .i64 0] 33 (0, 0)) (by refine bk ?_; refine blk_far ?_ NB101_108.out _; refine bk ?_; refine blk_far ?_ NB101_108.out _; refine bk ?_; exact BK101.out) NB101_0.out (by simp)); replace BK108 := aK (KeepBut.blk hk (g' := gb108) (o := .cells #[.int .i64 (wrap64 (t102 - 2)), .int .i64 (wrap64 (t105 - 2))] 33 (0, 0)) (by refine bk ?_; refine blk_put (cs := #[.int .i64 (wrap64 (t102 - 2)), .int .i64 0]) ?_ 1 _ rfl; refine bk ?_; refine blk_put (cs := #[.int .i64 0, .int .i64 0]) ?_ 0 _ rfl; refine bk ?_; exact BK108.out) NB108_0.out (by simp)); replace HK := aK (KeepBut.trans (pK HK.out) hk (.inl rfl)); replace HB := aK (hb); replace HI0 := aK (hi); (try clear hb); (try clear hb2); (try clear hk); (try clear hi)) | ((with_reducible refine gate_dst (N := 14) rfl ?_); refine Kd.R_lit (Kd.int .i64) _ 3 ?hg (N := 14) ?hd (xs := ([3, (-3)] : List Int)) (inner := [.int .i64 3, .int .i64 (-3)]) (ok := fun _ => True) (okp := fun _ => True) ?hr ?hp (fun _ hk => hk) trivial (Below.refl _ _) (Nat.le_refl _) (by simp) ?_; (case hd => rfl); (case hg => rfl); (case hr => first | (go_simp; done) | (go_simp; rfl)); (case hp => exact (Reps.one (show Kd.M (Kd.int .i64) _ _ _ 3 [.int .i64 3] from rfl) (Reps.one (show Kd.M (Kd.int .i64) _ _ _ (-3) [.int .i64 (-3)] from rfl) (Reps.none _ _)))); intro v113 w15 ho16 hb hg_ hnew_; clear hg_ hnew_; (first | rw [← Ny112.out] at ho16 | (simp only [Int.reduceToNat] at ho16; rw [← Ny112.out] at ho16)); have HO114 := aK (Kd.R_lower ho16 (keep_size (w := w) (g := g) (row := none) (pK HK.out))); have n1_ := aK (IsS58.below (pI58 HI0.out) hb); have n4_ := aK (KeepBut.trans (pK HK.out) (KeepBut.of_below hb g none) (.inl rfl)); have n5_ := aK (below_step ((pV HB.out (IsS58.ge HI0.out))) hb); replace BK101 := bB BK101 hb; replace BK108 := bB BK108 hb; clear HI0 HK HB; have HI0 := n1_; have HK := n4_; have HB := n5_; clear n1_ n4_ n5_ hb ho16; obtain ⟨Ao17, co17, eo17⟩ := Kd.R_slice HO114.out; subst eo17) | ((with_reducible refine gate_callee (f := 45) rfl ?_); refine gl (some 15) Try.func45 #[.pointer (some ⟨g, 0, none⟩), .slice Ao17 y112.length co17] ?_; (with_reducible refine (spec_l1Cur_among.calls g s0_0 t110 t111 _ _ y112 t115 t116 t117 w0 _ ?side1 ?side2 ?side3 ?side4 ?side5 A6.out).mono ?_); (case side1 => exact pI58 HI0.out); (case side2 => exact pV HB.out (IsS58.ge HI0.out)); (case side3 => exact pC (Kd.R_reads' HO114.out).2.2); (case side4 => exact (Kd.R_reads' HO114.out).2.1); (case side5 => exact far_slice (IsS58.own_ne HI0.out HO114.out (by decide))); rintro e w18 ⟨rfl, hi, hb, hk⟩; refine ⟨_, rfl, ?_⟩; replace BK101 := aK (KeepBut.blk hk (pB BK101.out) NB101_0.out (by simp)); replace BK108 := aK (KeepBut.blk hk (pB BK108.out) NB108_0.out (by simp)); replace HO114 := aK (Kd.R_mono (Kd.R_keep (IsS58.apart (show IsS58 w0 _ g s0_0 t110 t111 from pI58 HI0.out) (pR HO114.out) (by decide)) hk (fun _ h => h.2)) (fun _ h => h.1)); replace HK := aK (KeepBut.trans (pK HK.out) hk (.inl rfl)); replace HB := aK (hb); replace HI0 := aK (hi); (try clear hb); (try clear hb2); (try clear hk); (try clear hi); obtain ⟨z19_0, z19_1, y19_0, y19_1⟩ := bc2 BK108.out; obtain ⟨hnb20, hnc20⟩ := nB NB101_0; obtain ⟨z21_0, z21_1, y21_0, y21_1⟩ := bc2 BK101.out))
 refine bodyPost_ret (results_cell_row rfl _ _ gb101 33 #[.int .i64 t115, .int .i64 (wrap64 (t105 - 2))] (0, 0) _ rfl (by refine bk ?_; refine blk_put (cs := #[.int .i64 t115, .int .i64 0]) ?_ 1 _ rfl; refine bk ?_; refine blk_put (cs := #[.int .i64 0, .int .i64 0]) ?_ 0 _ rfl; refine bk ?_; refine blk_far ?_ NB101_108.out _; refine bk ?_; exact BK101.out) Try.underlying33 rfl (by kernel_rfl)) rfl ?_
 exact ⟨er, pI58 HI0.out, (pV HB.out (IsS58.ge HI0.out)), pK HK.out⟩
end Go.Proofs.Ytmkdiliemiobeaa.P
