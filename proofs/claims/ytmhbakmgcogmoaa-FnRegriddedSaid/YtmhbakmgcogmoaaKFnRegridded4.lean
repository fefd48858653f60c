/- Texts of the claim FnRegridded, merged: part 4 of 6: the program's and the reference's functions as Lean functions, the walks that show it, and plain lemmas; no conditions. -/
import Derived.Test.YtmhbakmgcogmoaaKFnRegridded1
import Derived.Test.YtmhbakmgcogmoaaKFnRegridded3
import Derived.Test.YtmhbakmgcogmoaaKFnRegridded2
namespace Go.Proofs.Ytmhbakmgcogmoaa.P
open Go.RowKit Go.Proofs.YtmhbakmgcogmoaaW.PrintWords Go.Proofs.YtmhbakmgcogmoaaW.PrintLast Go.Proofs.YtmhbakmgcogmoaaW.PrintMore
attribute [local go_sem] max2_int min2_int max_two min_two max_three min_three max_four min_four   -- for this text's walks alone
set_option linter.unusedVariables false
set_option linter.unusedSimpArgs false

/-! ### spec_RegridTotal: function 16 -/
mutual
def spec_RegridTotal.j0 : Nat → Int → Int → Bool → Int → Int → List Int → Option (Int × Int × List Int × Bool)
 | 0, _, _, _, _, _, _ => none
 | k + 1, x1, x2, x24, x102000, x102001, x102002 => if x24 = true then (some (0, 0, ([] : List Int), false)) else ((spec_l2Fill.f k x1 x2 0).bind fun bt105 => (spec_RegridTotal.l0 k x1 x2 0 x102000 x102001 x102002 bt105.1 bt105.2.1 bt105.2.2))
def spec_RegridTotal.l0 : Nat → Int → Int → Int → Int → Int → List Int → Int → Int → List Int → Option (Int × Int × List Int × Bool)
 | 0, _, _, _, _, _, _, _, _, _ => none
 | k + 1, x1, x2, x9, x102000, x102001, x102002, x111000, x111001, x111002 => if x9 < x102001 then (spec_RegridTotal.l1 k x1 x2 x9 0 x102000 x102001 x102002 x111000 x111001 x111002) else ((spec_l7Full.f k x111000 x111001 x111002).bind fun t111 => (if t111 = true then (some (x111000, x111001, x111002, true)) else (some (0, 0, ([] : List Int), false))))
def spec_RegridTotal.l1 : Nat → Int → Int → Int → Int → Int → Int → List Int → Int → Int → List Int → Option (Int × Int × List Int × Bool)
 | 0, _, _, _, _, _, _, _, _, _, _ => none
 | k + 1, x1, x2, x9, x10, x102000, x102001, x102002, x111000, x111001, x111002 => if x10 < x102000 then (spec_RegridTotal.l2 k x1 x2 x9 x10 (([] : List Int)) 0 x102000 x102001 x102002 x111000 x111001 x111002) else (spec_RegridTotal.l0 k x1 x2 (wrap64 (x9 + 1)) x102000 x102001 x102002 x111000 x111001 x111002)
def spec_RegridTotal.l2 : Nat → Int → Int → Int → Int → List Int → Int → Int → Int → List Int → Int → Int → List Int → Option (Int × Int × List Int × Bool)
 | 0, _, _, _, _, _, _, _, _, _, _, _, _ => none
 | k + 1, x1, x2, x9, x10, x11, x12, x102000, x102001, x102002, x111000, x111001, x111002 => if x12 < x2 then (spec_RegridTotal.l3 k x1 x2 x9 x10 x11 x12 0 x102000 x102001 x102002 x111000 x111001 x111002) else ((spec_l2At.f x102000 x102001 x102002 x10 x9).bind fun t120 => ((spec_l7Split.f k t120 x11).bind fun t121 => (spec_RegridTotal.l4 k x1 x2 x9 x10 t121 0 x102000 x102001 x102002 x111000 x111001 x111002)))
def spec_RegridTotal.l3 : Nat → Int → Int → Int → Int → List Int → Int → Int → Int → Int → List Int → Int → Int → List Int → Option (Int × Int × List Int × Bool)
 | 0, _, _, _, _, _, _, _, _, _, _, _, _, _ => none
 | k + 1, x1, x2, x9, x10, x11, x12, x13, x102000, x102001, x102002, x111000, x111001, x111002 => if x13 < x1 then ((spec_l7Overlap.f x102000 x1 x10 x13).bind fun t115 => ((spec_l7Overlap.f x102001 x2 x9 x12).bind fun t116 => (if x11.length < 17592186044416 then (spec_RegridTotal.l3 k x1 x2 x9 x10 (x11 ++ [wrap64 (t115 * t116)]) x12 (wrap64 (x13 + 1)) x102000 x102001 x102002 x111000 x111001 x111002) else (none)))) else (spec_RegridTotal.l2 k x1 x2 x9 x10 x11 (wrap64 (x12 + 1)) x102000 x102001 x102002 x111000 x111001 x111002)
def spec_RegridTotal.l4 : Nat → Int → Int → Int → Int → List Int → Int → Int → Int → List Int → Int → Int → List Int → Option (Int × Int × List Int × Bool)
 | 0, _, _, _, _, _, _, _, _, _, _, _, _ => none
 | k + 1, x1, x2, x9, x10, x14, x15, x102000, x102001, x102002, x111000, x111001, x111002 => if x15 < (x14.length : Int) then (if 0 ≤ x15 then (if x15 < (x111002.length : Int) then (spec_RegridTotal.l4 k x1 x2 x9 x10 x14 (wrap64 (x15 + 1)) x102000 x102001 x102002 x111000 x111001 (x111002.set (x15 : Int).toNat (wrap64 ((rd x111002 x15) + (rd x14 x15))))) else (none)) else (none)) else (spec_RegridTotal.l1 k x1 x2 x9 (wrap64 (x10 + 1)) x102000 x102001 x102002 x111000 x111001 x111002)
end
def spec_RegridTotal.f (k : Nat) (a0_0 : Int) (a0_1 : Int) (l0_2 : List Int) (a1 : Int) (a2 : Int) : Option (Int × Int × List Int × Bool) := (spec_l7Full.f k a0_0 a0_1 l0_2).bind fun t103 => (if t103 = true then ((spec_l2Shape.f a1 a2).bind fun t104 => (spec_RegridTotal.j0 k a1 a2 (!t104) a0_0 a0_1 l0_2)) else (spec_RegridTotal.j0 k a1 a2 true a0_0 a0_1 l0_2))

def spec_RegridTotal.T17 : Bool × List (List Nat × List Nat) := (true, [([], []), ([], []), ([1], [1]), ([], []), ([], []), ([], []), ([2, 3, 4, 5], [2, 3, 4, 5]), ([], []), ([7], [7]), ([], []), ([], []), ([], []), ([8, 9, 10, 11, 6], [8, 9, 10, 11]), ([6, 12], [6, 12]), ([13], [13]), ([0, 14, 12], [0, 14]), ([15, 15, 0, 1, 2, 3, 4, 5, 6, 7, 8, 9, 10, 11, 12, 13, 14, 15], [0, 15])])
def spec_RegridTotal.B17 : List Nat := [0, 0, 2, 0, 0, 0, 62, 0, 128, 0, 0, 0, 4094, 8190, 16382, 32767, 65535]
theorem spec_RegridTotal.tab17 : rtab .any (opsOf Try.f16 17) = spec_RegridTotal.T17 := by kernel_rfl
theorem spec_RegridTotal.bits17 : waitsOk spec_RegridTotal.T17.2 spec_RegridTotal.B17 = true := by kernel_rfl
def spec_RegridTotal.T22 : Bool × List (List Nat × List Nat) := (true, [([], []), ([0], [0]), ([], []), ([], []), ([3], [3]), ([], []), ([4, 5], [4, 5]), ([6], [6]), ([], []), ([], []), ([8, 9], [8, 9]), ([10], [10]), ([7, 11], [7, 11]), ([1, 2, 0, 1, 2, 3, 4, 5, 6, 7, 8, 9, 10, 11, 12], [1, 2]), ([13, 12, 0, 1, 2, 3, 4, 5, 6, 7, 8, 9, 10, 11, 12], [12, 13])])
def spec_RegridTotal.B22 : List Nat := [0, 1, 0, 0, 8, 0, 56, 120, 0, 0, 768, 1792, 4088, 8191, 16383]
theorem spec_RegridTotal.tab22 : rtab .any (opsOf Try.f16 22) = spec_RegridTotal.T22 := by kernel_rfl
theorem spec_RegridTotal.bits22 : waitsOk spec_RegridTotal.T22.2 spec_RegridTotal.B22 = true := by kernel_rfl
set_option maxHeartbeats 8000000 in
set_option maxRecDepth 100000 in
theorem spec_RegridTotal.calls (k : Nat) (a0_0 : Int) (a0_1 : Int) (A0_2 : Option Addr) (c0_2 : Nat) (l0_2 : List Int) (a1 : Int) (a2 : Int) (r1 : Int) (r2 : Int) (r3 : List Int) (r4 : Bool) (w : World) (hr0_2 : Kd.C (Kd.int .i64) w A0_2 l0_2.length l0_2) (hc0_2 : l0_2.length ≤ c0_2) (h : spec_RegridTotal.f k a0_0 a0_1 l0_2 a1 a2 = some (r1, r2, r3, r4)) :
  Calls Try.prog 16 #[.agg #[.int .i64 a0_0, .int .i64 a0_1, .slice A0_2 l0_2.length c0_2], .int .i64 a1, .int .i64 a2] w fun e w' => ∃ v2_ : Value, e = .returned (.tuple #[.agg #[.int .i64 r1, .int .i64 r2, v2_], .bool r4]) ∧ Kd.R (Kd.int .i64) 3 w' w.heap.size (fun _ => True) v2_ r3 ∧ Below w.heap.size w w' := by
 have hu24 := Try.underlying24
 have HR0_2 := Aside0.mk hr0_2
 have HC0_2 := Aside0.mk hc0_2
 clear hr0_2 hc0_2
 have HB := aK (Below.refl w.heap.size w)
 have H : ((spec_l7Full.f k a0_0 a0_1 l0_2).bind fun t103 => (if t103 = true then ((spec_l2Shape.f a1 a2).bind fun t104 => (spec_RegridTotal.j0 k a1 a2 (!t104) a0_0 a0_1 l0_2)) else (spec_RegridTotal.j0 k a1 a2 true a0_0 a0_1 l0_2))) = some (r1, r2, r3, r4) := h
 clear h
 have HC4 := Aside0.mk H
 clear H
 go_enter Try.func16, Try.ntmps16
 go_upto_region 1 with (first | ((with_reducible refine gate_dst (N := 3) rfl ?_); refine box_event ?hg (N := 3) ?hd (cs := #[.int .i64 a0_0, .int .i64 a0_1, .slice A0_2 l0_2.length c0_2]) (t := 24) ?hr ?_; (case hd => rfl); (case hg => rfl); (case hr => first | (go_simp; done) | (go_simp; rfl)); intro gb101 hg w5 hbox hb; have BK101 := aK (hbox); have GW101 := aK (gE hg (pS HB.out)); have GE101 := aK (gE hg (pS HB.out)); replace HB := bS HB hb; clear hb hbox hg) | ((with_reducible refine gate_dst (N := 6) rfl ?_); refine box_event ?hg (N := 6) ?hd (cs := #[.int .i64 0, .int .i64 0, .slice none 0 0]) (t := 24) ?hr ?_; (case hd => rfl); (case hg => rfl); (case hr => first | (go_simp; done) | (go_simp; rfl)); intro gb102 hg w6 hbox hb; have BK102 := aK (hbox); have GW102 := aK (gE hg (pS HB.out)); have GE102 := aK (gE hg (pS HB.out)); have NB101_102 := aK (nL hg (pB BK101.out)); have NB102_101 := aK (nG hg (pB BK101.out)); replace BK101 := bB BK101 hb; replace HB := bS HB hb; clear hb hbox hg))
 (try simp only [Act.put, List.setIfInBounds_toArray, List.set_cons_zero, List.set_cons_succ])
 go_cut [24] (fun v24 wc => ∃ (kq : Nat) (x24_3 : Bool), v24 = .bool x24_3 ∧ Aside0 (spec_RegridTotal.j0 kq a1 a2 x24_3 a0_0 a0_1 l0_2 = some (r1, r2, r3, r4)) ∧ Aside0 (kq ≤ k) ∧ Aside0 (wc.heap[gb101]? = some (.cells #[.int .i64 a0_0, .int .i64 a0_1, (.slice A0_2 l0_2.length c0_2)] 24 (0, 0))) ∧ Aside0 (wc.heap[gb102]? = some (.cells #[.int .i64 0, .int .i64 0, (.slice none 0 0)] 24 (0, 0))) ∧ Aside0 (Below w.heap.size w wc))
 case first =>
  have H := HC4.out
  clear HC4
  replace H := Option.bind_eq_some_iff.mp H
  obtain ⟨t103, A70, H⟩ := H
  replace H : (if t103 = true then ((spec_l2Shape.f a1 a2).bind fun t104 => (spec_RegridTotal.j0 k a1 a2 (!t104) a0_0 a0_1 l0_2)) else (spec_RegridTotal.j0 k a1 a2 true a0_0 a0_1 l0_2)) = some (r1, r2, r3, r4) := H
  have A7 := Aside0.mk A70
  clear A70
  by_cases c8 : t103 = true
  ·
   subst c8
   have H1 : ((spec_l2Shape.f a1 a2).bind fun t104 => (spec_RegridTotal.j0 k a1 a2 (!t104) a0_0 a0_1 l0_2)) = some (r1, r2, r3, r4) := by rw [if_pos rfl] at H; exact H
   clear H
   have H := H1
   clear H1
   replace H := Option.bind_eq_some_iff.mp H
   obtain ⟨t104, A90, H⟩ := H
   replace H : (spec_RegridTotal.j0 k a1 a2 (!t104) a0_0 a0_1 l0_2) = some (r1, r2, r3, r4) := H
   have A9 := Aside0.mk A90
   clear A90
   have H' := Aside0.mk H
   clear H
   have hnb10 := NB101_102.out
   have hnc10 := NB102_101.out
   have hcz11_0 : w6.cell? ⟨gb101, 0, none⟩ = some (.int .i64 a0_0) := (blk_cell BK101.out 0).trans rfl
   have hcz11_1 : w6.cell? ⟨gb101, 1, none⟩ = some (.int .i64 a0_1) := (blk_cell BK101.out 1).trans rfl
   have hcz11_2 : w6.cell? ⟨gb101, 2, none⟩ = some (.slice A0_2 l0_2.length c0_2) := (blk_cell BK101.out 2).trans rfl
   have hfz11_0 := blk_frozen BK101.out 0
   have hfz11_1 := blk_frozen BK101.out 1
   have hfz11_2 := blk_frozen BK101.out 2
   go_wp2_with (first | ((with_reducible refine gate_callee (f := 102) rfl ?_); refine goesL_ (some 17) rfl rfl Try.func102 (by kernel_rfl) rfl #[.agg #[.int .i64 a0_0, .int .i64 a0_1, .slice A0_2 l0_2.length c0_2]] rfl (by (try simp only [List.map_toArray, List.map_cons, List.map_nil]); first | done | rfl | (simp only [List.length_drop, List.length_take]; rfl)) ?_; (with_reducible refine (spec_l7Full.calls k a0_0 a0_1 _ _ l0_2 true _ ?side1 ?side2 A7.out).mono ?_); (case side1 => repeat (first | exact (Kd.C_below HR0_2.out HB.out) | (with_reducible refine Kd.C_alloc ?_ _) | (with_reducible refine Kd.C_drewN ?_ _) | (with_reducible refine Kd.C_drew ?_))); (case side2 => exact HC0_2.out); rintro e w12 ⟨rfl, hb⟩; refine ⟨_, rfl, ?_⟩; replace BK101 := bB BK101 hb; replace BK102 := bB BK102 hb; replace HB := bS HB hb; (try clear hb); (try clear hb2); (try clear hk); (try clear hi)) | (go_at_call 103; (with_reducible refine (spec_l2Shape.calls a1 a2 t104 _ A9.out).mono ?_); rintro e w' ⟨rfl, ⟨nd, rfl⟩⟩))
   go_meet
   case rel => exact ⟨_, (!t104), (by first | rfl | (simp; done) | (simp [*]; done)), H', ⟨by first | omega | exact Nat.le_refl _⟩, ⟨by (with_reducible repeat (first | refine blk_drewN ?_ _ | refine blk_drew ?_ | refine blk_alloc ?_ _)); exact BK101.out⟩, ⟨by (with_reducible repeat (first | refine blk_drewN ?_ _ | refine blk_drew ?_ | refine blk_alloc ?_ _)); exact BK102.out⟩, ⟨by repeat (first | (with_reducible first | exact HB.out | apply below_alloc | apply pw_below_drewN | apply below_drew1 | refine below_set ?_ GE101.out | refine below_set ?_ GE102.out) | exact HB.out)⟩⟩
  ·
   replace c8 := Bool.eq_false_iff.mpr c8
   subst c8
   have H1 : (spec_RegridTotal.j0 k a1 a2 true a0_0 a0_1 l0_2) = some (r1, r2, r3, r4) := by rw [if_neg (show ¬ (false = true) by decide)] at H; exact H
   clear H
   have H := H1
   clear H1
   have H' := Aside0.mk H
   clear H
   have hnb13 := NB101_102.out
   have hnc13 := NB102_101.out
   have hcz14_0 : w6.cell? ⟨gb101, 0, none⟩ = some (.int .i64 a0_0) := (blk_cell BK101.out 0).trans rfl
   have hcz14_1 : w6.cell? ⟨gb101, 1, none⟩ = some (.int .i64 a0_1) := (blk_cell BK101.out 1).trans rfl
   have hcz14_2 : w6.cell? ⟨gb101, 2, none⟩ = some (.slice A0_2 l0_2.length c0_2) := (blk_cell BK101.out 2).trans rfl
   have hfz14_0 := blk_frozen BK101.out 0
   have hfz14_1 := blk_frozen BK101.out 1
   have hfz14_2 := blk_frozen BK101.out 2
   go_wp2_with (first | ((with_reducible refine gate_callee (f := 102) rfl ?_); refine goesL_ (some 17) rfl rfl Try.func102 (by kernel_rfl) rfl #[.agg #[.int .i64 a0_0, .int .i64 a0_1, .slice A0_2 l0_2.length c0_2]] rfl (by (try simp only [List.map_toArray, List.map_cons, List.map_nil]); first | done | rfl | (simp only [List.length_drop, List.length_take]; rfl)) ?_; (with_reducible refine (spec_l7Full.calls k a0_0 a0_1 _ _ l0_2 false _ ?side1 ?side2 A7.out).mono ?_); (case side1 => repeat (first | exact (Kd.C_below HR0_2.out HB.out) | (with_reducible refine Kd.C_alloc ?_ _) | (with_reducible refine Kd.C_drewN ?_ _) | (with_reducible refine Kd.C_drew ?_))); (case side2 => exact HC0_2.out); rintro e w15 ⟨rfl, hb⟩; refine ⟨_, rfl, ?_⟩; replace BK101 := bB BK101 hb; replace BK102 := bB BK102 hb; replace HB := bS HB hb; (try clear hb); (try clear hb2); (try clear hk); (try clear hi)))
   go_meet
   case rel => exact ⟨_, (true), (by first | rfl | (simp; done) | (simp [*]; done)), H', ⟨by first | omega | exact Nat.le_refl _⟩, ⟨by (with_reducible repeat (first | refine blk_drewN ?_ _ | refine blk_drew ?_ | refine blk_alloc ?_ _)); exact BK101.out⟩, ⟨by (with_reducible repeat (first | refine blk_drewN ?_ _ | refine blk_drew ?_ | refine blk_alloc ?_ _)); exact BK102.out⟩, ⟨by repeat (first | (with_reducible first | exact HB.out | apply below_alloc | apply pw_below_drewN | apply below_drew1 | refine below_set ?_ GE101.out | refine below_set ?_ GE102.out) | exact HB.out)⟩⟩
 case rest =>
  clear HC4
  try clear c1
  try clear p2
  try clear c8
  try clear c10
  try clear c13
  try clear hcz11_0
  try clear hcz11_1
  try clear hcz11_2
  try clear hcz14_0
  try clear hcz14_1
  try clear hcz14_2
  try clear hfz11_0
  try clear hfz11_1
  try clear hfz11_2
  try clear hfz14_0
  try clear hfz14_1
  try clear hfz14_2
  obtain ⟨kq, x24_3, rfl, HA, HJ3, BK101, BK102, HB⟩ := hcut
  cases kq with
  | zero => exact absurd HA.out (by simp [spec_RegridTotal.j0])
  | succ kj3 =>
   have H := HA.out
   clear HA
   simp only [spec_RegridTotal.j0] at H
   by_cases c16 : x24_3 = true
   ·
    subst c16
    have H1 : (some (0, 0, ([] : List Int), false)) = some (r1, r2, r3, r4) := by rw [if_pos rfl] at H; exact H
    clear H
    have H := H1
    clear H1
    simp only [Option.some.injEq, Prod.mk.injEq] at H
    obtain ⟨rfl, rfl, rfl, rfl⟩ := H
    have hnb17 := NB102_101.out
    have hnc17 := NB101_102.out
    have hcz18_0 : wc.cell? ⟨gb102, 0, none⟩ = some (.int .i64 0) := (blk_cell BK102.out 0).trans rfl
    have hcz18_1 : wc.cell? ⟨gb102, 1, none⟩ = some (.int .i64 0) := (blk_cell BK102.out 1).trans rfl
    have hcz18_2 : wc.cell? ⟨gb102, 2, none⟩ = some (.slice none 0 0) := (blk_cell BK102.out 2).trans rfl
    have hfz18_0 := blk_frozen BK102.out 0
    have hfz18_1 := blk_frozen BK102.out 1
    have hfz18_2 := blk_frozen BK102.out 2
    go_wp2
    refine bodyPost_ret (results_ct rfl _ _ gb102 24 #[.int .i64 0, .int .i64 0, .slice none 0 0] (0, 0) _ rfl (by (with_reducible repeat (first | refine blk_drewN ?_ _ | refine blk_drew ?_ | refine blk_alloc ?_ _)); refine blk_put (cs := #[.int .i64 0, .int .i64 0, .slice none 0 0]) ?_ 2 _ rfl; (with_reducible repeat (first | refine blk_drewN ?_ _ | refine blk_drew ?_ | refine blk_alloc ?_ _)); refine blk_put (cs := #[.int .i64 0, .int .i64 0, .slice none 0 0]) ?_ 1 _ rfl; (with_reducible repeat (first | refine blk_drewN ?_ _ | refine blk_drew ?_ | refine blk_alloc ?_ _)); refine blk_put (cs := #[.int .i64 0, .int .i64 0, .slice none 0 0]) ?_ 0 _ rfl; (with_reducible repeat (first | refine blk_drewN ?_ _ | refine blk_drew ?_ | refine blk_alloc ?_ _)); exact BK102.out) Try.underlying24 rfl (by kernel_rfl)) rfl ?_
    exact ⟨_, by first | rfl | (simp [errW_none, errW_some] <;> rfl) | (simp [*, errW_none, errW_some] <;> rfl), by first | exact Kd.R_nil _ _ _ _ _ | exact Kd.N_nil _ _ _ _ _ | exact Kd.V_nil _ _ _ _ _ | exact Kd.Q_nil _ _ _ _ _ | exact Kd.S_nil _ _ _ _ _, by repeat (first | (with_reducible first | exact HB.out | apply below_alloc | apply pw_below_drewN | apply below_drew1 | refine below_set ?_ GE101.out | refine below_set ?_ GE102.out) | exact HB.out)⟩
   ·
    replace c16 := Bool.eq_false_iff.mpr c16
    subst c16
    have H1 : ((spec_l2Fill.f kj3 a1 a2 0).bind fun bt105 => (spec_RegridTotal.l0 kj3 a1 a2 0 a0_0 a0_1 l0_2 bt105.1 bt105.2.1 bt105.2.2)) = some (r1, r2, r3, r4) := by rw [if_neg (show ¬ (false = true) by decide)] at H; exact H
    clear H
    have H := H1
    clear H1
    replace H := Option.bind_eq_some_iff.mp H
    obtain ⟨⟨t105, t106, t107⟩, A190, H⟩ := H
    replace H : (spec_RegridTotal.l0 kj3 a1 a2 0 a0_0 a0_1 l0_2 t105 t106 t107) = some (r1, r2, r3, r4) := H
    have A19 := Aside0.mk A190
    clear A190
    have H' := Aside0.mk H
    clear H
    go_wp2_with (first | ((with_reducible refine gate_callee (f := 104) rfl ?_); refine goesL_ (some 28) rfl rfl Try.func104 (by kernel_rfl) rfl #[.int .i64 a1, .int .i64 a2, .int .i64 0] rfl (by (try simp only [List.map_toArray, List.map_cons, List.map_nil]); first | done | rfl | (simp only [List.length_drop, List.length_take]; rfl)) ?_; (with_reducible refine (spec_l2Fill.calls kj3 a1 a2 0 t105 t106 t107 _ A19.out).mono ?_); rintro e w20 ⟨v108, rfl, ho0, hb⟩; refine ⟨_, rfl, ?_⟩; have HO109 := aK (Kd.R_lower ho0 (below_size (pS HB.out))); replace BK101 := bB BK101 hb; replace BK102 := bB BK102 hb; replace HB := bS HB hb; (try clear hb); (try clear hb2); (try clear hk); (try clear hi); (try clear ho0)) | ((with_reducible refine gate_dst (N := 8) rfl ?_); refine box_event ?hg (N := 8) ?hd (cs := #[.int .i64 0, .int .i64 0, .slice none 0 0]) (t := 24) ?hr ?_; (case hd => rfl); (case hg => rfl); (case hr => first | (go_simp; done) | (go_simp; rfl)); intro gb110 hg w21 hbox hb; have n0_ := aK (Kd.R_below (pR HO109.out) hb); have BK110 := aK (hbox); have GW110 := aK (gE hg (pS HB.out)); have GE110 := aK (gE hg (pS HB.out)); have NB101_110 := aK (nL hg (pB BK101.out)); have NB110_101 := aK (nG hg (pB BK101.out)); have NB102_110 := aK (nL hg (pB BK102.out)); have NB110_102 := aK (nG hg (pB BK102.out)); replace BK101 := bB BK101 hb; replace BK102 := bB BK102 hb; replace HB := bS HB hb; clear HO109; have HO109 := n0_; clear n0_ hb hbox hg; have hnb22 := NB110_101.out; have hnc22 := NB101_110.out; have hnb23 := NB110_102.out; have hnc23 := NB102_110.out; have hcz24_0 : w21.cell? ⟨gb110, 0, none⟩ = some (.int .i64 0) := (blk_cell BK110.out 0).trans rfl; have hcz24_1 : w21.cell? ⟨gb110, 1, none⟩ = some (.int .i64 0) := (blk_cell BK110.out 1).trans rfl; have hcz24_2 : w21.cell? ⟨gb110, 2, none⟩ = some (.slice none 0 0) := (blk_cell BK110.out 2).trans rfl; have hfz24_0 := blk_frozen BK110.out 0; have hfz24_1 := blk_frozen BK110.out 1; have hfz24_2 := blk_frozen BK110.out 2; obtain ⟨Ao25, co25, eo25⟩ := Kd.R_slice HO109.out; subst eo25))
    go_loopg [9] kj3 (fun kq v9 w' => ∃ (x9_2 : Int) (x111002_2 : List Int) (u111002 : Value), v9 = .int .i64 x9_2 ∧ Aside0 (spec_RegridTotal.l0 kq a1 a2 x9_2 a0_0 a0_1 l0_2 t105 t106 x111002_2 = some (r1, r2, r3, r4)) ∧ Aside0 (kq ≤ kj3) ∧ Aside0 (Kd.R (Kd.int .i64) 3 w' w.heap.size (fun _ => True) u111002 x111002_2) ∧ Aside0 (w'.heap[gb101]? = some (.cells #[.int .i64 a0_0, .int .i64 a0_1, (.slice A0_2 l0_2.length c0_2)] 24 (0, 0))) ∧ Aside0 (w'.heap[gb102]? = some (.cells #[.int .i64 0, .int .i64 0, (.slice none 0 0)] 24 (0, 0))) ∧ Aside0 (w'.heap[gb110]? = some (.cells #[.int .i64 t105, .int .i64 t106, u111002] 24 (0, 0))) ∧ Aside0 (Below w.heap.size w w'))
    case atStart => exact ⟨(0), (t107), (.slice Ao25 t107.length co25), (by first | rfl | (simp; done) | (simp [*]; done)), H', ⟨Nat.le_refl _⟩, ⟨by (with_reducible repeat (first | apply Kd.R_alloc | apply Kd.R_drewN | apply Kd.R_drew)); exact Kd.R_mono (Kd.R_far (p := ⟨gb110, 2, none⟩) (Kd.R_far (p := ⟨gb110, 1, none⟩) (Kd.R_far (p := ⟨gb110, 0, none⟩) (Kd.R_types HO109.out BK110.out (by decide)) (fun _ hk => hk.2) (.int .i64 t105)) (fun _ hk => hk.2) (.int .i64 t106)) (fun _ hk => hk.2) (.slice Ao25 t107.length co25)) (fun _ hk => trivial)⟩, ⟨by (with_reducible repeat (first | refine blk_drewN ?_ _ | refine blk_drew ?_ | refine blk_alloc ?_ _)); refine blk_far ?_ NB101_110.out _; (with_reducible repeat (first | refine blk_drewN ?_ _ | refine blk_drew ?_ | refine blk_alloc ?_ _)); refine blk_far ?_ NB101_110.out _; (with_reducible repeat (first | refine blk_drewN ?_ _ | refine blk_drew ?_ | refine blk_alloc ?_ _)); refine blk_far ?_ NB101_110.out _; (with_reducible repeat (first | refine blk_drewN ?_ _ | refine blk_drew ?_ | refine blk_alloc ?_ _)); exact BK101.out⟩, ⟨by (with_reducible repeat (first | refine blk_drewN ?_ _ | refine blk_drew ?_ | refine blk_alloc ?_ _)); refine blk_far ?_ NB102_110.out _; (with_reducible repeat (first | refine blk_drewN ?_ _ | refine blk_drew ?_ | refine blk_alloc ?_ _)); refine blk_far ?_ NB102_110.out _; (with_reducible repeat (first | refine blk_drewN ?_ _ | refine blk_drew ?_ | refine blk_alloc ?_ _)); refine blk_far ?_ NB102_110.out _; (with_reducible repeat (first | refine blk_drewN ?_ _ | refine blk_drew ?_ | refine blk_alloc ?_ _)); exact BK102.out⟩, ⟨by (with_reducible repeat (first | refine blk_drewN ?_ _ | refine blk_drew ?_ | refine blk_alloc ?_ _)); refine blk_put (cs := #[.int .i64 t105, .int .i64 t106, .slice none 0 0]) ?_ 2 _ rfl; (with_reducible repeat (first | refine blk_drewN ?_ _ | refine blk_drew ?_ | refine blk_alloc ?_ _)); refine blk_put (cs := #[.int .i64 t105, .int .i64 0, .slice none 0 0]) ?_ 1 _ rfl; (with_reducible repeat (first | refine blk_drewN ?_ _ | refine blk_drew ?_ | refine blk_alloc ?_ _)); refine blk_put (cs := #[.int .i64 0, .int .i64 0, .slice none 0 0]) ?_ 0 _ rfl; (with_reducible repeat (first | refine blk_drewN ?_ _ | refine blk_drew ?_ | refine blk_alloc ?_ _)); exact BK110.out⟩, ⟨by repeat (first | (with_reducible first | exact HB.out | apply below_alloc | apply pw_below_drewN | apply below_drew1 | refine below_set ?_ GE101.out | refine below_set ?_ GE102.out | refine below_set ?_ GE110.out) | exact HB.out)⟩⟩
    case round =>
     clear H'
     try clear c1
     try clear c2
     try clear p2
     try clear c8
     try clear c10
     try clear c13
     try clear c16
     try clear c17
     try clear c22
     try clear c23
     try clear hcz11_0
     try clear hcz11_1
     try clear hcz11_2
     try clear hcz14_0
     try clear hcz14_1
     try clear hcz14_2
     try clear hcz18_0
     try clear hcz18_1
     try clear hcz18_2
     try clear hcz24_0
     try clear hcz24_1
     try clear hcz24_2
     try clear hfz11_0
     try clear hfz11_1
     try clear hfz11_2
     try clear hfz14_0
     try clear hfz14_1
     try clear hfz14_2
     try clear hfz18_0
     try clear hfz18_1
     try clear hfz18_2
     try clear hfz24_0
     try clear hfz24_1
     try clear hfz24_2
     try clear p2
     obtain ⟨x9_2, x111002_2, u111002, rfl, HA, HK2, HO_111002, BK101, BK102, BK110, HB⟩ := hrel
     cases gk with
     | zero => exact absurd HA.out (by simp [spec_RegridTotal.l0])
     | succ k2 =>
      have H := HA.out
      clear HA
      simp only [spec_RegridTotal.l0] at H
      by_cases c26 : x9_2 < a0_1
      ·
       rw [if_pos c26] at H
       have c26b0 : decide (x9_2 < a0_1) = true := decide_eq_true c26
       clear c26
       have H' := Aside0.mk H
       clear H
       have hnb27 := NB101_102.out
       have hnc27 := NB102_101.out
       have hnb28 := NB101_110.out
       have hnc28 := NB110_101.out
       have hcz29_0 : wr.cell? ⟨gb101, 0, none⟩ = some (.int .i64 a0_0) := (blk_cell BK101.out 0).trans rfl
       have hcz29_1 : wr.cell? ⟨gb101, 1, none⟩ = some (.int .i64 a0_1) := (blk_cell BK101.out 1).trans rfl
       have hcz29_2 : wr.cell? ⟨gb101, 2, none⟩ = some (.slice A0_2 l0_2.length c0_2) := (blk_cell BK101.out 2).trans rfl
       have hfz29_0 := blk_frozen BK101.out 0
       have hfz29_1 := blk_frozen BK101.out 1
       have hfz29_2 := blk_frozen BK101.out 2
       go_wp2
       go_loopg [10] k2 (fun kq v10 w' => ∃ (x10_3 : Int) (x111002_3 : List Int) (u111002 : Value), v10 = .int .i64 x10_3 ∧ Aside0 (spec_RegridTotal.l1 kq a1 a2 x9_2 x10_3 a0_0 a0_1 l0_2 t105 t106 x111002_3 = some (r1, r2, r3, r4)) ∧ Aside0 (kq ≤ k2) ∧ Aside0 (Kd.R (Kd.int .i64) 3 w' w.heap.size (fun _ => True) u111002 x111002_3) ∧ Aside0 (w'.heap[gb101]? = some (.cells #[.int .i64 a0_0, .int .i64 a0_1, (.slice A0_2 l0_2.length c0_2)] 24 (0, 0))) ∧ Aside0 (w'.heap[gb102]? = some (.cells #[.int .i64 0, .int .i64 0, (.slice none 0 0)] 24 (0, 0))) ∧ Aside0 (w'.heap[gb110]? = some (.cells #[.int .i64 t105, .int .i64 t106, u111002] 24 (0, 0))) ∧ Aside0 (Below w.heap.size w w'))
       case atStart => exact ⟨(0), (x111002_2), (u111002), (by first | rfl | (simp; done) | (simp [*]; done)), H', ⟨Nat.le_refl _⟩, ⟨by (with_reducible repeat (first | apply Kd.R_alloc | apply Kd.R_drewN | apply Kd.R_drew)); exact HO_111002.out⟩, ⟨by (with_reducible repeat (first | refine blk_drewN ?_ _ | refine blk_drew ?_ | refine blk_alloc ?_ _)); exact BK101.out⟩, ⟨by (with_reducible repeat (first | refine blk_drewN ?_ _ | refine blk_drew ?_ | refine blk_alloc ?_ _)); exact BK102.out⟩, ⟨by (with_reducible repeat (first | refine blk_drewN ?_ _ | refine blk_drew ?_ | refine blk_alloc ?_ _)); exact BK110.out⟩, ⟨by repeat (first | (with_reducible first | exact HB.out | apply below_alloc | apply pw_below_drewN | apply below_drew1 | refine below_set ?_ GE101.out | refine below_set ?_ GE102.out | refine below_set ?_ GE110.out) | exact HB.out)⟩⟩
       case round =>
        clear H'
        try clear c1
        try clear c2
        try clear p2
        try clear c8
        try clear c10
        try clear c13
        try clear c16
        try clear c17
        try clear c22
        try clear c23
        try clear c26
        try clear c26b0
        try clear c27
        try clear c28
        try clear hcz11_0
        try clear hcz11_1
        try clear hcz11_2
        try clear hcz14_0
        try clear hcz14_1
        try clear hcz14_2
        try clear hcz18_0
        try clear hcz18_1
        try clear hcz18_2
        try clear hcz24_0
        try clear hcz24_1
        try clear hcz24_2
        try clear hcz29_0
        try clear hcz29_1
        try clear hcz29_2
        try clear hfz11_0
        try clear hfz11_1
        try clear hfz11_2
        try clear hfz14_0
        try clear hfz14_1
        try clear hfz14_2
        try clear hfz18_0
        try clear hfz18_1
        try clear hfz18_2
        try clear hfz24_0
        try clear hfz24_1
        try clear hfz24_2
        try clear hfz29_0
        try clear hfz29_1
        try clear hfz29_2
        try clear p2
        obtain ⟨x10_3, x111002_3, u111002, rfl, HA, HK3, HO_111002, BK101, BK102, BK110, HB⟩ := hrel
        cases gk with
        | zero => exact absurd HA.out (by simp [spec_RegridTotal.l1])
        | succ k3 =>
         have H := HA.out
         clear HA
         simp only [spec_RegridTotal.l1] at H
         by_cases c30 : x10_3 < a0_0
         ·
          rw [if_pos c30] at H
          have c30b0 : decide (x10_3 < a0_0) = true := decide_eq_true c30
          clear c30
          obtain ⟨y112, hy112⟩ : ∃ y_ : List Int, y_ = (([] : List Int)) := ⟨_, rfl⟩
          replace H : (spec_RegridTotal.l2 k3 a1 a2 x9_2 x10_3 y112 0 a0_0 a0_1 l0_2 t105 t106 x111002_3) = some (r1, r2, r3, r4) := by first | (rw [hy112]; with_reducible exact H) | (have H2_ := (Option.bind_some _ _).symm.trans H; rw [hy112]; with_reducible exact H2_) | (have H2_ := (Option.bind_some _ _).symm.trans H; with_reducible exact H2_) | with_reducible exact H | (rw [hy112]; exact H) | exact H
          have Ny112 := Aside0.mk hy112
          clear hy112
          have H' := Aside0.mk H
          clear H
          have hnb31 := NB101_102.out
          have hnc31 := NB102_101.out
          have hnb32 := NB101_110.out
          have hnc32 := NB110_101.out
          have hcz33_0 : wr.cell? ⟨gb101, 0, none⟩ = some (.int .i64 a0_0) := (blk_cell BK101.out 0).trans rfl
          have hcz33_1 : wr.cell? ⟨gb101, 1, none⟩ = some (.int .i64 a0_1) := (blk_cell BK101.out 1).trans rfl
          have hcz33_2 : wr.cell? ⟨gb101, 2, none⟩ = some (.slice A0_2 l0_2.length c0_2) := (blk_cell BK101.out 2).trans rfl
          have hfz33_0 := blk_frozen BK101.out 0
          have hfz33_1 := blk_frozen BK101.out 1
          have hfz33_2 := blk_frozen BK101.out 2
          go_wp2_with (first | ((with_reducible refine gate_dst (N := 41) rfl ?_); refine Kd.R_lit (Kd.int .i64) _ 3 ?hg (N := 41) ?hd (xs := ([] : List Int)) (inner := []) (ok := fun _ => True) (okp := fun _ => True) ?hr ?hp (fun _ hk => hk) trivial (Below.refl _ _) (Nat.le_refl _) (by simp) ?_; (case hd => rfl); (case hg => rfl); (case hr => first | (go_simp; done) | (go_simp; rfl)); (case hp => exact (Reps.none _ _)); intro v113 w34 ho35 hb hg_ hnew_; clear hg_ hnew_; (first | rw [← Ny112.out] at ho35 | (simp only [Int.reduceToNat] at ho35; rw [← Ny112.out] at ho35)); have n0_ := aK (Kd.R_elder' (pR HO_111002.out) (Kd.R_base ho35) hb); have HO114 := aK (Kd.R_lower (Kd.R_new' ho35 (Kd.R_lt (pR HO_111002.out))) (below_size (pS HB.out))); replace BK101 := bB BK101 hb; replace BK102 := bB BK102 hb; replace BK110 := bB BK110 hb; replace HB := bS HB hb; clear HO_111002; have HO_111002 := n0_; clear n0_; clear hb ho35))
          go_loopg [11, 12] k3 (fun kq v11 v12 w' => ∃ (x11_4 : List Int) (x12_4 : Int), v12 = .int .i64 x12_4 ∧ Aside0 (spec_RegridTotal.l2 kq a1 a2 x9_2 x10_3 x11_4 x12_4 a0_0 a0_1 l0_2 t105 t106 x111002_3 = some (r1, r2, r3, r4)) ∧ Aside0 (kq ≤ k3) ∧ Aside0 (Kd.R (Kd.int .i64) 3 w' w.heap.size (fun k_ => some k_ ≠ (u111002 : Value).ownBlock) v11 x11_4) ∧ Aside0 (Kd.R (Kd.int .i64) 3 w' w.heap.size (fun k_ => some k_ ≠ (v11 : Value).ownBlock) u111002 x111002_3) ∧ Aside0 (w'.heap[gb101]? = some (.cells #[.int .i64 a0_0, .int .i64 a0_1, (.slice A0_2 l0_2.length c0_2)] 24 (0, 0))) ∧ Aside0 (w'.heap[gb102]? = some (.cells #[.int .i64 0, .int .i64 0, (.slice none 0 0)] 24 (0, 0))) ∧ Aside0 (w'.heap[gb110]? = some (.cells #[.int .i64 t105, .int .i64 t106, u111002] 24 (0, 0))) ∧ Aside0 (Below w.heap.size w w'))
          case atStart => exact ⟨(y112), (0), (by first | rfl | (simp; done) | (simp [*]; done)), H', ⟨Nat.le_refl _⟩, ⟨by (with_reducible repeat (first | apply Kd.R_alloc | apply Kd.R_drewN | apply Kd.R_drew)); exact Kd.R_mono HO114.out (fun _ hk => hk.2)⟩, ⟨by (with_reducible repeat (first | apply Kd.R_alloc | apply Kd.R_drewN | apply Kd.R_drew)); exact Kd.R_mono HO_111002.out (fun _ hk => hk.2)⟩, ⟨by (with_reducible repeat (first | refine blk_drewN ?_ _ | refine blk_drew ?_ | refine blk_alloc ?_ _)); exact BK101.out⟩, ⟨by (with_reducible repeat (first | refine blk_drewN ?_ _ | refine blk_drew ?_ | refine blk_alloc ?_ _)); exact BK102.out⟩, ⟨by (with_reducible repeat (first | refine blk_drewN ?_ _ | refine blk_drew ?_ | refine blk_alloc ?_ _)); exact BK110.out⟩, ⟨by repeat (first | (with_reducible first | exact HB.out | apply below_alloc | apply pw_below_drewN | apply below_drew1 | refine below_set ?_ GE101.out | refine below_set ?_ GE102.out | refine below_set ?_ GE110.out) | exact HB.out)⟩⟩
          case round =>
           clear H'
           try clear c1
           try clear c2
           try clear p2
           try clear c3
           try clear c8
           try clear c10
           try clear c13
           try clear c16
           try clear c17
           try clear c22
           try clear c23
           try clear c26
           try clear c26b0
           try clear c27
           try clear c28
           try clear c30
           try clear c30b0
           try clear c31
           try clear c32
           try clear hcz11_0
           try clear hcz11_1
           try clear hcz11_2
           try clear hcz14_0
           try clear hcz14_1
           try clear hcz14_2
           try clear hcz18_0
           try clear hcz18_1
           try clear hcz18_2
           try clear hcz24_0
           try clear hcz24_1
           try clear hcz24_2
           try clear hcz29_0
           try clear hcz29_1
           try clear hcz29_2
           try clear hcz33_0
           try clear hcz33_1
           try clear hcz33_2
           try clear hfz11_0
           try clear hfz11_1
           try clear hfz11_2
           try clear hfz14_0
           try clear hfz14_1
           try clear hfz14_2
           try clear hfz18_0
           try clear hfz18_1
           try clear hfz18_2
           try clear hfz24_0
           try clear hfz24_1
           try clear hfz24_2
           try clear hfz29_0
           try clear hfz29_1
           try clear hfz29_2
           try clear hfz33_0
           try clear hfz33_1
           try clear hfz33_2
           try clear p2
           obtain ⟨x11_4, x12_4, rfl, HA, HK4, HO_11, HO_111002, BK101, BK102, BK110, HB⟩ := hrel
           cases gk with
           | zero => exact absurd HA.out (by simp [spec_RegridTotal.l2])
           | succ k4 =>
            have H := HA.out
            clear HA
            simp only [spec_RegridTotal.l2] at H
            by_cases c36 : x12_4 < a2
            ·
             rw [if_pos c36] at H
             have c36b0 : decide (x12_4 < a2) = true := decide_eq_true c36
             clear c36
             have H' := Aside0.mk H
             clear H
             go_wp2
             go_loopg [11, 13] k4 (fun kq v11 v13 w' => ∃ (x11_5 : List Int) (x13_5 : Int), v13 = .int .i64 x13_5 ∧ Aside0 (spec_RegridTotal.l3 kq a1 a2 x9_2 x10_3 x11_5 x12_4 x13_5 a0_0 a0_1 l0_2 t105 t106 x111002_3 = some (r1, r2, r3, r4)) ∧ Aside0 (kq ≤ k4) ∧ Aside0 (Kd.R (Kd.int .i64) 3 w' w.heap.size (fun k_ => some k_ ≠ (u111002 : Value).ownBlock) v11 x11_5) ∧ Aside0 (Kd.R (Kd.int .i64) 3 w' w.heap.size (fun k_ => some k_ ≠ (v11 : Value).ownBlock) u111002 x111002_3) ∧ Aside0 (w'.heap[gb101]? = some (.cells #[.int .i64 a0_0, .int .i64 a0_1, (.slice A0_2 l0_2.length c0_2)] 24 (0, 0))) ∧ Aside0 (w'.heap[gb102]? = some (.cells #[.int .i64 0, .int .i64 0, (.slice none 0 0)] 24 (0, 0))) ∧ Aside0 (w'.heap[gb110]? = some (.cells #[.int .i64 t105, .int .i64 t106, u111002] 24 (0, 0))) ∧ Aside0 (Below w.heap.size w w'))
             case atStart => exact ⟨(x11_4), (0), (by first | rfl | (simp; done) | (simp [*]; done)), H', ⟨Nat.le_refl _⟩, ⟨by (with_reducible repeat (first | apply Kd.R_alloc | apply Kd.R_drewN | apply Kd.R_drew)); exact HO_11.out⟩, ⟨by (with_reducible repeat (first | apply Kd.R_alloc | apply Kd.R_drewN | apply Kd.R_drew)); exact HO_111002.out⟩, ⟨by (with_reducible repeat (first | refine blk_drewN ?_ _ | refine blk_drew ?_ | refine blk_alloc ?_ _)); exact BK101.out⟩, ⟨by (with_reducible repeat (first | refine blk_drewN ?_ _ | refine blk_drew ?_ | refine blk_alloc ?_ _)); exact BK102.out⟩, ⟨by (with_reducible repeat (first | refine blk_drewN ?_ _ | refine blk_drew ?_ | refine blk_alloc ?_ _)); exact BK110.out⟩, ⟨by repeat (first | (with_reducible first | exact HB.out | apply below_alloc | apply pw_below_drewN | apply below_drew1 | refine below_set ?_ GE101.out | refine below_set ?_ GE102.out | refine below_set ?_ GE110.out) | exact HB.out)⟩⟩
             case round =>
              clear H'
              try clear c1
              try clear c2
              try clear p2
              try clear c3
              try clear c8
              try clear c10
              try clear c13
              try clear c16
              try clear c17
              try clear c22
              try clear c23
              try clear c26
              try clear c26b0
              try clear c27
              try clear c28
              try clear c30
              try clear c30b0
              try clear c31
              try clear c32
              try clear c36
              try clear c36b0
              try clear hcz11_0
              try clear hcz11_1
              try clear hcz11_2
              try clear hcz14_0
              try clear hcz14_1
              try clear hcz14_2
              try clear hcz18_0
              try clear hcz18_1
              try clear hcz18_2
              try clear hcz24_0
              try clear hcz24_1
              try clear hcz24_2
              try clear hcz29_0
              try clear hcz29_1
              try clear hcz29_2
              try clear hcz33_0
              try clear hcz33_1
              try clear hcz33_2
              try clear hfz11_0
              try clear hfz11_1
              try clear hfz11_2
              try clear hfz14_0
              try clear hfz14_1
              try clear hfz14_2
              try clear hfz18_0
              try clear hfz18_1
              try clear hfz18_2
              try clear hfz24_0
              try clear hfz24_1
              try clear hfz24_2
              try clear hfz29_0
              try clear hfz29_1
              try clear hfz29_2
              try clear hfz33_0
              try clear hfz33_1
              try clear hfz33_2
              try clear p2
              obtain ⟨x11_5, x13_5, rfl, HA, HK5, HO_11, HO_111002, BK101, BK102, BK110, HB⟩ := hrel
              cases gk with
              | zero => exact absurd HA.out (by simp [spec_RegridTotal.l3])
              | succ k5 =>
               have H := HA.out
               clear HA
               simp only [spec_RegridTotal.l3] at H
               by_cases c37 : x13_5 < a1
               ·
                rw [if_pos c37] at H
                have c37b0 : decide (x13_5 < a1) = true := decide_eq_true c37
                clear c37
                replace H := Option.bind_eq_some_iff.mp H
                obtain ⟨t115, A380, H⟩ := H
                replace H : ((spec_l7Overlap.f a0_1 a2 x9_2 x12_4).bind fun t116 => (if x11_5.length < 17592186044416 then (spec_RegridTotal.l3 k5 a1 a2 x9_2 x10_3 (x11_5 ++ [wrap64 (t115 * t116)]) x12_4 (wrap64 (x13_5 + 1)) a0_0 a0_1 l0_2 t105 t106 x111002_3) else (none))) = some (r1, r2, r3, r4) := H
                have A38 := Aside0.mk A380
                clear A380
                replace H := Option.bind_eq_some_iff.mp H
                obtain ⟨t116, A390, H⟩ := H
                replace H : (if x11_5.length < 17592186044416 then (spec_RegridTotal.l3 k5 a1 a2 x9_2 x10_3 (x11_5 ++ [wrap64 (t115 * t116)]) x12_4 (wrap64 (x13_5 + 1)) a0_0 a0_1 l0_2 t105 t106 x111002_3) else (none)) = some (r1, r2, r3, r4) := H
                have A39 := Aside0.mk A390
                clear A390
                by_cases c40 : x11_5.length < 17592186044416
                ·
                 rw [if_pos c40] at H
                 have LMc40 := Aside0.mk c40
                 clear c40
                 obtain ⟨y117, hy117⟩ : ∃ y_ : List Int, y_ = (x11_5 ++ [wrap64 (t115 * t116)]) := ⟨_, rfl⟩
                 replace H : (spec_RegridTotal.l3 k5 a1 a2 x9_2 x10_3 y117 x12_4 (wrap64 (x13_5 + 1)) a0_0 a0_1 l0_2 t105 t106 x111002_3) = some (r1, r2, r3, r4) := by first | (rw [hy117]; with_reducible exact H) | (have H2_ := (Option.bind_some _ _).symm.trans H; rw [hy117]; with_reducible exact H2_) | (have H2_ := (Option.bind_some _ _).symm.trans H; with_reducible exact H2_) | with_reducible exact H | (rw [hy117]; exact H) | exact H
                 have Ny117 := Aside0.mk hy117
                 clear hy117
                 have H' := Aside0.mk H
                 clear H
                 try go_wp2
                 have n0_ := aK (Kd.R_drew HO_11.out)
                 have n1_ := aK (Kd.R_drew HO_111002.out)
                 have n2_ := aK (blk_drew BK101.out)
                 have n3_ := aK (blk_drew BK102.out)
                 have n4_ := aK (blk_drew BK110.out)
                 have n5_ := aK (below_drew1 HB.out)
                 clear HO_11 HO_111002 BK101 BK102 BK110 HB
                 have HO_11 := n0_
                 have HO_111002 := n1_
                 have BK101 := n2_
                 have BK102 := n3_
                 have BK110 := n4_
                 have HB := n5_
                 clear n0_ n1_ n2_ n3_ n4_ n5_
                 refine start_ (n := 17) (S := fun w' => w'.cell? ⟨gb101, 0, none⟩ = some (.int .i64 a0_0) ∧ w'.cell? ⟨gb101, 1, none⟩ = some (.int .i64 a0_1) ∧ w'.cell? ⟨gb101, 2, none⟩ = some (.slice A0_2 l0_2.length c0_2)) (ds := []) #[false, false, false, false, false, false, false, false, false, false, false, false, false, false, false, false, false] (by kernel_rfl) rfl rfl ⟨(blk_cell BK101.out 0).trans rfl, (blk_cell BK101.out 1).trans rfl, (blk_cell BK101.out 2).trans rfl⟩ (fun hHeld => ?_); refine with_tabW spec_RegridTotal.tab17 spec_RegridTotal.bits17 (fun HT_ HW_ => ?_)
                 generalize wr.drew = w41 at HO_11 HO_111002 BK101 BK102 BK110 HB hHeld ⊢
                 refine pure_ (i := 0) (N := some 52) (v := ?_) (a' := ?_) #[true, false, false, false, false, false, false, false, false, false, false, false, false, false, false, false, false] rfl rfl (any_of HT_.out (by kernel_rfl)) (fun _ _ _ h => h) (Or.inl ⟨by rfl, ?_⟩) ?_ ?_
                 rotate_left
                 ·
                  intro w'
                  go_simp
                  with_reducible rfl
                 rotate_left
                 ·
                  simp only [Act.put, List.setIfInBounds_toArray, List.set_cons_zero, List.set_cons_succ, i64_w, i32_w]
                  rfl
                 refine pure_ (i := 1) (N := some 53) (v := ?_) (a' := ?_) #[true, true, false, false, false, false, false, false, false, false, false, false, false, false, false, false, false] rfl rfl (any_of HT_.out (by kernel_rfl)) (fun _ _ _ h => h) (Or.inl ⟨by rfl, ?_⟩) ?_ ?_
                 rotate_left
                 ·
                  intro w'
                  go_simp
                  with_reducible rfl
                 rotate_left
                 ·
                  simp only [Act.put, List.setIfInBounds_toArray, List.set_cons_zero, List.set_cons_succ, i64_w, i32_w]
                  rfl
                 refine pure_ (i := 3) (N := some 55) (v := ?_) (a' := ?_) #[true, true, false, true, false, false, false, false, false, false, false, false, false, false, false, false, false] rfl rfl (any_of HT_.out (by kernel_rfl)) (fun _ _ _ h => h) (Or.inl ⟨by rfl, ?_⟩) ?_ ?_
                 rotate_left
                 ·
                  intro w'
                  go_simp
                  with_reducible rfl
                 rotate_left
                 ·
                  simp only [Act.put, List.setIfInBounds_toArray, List.set_cons_zero, List.set_cons_succ, i64_w, i32_w]
                  rfl
                 refine pure_ (i := 4) (N := some 56) (v := ?_) (a' := ?_) #[true, true, false, true, true, false, false, false, false, false, false, false, false, false, false, false, false] rfl rfl (any_of HT_.out (by kernel_rfl)) (fun _ _ _ h => h) (Or.inl ⟨by rfl, ?_⟩) ?_ ?_
                 rotate_left
                 ·
                  intro w'
                  go_simp
                  with_reducible rfl
                 rotate_left
                 ·
                  simp only [Act.put, List.setIfInBounds_toArray, List.set_cons_zero, List.set_cons_succ, i64_w, i32_w]
                  rfl
                 refine pure_ (i := 5) (N := some 57) (v := ?_) (a' := ?_) #[true, true, false, true, true, true, false, false, false, false, false, false, false, false, false, false, false] rfl rfl (any_of HT_.out (by kernel_rfl)) (fun _ _ _ h => h) (Or.inl ⟨by rfl, ?_⟩) ?_ ?_
                 rotate_left
                 ·
                  intro w'
                  go_simp
                  with_reducible rfl
                 rotate_left
                 ·
                  simp only [Act.put, List.setIfInBounds_toArray, List.set_cons_zero, List.set_cons_succ, i64_w, i32_w]
                  rfl
                 refine pure_ (i := 7) (N := some 59) (v := ?_) (a' := ?_) #[true, true, false, true, true, true, false, true, false, false, false, false, false, false, false, false, false] rfl rfl (any_of HT_.out (by kernel_rfl)) (fun _ _ _ h => h) (Or.inl ⟨by rfl, ?_⟩) ?_ ?_
                 rotate_left
                 ·
                  intro w'
                  go_simp
                  with_reducible rfl
                 rotate_left
                 ·
                  simp only [Act.put, List.setIfInBounds_toArray, List.set_cons_zero, List.set_cons_succ, i64_w, i32_w]
                  rfl
                 refine pure_ (i := 9) (N := some 61) (v := ?_) (a' := ?_) #[true, true, false, true, true, true, false, true, false, true, false, false, false, false, false, false, false] rfl rfl (any_of HT_.out (by kernel_rfl)) (fun _ _ _ h => h) (Or.inl ⟨by rfl, ?_⟩) ?_ ?_
                 rotate_left
                 ·
                  intro w'
                  go_simp
                  with_reducible rfl
                 rotate_left
                 ·
                  simp only [Act.put, List.setIfInBounds_toArray, List.set_cons_zero, List.set_cons_succ, i64_w, i32_w]
                  rfl
                 refine pure_ (i := 10) (N := some 62) (v := ?_) (a' := ?_) #[true, true, false, true, true, true, false, true, false, true, true, false, false, false, false, false, false] rfl rfl (any_of HT_.out (by kernel_rfl)) (fun _ _ _ h => h) (Or.inl ⟨by rfl, ?_⟩) ?_ ?_
                 rotate_left
                 ·
                  intro w'
                  go_simp
                  with_reducible rfl
                 rotate_left
                 ·
                  simp only [Act.put, List.setIfInBounds_toArray, List.set_cons_zero, List.set_cons_succ, i64_w, i32_w]
                  rfl
                 refine pure_ (i := 11) (N := some 63) (v := ?_) (a' := ?_) #[true, true, false, true, true, true, false, true, false, true, true, true, false, false, false, false, false] rfl rfl (any_of HT_.out (by kernel_rfl)) (fun _ _ _ h => h) (Or.inl ⟨by rfl, ?_⟩) ?_ ?_
                 rotate_left
                 ·
                  intro w'
                  go_simp
                  with_reducible rfl
                 rotate_left
                 ·
                  simp only [Act.put, List.setIfInBounds_toArray, List.set_cons_zero, List.set_cons_succ, i64_w, i32_w]
                  rfl
                 refine take_ (i := 2) (N := some 54) (v := ?_) (a' := ?_) #[true, true, true, true, true, true, false, true, false, true, true, true, false, false, false, false, false] rfl rfl (take_ofW HT_.out HW_.out (by kernel_rfl)) (fun _ _ _ h => h) (Or.inl ⟨by rfl, ?_⟩) hHeld ?_ ?_
                 rotate_left
                 ·
                  rintro w' ⟨s0, s1, s2⟩
                  go_simp
                  with_reducible rfl
                 rotate_left
                 ·
                  simp only [Act.put, List.setIfInBounds_toArray, List.set_cons_zero, List.set_cons_succ, i64_w, i32_w]
                  rfl
                 refine take_ (i := 8) (N := some 60) (v := ?_) (a' := ?_) #[true, true, true, true, true, true, false, true, true, true, true, true, false, false, false, false, false] rfl rfl (take_ofW HT_.out HW_.out (by kernel_rfl)) (fun _ _ _ h => h) (Or.inl ⟨by rfl, ?_⟩) hHeld ?_ ?_
                 rotate_left
                 ·
                  rintro w' ⟨s0, s1, s2⟩
                  go_simp
                  with_reducible rfl
                 rotate_left
                 ·
                  simp only [Act.put, List.setIfInBounds_toArray, List.set_cons_zero, List.set_cons_succ, i64_w, i32_w]
                  rfl
                 refine one_ (i := 6) (N := some 58) #[true, true, true, true, true, true, true, true, true, true, true, true, false, false, false, false, false] rfl rfl (one_of HT_.out (by kernel_rfl)) (by decide) (fun K hK => ?_)
                 refine goes_ Try.func105 (by kernel_rfl) rfl #[.int .i64 a0_0, .int .i64 a1, .int .i64 x10_3, .int .i64 x13_5] (by rfl) rfl rfl (by (try simp only [List.map_toArray, List.map_cons, List.map_nil]); first | done | rfl | (simp only [List.length_drop, List.length_take]; rfl)) ?_
                 with_reducible refine (spec_l7Overlap.calls a0_0 a1 x10_3 x13_5 t115 _ A38.out).mono ?_
                 rintro e w' ⟨rfl, ⟨nd, rfl⟩⟩
                 refine ⟨_, rfl, ?_⟩
                 refine hK.out _ _ ⟨(blk_cell BK101.out 0).trans rfl, (blk_cell BK101.out 1).trans rfl, (blk_cell BK101.out 2).trans rfl⟩ (fun hHeld => ?_)
                 clear hK K
                 refine norm_ (a' := ?_) ?_ ?_
                 rotate_left
                 ·
                  show Act.put _ (some 58) _ = _
                  simp only [Act.put, List.setIfInBounds_toArray, List.set_cons_zero, List.set_cons_succ, i64_w, i32_w]
                  rfl
                 refine one_ (i := 12) (N := some 64) #[true, true, true, true, true, true, true, true, true, true, true, true, true, false, false, false, false] rfl rfl (one_of HT_.out (by kernel_rfl)) (by decide) (fun K hK => ?_)
                 refine goes_ Try.func105 (by kernel_rfl) rfl #[.int .i64 a0_1, .int .i64 a2, .int .i64 x9_2, .int .i64 x12_4] (by rfl) rfl rfl (by (try simp only [List.map_toArray, List.map_cons, List.map_nil]); first | done | rfl | (simp only [List.length_drop, List.length_take]; rfl)) ?_
                 with_reducible refine (spec_l7Overlap.calls a0_1 a2 x9_2 x12_4 t116 _ A39.out).mono ?_
                 rintro e w' ⟨rfl, ⟨nd, rfl⟩⟩
                 refine ⟨_, rfl, ?_⟩
                 refine hK.out _ _ ⟨(blk_cell BK101.out 0).trans rfl, (blk_cell BK101.out 1).trans rfl, (blk_cell BK101.out 2).trans rfl⟩ (fun hHeld => ?_)
                 clear hK K
                 refine norm_ (a' := ?_) ?_ ?_
                 rotate_left
                 ·
                  show Act.put _ (some 64) _ = _
                  simp only [Act.put, List.setIfInBounds_toArray, List.set_cons_zero, List.set_cons_succ, i64_w, i32_w]
                  rfl
                 refine pure_ (i := 13) (N := some 65) (v := ?_) (a' := ?_) #[true, true, true, true, true, true, true, true, true, true, true, true, true, true, false, false, false] rfl rfl (any_of HT_.out (by kernel_rfl)) (fun _ _ _ h => h) (Or.inl ⟨by rfl, ?_⟩) ?_ ?_
                 rotate_left
                 ·
                  intro w'
                  go_simp
                  with_reducible rfl
                 rotate_left
                 ·
                  simp only [Act.put, List.setIfInBounds_toArray, List.set_cons_zero, List.set_cons_succ, i64_w, i32_w]
                  rfl
                 refine one_ (i := 14) (N := some 66) #[true, true, true, true, true, true, true, true, true, true, true, true, true, true, true, false, false] rfl rfl (one_of HT_.out (by kernel_rfl)) (by decide) (fun K hK => ?_)
                 refine value_ (w1 := ?_) (v := ?_) (by rfl) rfl ?_ ?_
                 rotate_left 2
                 ·
                  go_simp
                  constructor
                  ·
                   rfl
                  ·
                   rfl
                 refine hK.out _ _ ⟨(blk_cell (blk_alloc BK101.out _) 0).trans rfl, (blk_cell (blk_alloc BK101.out _) 1).trans rfl, (blk_cell (blk_alloc BK101.out _) 2).trans rfl⟩ (fun hHeld => ?_)
                 clear hK K
                 refine norm_ (a' := ?_) ?_ ?_
                 rotate_left
                 ·
                  show Act.put _ (some 66) _ = _
                  simp only [Act.put, List.setIfInBounds_toArray, List.set_cons_zero, List.set_cons_succ, i64_w, i32_w]
                  rfl
                 refine one_ (i := 15) (N := some 67) #[true, true, true, true, true, true, true, true, true, true, true, true, true, true, true, true, false] rfl rfl (one_of HT_.out (by kernel_rfl)) (by decide) (fun K hK => ?_)
                 refine Kd.R_append_step (Kd.int .i64) (w0 := w) w.heap.size (by rfl) (.tmp 52) (.tmp 66) 22 3 (.int .i64 0) 8 rfl Try.underlying22 info3 rfl (by decide) (by omega) u11 x11_5 (wrap64 (t115 * t116)) [.int .i64 (wrap64 (t115 * t116))] (fun k_ => some k_ ≠ (u111002 : Value).ownBlock) (fun _ => False) rfl rfl ?aP (fun _ hk => hk.elim) ?aF ?aO ?aB ?aS ?aL ?_
                 (case aP => exact rfl)
                 (case aB => exact (pS HB.out))
                 (case aF => exact (fun k_ hk => Kd.fresh' (Kd.R_lt (pR HO_111002.out)) k_ hk))
                 (case aO => exact (pR HO_11.out))
                 (case aS => exact (below_size (pS HB.out)))
                 (case aL => have := LMc40.out; omega)
                 intro v118 w42 ho hb hg hat
                 rw [← Ny117.out] at ho
                 have n0_ := aK (Kd.R_after (ok := (fun _ => True)) (pR (Kd.R_mono HO_111002.out (fun _ hk => ⟨trivial, hk⟩))) hg hat)
                 have n1_ := aK (blk_grown (g := gb101) (o := .cells #[.int .i64 a0_0, .int .i64 a0_1, .slice A0_2 l0_2.length c0_2] 24 (0, 0)) (pB BK101.out) hg (Kd.R_ne HO_11.out BK101.out (by decide)))
                 have n2_ := aK (blk_grown (g := gb102) (o := .cells #[.int .i64 0, .int .i64 0, .slice none 0 0] 24 (0, 0)) (pB BK102.out) hg (Kd.R_ne HO_11.out BK102.out (by decide)))
                 have n3_ := aK (blk_grown (g := gb110) (o := .cells #[.int .i64 t105, .int .i64 t106, u111002] 24 (0, 0)) (pB BK110.out) hg (Kd.R_ne HO_11.out BK110.out (by decide)))
                 have n4_ := aK (hb)
                 have HO119 := aK (ho)
                 clear HO_111002 BK101 BK102 BK110 HB HO_11
                 have HO_111002 := n0_
                 have BK101 := n1_
                 have BK102 := n2_
                 have BK110 := n3_
                 have HB := n4_
                 clear n0_ n1_ n2_ n3_ n4_ ho hb hg hat
                 refine hK.out _ _ ⟨(blk_cell BK101.out 0).trans rfl, (blk_cell BK101.out 1).trans rfl, (blk_cell BK101.out 2).trans rfl⟩ (fun hHeld => ?_)
                 clear hK K
                 refine norm_ (a' := ?_) ?_ ?_
                 rotate_left
                 ·
                  show Act.put _ (some 67) _ = _
                  simp only [Act.put, List.setIfInBounds_toArray, List.set_cons_zero, List.set_cons_succ, i64_w, i32_w]
                  rfl
                 refine pure_ (i := 16) (N := some 11) (v := ?_) (a' := ?_) #[true, true, true, true, true, true, true, true, true, true, true, true, true, true, true, true, true] rfl rfl (any_of HT_.out (by kernel_rfl)) (fun _ _ _ h => h) (Or.inl ⟨by rfl, ?_⟩) ?_ ?_
                 rotate_left
                 ·
                  intro w'
                  go_simp
                  with_reducible rfl
                 rotate_left
                 ·
                  simp only [Act.put, List.setIfInBounds_toArray, List.set_cons_zero, List.set_cons_succ, i64_w, i32_w]
                  rfl
                 refine done_ (done_of HT_.out (by kernel_rfl)) ?_
                 try go_wp2
                 go_roundg k5
                 case measure => have := HJ3.out; have := HK2.out; have := HK3.out; have := HK4.out; have := HK5.out; omega
                 case rel => exact ⟨(y117), (wrap64 (x13_5 + 1)), (by first | rfl | (simp; done) | (simp [*]; done)), H', ⟨by have := HJ3.out; have := HK2.out; have := HK3.out; have := HK4.out; have := HK5.out; omega⟩, ⟨by (with_reducible repeat (first | apply Kd.R_alloc | apply Kd.R_drewN | apply Kd.R_drew)); exact HO119.out⟩, ⟨by (with_reducible repeat (first | apply Kd.R_alloc | apply Kd.R_drewN | apply Kd.R_drew)); exact Kd.R_mono HO_111002.out (fun _ hk => hk.2)⟩, ⟨by (with_reducible repeat (first | refine blk_drewN ?_ _ | refine blk_drew ?_ | refine blk_alloc ?_ _)); exact BK101.out⟩, ⟨by (with_reducible repeat (first | refine blk_drewN ?_ _ | refine blk_drew ?_ | refine blk_alloc ?_ _)); exact BK102.out⟩, ⟨by (with_reducible repeat (first | refine blk_drewN ?_ _ | refine blk_drew ?_ | refine blk_alloc ?_ _)); exact BK110.out⟩, ⟨by repeat (first | (with_reducible first | exact HB.out | apply below_alloc | apply pw_below_drewN | apply below_drew1 | refine below_set ?_ GE101.out | refine below_set ?_ GE102.out | refine below_set ?_ GE110.out) | exact HB.out)⟩⟩
                ·
                 rw [if_neg c40] at H
                 exact absurd H (by simp)
               ·
                rw [if_neg c37] at H
                have c37b0 : decide (x13_5 < a1) = false := decide_eq_false c37
                clear c37
                have H' := Aside0.mk H
                clear H
                go_wp2
                go_roundg k5
                case measure => have := HJ3.out; have := HK2.out; have := HK3.out; have := HK4.out; have := HK5.out; omega
                case rel => exact ⟨(x11_5), (wrap64 (x12_4 + 1)), (by first | rfl | (simp; done) | (simp [*]; done)), H', ⟨by have := HJ3.out; have := HK2.out; have := HK3.out; have := HK4.out; have := HK5.out; omega⟩, ⟨by (with_reducible repeat (first | apply Kd.R_alloc | apply Kd.R_drewN | apply Kd.R_drew)); exact HO_11.out⟩, ⟨by (with_reducible repeat (first | apply Kd.R_alloc | apply Kd.R_drewN | apply Kd.R_drew)); exact HO_111002.out⟩, ⟨by (with_reducible repeat (first | refine blk_drewN ?_ _ | refine blk_drew ?_ | refine blk_alloc ?_ _)); exact BK101.out⟩, ⟨by (with_reducible repeat (first | refine blk_drewN ?_ _ | refine blk_drew ?_ | refine blk_alloc ?_ _)); exact BK102.out⟩, ⟨by (with_reducible repeat (first | refine blk_drewN ?_ _ | refine blk_drew ?_ | refine blk_alloc ?_ _)); exact BK110.out⟩, ⟨by repeat (first | (with_reducible first | exact HB.out | apply below_alloc | apply pw_below_drewN | apply below_drew1 | refine below_set ?_ GE101.out | refine below_set ?_ GE102.out | refine below_set ?_ GE110.out) | exact HB.out)⟩⟩
            ·
             rw [if_neg c36] at H
             have c36b0 : decide (x12_4 < a2) = false := decide_eq_false c36
             clear c36
             replace H := Option.bind_eq_some_iff.mp H
             obtain ⟨t120, A430, H⟩ := H
             replace H : ((spec_l7Split.f k4 t120 x11_4).bind fun t121 => (spec_RegridTotal.l4 k4 a1 a2 x9_2 x10_3 t121 0 a0_0 a0_1 l0_2 t105 t106 x111002_3)) = some (r1, r2, r3, r4) := H
             have A43 := Aside0.mk A430
             clear A430
             replace H := Option.bind_eq_some_iff.mp H
             obtain ⟨t121, A440, H⟩ := H
             replace H : (spec_RegridTotal.l4 k4 a1 a2 x9_2 x10_3 t121 0 a0_0 a0_1 l0_2 t105 t106 x111002_3) = some (r1, r2, r3, r4) := H
             have A44 := Aside0.mk A440
             clear A440
             have H' := Aside0.mk H
             clear H
             have hnb45 := NB101_102.out
             have hnc45 := NB102_101.out
             have hnb46 := NB101_110.out
             have hnc46 := NB110_101.out
             have hcz47_0 : wr.cell? ⟨gb101, 0, none⟩ = some (.int .i64 a0_0) := (blk_cell BK101.out 0).trans rfl
             have hcz47_1 : wr.cell? ⟨gb101, 1, none⟩ = some (.int .i64 a0_1) := (blk_cell BK101.out 1).trans rfl
             have hcz47_2 : wr.cell? ⟨gb101, 2, none⟩ = some (.slice A0_2 l0_2.length c0_2) := (blk_cell BK101.out 2).trans rfl
             have hfz47_0 := blk_frozen BK101.out 0
             have hfz47_1 := blk_frozen BK101.out 1
             have hfz47_2 := blk_frozen BK101.out 2
             go_wp2_with (first | ((with_reducible refine gate_callee (f := 107) rfl ?_); refine goesL_ (some 71) rfl rfl Try.func107 (by kernel_rfl) rfl #[.agg #[.int .i64 a0_0, .int .i64 a0_1, .slice A0_2 l0_2.length c0_2], .int .i64 x10_3, .int .i64 x9_2] rfl (by (try simp only [List.map_toArray, List.map_cons, List.map_nil]); first | done | rfl | (simp only [List.length_drop, List.length_take]; rfl)) ?_; (with_reducible refine (spec_l2At.calls a0_0 a0_1 _ _ l0_2 x10_3 x9_2 t120 _ ?side1 ?side2 A43.out).mono ?_); (case side1 => repeat (first | exact (Kd.C_below HR0_2.out HB.out) | (with_reducible refine Kd.C_alloc ?_ _) | (with_reducible refine Kd.C_drewN ?_ _) | (with_reducible refine Kd.C_drew ?_))); (case side2 => exact HC0_2.out); rintro e w48 ⟨rfl, hb⟩; refine ⟨_, rfl, ?_⟩; have n0_ := aK (Kd.R_below (pR HO_11.out) hb); have n1_ := aK (Kd.R_below (pR HO_111002.out) hb); replace BK101 := bB BK101 hb; replace BK102 := bB BK102 hb; replace BK110 := bB BK110 hb; replace HB := bS HB hb; clear HO_11 HO_111002; have HO_11 := n0_; have HO_111002 := n1_; clear n0_ n1_; (try clear hb); (try clear hb2); (try clear hk); (try clear hi); obtain ⟨Ao49, co49, eo49⟩ := Kd.R_slice HO_11.out; subst eo49) | ((with_reducible refine gate_callee (f := 106) rfl ?_); refine goesL_ (some 73) rfl rfl Try.func106 (by kernel_rfl) rfl #[.int .i64 t120, .slice Ao49 x11_4.length co49] rfl (by (try simp only [List.map_toArray, List.map_cons, List.map_nil]); first | done | rfl | (simp only [List.length_drop, List.length_take]; rfl)) ?_; (with_reducible refine (spec_l7Split.calls k4 t120 _ _ x11_4 t121 _ ?side1 ?side2 A44.out).mono ?_); (case side1 => repeat (first | exact (Kd.R_reads' HO_11.out).2.2 | (with_reducible refine Kd.C_alloc ?_ _) | (with_reducible refine Kd.C_drewN ?_ _) | (with_reducible refine Kd.C_drew ?_))); (case side2 => exact (Kd.R_reads' HO_11.out).2.1); rintro e w50 ⟨v122, rfl, ho0, hb⟩; refine ⟨_, rfl, ?_⟩; have n0_ := aK (Kd.R_elder' (pR HO_11.out) (Kd.R_base ho0) hb); have n1_ := aK (Kd.R_elder' (pR HO_111002.out) (Kd.R_base ho0) hb); have HO123 := aK (Kd.R_lower (Kd.R_new' (Kd.R_new' ho0 (Kd.R_lt (pR HO_11.out))) (Kd.R_lt (pR HO_111002.out))) (below_size (pS HB.out))); replace BK101 := bB BK101 hb; replace BK102 := bB BK102 hb; replace BK110 := bB BK110 hb; replace HB := bS HB hb; clear HO_11 HO_111002; have HO_11 := n0_; have HO_111002 := n1_; clear n0_ n1_; (try clear hb); (try clear hb2); (try clear hk); (try clear hi); (try clear ho0)))
             go_loopg [15] k4 (fun kq v15 w' => ∃ (x14_5 : List Int) (x15_5 : Int) (x111002_5 : List Int) (u111002 : Value), v15 = .int .i64 x15_5 ∧ Aside0 (spec_RegridTotal.l4 kq a1 a2 x9_2 x10_3 x14_5 x15_5 a0_0 a0_1 l0_2 t105 t106 x111002_5 = some (r1, r2, r3, r4)) ∧ Aside0 (kq ≤ k4) ∧ Aside0 (Kd.R (Kd.int .i64) 3 w' w.heap.size (fun k_ => some k_ ≠ (u111002 : Value).ownBlock) v122 x14_5) ∧ Aside0 (Kd.R (Kd.int .i64) 3 w' w.heap.size (fun k_ => some k_ ≠ (v122 : Value).ownBlock) u111002 x111002_5) ∧ Aside0 (w'.heap[gb101]? = some (.cells #[.int .i64 a0_0, .int .i64 a0_1, (.slice A0_2 l0_2.length c0_2)] 24 (0, 0))) ∧ Aside0 (w'.heap[gb102]? = some (.cells #[.int .i64 0, .int .i64 0, (.slice none 0 0)] 24 (0, 0))) ∧ Aside0 (w'.heap[gb110]? = some (.cells #[.int .i64 t105, .int .i64 t106, u111002] 24 (0, 0))) ∧ Aside0 (Below w.heap.size w w'))
             case atStart => exact ⟨(t121), (0), (x111002_3), (u111002), (by first | rfl | (simp; done) | (simp [*]; done)), H', ⟨Nat.le_refl _⟩, ⟨by (with_reducible repeat (first | apply Kd.R_alloc | apply Kd.R_drewN | apply Kd.R_drew)); exact Kd.R_mono HO123.out (fun _ hk => hk.2)⟩, ⟨by (with_reducible repeat (first | apply Kd.R_alloc | apply Kd.R_drewN | apply Kd.R_drew)); exact Kd.R_mono HO_111002.out (fun _ hk => hk.2)⟩, ⟨by (with_reducible repeat (first | refine blk_drewN ?_ _ | refine blk_drew ?_ | refine blk_alloc ?_ _)); exact BK101.out⟩, ⟨by (with_reducible repeat (first | refine blk_drewN ?_ _ | refine blk_drew ?_ | refine blk_alloc ?_ _)); exact BK102.out⟩, ⟨by (with_reducible repeat (first | refine blk_drewN ?_ _ | refine blk_drew ?_ | refine blk_alloc ?_ _)); exact BK110.out⟩, ⟨by repeat (first | (with_reducible first | exact HB.out | apply below_alloc | apply pw_below_drewN | apply below_drew1 | refine below_set ?_ GE101.out | refine below_set ?_ GE102.out | refine below_set ?_ GE110.out) | exact HB.out)⟩⟩
             case round =>
              clear H'
              try clear c1
              try clear c2
              try clear p2
              try clear c3
              try clear c4
              try clear p6
              try clear c8
              try clear c10
              try clear c13
              try clear c16
              try clear c17
              try clear c22
              try clear c23
              try clear c26
              try clear c26b0
              try clear c27
              try clear c28
              try clear c30
              try clear c30b0
              try clear c31
              try clear c32
              try clear c36
              try clear c36b0
              try clear c37
              try clear c37b0
              try clear c40
              try clear c45
              try clear c46
              try clear hcz11_0
              try clear hcz11_1
              try clear hcz11_2
              try clear hcz14_0
              try clear hcz14_1
              try clear hcz14_2
              try clear hcz18_0
              try clear hcz18_1
              try clear hcz18_2
              try clear hcz24_0
              try clear hcz24_1
              try clear hcz24_2
              try clear hcz29_0
              try clear hcz29_1
              try clear hcz29_2
              try clear hcz33_0
              try clear hcz33_1
              try clear hcz33_2
              try clear hcz47_0
              try clear hcz47_1
              try clear hcz47_2
              try clear hfz11_0
              try clear hfz11_1
              try clear hfz11_2
              try clear hfz14_0
              try clear hfz14_1
              try clear hfz14_2
              try clear hfz18_0
              try clear hfz18_1
              try clear hfz18_2
              try clear hfz24_0
              try clear hfz24_1
              try clear hfz24_2
              try clear hfz29_0
              try clear hfz29_1
              try clear hfz29_2
              try clear hfz33_0
              try clear hfz33_1
              try clear hfz33_2
              try clear hfz47_0
              try clear hfz47_1
              try clear hfz47_2
              try clear p2
              obtain ⟨x14_5, x15_5, x111002_5, u111002, rfl, HA, HK5, HO_14, HO_111002, BK101, BK102, BK110, HB⟩ := hrel
              cases gk with
              | zero => exact absurd HA.out (by simp [spec_RegridTotal.l4])
              | succ k5 =>
               have H := HA.out
               clear HA
               simp only [spec_RegridTotal.l4] at H
               by_cases c51 : x15_5 < (x14_5.length : Int)
               ·
                rw [if_pos c51] at H
                have c51b0 : decide (x15_5 < (x14_5.length : Int)) = true := decide_eq_true c51
                clear c51
                by_cases c52 : 0 ≤ x15_5
                ·
                 rw [if_pos c52] at H
                 have c52b0 : decide (0 ≤ x15_5) = true := decide_eq_true c52
                 clear c52
                 by_cases c53 : x15_5 < (x111002_5.length : Int)
                 ·
                  rw [if_pos c53] at H
                  have c53b0 : decide (x15_5 < (x111002_5.length : Int)) = true := decide_eq_true c53
                  clear c53
                  obtain ⟨y126, hy126⟩ : ∃ y_ : List Int, y_ = (x111002_5.set (x15_5 : Int).toNat (wrap64 ((rd x111002_5 x15_5) + (rd x14_5 x15_5)))) := ⟨_, rfl⟩
                  replace H : (spec_RegridTotal.l4 k5 a1 a2 x9_2 x10_3 x14_5 (wrap64 (x15_5 + 1)) a0_0 a0_1 l0_2 t105 t106 y126) = some (r1, r2, r3, r4) := by first | (rw [hy126]; with_reducible exact H) | (have H2_ := (Option.bind_some _ _).symm.trans H; rw [hy126]; with_reducible exact H2_) | (have H2_ := (Option.bind_some _ _).symm.trans H; with_reducible exact H2_) | with_reducible exact H | (rw [hy126]; exact H) | exact H
                  have Ny126 := Aside0.mk hy126
                  clear hy126
                  have H' := Aside0.mk H
                  clear H
                  obtain ⟨Ao55, co55, eo55⟩ := Kd.R_slice HO_14.out
                  subst eo55
                  try go_wp2
                  have n0_ := aK (Kd.R_drew HO_14.out)
                  have n1_ := aK (Kd.R_drew HO_111002.out)
                  have n2_ := aK (blk_drew BK101.out)
                  have n3_ := aK (blk_drew BK102.out)
                  have n4_ := aK (blk_drew BK110.out)
                  have n5_ := aK (below_drew1 HB.out)
                  clear HO_14 HO_111002 BK101 BK102 BK110 HB
                  have HO_14 := n0_
                  have HO_111002 := n1_
                  have BK101 := n2_
                  have BK102 := n3_
                  have BK110 := n4_
                  have HB := n5_
                  clear n0_ n1_ n2_ n3_ n4_ n5_
                  obtain ⟨Ao57, co57, eo57⟩ := Kd.R_slice HO_111002.out
                  (first | subst eo57 | (injection eo57 with f1_ f2_ f3_; have f4_ := f1_.symm; have f5_ := f3_.symm; clear f1_ f2_ f3_; subst f4_; subst f5_))
                  have p124 : 0 ≤ (x15_5 : Int) := of_decide_eq_true (by first | (with_reducible assumption) | assumption)
                  have q124 : x15_5 < (x111002_5.length : Int) := of_decide_eq_true (by first | (with_reducible assumption) | assumption)
                  obtain ⟨ad124, e124, hx124_0⟩ := Kd.at_int (Kd.R_reads' HO_111002.out).2.2 x15_5 p124 q124
                  cases e124
                  replace p124 := eq_true p124
                  replace q124 := eq_true q124
                  have p125 : 0 ≤ (x15_5 : Int) := of_decide_eq_true (by first | (with_reducible assumption) | assumption)
                  have q125 : x15_5 < (x14_5.length : Int) := of_decide_eq_true (by first | (with_reducible assumption) | assumption)
                  obtain ⟨ad125, e125, hx125_0⟩ := Kd.at_int (Kd.R_reads' HO_14.out).2.2 x15_5 p125 q125
                  cases e125
                  replace p125 := eq_true p125
                  replace q125 := eq_true q125
                  have p54 : 0 ≤ (x15_5 : Int) := of_decide_eq_true (by first | (with_reducible assumption) | assumption)
                  have q54 : (x15_5 : Int) < ((x111002_5.length : Int) : Int) := of_decide_eq_true (by first | (with_reducible assumption) | assumption)
                  obtain ⟨go54, co54, eo54, gb54, gl54, cl54, HG54⟩ := Kd.R_form HO_111002.out (by omega)
                  (first | cases eo54 | (injection eo54 with ea_ en_ ec_; (first | subst ea_ | (injection ea_ with ea_; subst ea_)); subst ec_; clear en_))
                  have GB54 := Aside0.mk gb54
                  have GG54 := Aside0.mk HG54
                  clear gb54 gl54 HG54
                  (first | simp only [add_plain] at hx124_0 | skip)
                  obtain ⟨hx54_0, hf54_0⟩ := Kd.R_celln 0 HO_111002.out (x15_5 : Int) p54 q54
                  replace p54 := eq_true p54
                  replace q54 := eq_true q54
                  have HP58 := Kd.R_putn HO_111002.out (x15_5 : Int) (wrap64 ((rd x111002_5 x15_5) + (rd x14_5 x15_5)))
                  rw [← Ny126.out] at HP58
                  have HQ58 := Aside0.mk HP58
                  clear HP58
                  refine start_ (n := 15) (S := fun w' => w'.cell? ⟨gb110, 0, none⟩ = some (.int .i64 t105) ∧ w'.cell? ⟨gb110, 1, none⟩ = some (.int .i64 t106) ∧ w'.cell? ⟨gb110, 2, none⟩ = some (.slice (some ⟨go54, 0, none⟩) x111002_5.length co57) ∧ w'.cell? ⟨go54, (x15_5).toNat, none⟩ = some (.int .i64 (rd x111002_5 x15_5)) ∧ w'.cell? (ad125.add (x15_5).toNat) = some (.int .i64 (rd x14_5 x15_5))) (ds := [14]) #[false, false, false, false, false, false, false, false, false, false, false, false, false, false, false] (by kernel_rfl) rfl rfl ⟨(blk_cell BK110.out 0).trans rfl, (blk_cell BK110.out 1).trans rfl, (blk_cell BK110.out 2).trans rfl, hx124_0, hx125_0⟩ (fun hHeld => ?_); refine with_tabW spec_RegridTotal.tab22 spec_RegridTotal.bits22 (fun HT_ HW_ => ?_)
                  generalize wr.drew = w56 at HO_14 HO_111002 BK101 BK102 BK110 HB GG54 HQ58 hf54_0 hx124_0 hx125_0 hx54_0 hHeld ⊢
                  refine pure_ (i := 0) (N := some 80) (v := ?_) (a' := ?_) #[true, false, false, false, false, false, false, false, false, false, false, false, false, false, false] rfl rfl (any_of HT_.out (by kernel_rfl)) (fun _ _ _ h => h) (Or.inl ⟨by rfl, ?_⟩) ?_ ?_
                  rotate_left
                  ·
                   intro w'
                   go_simp
                   with_reducible rfl
                  rotate_left
                  ·
                   simp only [Act.put, List.setIfInBounds_toArray, List.set_cons_zero, List.set_cons_succ, i64_w, i32_w]
                   rfl
                  refine pure_ (i := 2) (N := some 82) (v := ?_) (a' := ?_) #[true, false, true, false, false, false, false, false, false, false, false, false, false, false, false] rfl rfl (any_of HT_.out (by kernel_rfl)) (fun _ _ _ h => h) (Or.inl ⟨by rfl, ?_⟩) ?_ ?_
                  rotate_left
                  ·
                   intro w'
                   go_simp
                   with_reducible rfl
                  rotate_left
                  ·
                   simp only [Act.put, List.setIfInBounds_toArray, List.set_cons_zero, List.set_cons_succ, i64_w, i32_w]
                   rfl
                  refine pure_ (i := 3) (N := some 83) (v := ?_) (a' := ?_) #[true, false, true, true, false, false, false, false, false, false, false, false, false, false, false] rfl rfl (any_of HT_.out (by kernel_rfl)) (fun _ _ _ h => h) (Or.inl ⟨by rfl, ?_⟩) ?_ ?_
                  rotate_left
                  ·
                   intro w'
                   go_simp
                   with_reducible rfl
                  rotate_left
                  ·
                   simp only [Act.put, List.setIfInBounds_toArray, List.set_cons_zero, List.set_cons_succ, i64_w, i32_w]
                   rfl
                  refine pure_ (i := 5) (N := some 85) (v := ?_) (a' := ?_) #[true, false, true, true, false, true, false, false, false, false, false, false, false, false, false] rfl rfl (any_of HT_.out (by kernel_rfl)) (fun _ _ _ h => h) (Or.inl ⟨by rfl, ?_⟩) ?_ ?_
                  rotate_left
                  ·
                   intro w'
                   go_simp
                   with_reducible rfl
                  rotate_left
                  ·
                   simp only [Act.put, List.setIfInBounds_toArray, List.set_cons_zero, List.set_cons_succ, i64_w, i32_w]
                   rfl
                  refine pure_ (i := 8) (N := some 88) (v := ?_) (a' := ?_) #[true, false, true, true, false, true, false, false, true, false, false, false, false, false, false] rfl rfl (any_of HT_.out (by kernel_rfl)) (fun _ _ _ h => h) (Or.inl ⟨by rfl, ?_⟩) ?_ ?_
                  rotate_left
                  ·
                   intro w'
                   go_simp
                   with_reducible rfl
                  rotate_left
                  ·
                   simp only [Act.put, List.setIfInBounds_toArray, List.set_cons_zero, List.set_cons_succ, i64_w, i32_w]
                   rfl
                  refine pure_ (i := 9) (N := some 89) (v := ?_) (a' := ?_) #[true, false, true, true, false, true, false, false, true, true, false, false, false, false, false] rfl rfl (any_of HT_.out (by kernel_rfl)) (fun _ _ _ h => h) (Or.inl ⟨by rfl, ?_⟩) ?_ ?_
                  rotate_left
                  ·
                   intro w'
                   go_simp
                   with_reducible rfl
                  rotate_left
                  ·
                   simp only [Act.put, List.setIfInBounds_toArray, List.set_cons_zero, List.set_cons_succ, i64_w, i32_w]
                   rfl
                  refine pure_ (i := 10) (N := some 90) (v := ?_) (a' := ?_) #[true, false, true, true, false, true, false, false, true, true, true, false, false, false, false] rfl rfl (any_of HT_.out (by kernel_rfl)) (fun _ _ _ h => h) (Or.inl ⟨by rfl, ?_⟩) ?_ ?_
                  rotate_left
                  ·
                   intro w'
                   go_simp
                   with_reducible rfl
                  rotate_left
                  ·
                   simp only [Act.put, List.setIfInBounds_toArray, List.set_cons_zero, List.set_cons_succ, i64_w, i32_w]
                   rfl
                  refine take_ (i := 1) (N := some 81) (v := ?_) (a' := ?_) #[true, true, true, true, false, true, false, false, true, true, true, false, false, false, false] rfl rfl (take_ofW HT_.out HW_.out (by kernel_rfl)) (fun _ _ _ h => h) (Or.inl ⟨by rfl, ?_⟩) hHeld ?_ ?_
                  rotate_left
                  ·
                   rintro w' ⟨s0, s1, s2, s3, s4⟩
                   go_simp
                   with_reducible rfl
                  rotate_left
                  ·
                   simp only [Act.put, List.setIfInBounds_toArray, List.set_cons_zero, List.set_cons_succ, i64_w, i32_w]
                   rfl
                  refine take_ (i := 4) (N := some 84) (v := ?_) (a' := ?_) #[true, true, true, true, true, true, false, false, true, true, true, false, false, false, false] rfl rfl (take_ofW HT_.out HW_.out (by kernel_rfl)) (fun _ _ _ h => h) (Or.inl ⟨by rfl, ?_⟩) hHeld ?_ ?_
                  rotate_left
                  ·
                   rintro w' ⟨s0, s1, s2, s3, s4⟩
                   go_simp
                   with_reducible rfl
                  rotate_left
                  ·
                   simp only [Act.put, List.setIfInBounds_toArray, List.set_cons_zero, List.set_cons_succ, i64_w, i32_w]
                   rfl
                  refine pure_ (i := 6) (N := some 86) (v := ?_) (a' := ?_) #[true, true, true, true, true, true, true, false, true, true, true, false, false, false, false] rfl rfl (any_of HT_.out (by kernel_rfl)) (fun _ _ _ h => h) (Or.inl ⟨by rfl, ?_⟩) ?_ ?_
                  rotate_left
                  ·
                   intro w'
                   go_simp
                   with_reducible rfl
                  rotate_left
                  ·
                   simp only [Act.put, List.setIfInBounds_toArray, List.set_cons_zero, List.set_cons_succ, i64_w, i32_w]
                   rfl
                  refine take_ (i := 7) (N := some 87) (v := ?_) (a' := ?_) #[true, true, true, true, true, true, true, true, true, true, true, false, false, false, false] rfl rfl (take_ofW HT_.out HW_.out (by kernel_rfl)) (fun _ _ _ h => h) (Or.inl ⟨by rfl, ?_⟩) hHeld ?_ ?_
                  rotate_left
                  ·
                   rintro w' ⟨s0, s1, s2, s3, s4⟩
                   go_simp
                   with_reducible rfl
                  rotate_left
                  ·
                   simp only [Act.put, List.setIfInBounds_toArray, List.set_cons_zero, List.set_cons_succ, i64_w, i32_w]
                   rfl
                  refine take_ (i := 11) (N := some 91) (v := ?_) (a' := ?_) #[true, true, true, true, true, true, true, true, true, true, true, true, false, false, false] rfl rfl (take_ofW HT_.out HW_.out (by kernel_rfl)) (fun _ _ _ h => h) (Or.inl ⟨by rfl, ?_⟩) hHeld ?_ ?_
                  rotate_left
                  ·
                   rintro w' ⟨s0, s1, s2, s3, s4⟩
                   go_simp
                   with_reducible rfl
                  rotate_left
                  ·
                   simp only [Act.put, List.setIfInBounds_toArray, List.set_cons_zero, List.set_cons_succ, i64_w, i32_w]
                   rfl
                  refine pure_ (i := 12) (N := some 92) (v := ?_) (a' := ?_) #[true, true, true, true, true, true, true, true, true, true, true, true, true, false, false] rfl rfl (any_of HT_.out (by kernel_rfl)) (fun _ _ _ h => h) (Or.inl ⟨by rfl, ?_⟩) ?_ ?_
                  rotate_left
                  ·
                   intro w'
                   go_simp
                   with_reducible rfl
                  rotate_left
                  ·
                   simp only [Act.put, List.setIfInBounds_toArray, List.set_cons_zero, List.set_cons_succ, i64_w, i32_w]
                   rfl
                  refine pure_ (i := 13) (N := some 93) (v := ?_) (a' := ?_) #[true, true, true, true, true, true, true, true, true, true, true, true, true, true, false] rfl rfl (any_of HT_.out (by kernel_rfl)) (fun _ _ _ h => h) (Or.inl ⟨by rfl, ?_⟩) ?_ ?_
                  rotate_left
                  ·
                   intro w'
                   go_simp
                   with_reducible rfl
                  rotate_left
                  ·
                   simp only [Act.put, List.setIfInBounds_toArray, List.set_cons_zero, List.set_cons_succ, i64_w, i32_w]
                   rfl
                  refine last_ (i := 14) (N := none) #[true, true, true, true, true, true, true, true, true, true, true, true, true, true, true] rfl rfl (one_of HT_.out (by kernel_rfl)) (by decide) (fun K hK => ?_)
                  refine skip_ (w1 := ?_) (by rfl) rfl ?_ ?_
                  rotate_left
                  ·
                   go_simp
                   rfl
                  refine hK.out _ _ ?_
                  clear hK K
                  refine done_ (done_of HT_.out (by kernel_rfl)) ?_
                  try go_wp2
                  go_roundg k5
                  case measure => have := HJ3.out; have := HK2.out; have := HK3.out; have := HK4.out; have := HK5.out; omega
                  case rel => exact ⟨(x14_5), (wrap64 (x15_5 + 1)), (y126), (.slice (some ⟨go54, 0, none⟩) x111002_5.length co57), (by first | rfl | (simp; done) | (simp [*]; done)), H', ⟨by have := HJ3.out; have := HK2.out; have := HK3.out; have := HK4.out; have := HK5.out; omega⟩, ⟨by (with_reducible repeat (first | apply Kd.R_alloc | apply Kd.R_drewN | apply Kd.R_drew)); exact Kd.R_mono (Kd.R_far (p := ⟨go54, (x15_5 : Int).toNat, none⟩) (Kd.R_mono HO_14.out (fun k_ hk => (⟨hk, fun e_ => hk (by rw [e_]; rfl)⟩ : _ ∧ k_ ≠ go54))) (fun _ hk => hk.2) (.int .i64 (wrap64 ((rd x111002_5 x15_5) + (rd x14_5 x15_5))))) (fun _ hk => hk.1)⟩, ⟨by (with_reducible repeat (first | apply Kd.R_alloc | apply Kd.R_drewN | apply Kd.R_drew)); exact HQ58.out⟩, ⟨by (with_reducible repeat (first | refine blk_drewN ?_ _ | refine blk_drew ?_ | refine blk_alloc ?_ _)); refine blk_far ?_ (by have h_ := Kd.R_ne HO_111002.out BK101.out (by decide); intro e_; exact h_ (by rw [e_]; rfl)) _; (with_reducible repeat (first | refine blk_drewN ?_ _ | refine blk_drew ?_ | refine blk_alloc ?_ _)); exact BK101.out⟩, ⟨by (with_reducible repeat (first | refine blk_drewN ?_ _ | refine blk_drew ?_ | refine blk_alloc ?_ _)); refine blk_far ?_ (by have h_ := Kd.R_ne HO_111002.out BK102.out (by decide); intro e_; exact h_ (by rw [e_]; rfl)) _; (with_reducible repeat (first | refine blk_drewN ?_ _ | refine blk_drew ?_ | refine blk_alloc ?_ _)); exact BK102.out⟩, ⟨by (with_reducible repeat (first | refine blk_drewN ?_ _ | refine blk_drew ?_ | refine blk_alloc ?_ _)); refine blk_far ?_ (by have h_ := Kd.R_ne HO_111002.out BK110.out (by decide); intro e_; exact h_ (by rw [e_]; rfl)) _; (with_reducible repeat (first | refine blk_drewN ?_ _ | refine blk_drew ?_ | refine blk_alloc ?_ _)); exact BK110.out⟩, ⟨by repeat (first | (with_reducible first | exact HB.out | apply below_alloc | apply pw_below_drewN | apply below_drew1 | refine below_set ?_ GB54.out | refine below_set ?_ GE101.out | refine below_set ?_ GE102.out | refine below_set ?_ GE110.out) | exact HB.out)⟩⟩
                 ·
                  rw [if_neg c53] at H
                  exact absurd H (by simp)
                ·
                 rw [if_neg c52] at H
                 exact absurd H (by simp)
               ·
                rw [if_neg c51] at H
                have c51b0 : decide (x15_5 < (x14_5.length : Int)) = false := decide_eq_false c51
                clear c51
                have H' := Aside0.mk H
                clear H
                obtain ⟨Ao59, co59, eo59⟩ := Kd.R_slice HO_14.out
                subst eo59
                go_wp2
                go_roundg k5
                case measure => have := HJ3.out; have := HK2.out; have := HK3.out; have := HK4.out; have := HK5.out; omega
                case rel => exact ⟨(wrap64 (x10_3 + 1)), (x111002_5), (u111002), (by first | rfl | (simp; done) | (simp [*]; done)), H', ⟨by have := HJ3.out; have := HK2.out; have := HK3.out; have := HK4.out; have := HK5.out; omega⟩, ⟨by (with_reducible repeat (first | apply Kd.R_alloc | apply Kd.R_drewN | apply Kd.R_drew)); exact Kd.R_mono HO_111002.out (fun _ hk => trivial)⟩, ⟨by (with_reducible repeat (first | refine blk_drewN ?_ _ | refine blk_drew ?_ | refine blk_alloc ?_ _)); exact BK101.out⟩, ⟨by (with_reducible repeat (first | refine blk_drewN ?_ _ | refine blk_drew ?_ | refine blk_alloc ?_ _)); exact BK102.out⟩, ⟨by (with_reducible repeat (first | refine blk_drewN ?_ _ | refine blk_drew ?_ | refine blk_alloc ?_ _)); exact BK110.out⟩, ⟨by repeat (first | (with_reducible first | exact HB.out | apply below_alloc | apply pw_below_drewN | apply below_drew1 | refine below_set ?_ GE101.out | refine below_set ?_ GE102.out | refine below_set ?_ GE110.out) | exact HB.out)⟩⟩
         ·
          rw [if_neg c30] at H
          have c30b0 : decide (x10_3 < a0_0) = false := decide_eq_false c30
          clear c30
          have H' := Aside0.mk H
          clear H
          have hnb60 := NB101_102.out
          have hnc60 := NB102_101.out
          have hnb61 := NB101_110.out
          have hnc61 := NB110_101.out
          have hcz62_0 : wr.cell? ⟨gb101, 0, none⟩ = some (.int .i64 a0_0) := (blk_cell BK101.out 0).trans rfl
          have hcz62_1 : wr.cell? ⟨gb101, 1, none⟩ = some (.int .i64 a0_1) := (blk_cell BK101.out 1).trans rfl
          have hcz62_2 : wr.cell? ⟨gb101, 2, none⟩ = some (.slice A0_2 l0_2.length c0_2) := (blk_cell BK101.out 2).trans rfl
          have hfz62_0 := blk_frozen BK101.out 0
          have hfz62_1 := blk_frozen BK101.out 1
          have hfz62_2 := blk_frozen BK101.out 2
          go_wp2
          go_roundg k3
          case measure => have := HJ3.out; have := HK2.out; have := HK3.out; omega
          case rel => exact ⟨(wrap64 (x9_2 + 1)), (x111002_3), (u111002), (by first | rfl | (simp; done) | (simp [*]; done)), H', ⟨by have := HJ3.out; have := HK2.out; have := HK3.out; omega⟩, ⟨by (with_reducible repeat (first | apply Kd.R_alloc | apply Kd.R_drewN | apply Kd.R_drew)); exact HO_111002.out⟩, ⟨by (with_reducible repeat (first | refine blk_drewN ?_ _ | refine blk_drew ?_ | refine blk_alloc ?_ _)); exact BK101.out⟩, ⟨by (with_reducible repeat (first | refine blk_drewN ?_ _ | refine blk_drew ?_ | refine blk_alloc ?_ _)); exact BK102.out⟩, ⟨by (with_reducible repeat (first | refine blk_drewN ?_ _ | refine blk_drew ?_ | refine blk_alloc ?_ _)); exact BK110.out⟩, ⟨by repeat (first | (with_reducible first | exact HB.out | apply below_alloc | apply pw_below_drewN | apply below_drew1 | refine below_set ?_ GE101.out | refine below_set ?_ GE102.out | refine below_set ?_ GE110.out) | exact HB.out)⟩⟩
      ·
       rw [if_neg c26] at H
       have c26b0 : decide (x9_2 < a0_1) = false := decide_eq_false c26
       clear c26
       replace H := Option.bind_eq_some_iff.mp H
       obtain ⟨t111, A630, H⟩ := H
       replace H : (if t111 = true then (some (t105, t106, x111002_2, true)) else (some (0, 0, ([] : List Int), false))) = some (r1, r2, r3, r4) := H
       have A63 := Aside0.mk A630
       clear A630
       by_cases c64 : t111 = true
       ·
        subst c64
        have H1 : (some (t105, t106, x111002_2, true)) = some (r1, r2, r3, r4) := by rw [if_pos rfl] at H; exact H
        clear H
        have H := H1
        clear H1
        simp only [Option.some.injEq, Prod.mk.injEq] at H
        obtain ⟨rfl, rfl, rfl, rfl⟩ := H
        have hnb65 := NB101_102.out
        have hnc65 := NB102_101.out
        have hnb66 := NB101_110.out
        have hnc66 := NB110_101.out
        have hcz67_0 : wr.cell? ⟨gb101, 0, none⟩ = some (.int .i64 a0_0) := (blk_cell BK101.out 0).trans rfl
        have hcz67_1 : wr.cell? ⟨gb101, 1, none⟩ = some (.int .i64 a0_1) := (blk_cell BK101.out 1).trans rfl
        have hcz67_2 : wr.cell? ⟨gb101, 2, none⟩ = some (.slice A0_2 l0_2.length c0_2) := (blk_cell BK101.out 2).trans rfl
        have hfz67_0 := blk_frozen BK101.out 0
        have hfz67_1 := blk_frozen BK101.out 1
        have hfz67_2 := blk_frozen BK101.out 2
        have hnb68 := NB110_102.out
        have hnc68 := NB102_110.out
        have hcz69_0 : wr.cell? ⟨gb110, 0, none⟩ = some (.int .i64 t105) := (blk_cell BK110.out 0).trans rfl
        have hcz69_1 : wr.cell? ⟨gb110, 1, none⟩ = some (.int .i64 t106) := (blk_cell BK110.out 1).trans rfl
        have hcz69_2 : wr.cell? ⟨gb110, 2, none⟩ = some (u111002) := (blk_cell BK110.out 2).trans rfl
        have hfz69_0 := blk_frozen BK110.out 0
        have hfz69_1 := blk_frozen BK110.out 1
        have hfz69_2 := blk_frozen BK110.out 2
        obtain ⟨Ao70, co70, eo70⟩ := Kd.R_slice HO_111002.out
        subst eo70
        go_wp2_with (first | ((with_reducible refine gate_callee (f := 102) rfl ?_); refine goesL_ (some 95) rfl rfl Try.func102 (by kernel_rfl) rfl #[.agg #[.int .i64 t105, .int .i64 t106, .slice Ao70 x111002_2.length co70]] rfl (by (try simp only [List.map_toArray, List.map_cons, List.map_nil]); first | done | rfl | (simp only [List.length_drop, List.length_take]; rfl)) ?_; (with_reducible refine (spec_l7Full.calls k2 t105 t106 _ _ x111002_2 true _ ?side1 ?side2 A63.out).mono ?_); (case side1 => repeat (first | exact (Kd.R_reads' HO_111002.out).2.2 | (with_reducible refine Kd.C_alloc ?_ _) | (with_reducible refine Kd.C_drewN ?_ _) | (with_reducible refine Kd.C_drew ?_))); (case side2 => exact (Kd.R_reads' HO_111002.out).2.1); rintro e w71 ⟨rfl, hb⟩; refine ⟨_, rfl, ?_⟩; have n0_ := aK (Kd.R_below (pR HO_111002.out) hb); replace BK101 := bB BK101 hb; replace BK102 := bB BK102 hb; replace BK110 := bB BK110 hb; replace HB := bS HB hb; clear HO_111002; have HO_111002 := n0_; clear n0_; (try clear hb); (try clear hb2); (try clear hk); (try clear hi); have hcz72_0 : w71.cell? ⟨gb110, 0, none⟩ = some (.int .i64 t105) := (blk_cell BK110.out 0).trans rfl; have hcz72_1 : w71.cell? ⟨gb110, 1, none⟩ = some (.int .i64 t106) := (blk_cell BK110.out 1).trans rfl; have hcz72_2 : w71.cell? ⟨gb110, 2, none⟩ = some (.slice Ao70 x111002_2.length co70) := (blk_cell BK110.out 2).trans rfl; have hfz72_0 := blk_frozen BK110.out 0; have hfz72_1 := blk_frozen BK110.out 1; have hfz72_2 := blk_frozen BK110.out 2; have hcz73_0 : w71.cell? ⟨gb102, 0, none⟩ = some (.int .i64 0) := (blk_cell BK102.out 0).trans rfl; have hcz73_1 : w71.cell? ⟨gb102, 1, none⟩ = some (.int .i64 0) := (blk_cell BK102.out 1).trans rfl; have hcz73_2 : w71.cell? ⟨gb102, 2, none⟩ = some (.slice none 0 0) := (blk_cell BK102.out 2).trans rfl; have hfz73_0 := blk_frozen BK102.out 0; have hfz73_1 := blk_frozen BK102.out 1; have hfz73_2 := blk_frozen BK102.out 2))
        refine bodyPost_ret (results_ct rfl _ _ gb102 24 #[.int .i64 t105, .int .i64 t106, .slice Ao70 x111002_2.length co70] (0, 0) _ rfl (by (with_reducible repeat (first | refine blk_drewN ?_ _ | refine blk_drew ?_ | refine blk_alloc ?_ _)); refine blk_put (cs := #[.int .i64 t105, .int .i64 t106, .slice none 0 0]) ?_ 2 _ rfl; (with_reducible repeat (first | refine blk_drewN ?_ _ | refine blk_drew ?_ | refine blk_alloc ?_ _)); refine blk_put (cs := #[.int .i64 t105, .int .i64 0, .slice none 0 0]) ?_ 1 _ rfl; (with_reducible repeat (first | refine blk_drewN ?_ _ | refine blk_drew ?_ | refine blk_alloc ?_ _)); refine blk_put (cs := #[.int .i64 0, .int .i64 0, .slice none 0 0]) ?_ 0 _ rfl; (with_reducible repeat (first | refine blk_drewN ?_ _ | refine blk_drew ?_ | refine blk_alloc ?_ _)); exact BK102.out) Try.underlying24 rfl (by kernel_rfl)) rfl ?_
        exact ⟨_, by first | rfl | (simp [errW_none, errW_some] <;> rfl) | (simp [*, errW_none, errW_some] <;> rfl), by (with_reducible repeat (first | apply Kd.R_alloc | apply Kd.R_drewN | apply Kd.R_drew)); exact Kd.R_mono (Kd.R_far (p := ⟨gb102, 2, none⟩) (Kd.R_far (p := ⟨gb102, 1, none⟩) (Kd.R_far (p := ⟨gb102, 0, none⟩) (Kd.R_types HO_111002.out BK102.out (by decide)) (fun _ hk => hk.2) (.int .i64 t105)) (fun _ hk => hk.2) (.int .i64 t106)) (fun _ hk => hk.2) (.slice Ao70 x111002_2.length co70)) (fun _ hk => trivial), by repeat (first | (with_reducible first | exact HB.out | apply below_alloc | apply pw_below_drewN | apply below_drew1 | refine below_set ?_ GE101.out | refine below_set ?_ GE102.out | refine below_set ?_ GE110.out) | exact HB.out)⟩
       ·
        replace c64 := Bool.eq_false_iff.mpr c64
        subst c64
        have H1 : (some (0, 0, ([] : List Int), false)) = some (r1, r2, r3, r4) := by rw [if_neg (show ¬ (false = true) by decide)] at H; exact H
        clear H
        have H := H1
        clear H1
        simp only [Option.some.injEq, Prod.mk.injEq] at H
        obtain ⟨rfl, rfl, rfl, rfl⟩ := H
        have hnb74 := NB101_102.out
        have hnc74 := NB102_101.out
        have hnb75 := NB101_110.out
        have hnc75 := NB110_101.out
        have hcz76_0 : wr.cell? ⟨gb101, 0, none⟩ = some (.int .i64 a0_0) := (blk_cell BK101.out 0).trans rfl
        have hcz76_1 : wr.cell? ⟨gb101, 1, none⟩ = some (.int .i64 a0_1) := (blk_cell BK101.out 1).trans rfl
        have hcz76_2 : wr.cell? ⟨gb101, 2, none⟩ = some (.slice A0_2 l0_2.length c0_2) := (blk_cell BK101.out 2).trans rfl
        have hfz76_0 := blk_frozen BK101.out 0
        have hfz76_1 := blk_frozen BK101.out 1
        have hfz76_2 := blk_frozen BK101.out 2
        have hnb77 := NB110_102.out
        have hnc77 := NB102_110.out
        have hcz78_0 : wr.cell? ⟨gb110, 0, none⟩ = some (.int .i64 t105) := (blk_cell BK110.out 0).trans rfl
        have hcz78_1 : wr.cell? ⟨gb110, 1, none⟩ = some (.int .i64 t106) := (blk_cell BK110.out 1).trans rfl
        have hcz78_2 : wr.cell? ⟨gb110, 2, none⟩ = some (u111002) := (blk_cell BK110.out 2).trans rfl
        have hfz78_0 := blk_frozen BK110.out 0
        have hfz78_1 := blk_frozen BK110.out 1
        have hfz78_2 := blk_frozen BK110.out 2
        obtain ⟨Ao79, co79, eo79⟩ := Kd.R_slice HO_111002.out
        subst eo79
        go_wp2_with (first | ((with_reducible refine gate_callee (f := 102) rfl ?_); refine goesL_ (some 95) rfl rfl Try.func102 (by kernel_rfl) rfl #[.agg #[.int .i64 t105, .int .i64 t106, .slice Ao79 x111002_2.length co79]] rfl (by (try simp only [List.map_toArray, List.map_cons, List.map_nil]); first | done | rfl | (simp only [List.length_drop, List.length_take]; rfl)) ?_; (with_reducible refine (spec_l7Full.calls k2 t105 t106 _ _ x111002_2 false _ ?side1 ?side2 A63.out).mono ?_); (case side1 => repeat (first | exact (Kd.R_reads' HO_111002.out).2.2 | (with_reducible refine Kd.C_alloc ?_ _) | (with_reducible refine Kd.C_drewN ?_ _) | (with_reducible refine Kd.C_drew ?_))); (case side2 => exact (Kd.R_reads' HO_111002.out).2.1); rintro e w80 ⟨rfl, hb⟩; refine ⟨_, rfl, ?_⟩; have n0_ := aK (Kd.R_below (pR HO_111002.out) hb); replace BK101 := bB BK101 hb; replace BK102 := bB BK102 hb; replace BK110 := bB BK110 hb; replace HB := bS HB hb; clear HO_111002; have HO_111002 := n0_; clear n0_; (try clear hb); (try clear hb2); (try clear hk); (try clear hi); have hcz81_0 : w80.cell? ⟨gb102, 0, none⟩ = some (.int .i64 0) := (blk_cell BK102.out 0).trans rfl; have hcz81_1 : w80.cell? ⟨gb102, 1, none⟩ = some (.int .i64 0) := (blk_cell BK102.out 1).trans rfl; have hcz81_2 : w80.cell? ⟨gb102, 2, none⟩ = some (.slice none 0 0) := (blk_cell BK102.out 2).trans rfl; have hfz81_0 := blk_frozen BK102.out 0; have hfz81_1 := blk_frozen BK102.out 1; have hfz81_2 := blk_frozen BK102.out 2))
        refine bodyPost_ret (results_ct rfl _ _ gb102 24 #[.int .i64 0, .int .i64 0, .slice none 0 0] (0, 0) _ rfl (by (with_reducible repeat (first | refine blk_drewN ?_ _ | refine blk_drew ?_ | refine blk_alloc ?_ _)); refine blk_put (cs := #[.int .i64 0, .int .i64 0, .slice none 0 0]) ?_ 2 _ rfl; (with_reducible repeat (first | refine blk_drewN ?_ _ | refine blk_drew ?_ | refine blk_alloc ?_ _)); refine blk_put (cs := #[.int .i64 0, .int .i64 0, .slice none 0 0]) ?_ 1 _ rfl; (with_reducible repeat (first | refine blk_drewN ?_ _ | refine blk_drew ?_ | refine blk_alloc ?_ _)); refine blk_put (cs := #[.int .i64 0, .int .i64 0, .slice none 0 0]) ?_ 0 _ rfl; (with_reducible repeat (first | refine blk_drewN ?_ _ | refine blk_drew ?_ | refine blk_alloc ?_ _)); exact BK102.out) Try.underlying24 rfl (by kernel_rfl)) rfl ?_
        exact ⟨_, by first | rfl | (simp [errW_none, errW_some] <;> rfl) | (simp [*, errW_none, errW_some] <;> rfl), by first | exact Kd.R_nil _ _ _ _ _ | exact Kd.N_nil _ _ _ _ _ | exact Kd.V_nil _ _ _ _ _ | exact Kd.Q_nil _ _ _ _ _ | exact Kd.S_nil _ _ _ _ _, by repeat (first | (with_reducible first | exact HB.out | apply below_alloc | apply pw_below_drewN | apply below_drew1 | refine below_set ?_ GE101.out | refine below_set ?_ GE102.out | refine below_set ?_ GE110.out) | exact HB.out)⟩

end Go.Proofs.Ytmhbakmgcogmoaa.P
namespace Go.Proofs.Ytmhbakmgcogmoaa.P
open Go.RowKit Go.Proofs.YtmhbakmgcogmoaaW.PrintWords Go.Proofs.YtmhbakmgcogmoaaW.PrintLast Go.Proofs.YtmhbakmgcogmoaaW.PrintMore
attribute [local go_sem] max2_int min2_int max_two min_two max_three min_three max_four min_four   -- for this text's walks alone
set_option linter.unusedVariables false
set_option linter.unusedSimpArgs false

/-! ### laws_FnRegridded: function 3 -/
mutual
def laws_FnRegridded.j0 : Nat → Int → Int → Bool → Bool → Int → Int → List Int → Int → Int → List Int → Int → Int → List Int → Option (Bool)
 | 0, _, _, _, _, _, _, _, _, _, _, _, _, _ => none
 | k + 1, x1, x2, x8, x46, x102000, x102001, x102002, x109000, x109001, x109002, x116000, x116001, x116002 => if x46 = true then (some false) else (if x8 = true then (laws_FnRegridded.l0 k x1 x2 0 0 x102002 (x102002.length : Int) 0 x109000 x109001 x109002 x116000 x116001 x116002) else (some true))
def laws_FnRegridded.l0 : Nat → Int → Int → Int → Int → List Int → Int → Int → Int → Int → List Int → Int → Int → List Int → Option (Bool)
 | 0, _, _, _, _, _, _, _, _, _, _, _, _, _ => none
 | k + 1, x1, x2, x11, x12, x50, x51, x52, x109000, x109001, x109002, x116000, x116001, x116002 => if x52 < x51 then (if 0 ≤ x52 then (if x52 < (x50.length : Int) then (laws_FnRegridded.l0 k x1 x2 (wrap64 (x11 + (rd x50 x52))) x12 x50 x51 (wrap64 (x52 + 1)) x109000 x109001 x109002 x116000 x116001 x116002) else (none)) else (none)) else (laws_FnRegridded.l1 k x1 x2 x11 x12 x109002 (x109002.length : Int) 0 x109000 x109001 x109002 x116000 x116001 x116002)
def laws_FnRegridded.l1 : Nat → Int → Int → Int → Int → List Int → Int → Int → Int → Int → List Int → Int → Int → List Int → Option (Bool)
 | 0, _, _, _, _, _, _, _, _, _, _, _, _, _ => none
 | k + 1, x1, x2, x11, x12, x61, x62, x63, x109000, x109001, x109002, x116000, x116001, x116002 => if x63 < x62 then (if 0 ≤ x63 then (if x63 < (x61.length : Int) then (if x63 < (x116002.length : Int) then (if (rd x61 x63) = (rd x116002 x63) then (laws_FnRegridded.l1 k x1 x2 x11 (wrap64 (x12 + (rd x61 x63))) x61 x62 (wrap64 (x63 + 1)) x109000 x109001 x109002 x116000 x116001 x116002) else (some false)) else (none)) else (none)) else (none)) else (if x11 = x12 then (if x109000 = x1 then (some (x109001 == x2)) else (some false)) else (some false))
end
def laws_FnRegridded.f (k : Nat) (a0_0 : Int) (a0_1 : Int) (l0_2 : List Int) (a1 : Int) (a2 : Int) : Option (Bool) := if (l0_2.length : Int) > 4096 then (some true) else ((impl_RegridTotal.f k a0_0 a0_1 l0_2 a1 a2).bind fun bt102 => ((spec_RegridTotal.f k a0_0 a0_1 l0_2 a1 a2).bind fun bt109 => (if (bt102.2.2.2 != bt109.2.2.2) = true then (laws_FnRegridded.j0 k a1 a2 bt102.2.2.2 true a0_0 a0_1 l0_2 bt102.1 bt102.2.1 bt102.2.2.1 bt109.1 bt109.2.1 bt109.2.2.1) else (laws_FnRegridded.j0 k a1 a2 bt102.2.2.2 ((bt102.2.2.1.length : Int) != (bt109.2.2.1.length : Int)) a0_0 a0_1 l0_2 bt102.1 bt102.2.1 bt102.2.2.1 bt109.1 bt109.2.1 bt109.2.2.1))))

set_option maxHeartbeats 8000000 in
set_option maxRecDepth 100000 in
theorem laws_FnRegridded.calls (k : Nat) (a0_0 : Int) (a0_1 : Int) (A0_2 : Option Addr) (c0_2 : Nat) (l0_2 : List Int) (a1 : Int) (a2 : Int) (r : Bool) (w : World) (hr0_2 : Kd.C (Kd.int .i64) w A0_2 l0_2.length l0_2) (hc0_2 : l0_2.length ≤ c0_2) (h : laws_FnRegridded.f k a0_0 a0_1 l0_2 a1 a2 = some r) :
  Calls Try.prog 3 #[.agg #[.int .i64 a0_0, .int .i64 a0_1, .slice A0_2 l0_2.length c0_2], .int .i64 a1, .int .i64 a2] w fun e w' => e = .returned (.bool r) ∧ Below w.heap.size w w' := by
 have hu24 := Try.underlying24
 have HR0_2 := Aside0.mk hr0_2
 have HC0_2 := Aside0.mk hc0_2
 clear hr0_2 hc0_2
 have HB := aK (Below.refl w.heap.size w)
 have H : (if (l0_2.length : Int) > 4096 then (some true) else ((impl_RegridTotal.f k a0_0 a0_1 l0_2 a1 a2).bind fun bt102 => ((spec_RegridTotal.f k a0_0 a0_1 l0_2 a1 a2).bind fun bt109 => (if (bt102.2.2.2 != bt109.2.2.2) = true then (laws_FnRegridded.j0 k a1 a2 bt102.2.2.2 true a0_0 a0_1 l0_2 bt102.1 bt102.2.1 bt102.2.2.1 bt109.1 bt109.2.1 bt109.2.2.1) else (laws_FnRegridded.j0 k a1 a2 bt102.2.2.2 ((bt102.2.2.1.length : Int) != (bt109.2.2.1.length : Int)) a0_0 a0_1 l0_2 bt102.1 bt102.2.1 bt102.2.2.1 bt109.1 bt109.2.1 bt109.2.2.1))))) = some r := h
 clear h
 by_cases c4 : (l0_2.length : Int) > 4096
 ·
  rw [if_pos c4] at H
  have c4b0 : decide (4096 < (l0_2.length : Int)) = true := decide_eq_true c4
  have c4b1 : decide (4096 < l0_2.length) = true := decide_eq_true (by omega)
  clear c4
  obtain rfl := Option.some.inj H
  go_enter Try.func3, Try.ntmps3
  go_wp2_with (first | ((with_reducible refine gate_dst (N := 3) rfl ?_); (try (refine gate_guard (by rfl) ?_; dsimp only)); refine box_event ?hg (N := 3) ?hd (cs := #[.int .i64 a0_0, .int .i64 a0_1, .slice A0_2 l0_2.length c0_2]) (t := 24) ?hr ?_; (case hd => rfl); (case hg => rfl); (case hr => first | (go_simp; done) | (go_simp; rfl)); intro gb101 hg w5 hbox hb; have BK101 := aK (hbox); have GW101 := aK (gE hg (pS HB.out)); have GE101 := aK (gE hg (pS HB.out)); replace HB := bS HB hb; clear hb hbox hg; have hcz6_0 : w5.cell? ⟨gb101, 0, none⟩ = some (.int .i64 a0_0) := (blk_cell BK101.out 0).trans rfl; have hcz6_1 : w5.cell? ⟨gb101, 1, none⟩ = some (.int .i64 a0_1) := (blk_cell BK101.out 1).trans rfl; have hcz6_2 : w5.cell? ⟨gb101, 2, none⟩ = some (.slice A0_2 l0_2.length c0_2) := (blk_cell BK101.out 2).trans rfl; have hfz6_0 := blk_frozen BK101.out 0; have hfz6_1 := blk_frozen BK101.out 1; have hfz6_2 := blk_frozen BK101.out 2))
  go_ret
  exact ⟨by first | rfl | (simp [errW_none, errW_some] <;> rfl) | (simp [*, errW_none, errW_some] <;> rfl), by repeat (first | (with_reducible first | exact HB.out | apply below_alloc | apply pw_below_drewN | apply below_drew1) | exact HB.out)⟩
 ·
  rw [if_neg c4] at H
  have c4b0 : decide (4096 < (l0_2.length : Int)) = false := decide_eq_false c4
  have c4b1 : decide (4096 < l0_2.length) = false := decide_eq_false (by omega)
  clear c4
  replace H := Option.bind_eq_some_iff.mp H
  obtain ⟨⟨t102, t103, t104, t107⟩, A70, H⟩ := H
  replace H : ((spec_RegridTotal.f k a0_0 a0_1 l0_2 a1 a2).bind fun bt109 => (if (t107 != bt109.2.2.2) = true then (laws_FnRegridded.j0 k a1 a2 t107 true a0_0 a0_1 l0_2 t102 t103 t104 bt109.1 bt109.2.1 bt109.2.2.1) else (laws_FnRegridded.j0 k a1 a2 t107 ((t104.length : Int) != (bt109.2.2.1.length : Int)) a0_0 a0_1 l0_2 t102 t103 t104 bt109.1 bt109.2.1 bt109.2.2.1))) = some r := H
  have A7 := Aside0.mk A70
  clear A70
  replace H := Option.bind_eq_some_iff.mp H
  obtain ⟨⟨t109, t110, t111, t114⟩, A80, H⟩ := H
  replace H : (if (t107 != t114) = true then (laws_FnRegridded.j0 k a1 a2 t107 true a0_0 a0_1 l0_2 t102 t103 t104 t109 t110 t111) else (laws_FnRegridded.j0 k a1 a2 t107 ((t104.length : Int) != (t111.length : Int)) a0_0 a0_1 l0_2 t102 t103 t104 t109 t110 t111)) = some r := H
  have A8 := Aside0.mk A80
  clear A80
  have HC9 := Aside0.mk H
  clear H
  go_enter Try.func3, Try.ntmps3
  go_upto_region 5 with (first | ((with_reducible refine gate_dst (N := 3) rfl ?_); (try (refine gate_guard (by rfl) ?_; dsimp only)); refine box_event ?hg (N := 3) ?hd (cs := #[.int .i64 a0_0, .int .i64 a0_1, .slice A0_2 l0_2.length c0_2]) (t := 24) ?hr ?_; (case hd => rfl); (case hg => rfl); (case hr => first | (go_simp; done) | (go_simp; rfl)); intro gb101 hg w10 hbox hb; have BK101 := aK (hbox); have GW101 := aK (gE hg (pS HB.out)); have GE101 := aK (gE hg (pS HB.out)); replace HB := bS HB hb; clear hb hbox hg; have hcz11_0 : w10.cell? ⟨gb101, 0, none⟩ = some (.int .i64 a0_0) := (blk_cell BK101.out 0).trans rfl; have hcz11_1 : w10.cell? ⟨gb101, 1, none⟩ = some (.int .i64 a0_1) := (blk_cell BK101.out 1).trans rfl; have hcz11_2 : w10.cell? ⟨gb101, 2, none⟩ = some (.slice A0_2 l0_2.length c0_2) := (blk_cell BK101.out 2).trans rfl; have hfz11_0 := blk_frozen BK101.out 0; have hfz11_1 := blk_frozen BK101.out 1; have hfz11_2 := blk_frozen BK101.out 2) | ((with_reducible refine gate_callee (f := 15) rfl ?_); refine goesL_ (some 25) rfl rfl Try.func15 (by kernel_rfl) rfl #[.agg #[.int .i64 a0_0, .int .i64 a0_1, .slice A0_2 l0_2.length c0_2], .int .i64 a1, .int .i64 a2] rfl (by (try simp only [List.map_toArray, List.map_cons, List.map_nil]); first | done | rfl | (simp only [List.length_drop, List.length_take]; rfl)) ?_; (with_reducible refine (impl_RegridTotal.calls k a0_0 a0_1 _ _ l0_2 a1 a2 t102 t103 t104 t107 _ ?side1 ?side2 A7.out).mono ?_); (case side1 => repeat (first | exact (Kd.C_below HR0_2.out HB.out) | (with_reducible refine Kd.C_alloc ?_ _) | (with_reducible refine Kd.C_drewN ?_ _) | (with_reducible refine Kd.C_drew ?_))); (case side2 => exact HC0_2.out); rintro e w12 ⟨v105, rfl, ho0, hb⟩; refine ⟨_, rfl, ?_⟩; have HO106 := aK (Kd.R_lower ho0 (below_size (pS HB.out))); replace BK101 := bB BK101 hb; replace HB := bS HB hb; (try clear hb); (try clear hb2); (try clear hk); (try clear hi); (try clear ho0)) | ((with_reducible refine gate_dst (N := 7) rfl ?_); (try (refine gate_guard (by rfl) ?_; dsimp only)); refine box_event ?hg (N := 7) ?hd (cs := #[.int .i64 0, .int .i64 0, .slice none 0 0]) (t := 24) ?hr ?_; (case hd => rfl); (case hg => rfl); (case hr => first | (go_simp; done) | (go_simp; rfl)); intro gb108 hg w13 hbox hb; have n0_ := aK (Kd.R_below (pR HO106.out) hb); have BK108 := aK (hbox); have GW108 := aK (gE hg (pS HB.out)); have GE108 := aK (gE hg (pS HB.out)); have NB101_108 := aK (nL hg (pB BK101.out)); have NB108_101 := aK (nG hg (pB BK101.out)); replace BK101 := bB BK101 hb; replace HB := bS HB hb; clear HO106; have HO106 := n0_; clear n0_ hb hbox hg; have hnb14 := NB108_101.out; have hnc14 := NB101_108.out; have hcz15_0 : w13.cell? ⟨gb108, 0, none⟩ = some (.int .i64 0) := (blk_cell BK108.out 0).trans rfl; have hcz15_1 : w13.cell? ⟨gb108, 1, none⟩ = some (.int .i64 0) := (blk_cell BK108.out 1).trans rfl; have hcz15_2 : w13.cell? ⟨gb108, 2, none⟩ = some (.slice none 0 0) := (blk_cell BK108.out 2).trans rfl; have hfz15_0 := blk_frozen BK108.out 0; have hfz15_1 := blk_frozen BK108.out 1; have hfz15_2 := blk_frozen BK108.out 2; obtain ⟨Ao16, co16, eo16⟩ := Kd.R_slice HO106.out; subst eo16; have hcz17_0 : w13.cell? ⟨gb101, 0, none⟩ = some (.int .i64 a0_0) := (blk_cell BK101.out 0).trans rfl; have hcz17_1 : w13.cell? ⟨gb101, 1, none⟩ = some (.int .i64 a0_1) := (blk_cell BK101.out 1).trans rfl; have hcz17_2 : w13.cell? ⟨gb101, 2, none⟩ = some (.slice A0_2 l0_2.length c0_2) := (blk_cell BK101.out 2).trans rfl; have hfz17_0 := blk_frozen BK101.out 0; have hfz17_1 := blk_frozen BK101.out 1; have hfz17_2 := blk_frozen BK101.out 2) | ((with_reducible refine gate_callee (f := 16) rfl ?_); refine goesL_ (some 32) rfl rfl Try.func16 (by kernel_rfl) rfl #[.agg #[.int .i64 a0_0, .int .i64 a0_1, .slice A0_2 l0_2.length c0_2], .int .i64 a1, .int .i64 a2] rfl (by (try simp only [List.map_toArray, List.map_cons, List.map_nil]); first | done | rfl | (simp only [List.length_drop, List.length_take]; rfl)) ?_; (with_reducible refine (spec_RegridTotal.calls k a0_0 a0_1 _ _ l0_2 a1 a2 t109 t110 t111 t114 _ ?side1 ?side2 A8.out).mono ?_); (case side1 => exact Kd.C_below HR0_2.out (pS HB.out)); (case side2 => exact HC0_2.out); rintro e w18 ⟨v112, rfl, ho0, hb⟩; refine ⟨_, rfl, ?_⟩; have n0_ := aK (Kd.R_elder' (pR ((Kd.R_mono (Kd.R_far (p := ⟨gb108, 2, none⟩) (Kd.R_far (p := ⟨gb108, 1, none⟩) (Kd.R_far (p := ⟨gb108, 0, none⟩) (Kd.R_types HO106.out BK108.out (by decide)) (fun _ hk => hk.2) (.int .i64 t102)) (fun _ hk => hk.2) (.int .i64 t103)) (fun _ hk => hk.2) (.slice Ao16 t104.length co16)) (fun _ h_ => h_.1)))) (Kd.R_base ho0) hb); have HO113 := aK (Kd.R_lower (Kd.R_new' ho0 (Kd.R_lt (pR ((Kd.R_mono (Kd.R_far (p := ⟨gb108, 2, none⟩) (Kd.R_far (p := ⟨gb108, 1, none⟩) (Kd.R_far (p := ⟨gb108, 0, none⟩) (Kd.R_types HO106.out BK108.out (by decide)) (fun _ hk => hk.2) (.int .i64 t102)) (fun _ hk => hk.2) (.int .i64 t103)) (fun _ hk => hk.2) (.slice Ao16 t104.length co16)) (fun _ h_ => h_.1)))))) (below_size (pS HB.out))); have n2_ := aK (blk_below (g := gb101) (o := .cells #[.int .i64 a0_0, .int .i64 a0_1, .slice A0_2 l0_2.length c0_2] 24 (0, 0)) (by (with_reducible repeat (first | refine blk_drewN ?_ _ | refine blk_drew ?_ | refine blk_alloc ?_ _)); refine blk_far ?_ NB101_108.out _; (with_reducible repeat (first | refine blk_drewN ?_ _ | refine blk_drew ?_ | refine blk_alloc ?_ _)); refine blk_far ?_ NB101_108.out _; (with_reducible repeat (first | refine blk_drewN ?_ _ | refine blk_drew ?_ | refine blk_alloc ?_ _)); refine blk_far ?_ NB101_108.out _; (with_reducible repeat (first | refine blk_drewN ?_ _ | refine blk_drew ?_ | refine blk_alloc ?_ _)); exact BK101.out) hb); have n3_ := aK (blk_below (g := gb108) (o := .cells #[.int .i64 t102, .int .i64 t103, .slice Ao16 t104.length co16] 24 (0, 0)) (by (with_reducible repeat (first | refine blk_drewN ?_ _ | refine blk_drew ?_ | refine blk_alloc ?_ _)); refine blk_put (cs := #[.int .i64 t102, .int .i64 t103, .slice none 0 0]) ?_ 2 _ rfl; (with_reducible repeat (first | refine blk_drewN ?_ _ | refine blk_drew ?_ | refine blk_alloc ?_ _)); refine blk_put (cs := #[.int .i64 t102, .int .i64 0, .slice none 0 0]) ?_ 1 _ rfl; (with_reducible repeat (first | refine blk_drewN ?_ _ | refine blk_drew ?_ | refine blk_alloc ?_ _)); refine blk_put (cs := #[.int .i64 0, .int .i64 0, .slice none 0 0]) ?_ 0 _ rfl; (with_reducible repeat (first | refine blk_drewN ?_ _ | refine blk_drew ?_ | refine blk_alloc ?_ _)); exact BK108.out) hb); replace HB := bS HB hb; clear HO106 BK101 BK108; have HO106 := n0_; have BK101 := n2_; have BK108 := n3_; clear n0_ n2_ n3_; (try clear hb); (try clear hb2); (try clear hk); (try clear hi); (try clear ho0)) | ((with_reducible refine gate_dst (N := 9) rfl ?_); (try (refine gate_guard (by rfl) ?_; dsimp only)); refine box_event ?hg (N := 9) ?hd (cs := #[.int .i64 0, .int .i64 0, .slice none 0 0]) (t := 24) ?hr ?_; (case hd => rfl); (case hg => rfl); (case hr => first | (go_simp; done) | (go_simp; rfl)); intro gb115 hg w19 hbox hb; have n0_ := aK (Kd.R_below (pR HO106.out) hb); have n1_ := aK (Kd.R_below (pR HO113.out) hb); have BK115 := aK (hbox); have GW115 := aK (gE hg (pS HB.out)); have GE115 := aK (gE hg (pS HB.out)); have NB101_115 := aK (nL hg (pB BK101.out)); have NB115_101 := aK (nG hg (pB BK101.out)); have NB108_115 := aK (nL hg (pB BK108.out)); have NB115_108 := aK (nG hg (pB BK108.out)); replace BK101 := bB BK101 hb; replace BK108 := bB BK108 hb; replace HB := bS HB hb; clear HO106 HO113; have HO106 := n0_; have HO113 := n1_; clear n0_ n1_ hb hbox hg; have hnb20 := NB115_101.out; have hnc20 := NB101_115.out; have hnb21 := NB115_108.out; have hnc21 := NB108_115.out; have hcz22_0 : w19.cell? ⟨gb115, 0, none⟩ = some (.int .i64 0) := (blk_cell BK115.out 0).trans rfl; have hcz22_1 : w19.cell? ⟨gb115, 1, none⟩ = some (.int .i64 0) := (blk_cell BK115.out 1).trans rfl; have hcz22_2 : w19.cell? ⟨gb115, 2, none⟩ = some (.slice none 0 0) := (blk_cell BK115.out 2).trans rfl; have hfz22_0 := blk_frozen BK115.out 0; have hfz22_1 := blk_frozen BK115.out 1; have hfz22_2 := blk_frozen BK115.out 2; obtain ⟨Ao23, co23, eo23⟩ := Kd.R_slice HO113.out; subst eo23))
  (try simp only [Act.put, List.setIfInBounds_toArray, List.set_cons_zero, List.set_cons_succ])
  go_cut [46] (fun v46 wc => ∃ (kq : Nat) (x46_8 : Bool), v46 = .bool x46_8 ∧ Aside0 (laws_FnRegridded.j0 kq a1 a2 t107 x46_8 a0_0 a0_1 l0_2 t102 t103 t104 t109 t110 t111 = some r) ∧ Aside0 (kq ≤ k) ∧ Aside0 (Kd.R (Kd.int .i64) 3 wc w.heap.size (fun k_ => some k_ ≠ ((.slice Ao23 t111.length co23) : Value).ownBlock) (.slice Ao16 t104.length co16) t104) ∧ Aside0 (Kd.R (Kd.int .i64) 3 wc w.heap.size (fun k_ => some k_ ≠ ((.slice Ao16 t104.length co16) : Value).ownBlock) (.slice Ao23 t111.length co23) t111) ∧ Aside0 (wc.heap[gb101]? = some (.cells #[.int .i64 a0_0, .int .i64 a0_1, (.slice A0_2 l0_2.length c0_2)] 24 (0, 0))) ∧ Aside0 (wc.heap[gb108]? = some (.cells #[.int .i64 t102, .int .i64 t103, (.slice Ao16 t104.length co16)] 24 (0, 0))) ∧ Aside0 (wc.heap[gb115]? = some (.cells #[.int .i64 t109, .int .i64 t110, (.slice Ao23 t111.length co23)] 24 (0, 0))) ∧ Aside0 (Below w.heap.size w wc))
  case first =>
   have H := HC9.out
   clear HC9
   by_cases c24 : (t107 != t114) = true
   ·
    rw [if_pos c24] at H
    have c24b0 : (t107 != t114) = true := c24
    (try (have c24b1 : decide (t107 = t114) = false := by simpa using c24))
    (try (have c24b2 : (t107 == t114) = false := by simpa using c24))
    (try (have c24b3 : ¬ (t107 = t114) := by simpa using c24))
    clear c24
    (first | rw [c24b0] | (simp only [i64_w, i32_w]; rw [c24b0]) | skip)
    have H' := Aside0.mk H
    clear H
    go_wp2
    go_meet
    case rel => exact ⟨_, (true), (by first | rfl | (simp; done) | (simp [*]; done)), H', ⟨by first | omega | exact Nat.le_refl _⟩, ⟨by (with_reducible repeat (first | apply Kd.R_alloc | apply Kd.R_drewN | apply Kd.R_drew)); exact Kd.R_mono (Kd.R_far (p := ⟨gb115, 2, none⟩) (Kd.R_far (p := ⟨gb115, 1, none⟩) (Kd.R_far (p := ⟨gb115, 0, none⟩) (Kd.R_types HO106.out BK115.out (by decide)) (fun _ hk => hk.2) (.int .i64 t109)) (fun _ hk => hk.2) (.int .i64 t110)) (fun _ hk => hk.2) (.slice Ao23 t111.length co23)) (fun _ hk => hk.1.2)⟩, ⟨by (with_reducible repeat (first | apply Kd.R_alloc | apply Kd.R_drewN | apply Kd.R_drew)); exact Kd.R_mono (Kd.R_far (p := ⟨gb115, 2, none⟩) (Kd.R_far (p := ⟨gb115, 1, none⟩) (Kd.R_far (p := ⟨gb115, 0, none⟩) (Kd.R_types HO113.out BK115.out (by decide)) (fun _ hk => hk.2) (.int .i64 t109)) (fun _ hk => hk.2) (.int .i64 t110)) (fun _ hk => hk.2) (.slice Ao23 t111.length co23)) (fun _ hk => hk.1.2)⟩, ⟨by (with_reducible repeat (first | refine blk_drewN ?_ _ | refine blk_drew ?_ | refine blk_alloc ?_ _)); refine blk_far ?_ NB101_115.out _; (with_reducible repeat (first | refine blk_drewN ?_ _ | refine blk_drew ?_ | refine blk_alloc ?_ _)); refine blk_far ?_ NB101_115.out _; (with_reducible repeat (first | refine blk_drewN ?_ _ | refine blk_drew ?_ | refine blk_alloc ?_ _)); refine blk_far ?_ NB101_115.out _; (with_reducible repeat (first | refine blk_drewN ?_ _ | refine blk_drew ?_ | refine blk_alloc ?_ _)); exact BK101.out⟩, ⟨by (with_reducible repeat (first | refine blk_drewN ?_ _ | refine blk_drew ?_ | refine blk_alloc ?_ _)); refine blk_far ?_ NB108_115.out _; (with_reducible repeat (first | refine blk_drewN ?_ _ | refine blk_drew ?_ | refine blk_alloc ?_ _)); refine blk_far ?_ NB108_115.out _; (with_reducible repeat (first | refine blk_drewN ?_ _ | refine blk_drew ?_ | refine blk_alloc ?_ _)); refine blk_far ?_ NB108_115.out _; (with_reducible repeat (first | refine blk_drewN ?_ _ | refine blk_drew ?_ | refine blk_alloc ?_ _)); exact BK108.out⟩, ⟨by (with_reducible repeat (first | refine blk_drewN ?_ _ | refine blk_drew ?_ | refine blk_alloc ?_ _)); refine blk_put (cs := #[.int .i64 t109, .int .i64 t110, .slice none 0 0]) ?_ 2 _ rfl; (with_reducible repeat (first | refine blk_drewN ?_ _ | refine blk_drew ?_ | refine blk_alloc ?_ _)); refine blk_put (cs := #[.int .i64 t109, .int .i64 0, .slice none 0 0]) ?_ 1 _ rfl; (with_reducible repeat (first | refine blk_drewN ?_ _ | refine blk_drew ?_ | refine blk_alloc ?_ _)); refine blk_put (cs := #[.int .i64 0, .int .i64 0, .slice none 0 0]) ?_ 0 _ rfl; (with_reducible repeat (first | refine blk_drewN ?_ _ | refine blk_drew ?_ | refine blk_alloc ?_ _)); exact BK115.out⟩, ⟨by repeat (first | (with_reducible first | exact HB.out | apply below_alloc | apply pw_below_drewN | apply below_drew1 | refine below_set ?_ GE101.out | refine below_set ?_ GE108.out | refine below_set ?_ GE115.out) | exact HB.out)⟩⟩
   ·
    rw [if_neg c24] at H
    have c24b0 : (t107 != t114) = false := by simpa using c24
    (try (have c24b1 : decide (t107 = t114) = true := by simpa using c24))
    (try (have c24b2 : (t107 == t114) = true := by simpa using c24))
    clear c24
    (first | rw [c24b0] | (simp only [i64_w, i32_w]; rw [c24b0]) | skip)
    have H' := Aside0.mk H
    clear H
    have hnb25 := NB108_101.out
    have hnc25 := NB101_108.out
    have hnb26 := NB108_115.out
    have hnc26 := NB115_108.out
    have hcz27_0 : w19.cell? ⟨gb108, 0, none⟩ = some (.int .i64 t102) := (blk_cell BK108.out 0).trans rfl
    have hcz27_1 : w19.cell? ⟨gb108, 1, none⟩ = some (.int .i64 t103) := (blk_cell BK108.out 1).trans rfl
    have hcz27_2 : w19.cell? ⟨gb108, 2, none⟩ = some (.slice Ao16 t104.length co16) := (blk_cell BK108.out 2).trans rfl
    have hfz27_0 := blk_frozen BK108.out 0
    have hfz27_1 := blk_frozen BK108.out 1
    have hfz27_2 := blk_frozen BK108.out 2
    have hnb28 := NB115_101.out
    have hnc28 := NB101_115.out
    have hcz29_0 : w19.cell? ⟨gb115, 0, none⟩ = some (.int .i64 0) := (blk_cell BK115.out 0).trans rfl
    have hcz29_1 : w19.cell? ⟨gb115, 1, none⟩ = some (.int .i64 0) := (blk_cell BK115.out 1).trans rfl
    have hcz29_2 : w19.cell? ⟨gb115, 2, none⟩ = some (.slice none 0 0) := (blk_cell BK115.out 2).trans rfl
    have hfz29_0 := blk_frozen BK115.out 0
    have hfz29_1 := blk_frozen BK115.out 1
    have hfz29_2 := blk_frozen BK115.out 2
    go_wp2
    go_meet
    case rel => exact ⟨_, (((t104.length : Int) != (t111.length : Int))), (by first | rfl | (simp; done) | (simp [*]; done)), H', ⟨by first | omega | exact Nat.le_refl _⟩, ⟨by (with_reducible repeat (first | apply Kd.R_alloc | apply Kd.R_drewN | apply Kd.R_drew)); exact Kd.R_mono (Kd.R_far (p := ⟨gb115, 2, none⟩) (Kd.R_far (p := ⟨gb115, 1, none⟩) (Kd.R_far (p := ⟨gb115, 0, none⟩) (Kd.R_types HO106.out BK115.out (by decide)) (fun _ hk => hk.2) (.int .i64 t109)) (fun _ hk => hk.2) (.int .i64 t110)) (fun _ hk => hk.2) (.slice Ao23 t111.length co23)) (fun _ hk => hk.1.2)⟩, ⟨by (with_reducible repeat (first | apply Kd.R_alloc | apply Kd.R_drewN | apply Kd.R_drew)); exact Kd.R_mono (Kd.R_far (p := ⟨gb115, 2, none⟩) (Kd.R_far (p := ⟨gb115, 1, none⟩) (Kd.R_far (p := ⟨gb115, 0, none⟩) (Kd.R_types HO113.out BK115.out (by decide)) (fun _ hk => hk.2) (.int .i64 t109)) (fun _ hk => hk.2) (.int .i64 t110)) (fun _ hk => hk.2) (.slice Ao23 t111.length co23)) (fun _ hk => hk.1.2)⟩, ⟨by (with_reducible repeat (first | refine blk_drewN ?_ _ | refine blk_drew ?_ | refine blk_alloc ?_ _)); refine blk_far ?_ NB101_115.out _; (with_reducible repeat (first | refine blk_drewN ?_ _ | refine blk_drew ?_ | refine blk_alloc ?_ _)); refine blk_far ?_ NB101_115.out _; (with_reducible repeat (first | refine blk_drewN ?_ _ | refine blk_drew ?_ | refine blk_alloc ?_ _)); refine blk_far ?_ NB101_115.out _; (with_reducible repeat (first | refine blk_drewN ?_ _ | refine blk_drew ?_ | refine blk_alloc ?_ _)); exact BK101.out⟩, ⟨by (with_reducible repeat (first | refine blk_drewN ?_ _ | refine blk_drew ?_ | refine blk_alloc ?_ _)); refine blk_far ?_ NB108_115.out _; (with_reducible repeat (first | refine blk_drewN ?_ _ | refine blk_drew ?_ | refine blk_alloc ?_ _)); refine blk_far ?_ NB108_115.out _; (with_reducible repeat (first | refine blk_drewN ?_ _ | refine blk_drew ?_ | refine blk_alloc ?_ _)); refine blk_far ?_ NB108_115.out _; (with_reducible repeat (first | refine blk_drewN ?_ _ | refine blk_drew ?_ | refine blk_alloc ?_ _)); exact BK108.out⟩, ⟨by (with_reducible repeat (first | refine blk_drewN ?_ _ | refine blk_drew ?_ | refine blk_alloc ?_ _)); refine blk_put (cs := #[.int .i64 t109, .int .i64 t110, .slice none 0 0]) ?_ 2 _ rfl; (with_reducible repeat (first | refine blk_drewN ?_ _ | refine blk_drew ?_ | refine blk_alloc ?_ _)); refine blk_put (cs := #[.int .i64 t109, .int .i64 0, .slice none 0 0]) ?_ 1 _ rfl; (with_reducible repeat (first | refine blk_drewN ?_ _ | refine blk_drew ?_ | refine blk_alloc ?_ _)); refine blk_put (cs := #[.int .i64 0, .int .i64 0, .slice none 0 0]) ?_ 0 _ rfl; (with_reducible repeat (first | refine blk_drewN ?_ _ | refine blk_drew ?_ | refine blk_alloc ?_ _)); exact BK115.out⟩, ⟨by repeat (first | (with_reducible first | exact HB.out | apply below_alloc | apply pw_below_drewN | apply below_drew1 | refine below_set ?_ GE101.out | refine below_set ?_ GE108.out | refine below_set ?_ GE115.out) | exact HB.out)⟩⟩
  case rest =>
   clear HC9
   try clear c1
   try clear c2
   try clear p2
   try clear c3
   try clear c4
   try clear c4b0
   try clear c4b1
   try clear c14
   try clear c15
   try clear c16
   try clear c20
   try clear c21
   try clear c24
   try clear c24b0
   try clear c24b1
   try clear c24b2
   try clear c25
   try clear c26
   try clear c28
   try clear hcz11_0
   try clear hcz11_1
   try clear hcz11_2
   try clear hcz15_0
   try clear hcz15_1
   try clear hcz15_2
   try clear hcz17_0
   try clear hcz17_1
   try clear hcz17_2
   try clear hcz22_0
   try clear hcz22_1
   try clear hcz22_2
   try clear hcz27_0
   try clear hcz27_1
   try clear hcz27_2
   try clear hcz29_0
   try clear hcz29_1
   try clear hcz29_2
   try clear hcz6_0
   try clear hcz6_1
   try clear hcz6_2
   try clear hfz11_0
   try clear hfz11_1
   try clear hfz11_2
   try clear hfz15_0
   try clear hfz15_1
   try clear hfz15_2
   try clear hfz17_0
   try clear hfz17_1
   try clear hfz17_2
   try clear hfz22_0
   try clear hfz22_1
   try clear hfz22_2
   try clear hfz27_0
   try clear hfz27_1
   try clear hfz27_2
   try clear hfz29_0
   try clear hfz29_1
   try clear hfz29_2
   try clear hfz6_0
   try clear hfz6_1
   try clear hfz6_2
   obtain ⟨kq, x46_8, rfl, HA, HJ8, HO_109002, HO_116002, BK101, BK108, BK115, HB⟩ := hcut
   cases kq with
   | zero => exact absurd HA.out (by simp [laws_FnRegridded.j0])
   | succ kj8 =>
    have H := HA.out
    clear HA
    simp only [laws_FnRegridded.j0] at H
    by_cases c30 : x46_8 = true
    ·
     subst c30
     have H1 : (some false) = some r := by rw [if_pos rfl] at H; exact H
     clear H
     have H := H1
     clear H1
     obtain rfl := Option.some.inj H
     go_wp2
     go_ret
     exact ⟨by first | rfl | (simp [errW_none, errW_some] <;> rfl) | (simp [*, errW_none, errW_some] <;> rfl), by repeat (first | (with_reducible first | exact HB.out | apply below_alloc | apply pw_below_drewN | apply below_drew1) | exact HB.out)⟩
    ·
     replace c30 := Bool.eq_false_iff.mpr c30
     subst c30
     have H1 : (if t107 = true then (laws_FnRegridded.l0 kj8 a1 a2 0 0 l0_2 (l0_2.length : Int) 0 t102 t103 t104 t109 t110 t111) else (some true)) = some r := by rw [if_neg (show ¬ (false = true) by decide)] at H; exact H
     clear H
     have H := H1
     clear H1
     by_cases c31 : t107 = true
     ·
      subst c31
      have H1 : (laws_FnRegridded.l0 kj8 a1 a2 0 0 l0_2 (l0_2.length : Int) 0 t102 t103 t104 t109 t110 t111) = some r := by rw [if_pos rfl] at H; exact H
      clear H
      have H := H1
      clear H1
      have H' := Aside0.mk H
      clear H
      have hnb32 := NB101_108.out
      have hnc32 := NB108_101.out
      have hnb33 := NB101_115.out
      have hnc33 := NB115_101.out
      have hcz34_0 : wc.cell? ⟨gb101, 0, none⟩ = some (.int .i64 a0_0) := (blk_cell BK101.out 0).trans rfl
      have hcz34_1 : wc.cell? ⟨gb101, 1, none⟩ = some (.int .i64 a0_1) := (blk_cell BK101.out 1).trans rfl
      have hcz34_2 : wc.cell? ⟨gb101, 2, none⟩ = some (.slice A0_2 l0_2.length c0_2) := (blk_cell BK101.out 2).trans rfl
      have hfz34_0 := blk_frozen BK101.out 0
      have hfz34_1 := blk_frozen BK101.out 1
      have hfz34_2 := blk_frozen BK101.out 2
      go_wp2
      go_loopg [11, 52] kj8 (fun kq v11 v52 w' => ∃ (x11_2 : Int) (x52_2 : Int), v11 = .int .i64 x11_2 ∧ v52 = .int .i64 x52_2 ∧ Aside0 (laws_FnRegridded.l0 kq a1 a2 x11_2 0 l0_2 (l0_2.length : Int) x52_2 t102 t103 t104 t109 t110 t111 = some r) ∧ Aside0 (kq ≤ kj8) ∧ Aside0 (Kd.R (Kd.int .i64) 3 w' w.heap.size (fun k_ => some k_ ≠ ((.slice Ao23 t111.length co23) : Value).ownBlock) (.slice Ao16 t104.length co16) t104) ∧ Aside0 (Kd.R (Kd.int .i64) 3 w' w.heap.size (fun k_ => some k_ ≠ ((.slice Ao16 t104.length co16) : Value).ownBlock) (.slice Ao23 t111.length co23) t111) ∧ Aside0 (w'.heap[gb108]? = some (.cells #[.int .i64 t102, .int .i64 t103, (.slice Ao16 t104.length co16)] 24 (0, 0))) ∧ Aside0 (w'.heap[gb115]? = some (.cells #[.int .i64 t109, .int .i64 t110, (.slice Ao23 t111.length co23)] 24 (0, 0))) ∧ Aside0 (Below w.heap.size w w'))
      case atStart => exact ⟨(0), (0), (by first | rfl | (simp; done) | (simp [*]; done)), (by first | rfl | (simp; done) | (simp [*]; done)), H', ⟨Nat.le_refl _⟩, ⟨by (with_reducible repeat (first | apply Kd.R_alloc | apply Kd.R_drewN | apply Kd.R_drew)); exact HO_109002.out⟩, ⟨by (with_reducible repeat (first | apply Kd.R_alloc | apply Kd.R_drewN | apply Kd.R_drew)); exact HO_116002.out⟩, ⟨by (with_reducible repeat (first | refine blk_drewN ?_ _ | refine blk_drew ?_ | refine blk_alloc ?_ _)); exact BK108.out⟩, ⟨by (with_reducible repeat (first | refine blk_drewN ?_ _ | refine blk_drew ?_ | refine blk_alloc ?_ _)); exact BK115.out⟩, ⟨by repeat (first | (with_reducible first | exact HB.out | apply below_alloc | apply pw_below_drewN | apply below_drew1 | refine below_set ?_ GE108.out | refine below_set ?_ GE115.out) | exact HB.out)⟩⟩
      case round =>
       clear H'
       try clear c1
       try clear c2
       try clear p2
       try clear c3
       try clear c4
       try clear c4b0
       try clear c4b1
       try clear c14
       try clear c15
       try clear c16
       try clear c20
       try clear c21
       try clear c24
       try clear c24b0
       try clear c24b1
       try clear c24b2
       try clear c25
       try clear c26
       try clear c28
       try clear c30
       try clear c31
       try clear c32
       try clear c33
       try clear hcz11_0
       try clear hcz11_1
       try clear hcz11_2
       try clear hcz15_0
       try clear hcz15_1
       try clear hcz15_2
       try clear hcz17_0
       try clear hcz17_1
       try clear hcz17_2
       try clear hcz22_0
       try clear hcz22_1
       try clear hcz22_2
       try clear hcz27_0
       try clear hcz27_1
       try clear hcz27_2
       try clear hcz29_0
       try clear hcz29_1
       try clear hcz29_2
       try clear hcz34_0
       try clear hcz34_1
       try clear hcz34_2
       try clear hcz6_0
       try clear hcz6_1
       try clear hcz6_2
       try clear hfz11_0
       try clear hfz11_1
       try clear hfz11_2
       try clear hfz15_0
       try clear hfz15_1
       try clear hfz15_2
       try clear hfz17_0
       try clear hfz17_1
       try clear hfz17_2
       try clear hfz22_0
       try clear hfz22_1
       try clear hfz22_2
       try clear hfz27_0
       try clear hfz27_1
       try clear hfz27_2
       try clear hfz29_0
       try clear hfz29_1
       try clear hfz29_2
       try clear hfz34_0
       try clear hfz34_1
       try clear hfz34_2
       try clear hfz6_0
       try clear hfz6_1
       try clear hfz6_2
       try clear p2
       obtain ⟨x11_2, x52_2, rfl, rfl, HA, HK2, HO_109002, HO_116002, BK108, BK115, HB⟩ := hrel
       cases gk with
       | zero => exact absurd HA.out (by simp [laws_FnRegridded.l0])
       | succ k2 =>
        have H := HA.out
        clear HA
        simp only [laws_FnRegridded.l0] at H
        by_cases c35 : x52_2 < (l0_2.length : Int)
        ·
         rw [if_pos c35] at H
         have c35b0 : decide (x52_2 < (l0_2.length : Int)) = true := decide_eq_true c35
         clear c35
         by_cases c36 : 0 ≤ x52_2
         ·
          rw [if_pos c36] at H
          have c36b0 : decide (0 ≤ x52_2) = true := decide_eq_true c36
          clear c36
          by_cases c37 : x52_2 < (l0_2.length : Int)
          ·
           rw [if_pos c37] at H
           have c37b0 : decide (x52_2 < (l0_2.length : Int)) = true := decide_eq_true c37
           clear c37
           have H' := Aside0.mk H
           clear H
           have p116 : 0 ≤ (x52_2 : Int) := of_decide_eq_true (by first | (with_reducible assumption) | assumption)
           have q116 : x52_2 < (l0_2.length : Int) := of_decide_eq_true (by first | (with_reducible assumption) | assumption)
           obtain ⟨ad116, e116, hx116_0⟩ := Kd.at_int HR0_2.out x52_2 p116 q116
           cases e116
           replace hx116_0 := (HB.out.cell (World.block_lt_of_cell? w _ hx116_0)).trans hx116_0
           replace p116 := eq_true p116
           replace q116 := eq_true q116
           go_wp2
           go_roundg k2
           case measure => have := HJ8.out; have := HK2.out; omega
           case rel => exact ⟨(wrap64 (x11_2 + (rd l0_2 x52_2))), (wrap64 (x52_2 + 1)), (by first | rfl | (simp; done) | (simp [*]; done)), (by first | rfl | (simp; done) | (simp [*]; done)), H', ⟨by have := HJ8.out; have := HK2.out; omega⟩, ⟨by (with_reducible repeat (first | apply Kd.R_alloc | apply Kd.R_drewN | apply Kd.R_drew)); exact HO_109002.out⟩, ⟨by (with_reducible repeat (first | apply Kd.R_alloc | apply Kd.R_drewN | apply Kd.R_drew)); exact HO_116002.out⟩, ⟨by (with_reducible repeat (first | refine blk_drewN ?_ _ | refine blk_drew ?_ | refine blk_alloc ?_ _)); exact BK108.out⟩, ⟨by (with_reducible repeat (first | refine blk_drewN ?_ _ | refine blk_drew ?_ | refine blk_alloc ?_ _)); exact BK115.out⟩, ⟨by repeat (first | (with_reducible first | exact HB.out | apply below_alloc | apply pw_below_drewN | apply below_drew1 | refine below_set ?_ GE108.out | refine below_set ?_ GE115.out) | exact HB.out)⟩⟩
          ·
           rw [if_neg c37] at H
           exact absurd H (by simp)
         ·
          rw [if_neg c36] at H
          exact absurd H (by simp)
        ·
         rw [if_neg c35] at H
         have c35b0 : decide (x52_2 < (l0_2.length : Int)) = false := decide_eq_false c35
         clear c35
         have H' := Aside0.mk H
         clear H
         have hnb38 := NB108_115.out
         have hnc38 := NB115_108.out
         have hcz39_0 : wr.cell? ⟨gb108, 0, none⟩ = some (.int .i64 t102) := (blk_cell BK108.out 0).trans rfl
         have hcz39_1 : wr.cell? ⟨gb108, 1, none⟩ = some (.int .i64 t103) := (blk_cell BK108.out 1).trans rfl
         have hcz39_2 : wr.cell? ⟨gb108, 2, none⟩ = some (.slice Ao16 t104.length co16) := (blk_cell BK108.out 2).trans rfl
         have hfz39_0 := blk_frozen BK108.out 0
         have hfz39_1 := blk_frozen BK108.out 1
         have hfz39_2 := blk_frozen BK108.out 2
         go_wp2
         go_loopg [12, 63] k2 (fun kq v12 v63 w' => ∃ (x12_3 : Int) (x63_3 : Int), v12 = .int .i64 x12_3 ∧ v63 = .int .i64 x63_3 ∧ Aside0 (laws_FnRegridded.l1 kq a1 a2 x11_2 x12_3 t104 (t104.length : Int) x63_3 t102 t103 t104 t109 t110 t111 = some r) ∧ Aside0 (kq ≤ k2) ∧ Aside0 (Kd.R (Kd.int .i64) 3 w' w.heap.size (fun k_ => some k_ ≠ ((.slice Ao23 t111.length co23) : Value).ownBlock) (.slice Ao16 t104.length co16) t104) ∧ Aside0 (Kd.R (Kd.int .i64) 3 w' w.heap.size (fun k_ => some k_ ≠ ((.slice Ao23 t111.length co23) : Value).ownBlock) (.slice Ao16 t104.length co16) t104) ∧ Aside0 (Kd.R (Kd.int .i64) 3 w' w.heap.size (fun k_ => some k_ ≠ ((.slice Ao16 t104.length co16) : Value).ownBlock ∧ some k_ ≠ ((.slice Ao16 t104.length co16) : Value).ownBlock) (.slice Ao23 t111.length co23) t111) ∧ Aside0 (w'.heap[gb108]? = some (.cells #[.int .i64 t102, .int .i64 t103, (.slice Ao16 t104.length co16)] 24 (0, 0))) ∧ Aside0 (w'.heap[gb115]? = some (.cells #[.int .i64 t109, .int .i64 t110, (.slice Ao23 t111.length co23)] 24 (0, 0))) ∧ Aside0 (Below w.heap.size w w'))
         case atStart => exact ⟨(0), (0), (by first | rfl | (simp; done) | (simp [*]; done)), (by first | rfl | (simp; done) | (simp [*]; done)), H', ⟨Nat.le_refl _⟩, ⟨by (with_reducible repeat (first | apply Kd.R_alloc | apply Kd.R_drewN | apply Kd.R_drew)); exact HO_109002.out⟩, ⟨by (with_reducible repeat (first | apply Kd.R_alloc | apply Kd.R_drewN | apply Kd.R_drew)); exact HO_109002.out⟩, ⟨by (with_reducible repeat (first | apply Kd.R_alloc | apply Kd.R_drewN | apply Kd.R_drew)); exact Kd.R_mono HO_116002.out (fun _ hk => ⟨hk, hk⟩)⟩, ⟨by (with_reducible repeat (first | refine blk_drewN ?_ _ | refine blk_drew ?_ | refine blk_alloc ?_ _)); exact BK108.out⟩, ⟨by (with_reducible repeat (first | refine blk_drewN ?_ _ | refine blk_drew ?_ | refine blk_alloc ?_ _)); exact BK115.out⟩, ⟨by repeat (first | (with_reducible first | exact HB.out | apply below_alloc | apply pw_below_drewN | apply below_drew1 | refine below_set ?_ GE108.out | refine below_set ?_ GE115.out) | exact HB.out)⟩⟩
         case round =>
          clear H'
          try clear c1
          try clear p1
          try clear q1
          try clear hx1
          try clear c2
          try clear p2
          try clear c3
          try clear c4
          try clear c4b0
          try clear c4b1
          try clear p6
          try clear p11
          try clear q11
          try clear hx11
          try clear c14
          try clear c15
          try clear c16
          try clear c20
          try clear c21
          try clear c24
          try clear c24b0
          try clear c24b1
          try clear c24b2
          try clear c25
          try clear c26
          try clear c28
          try clear c30
          try clear c31
          try clear c32
          try clear c33
          try clear c35
          try clear c35b0
          try clear c36
          try clear c36b0
          try clear c37
          try clear c37b0
          try clear c38
          try clear hcz11_0
          try clear hcz11_1
          try clear hcz11_2
          try clear hcz15_0
          try clear hcz15_1
          try clear hcz15_2
          try clear hcz17_0
          try clear hcz17_1
          try clear hcz17_2
          try clear hcz22_0
          try clear hcz22_1
          try clear hcz22_2
          try clear hcz27_0
          try clear hcz27_1
          try clear hcz27_2
          try clear hcz29_0
          try clear hcz29_1
          try clear hcz29_2
          try clear hcz34_0
          try clear hcz34_1
          try clear hcz34_2
          try clear hcz39_0
          try clear hcz39_1
          try clear hcz39_2
          try clear hcz6_0
          try clear hcz6_1
          try clear hcz6_2
          try clear hfz11_0
          try clear hfz11_1
          try clear hfz11_2
          try clear hfz15_0
          try clear hfz15_1
          try clear hfz15_2
          try clear hfz17_0
          try clear hfz17_1
          try clear hfz17_2
          try clear hfz22_0
          try clear hfz22_1
          try clear hfz22_2
          try clear hfz27_0
          try clear hfz27_1
          try clear hfz27_2
          try clear hfz29_0
          try clear hfz29_1
          try clear hfz29_2
          try clear hfz34_0
          try clear hfz34_1
          try clear hfz34_2
          try clear hfz39_0
          try clear hfz39_1
          try clear hfz39_2
          try clear hfz6_0
          try clear hfz6_1
          try clear hfz6_2
          try clear hx116_0
          try clear p116
          try clear p2
          try clear q116
          obtain ⟨x12_3, x63_3, rfl, rfl, HA, HK3, HO_61, HO_109002, HO_116002, BK108, BK115, HB⟩ := hrel
          cases gk with
          | zero => exact absurd HA.out (by simp [laws_FnRegridded.l1])
          | succ k3 =>
           have H := HA.out
           clear HA
           simp only [laws_FnRegridded.l1] at H
           by_cases c40 : x63_3 < (t104.length : Int)
           ·
            rw [if_pos c40] at H
            have c40b0 : decide (x63_3 < (t104.length : Int)) = true := decide_eq_true c40
            clear c40
            by_cases c41 : 0 ≤ x63_3
            ·
             rw [if_pos c41] at H
             have c41b0 : decide (0 ≤ x63_3) = true := decide_eq_true c41
             clear c41
             by_cases c42 : x63_3 < (t104.length : Int)
             ·
              rw [if_pos c42] at H
              have c42b0 : decide (x63_3 < (t104.length : Int)) = true := decide_eq_true c42
              clear c42
              by_cases c43 : x63_3 < (t111.length : Int)
              ·
               rw [if_pos c43] at H
               have c43b0 : decide (x63_3 < (t111.length : Int)) = true := decide_eq_true c43
               clear c43
               by_cases c44 : (rd t104 x63_3) = (rd t111 x63_3)
               ·
                rw [if_pos c44] at H
                have c44b0 : ((rd t104 x63_3) == (rd t111 x63_3)) = true := beq_iff_eq.mpr c44
                have c44b1 : ((rd t104 x63_3) != (rd t111 x63_3)) = false := bne_eq_false_iff_eq.mpr c44
                clear c44
                have H' := Aside0.mk H
                clear H
                have p117 : 0 ≤ (x63_3 : Int) := of_decide_eq_true (by first | (with_reducible assumption) | assumption)
                have q117 : x63_3 < (t104.length : Int) := of_decide_eq_true (by first | (with_reducible assumption) | assumption)
                obtain ⟨ad117, e117, hx117_0⟩ := Kd.at_int (Kd.R_reads' HO_61.out).2.2 x63_3 p117 q117
                cases e117
                replace p117 := eq_true p117
                replace q117 := eq_true q117
                have hnb45 := NB115_108.out
                have hnc45 := NB108_115.out
                have hcz46_0 : wr.cell? ⟨gb115, 0, none⟩ = some (.int .i64 t109) := (blk_cell BK115.out 0).trans rfl
                have hcz46_1 : wr.cell? ⟨gb115, 1, none⟩ = some (.int .i64 t110) := (blk_cell BK115.out 1).trans rfl
                have hcz46_2 : wr.cell? ⟨gb115, 2, none⟩ = some (.slice Ao23 t111.length co23) := (blk_cell BK115.out 2).trans rfl
                have hfz46_0 := blk_frozen BK115.out 0
                have hfz46_1 := blk_frozen BK115.out 1
                have hfz46_2 := blk_frozen BK115.out 2
                have p118 : 0 ≤ (x63_3 : Int) := of_decide_eq_true (by first | (with_reducible assumption) | assumption)
                have q118 : x63_3 < (t111.length : Int) := of_decide_eq_true (by first | (with_reducible assumption) | assumption)
                obtain ⟨ad118, e118, hx118_0⟩ := Kd.at_int (Kd.R_reads' HO_116002.out).2.2 x63_3 p118 q118
                cases e118
                replace p118 := eq_true p118
                replace q118 := eq_true q118
                go_wp2
                go_roundg k3
                case measure => have := HJ8.out; have := HK2.out; have := HK3.out; omega
                case rel => exact ⟨(wrap64 (x12_3 + (rd t104 x63_3))), (wrap64 (x63_3 + 1)), (by first | rfl | (simp; done) | (simp [*]; done)), (by first | rfl | (simp; done) | (simp [*]; done)), H', ⟨by have := HJ8.out; have := HK2.out; have := HK3.out; omega⟩, ⟨by (with_reducible repeat (first | apply Kd.R_alloc | apply Kd.R_drewN | apply Kd.R_drew)); exact HO_61.out⟩, ⟨by (with_reducible repeat (first | apply Kd.R_alloc | apply Kd.R_drewN | apply Kd.R_drew)); exact HO_109002.out⟩, ⟨by (with_reducible repeat (first | apply Kd.R_alloc | apply Kd.R_drewN | apply Kd.R_drew)); exact HO_116002.out⟩, ⟨by (with_reducible repeat (first | refine blk_drewN ?_ _ | refine blk_drew ?_ | refine blk_alloc ?_ _)); exact BK108.out⟩, ⟨by (with_reducible repeat (first | refine blk_drewN ?_ _ | refine blk_drew ?_ | refine blk_alloc ?_ _)); exact BK115.out⟩, ⟨by repeat (first | (with_reducible first | exact HB.out | apply below_alloc | apply pw_below_drewN | apply below_drew1 | refine below_set ?_ GE108.out | refine below_set ?_ GE115.out) | exact HB.out)⟩⟩
               ·
                rw [if_neg c44] at H
                have c44b0 : ((rd t104 x63_3) == (rd t111 x63_3)) = false := beq_eq_false_iff_ne.mpr c44
                have c44b1 : ((rd t104 x63_3) != (rd t111 x63_3)) = true := bne_iff_ne.mpr c44
                obtain rfl := Option.some.inj H
                have p117 : 0 ≤ (x63_3 : Int) := of_decide_eq_true (by first | (with_reducible assumption) | assumption)
                have q117 : x63_3 < (t104.length : Int) := of_decide_eq_true (by first | (with_reducible assumption) | assumption)
                obtain ⟨ad117, e117, hx117_0⟩ := Kd.at_int (Kd.R_reads' HO_61.out).2.2 x63_3 p117 q117
                cases e117
                replace p117 := eq_true p117
                replace q117 := eq_true q117
                have hcz47_0 : wr.cell? ⟨gb115, 0, none⟩ = some (.int .i64 t109) := (blk_cell BK115.out 0).trans rfl
                have hcz47_1 : wr.cell? ⟨gb115, 1, none⟩ = some (.int .i64 t110) := (blk_cell BK115.out 1).trans rfl
                have hcz47_2 : wr.cell? ⟨gb115, 2, none⟩ = some (.slice Ao23 t111.length co23) := (blk_cell BK115.out 2).trans rfl
                have hfz47_0 := blk_frozen BK115.out 0
                have hfz47_1 := blk_frozen BK115.out 1
                have hfz47_2 := blk_frozen BK115.out 2
                have p118 : 0 ≤ (x63_3 : Int) := of_decide_eq_true (by first | (with_reducible assumption) | assumption)
                have q118 : x63_3 < (t111.length : Int) := of_decide_eq_true (by first | (with_reducible assumption) | assumption)
                obtain ⟨ad118, e118, hx118_0⟩ := Kd.at_int (Kd.R_reads' HO_116002.out).2.2 x63_3 p118 q118
                cases e118
                replace p118 := eq_true p118
                replace q118 := eq_true q118
                go_wp2
                go_ret
                exact ⟨by first | rfl | (simp [errW_none, errW_some] <;> rfl) | (simp [*, errW_none, errW_some] <;> rfl), by repeat (first | (with_reducible first | exact HB.out | apply below_alloc | apply pw_below_drewN | apply below_drew1) | exact HB.out)⟩
              ·
               rw [if_neg c43] at H
               exact absurd H (by simp)
             ·
              rw [if_neg c42] at H
              exact absurd H (by simp)
            ·
             rw [if_neg c41] at H
             exact absurd H (by simp)
           ·
            rw [if_neg c40] at H
            have c40b0 : decide (x63_3 < (t104.length : Int)) = false := decide_eq_false c40
            clear c40
            by_cases c48 : x11_2 = x12_3
            ·
             rw [if_pos c48] at H
             have c48b0 : (x11_2 == x12_3) = true := beq_iff_eq.mpr c48
             have c48b1 : (x11_2 != x12_3) = false := bne_eq_false_iff_eq.mpr c48
             clear c48
             by_cases c49 : t102 = a1
             ·
              rw [if_pos c49] at H
              have c49b0 : (t102 == a1) = true := beq_iff_eq.mpr c49
              have c49b1 : (t102 != a1) = false := bne_eq_false_iff_eq.mpr c49
              clear c49
              obtain rfl := Option.some.inj H
              have hcz50_0 : wr.cell? ⟨gb108, 0, none⟩ = some (.int .i64 t102) := (blk_cell BK108.out 0).trans rfl
              have hcz50_1 : wr.cell? ⟨gb108, 1, none⟩ = some (.int .i64 t103) := (blk_cell BK108.out 1).trans rfl
              have hcz50_2 : wr.cell? ⟨gb108, 2, none⟩ = some (.slice Ao16 t104.length co16) := (blk_cell BK108.out 2).trans rfl
              have hfz50_0 := blk_frozen BK108.out 0
              have hfz50_1 := blk_frozen BK108.out 1
              have hfz50_2 := blk_frozen BK108.out 2
              go_wp2
              go_ret
              exact ⟨by first | rfl | (simp [errW_none, errW_some] <;> rfl) | (simp [*, errW_none, errW_some] <;> rfl), by repeat (first | (with_reducible first | exact HB.out | apply below_alloc | apply pw_below_drewN | apply below_drew1) | exact HB.out)⟩
             ·
              rw [if_neg c49] at H
              have c49b0 : (t102 == a1) = false := beq_eq_false_iff_ne.mpr c49
              have c49b1 : (t102 != a1) = true := bne_iff_ne.mpr c49
              obtain rfl := Option.some.inj H
              have hcz51_0 : wr.cell? ⟨gb108, 0, none⟩ = some (.int .i64 t102) := (blk_cell BK108.out 0).trans rfl
              have hcz51_1 : wr.cell? ⟨gb108, 1, none⟩ = some (.int .i64 t103) := (blk_cell BK108.out 1).trans rfl
              have hcz51_2 : wr.cell? ⟨gb108, 2, none⟩ = some (.slice Ao16 t104.length co16) := (blk_cell BK108.out 2).trans rfl
              have hfz51_0 := blk_frozen BK108.out 0
              have hfz51_1 := blk_frozen BK108.out 1
              have hfz51_2 := blk_frozen BK108.out 2
              go_wp2
              go_ret
              exact ⟨by first | rfl | (simp [errW_none, errW_some] <;> rfl) | (simp [*, errW_none, errW_some] <;> rfl), by repeat (first | (with_reducible first | exact HB.out | apply below_alloc | apply pw_below_drewN | apply below_drew1) | exact HB.out)⟩
            ·
             rw [if_neg c48] at H
             have c48b0 : (x11_2 == x12_3) = false := beq_eq_false_iff_ne.mpr c48
             have c48b1 : (x11_2 != x12_3) = true := bne_iff_ne.mpr c48
             obtain rfl := Option.some.inj H
             go_wp2
             go_ret
             exact ⟨by first | rfl | (simp [errW_none, errW_some] <;> rfl) | (simp [*, errW_none, errW_some] <;> rfl), by repeat (first | (with_reducible first | exact HB.out | apply below_alloc | apply pw_below_drewN | apply below_drew1) | exact HB.out)⟩
     ·
      replace c31 := Bool.eq_false_iff.mpr c31
      subst c31
      have H1 : (some true) = some r := by rw [if_neg (show ¬ (false = true) by decide)] at H; exact H
      clear H
      have H := H1
      clear H1
      obtain rfl := Option.some.inj H
      go_wp2
      go_ret
      exact ⟨by first | rfl | (simp [errW_none, errW_some] <;> rfl) | (simp [*, errW_none, errW_some] <;> rfl), by repeat (first | (with_reducible first | exact HB.out | apply below_alloc | apply pw_below_drewN | apply below_drew1) | exact HB.out)⟩

/-- The one plain statement of FnRegridded. -/
def laws_FnRegridded.Pure : Prop := ∀ (a0_0 : Int) (a0_1 : Int) (l0_2 : List Int) (a1 : Int) (a2 : Int), (Lit.int .i64 a0_0).wf = true → (Lit.int .i64 a0_1).wf = true → (l0_2.length ≤ 9223372036854775807 ∧ ∀ z0 ∈ l0_2, (Lit.int .i64 z0).wf = true) → (Lit.int .i64 a1).wf = true → (Lit.int .i64 a2).wf = true → ∃ k, laws_FnRegridded.f k a0_0 a0_1 l0_2 a1 a2 = some true

end Go.Proofs.Ytmhbakmgcogmoaa.P
