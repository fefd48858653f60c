/- Texts of the claim FnNearest, merged: part 8 of 8: the program's and the reference's functions as Lean functions, the walks that show it, and plain lemmas; no conditions. -/
import Derived.Test.YtmfgjknffmjjjaaKFnNearest1
import Derived.Test.YtmfgjknffmjjjaaKFnNearest4
import Derived.Test.YtmfgjknffmjjjaaKFnNearest7
import Derived.Test.YtmfgjknffmjjjaaKFnNearest5
import Derived.Test.YtmfgjknffmjjjaaKFnNearest6
import Derived.Laws.BitsLemmas
import Derived.Laws.Bits64
import Derived.Test.YtmfgjknffmjjjaaKFnNearest3
import Derived.Test.YtmfgjknffmjjjaaRows
import Derived.WalkKit
import Derived.ProofKit
import Derived.OpenShut
import Derived.ShutString
import Derived.ChangeOld
import Derived.Below
import Derived.SizedLaws
namespace Go.Proofs.Ytmfgjknffmjjjaa.P
open Go.RowKit Go.Proofs.YtmfgjknffmjjjaaW.PrintWords Go.Proofs.YtmfgjknffmjjjaaW.PrintLast Go.Proofs.YtmfgjknffmjjjaaW.PrintMore
attribute [local go_sem] max2_int min2_int max_two min_two max_three min_three max_four min_four   -- for this text's walks alone
set_option linter.unusedVariables false
set_option linter.unusedSimpArgs false

/-! ### spec_l11Match: function 105 -/
mutual
def spec_l11Match.l0 : Nat → Int → Int → Int → Int → Int → List Int → Int → Int → List Int → Int → Int → Option (Int × Int)
 | 0, _, _, _, _, _, _, _, _, _, _, _ => none
 | k + 1, x8, x9, x10, x102000, x102001, x102002, x103000, x103001, x103002, x104000, x104001 => if x10 < x102001 then (spec_l11Match.l1 k x8 x9 x10 0 x102000 x102001 x102002 x103000 x103001 x103002 x104000 x104001) else (some (x8, x9))
def spec_l11Match.l1 : Nat → Int → Int → Int → Int → Int → Int → List Int → Int → Int → List Int → Int → Int → Option (Int × Int)
 | 0, _, _, _, _, _, _, _, _, _, _, _, _ => none
 | k + 1, x8, x9, x10, x11, x102000, x102001, x102002, x103000, x103001, x103002, x104000, x104001 => if x11 < x102000 then ((spec_l2Has.f x103000 x103001 x103002 (wrap64 (x11 + x104000)) (wrap64 (x10 + x104001))).bind fun t104 => (if t104 = true then ((spec_l2At.f x102000 x102001 x102002 x11 x10).bind fun t105 => ((spec_l2At.f x103000 x103001 x103002 (wrap64 (x11 + x104000)) (wrap64 (x10 + x104001))).bind fun t106 => (if t105 = (-9999) then (spec_l11Match.l1 k x8 x9 x10 (wrap64 (x11 + 1)) x102000 x102001 x102002 x103000 x103001 x103002 x104000 x104001) else (if t106 = (-9999) then (spec_l11Match.l1 k x8 x9 x10 (wrap64 (x11 + 1)) x102000 x102001 x102002 x103000 x103001 x103002 x104000 x104001) else ((spec_l11Abs.f (wrap64 (t105 - t106))).bind fun t107 => (spec_l11Match.l1 k (wrap64 (x8 + t107)) (wrap64 (x9 + 1)) x10 (wrap64 (x11 + 1)) x102000 x102001 x102002 x103000 x103001 x103002 x104000 x104001)))))) else (spec_l11Match.l1 k x8 x9 x10 (wrap64 (x11 + 1)) x102000 x102001 x102002 x103000 x103001 x103002 x104000 x104001))) else (spec_l11Match.l0 k x8 x9 (wrap64 (x10 + 1)) x102000 x102001 x102002 x103000 x103001 x103002 x104000 x104001)
end
def spec_l11Match.f (k : Nat) (a0_0 : Int) (a0_1 : Int) (l0_2 : List Int) (a1_0 : Int) (a1_1 : Int) (l1_2 : List Int) (a2_0 : Int) (a2_1 : Int) : Option (Int × Int) := spec_l11Match.l0 k 0 0 0 a0_0 a0_1 l0_2 a1_0 a1_1 l1_2 a2_0 a2_1

def spec_l11Match.T9 : Bool × List (List Nat × List Nat) := (true, [([], []), ([], []), ([], []), ([0, 1, 2], [0, 1, 2]), ([], []), ([], []), ([], []), ([6], [6]), ([5, 7], [5, 7]), ([], []), ([], []), ([10], [10]), ([9, 11], [9, 11]), ([4, 8, 12, 3], [4, 8, 12]), ([3, 13, 0, 1, 2, 3], [3]), ([13, 14, 0, 1, 2, 3, 4, 5, 6, 7, 8, 9, 10, 11, 12, 13, 14], [13])])
def spec_l11Match.B9 : List Nat := [0, 0, 0, 7, 0, 0, 0, 64, 224, 0, 0, 1024, 3584, 8191, 16383, 32767]
theorem spec_l11Match.tab9 : rtab .any (opsOf Try.f105 9) = spec_l11Match.T9 := by kernel_rfl
theorem spec_l11Match.bits9 : waitsOk spec_l11Match.T9.2 spec_l11Match.B9 = true := by kernel_rfl
set_option maxHeartbeats 8000000 in
set_option maxRecDepth 100000 in
theorem spec_l11Match.calls (k : Nat) (a0_0 : Int) (a0_1 : Int) (A0_2 : Option Addr) (c0_2 : Nat) (l0_2 : List Int) (a1_0 : Int) (a1_1 : Int) (A1_2 : Option Addr) (c1_2 : Nat) (l1_2 : List Int) (a2_0 : Int) (a2_1 : Int) (r1 : Int) (r2 : Int) (w : World) (hr0_2 : Kd.C (Kd.int .i64) w A0_2 l0_2.length l0_2) (hc0_2 : l0_2.length ≤ c0_2) (hr1_2 : Kd.C (Kd.int .i64) w A1_2 l1_2.length l1_2) (hc1_2 : l1_2.length ≤ c1_2) (h : spec_l11Match.f k a0_0 a0_1 l0_2 a1_0 a1_1 l1_2 a2_0 a2_1 = some (r1, r2)) :
  Calls Try.prog 105 #[.agg #[.int .i64 a0_0, .int .i64 a0_1, .slice A0_2 l0_2.length c0_2], .agg #[.int .i64 a1_0, .int .i64 a1_1, .slice A1_2 l1_2.length c1_2], .agg #[.int .i64 a2_0, .int .i64 a2_1]] w fun e w' => e = .returned (.tuple #[.int .i64 r1, .int .i64 r2]) ∧ Below w.heap.size w w' := by
 have hu42 := Try.underlying42
 have hu46 := Try.underlying46
 have HR0_2 := Aside0.mk hr0_2
 have HC0_2 := Aside0.mk hc0_2
 clear hr0_2 hc0_2
 have HR1_2 := Aside0.mk hr1_2
 have HC1_2 := Aside0.mk hc1_2
 clear hr1_2 hc1_2
 have HB := aK (Below.refl w.heap.size w)
 have H : (spec_l11Match.l0 k 0 0 0 a0_0 a0_1 l0_2 a1_0 a1_1 l1_2 a2_0 a2_1) = some (r1, r2) := h
 clear h
 have H' := Aside0.mk H
 clear H
 go_enter Try.func105, Try.ntmps105
 go_wp2_with (first | ((with_reducible refine gate_dst (N := 3) rfl ?_); refine box_event ?hg (N := 3) ?hd (cs := #[.int .i64 a0_0, .int .i64 a0_1, .slice A0_2 l0_2.length c0_2]) (t := 42) ?hr ?_; (case hd => rfl); (case hg => rfl); (case hr => first | (go_simp; done) | (go_simp; rfl)); intro gb101 hg w4 hbox hb; have BK101 := aK (hbox); have GW101 := aK (gE hg (pS HB.out)); have GE101 := aK (gE hg (pS HB.out)); replace HB := bS HB hb; clear hb hbox hg) | ((with_reducible refine gate_dst (N := 4) rfl ?_); refine box_event ?hg (N := 4) ?hd (cs := #[.int .i64 a1_0, .int .i64 a1_1, .slice A1_2 l1_2.length c1_2]) (t := 42) ?hr ?_; (case hd => rfl); (case hg => rfl); (case hr => first | (go_simp; done) | (go_simp; rfl)); intro gb102 hg w5 hbox hb; have BK102 := aK (hbox); have GW102 := aK (gE hg (pS HB.out)); have GE102 := aK (gE hg (pS HB.out)); have NB101_102 := aK (nL hg (pB BK101.out)); have NB102_101 := aK (nG hg (pB BK101.out)); replace BK101 := bB BK101 hb; replace HB := bS HB hb; clear hb hbox hg) | ((with_reducible refine gate_dst (N := 5) rfl ?_); refine box_event ?hg (N := 5) ?hd (cs := #[.int .i64 a2_0, .int .i64 a2_1]) (t := 46) ?hr ?_; (case hd => rfl); (case hg => rfl); (case hr => first | (go_simp; done) | (go_simp; rfl)); intro gb103 hg w6 hbox hb; have BK103 := aK (hbox); have GW103 := aK (gE hg (pS HB.out)); have GE103 := aK (gE hg (pS HB.out)); have NB101_103 := aK (nL hg (pB BK101.out)); have NB103_101 := aK (nG hg (pB BK101.out)); have NB102_103 := aK (nL hg (pB BK102.out)); have NB103_102 := aK (nG hg (pB BK102.out)); replace BK101 := bB BK101 hb; replace BK102 := bB BK102 hb; replace HB := bS HB hb; clear hb hbox hg))
 go_loopg [8, 9, 10] k (fun kq v8 v9 v10 w' => ∃ (x8_1 : Int) (x9_1 : Int) (x10_1 : Int), v8 = .int .i64 x8_1 ∧ v9 = .int .i64 x9_1 ∧ v10 = .int .i64 x10_1 ∧ Aside0 (spec_l11Match.l0 kq x8_1 x9_1 x10_1 a0_0 a0_1 l0_2 a1_0 a1_1 l1_2 a2_0 a2_1 = some (r1, r2)) ∧ Aside0 (kq ≤ k) ∧ Aside0 (w'.heap[gb101]? = some (.cells #[.int .i64 a0_0, .int .i64 a0_1, (.slice A0_2 l0_2.length c0_2)] 42 (0, 0))) ∧ Aside0 (w'.heap[gb102]? = some (.cells #[.int .i64 a1_0, .int .i64 a1_1, (.slice A1_2 l1_2.length c1_2)] 42 (0, 0))) ∧ Aside0 (w'.heap[gb103]? = some (.cells #[.int .i64 a2_0, .int .i64 a2_1] 46 (0, 0))) ∧ Aside0 (Below w.heap.size w w'))
 case atStart => exact ⟨(0), (0), (0), (by first | rfl | (simp; done) | (simp [*]; done)), (by first | rfl | (simp; done) | (simp [*]; done)), (by first | rfl | (simp; done) | (simp [*]; done)), H', ⟨Nat.le_refl _⟩, ⟨by (with_reducible repeat (first | refine blk_drewN ?_ _ | refine blk_drew ?_ | refine blk_alloc ?_ _)); exact BK101.out⟩, ⟨by (with_reducible repeat (first | refine blk_drewN ?_ _ | refine blk_drew ?_ | refine blk_alloc ?_ _)); exact BK102.out⟩, ⟨by (with_reducible repeat (first | refine blk_drewN ?_ _ | refine blk_drew ?_ | refine blk_alloc ?_ _)); exact BK103.out⟩, ⟨by repeat (first | (with_reducible first | exact HB.out | apply below_alloc | apply pw_below_drewN | apply below_drew1 | refine below_set ?_ GE101.out | refine below_set ?_ GE102.out | refine below_set ?_ GE103.out) | exact HB.out)⟩⟩
 case round =>
  clear H'
  try clear c1
  try clear p2
  obtain ⟨x8_1, x9_1, x10_1, rfl, rfl, rfl, HA, HK1, BK101, BK102, BK103, HB⟩ := hrel
  cases gk with
  | zero => exact absurd HA.out (by simp [spec_l11Match.l0])
  | succ k1 =>
   have H := HA.out
   clear HA
   simp only [spec_l11Match.l0] at H
   by_cases c7 : x10_1 < a0_1
   ·
    rw [if_pos c7] at H
    have c7b0 : decide (x10_1 < a0_1) = true := decide_eq_true c7
    clear c7
    have H' := Aside0.mk H
    clear H
    have hnb8 := NB101_102.out
    have hnc8 := NB102_101.out
    have hnb9 := NB101_103.out
    have hnc9 := NB103_101.out
    have hcz10_0 : wr.cell? ⟨gb101, 0, none⟩ = some (.int .i64 a0_0) := (blk_cell BK101.out 0).trans rfl
    have hcz10_1 : wr.cell? ⟨gb101, 1, none⟩ = some (.int .i64 a0_1) := (blk_cell BK101.out 1).trans rfl
    have hcz10_2 : wr.cell? ⟨gb101, 2, none⟩ = some (.slice A0_2 l0_2.length c0_2) := (blk_cell BK101.out 2).trans rfl
    have hfz10_0 := blk_frozen BK101.out 0
    have hfz10_1 := blk_frozen BK101.out 1
    have hfz10_2 := blk_frozen BK101.out 2
    go_wp2
    go_loopg [8, 9, 11] k1 (fun kq v8 v9 v11 w' => ∃ (x8_2 : Int) (x9_2 : Int) (x11_2 : Int), v8 = .int .i64 x8_2 ∧ v9 = .int .i64 x9_2 ∧ v11 = .int .i64 x11_2 ∧ Aside0 (spec_l11Match.l1 kq x8_2 x9_2 x10_1 x11_2 a0_0 a0_1 l0_2 a1_0 a1_1 l1_2 a2_0 a2_1 = some (r1, r2)) ∧ Aside0 (kq ≤ k1) ∧ Aside0 (w'.heap[gb101]? = some (.cells #[.int .i64 a0_0, .int .i64 a0_1, (.slice A0_2 l0_2.length c0_2)] 42 (0, 0))) ∧ Aside0 (w'.heap[gb102]? = some (.cells #[.int .i64 a1_0, .int .i64 a1_1, (.slice A1_2 l1_2.length c1_2)] 42 (0, 0))) ∧ Aside0 (w'.heap[gb103]? = some (.cells #[.int .i64 a2_0, .int .i64 a2_1] 46 (0, 0))) ∧ Aside0 (Below w.heap.size w w'))
    case atStart => exact ⟨(x8_1), (x9_1), (0), (by first | rfl | (simp; done) | (simp [*]; done)), (by first | rfl | (simp; done) | (simp [*]; done)), (by first | rfl | (simp; done) | (simp [*]; done)), H', ⟨Nat.le_refl _⟩, ⟨by (with_reducible repeat (first | refine blk_drewN ?_ _ | refine blk_drew ?_ | refine blk_alloc ?_ _)); exact BK101.out⟩, ⟨by (with_reducible repeat (first | refine blk_drewN ?_ _ | refine blk_drew ?_ | refine blk_alloc ?_ _)); exact BK102.out⟩, ⟨by (with_reducible repeat (first | refine blk_drewN ?_ _ | refine blk_drew ?_ | refine blk_alloc ?_ _)); exact BK103.out⟩, ⟨by repeat (first | (with_reducible first | exact HB.out | apply below_alloc | apply pw_below_drewN | apply below_drew1 | refine below_set ?_ GE101.out | refine below_set ?_ GE102.out | refine below_set ?_ GE103.out) | exact HB.out)⟩⟩
    case round =>
     clear H'
     try clear c1
     try clear p2
     try clear c7
     try clear c7b0
     try clear c8
     try clear c9
     try clear c10
     try clear hcz10_0
     try clear hcz10_1
     try clear hcz10_2
     try clear hfz10_0
     try clear hfz10_1
     try clear hfz10_2
     try clear p2
     obtain ⟨x8_2, x9_2, x11_2, rfl, rfl, rfl, HA, HK2, BK101, BK102, BK103, HB⟩ := hrel
     cases gk with
     | zero => exact absurd HA.out (by simp [spec_l11Match.l1])
     | succ k2 =>
      have H := HA.out
      clear HA
      simp only [spec_l11Match.l1] at H
      by_cases c11 : x11_2 < a0_0
      ·
       rw [if_pos c11] at H
       have c11b0 : decide (x11_2 < a0_0) = true := decide_eq_true c11
       clear c11
       replace H := Option.bind_eq_some_iff.mp H
       obtain ⟨t104, A120, H⟩ := H
       replace H : (if t104 = true then ((spec_l2At.f a0_0 a0_1 l0_2 x11_2 x10_1).bind fun t105 => ((spec_l2At.f a1_0 a1_1 l1_2 (wrap64 (x11_2 + a2_0)) (wrap64 (x10_1 + a2_1))).bind fun t106 => (if t105 = (-9999) then (spec_l11Match.l1 k2 x8_2 x9_2 x10_1 (wrap64 (x11_2 + 1)) a0_0 a0_1 l0_2 a1_0 a1_1 l1_2 a2_0 a2_1) else (if t106 = (-9999) then (spec_l11Match.l1 k2 x8_2 x9_2 x10_1 (wrap64 (x11_2 + 1)) a0_0 a0_1 l0_2 a1_0 a1_1 l1_2 a2_0 a2_1) else ((spec_l11Abs.f (wrap64 (t105 - t106))).bind fun t107 => (spec_l11Match.l1 k2 (wrap64 (x8_2 + t107)) (wrap64 (x9_2 + 1)) x10_1 (wrap64 (x11_2 + 1)) a0_0 a0_1 l0_2 a1_0 a1_1 l1_2 a2_0 a2_1)))))) else (spec_l11Match.l1 k2 x8_2 x9_2 x10_1 (wrap64 (x11_2 + 1)) a0_0 a0_1 l0_2 a1_0 a1_1 l1_2 a2_0 a2_1)) = some (r1, r2) := H
       have A12 := Aside0.mk A120
       clear A120
       by_cases c13 : t104 = true
       ·
        subst c13
        have H1 : ((spec_l2At.f a0_0 a0_1 l0_2 x11_2 x10_1).bind fun t105 => ((spec_l2At.f a1_0 a1_1 l1_2 (wrap64 (x11_2 + a2_0)) (wrap64 (x10_1 + a2_1))).bind fun t106 => (if t105 = (-9999) then (spec_l11Match.l1 k2 x8_2 x9_2 x10_1 (wrap64 (x11_2 + 1)) a0_0 a0_1 l0_2 a1_0 a1_1 l1_2 a2_0 a2_1) else (if t106 = (-9999) then (spec_l11Match.l1 k2 x8_2 x9_2 x10_1 (wrap64 (x11_2 + 1)) a0_0 a0_1 l0_2 a1_0 a1_1 l1_2 a2_0 a2_1) else ((spec_l11Abs.f (wrap64 (t105 - t106))).bind fun t107 => (spec_l11Match.l1 k2 (wrap64 (x8_2 + t107)) (wrap64 (x9_2 + 1)) x10_1 (wrap64 (x11_2 + 1)) a0_0 a0_1 l0_2 a1_0 a1_1 l1_2 a2_0 a2_1)))))) = some (r1, r2) := by rw [if_pos rfl] at H; exact H
        clear H
        have H := H1
        clear H1
        replace H := Option.bind_eq_some_iff.mp H
        obtain ⟨t105, A140, H⟩ := H
        replace H : ((spec_l2At.f a1_0 a1_1 l1_2 (wrap64 (x11_2 + a2_0)) (wrap64 (x10_1 + a2_1))).bind fun t106 => (if t105 = (-9999) then (spec_l11Match.l1 k2 x8_2 x9_2 x10_1 (wrap64 (x11_2 + 1)) a0_0 a0_1 l0_2 a1_0 a1_1 l1_2 a2_0 a2_1) else (if t106 = (-9999) then (spec_l11Match.l1 k2 x8_2 x9_2 x10_1 (wrap64 (x11_2 + 1)) a0_0 a0_1 l0_2 a1_0 a1_1 l1_2 a2_0 a2_1) else ((spec_l11Abs.f (wrap64 (t105 - t106))).bind fun t107 => (spec_l11Match.l1 k2 (wrap64 (x8_2 + t107)) (wrap64 (x9_2 + 1)) x10_1 (wrap64 (x11_2 + 1)) a0_0 a0_1 l0_2 a1_0 a1_1 l1_2 a2_0 a2_1))))) = some (r1, r2) := H
        have A14 := Aside0.mk A140
        clear A140
        replace H := Option.bind_eq_some_iff.mp H
        obtain ⟨t106, A150, H⟩ := H
        replace H : (if t105 = (-9999) then (spec_l11Match.l1 k2 x8_2 x9_2 x10_1 (wrap64 (x11_2 + 1)) a0_0 a0_1 l0_2 a1_0 a1_1 l1_2 a2_0 a2_1) else (if t106 = (-9999) then (spec_l11Match.l1 k2 x8_2 x9_2 x10_1 (wrap64 (x11_2 + 1)) a0_0 a0_1 l0_2 a1_0 a1_1 l1_2 a2_0 a2_1) else ((spec_l11Abs.f (wrap64 (t105 - t106))).bind fun t107 => (spec_l11Match.l1 k2 (wrap64 (x8_2 + t107)) (wrap64 (x9_2 + 1)) x10_1 (wrap64 (x11_2 + 1)) a0_0 a0_1 l0_2 a1_0 a1_1 l1_2 a2_0 a2_1)))) = some (r1, r2) := H
        have A15 := Aside0.mk A150
        clear A150
        by_cases c16 : t105 = (-9999)
        ·
         rw [if_pos c16] at H
         have c16b0 : (t105 == (-9999)) = true := beq_iff_eq.mpr c16
         have c16b1 : (t105 != (-9999)) = false := bne_eq_false_iff_eq.mpr c16
         clear c16
         have H' := Aside0.mk H
         clear H
         have hnb17 := NB101_102.out
         have hnc17 := NB102_101.out
         have hnb18 := NB101_103.out
         have hnc18 := NB103_101.out
         have hcz19_0 : wr.cell? ⟨gb101, 0, none⟩ = some (.int .i64 a0_0) := (blk_cell BK101.out 0).trans rfl
         have hcz19_1 : wr.cell? ⟨gb101, 1, none⟩ = some (.int .i64 a0_1) := (blk_cell BK101.out 1).trans rfl
         have hcz19_2 : wr.cell? ⟨gb101, 2, none⟩ = some (.slice A0_2 l0_2.length c0_2) := (blk_cell BK101.out 2).trans rfl
         have hfz19_0 := blk_frozen BK101.out 0
         have hfz19_1 := blk_frozen BK101.out 1
         have hfz19_2 := blk_frozen BK101.out 2
         have hnb20 := NB102_103.out
         have hnc20 := NB103_102.out
         have hcz21_0 : wr.cell? ⟨gb102, 0, none⟩ = some (.int .i64 a1_0) := (blk_cell BK102.out 0).trans rfl
         have hcz21_1 : wr.cell? ⟨gb102, 1, none⟩ = some (.int .i64 a1_1) := (blk_cell BK102.out 1).trans rfl
         have hcz21_2 : wr.cell? ⟨gb102, 2, none⟩ = some (.slice A1_2 l1_2.length c1_2) := (blk_cell BK102.out 2).trans rfl
         have hfz21_0 := blk_frozen BK102.out 0
         have hfz21_1 := blk_frozen BK102.out 1
         have hfz21_2 := blk_frozen BK102.out 2
         have hcz22_0 : wr.cell? ⟨gb103, 0, none⟩ = some (.int .i64 a2_0) := (blk_cell BK103.out 0).trans rfl
         have hcz22_1 : wr.cell? ⟨gb103, 1, none⟩ = some (.int .i64 a2_1) := (blk_cell BK103.out 1).trans rfl
         have hfz22_0 := blk_frozen BK103.out 0
         have hfz22_1 := blk_frozen BK103.out 1
         try go_wp2_with (first | ((with_reducible refine gate_callee (f := 146) rfl ?_); refine goesL_ (some 35) rfl rfl Try.func146 (by kernel_rfl) rfl #[.agg #[.int .i64 a1_0, .int .i64 a1_1, .slice A1_2 l1_2.length c1_2], .int .i64 (wrap64 (x11_2 + a2_0)), .int .i64 (wrap64 (x10_1 + a2_1))] rfl (by (try simp only [List.map_toArray, List.map_cons, List.map_nil]); first | done | rfl | (simp only [List.length_drop, List.length_take]; rfl)) ?_; (with_reducible refine (spec_l2Has.calls a1_0 a1_1 _ _ l1_2 (wrap64 (x11_2 + a2_0)) (wrap64 (x10_1 + a2_1)) true _ ?side1 ?side2 A12.out).mono ?_); (case side1 => repeat (first | exact (Kd.C_below HR1_2.out HB.out) | (with_reducible refine Kd.C_alloc ?_ _) | (with_reducible refine Kd.C_drewN ?_ _) | (with_reducible refine Kd.C_drew ?_))); (case side2 => exact HC1_2.out); rintro e w23 ⟨rfl, hb⟩; refine ⟨_, rfl, ?_⟩; replace BK101 := bB BK101 hb; replace BK102 := bB BK102 hb; replace BK103 := bB BK103 hb; replace HB := bS HB hb; (try clear hb); (try clear hb2); (try clear hk); (try clear hi)))
         have n0_ := aK (blk_drew BK101.out)
         have n1_ := aK (blk_drew BK102.out)
         have n2_ := aK (blk_drew BK103.out)
         have n3_ := aK (below_drew1 HB.out)
         clear BK101 BK102 BK103 HB
         have BK101 := n0_
         have BK102 := n1_
         have BK103 := n2_
         have HB := n3_
         clear n0_ n1_ n2_ n3_
         refine start_ (n := 16) (S := fun w' => w'.cell? ⟨gb101, 0, none⟩ = some (.int .i64 a0_0) ∧ w'.cell? ⟨gb101, 1, none⟩ = some (.int .i64 a0_1) ∧ w'.cell? ⟨gb101, 2, none⟩ = some (.slice A0_2 l0_2.length c0_2) ∧ w'.cell? ⟨gb102, 0, none⟩ = some (.int .i64 a1_0) ∧ w'.cell? ⟨gb102, 1, none⟩ = some (.int .i64 a1_1) ∧ w'.cell? ⟨gb102, 2, none⟩ = some (.slice A1_2 l1_2.length c1_2) ∧ w'.cell? ⟨gb103, 0, none⟩ = some (.int .i64 a2_0) ∧ w'.cell? ⟨gb103, 1, none⟩ = some (.int .i64 a2_1)) (ds := []) #[false, false, false, false, false, false, false, false, false, false, false, false, false, false, false, false] (by kernel_rfl) rfl rfl ⟨(blk_cell BK101.out 0).trans rfl, (blk_cell BK101.out 1).trans rfl, (blk_cell BK101.out 2).trans rfl, (blk_cell BK102.out 0).trans rfl, (blk_cell BK102.out 1).trans rfl, (blk_cell BK102.out 2).trans rfl, (blk_cell BK103.out 0).trans rfl, (blk_cell BK103.out 1).trans rfl⟩ (fun hHeld => ?_); refine with_tabW spec_l11Match.tab9 spec_l11Match.bits9 (fun HT_ HW_ => ?_)
         generalize w23.drew = w24 at BK101 BK102 BK103 HB hHeld ⊢
         refine pure_ (i := 1) (N := some 38) (v := ?_) (a' := ?_) #[false, true, false, false, false, false, false, false, false, false, false, false, false, false, false, false] rfl rfl (any_of HT_.out (by kernel_rfl)) (fun _ _ _ h => h) (Or.inl ⟨by rfl, ?_⟩) ?_ ?_
         rotate_left
         ·
          intro w'
          go_simp
          with_reducible rfl
         rotate_left
         ·
          simp only [Act.put, List.setIfInBounds_toArray, List.set_cons_zero, List.set_cons_succ, i64_w, i32_w]
          rfl
         refine pure_ (i := 2) (N := some 39) (v := ?_) (a' := ?_) #[false, true, true, false, false, false, false, false, false, false, false, false, false, false, false, false] rfl rfl (any_of HT_.out (by kernel_rfl)) (fun _ _ _ h => h) (Or.inl ⟨by rfl, ?_⟩) ?_ ?_
         rotate_left
         ·
          intro w'
          go_simp
          with_reducible rfl
         rotate_left
         ·
          simp only [Act.put, List.setIfInBounds_toArray, List.set_cons_zero, List.set_cons_succ, i64_w, i32_w]
          rfl
         refine pure_ (i := 5) (N := some 42) (v := ?_) (a' := ?_) #[false, true, true, false, false, true, false, false, false, false, false, false, false, false, false, false] rfl rfl (any_of HT_.out (by kernel_rfl)) (fun _ _ _ h => h) (Or.inl ⟨by rfl, ?_⟩) ?_ ?_
         rotate_left
         ·
          intro w'
          go_simp
          with_reducible rfl
         rotate_left
         ·
          simp only [Act.put, List.setIfInBounds_toArray, List.set_cons_zero, List.set_cons_succ, i64_w, i32_w]
          rfl
         refine pure_ (i := 6) (N := some 43) (v := ?_) (a' := ?_) #[false, true, true, false, false, true, true, false, false, false, false, false, false, false, false, false] rfl rfl (any_of HT_.out (by kernel_rfl)) (fun _ _ _ h => h) (Or.inl ⟨by rfl, ?_⟩) ?_ ?_
         rotate_left
         ·
          intro w'
          go_simp
          with_reducible rfl
         rotate_left
         ·
          simp only [Act.put, List.setIfInBounds_toArray, List.set_cons_zero, List.set_cons_succ, i64_w, i32_w]
          rfl
         refine pure_ (i := 9) (N := some 46) (v := ?_) (a' := ?_) #[false, true, true, false, false, true, true, false, false, true, false, false, false, false, false, false] rfl rfl (any_of HT_.out (by kernel_rfl)) (fun _ _ _ h => h) (Or.inl ⟨by rfl, ?_⟩) ?_ ?_
         rotate_left
         ·
          intro w'
          go_simp
          with_reducible rfl
         rotate_left
         ·
          simp only [Act.put, List.setIfInBounds_toArray, List.set_cons_zero, List.set_cons_succ, i64_w, i32_w]
          rfl
         refine pure_ (i := 10) (N := some 47) (v := ?_) (a' := ?_) #[false, true, true, false, false, true, true, false, false, true, true, false, false, false, false, false] rfl rfl (any_of HT_.out (by kernel_rfl)) (fun _ _ _ h => h) (Or.inl ⟨by rfl, ?_⟩) ?_ ?_
         rotate_left
         ·
          intro w'
          go_simp
          with_reducible rfl
         rotate_left
         ·
          simp only [Act.put, List.setIfInBounds_toArray, List.set_cons_zero, List.set_cons_succ, i64_w, i32_w]
          rfl
         refine take_ (i := 0) (N := some 37) (v := ?_) (a' := ?_) #[true, true, true, false, false, true, true, false, false, true, true, false, false, false, false, false] rfl rfl (take_ofW HT_.out HW_.out (by kernel_rfl)) (fun _ _ _ h => h) (Or.inl ⟨by rfl, ?_⟩) hHeld ?_ ?_
         rotate_left
         ·
          rintro w' ⟨s0, s1, s2, s3, s4, s5, s6, s7⟩
          go_simp
          with_reducible rfl
         rotate_left
         ·
          simp only [Act.put, List.setIfInBounds_toArray, List.set_cons_zero, List.set_cons_succ, i64_w, i32_w]
          rfl
         refine take_ (i := 4) (N := some 41) (v := ?_) (a' := ?_) #[true, true, true, false, true, true, true, false, false, true, true, false, false, false, false, false] rfl rfl (take_ofW HT_.out HW_.out (by kernel_rfl)) (fun _ _ _ h => h) (Or.inl ⟨by rfl, ?_⟩) hHeld ?_ ?_
         rotate_left
         ·
          rintro w' ⟨s0, s1, s2, s3, s4, s5, s6, s7⟩
          go_simp
          with_reducible rfl
         rotate_left
         ·
          simp only [Act.put, List.setIfInBounds_toArray, List.set_cons_zero, List.set_cons_succ, i64_w, i32_w]
          rfl
         refine take_ (i := 7) (N := some 44) (v := ?_) (a' := ?_) #[true, true, true, false, true, true, true, true, false, true, true, false, false, false, false, false] rfl rfl (take_ofW HT_.out HW_.out (by kernel_rfl)) (fun _ _ _ h => h) (Or.inl ⟨by rfl, ?_⟩) hHeld ?_ ?_
         rotate_left
         ·
          rintro w' ⟨s0, s1, s2, s3, s4, s5, s6, s7⟩
          go_simp
          with_reducible rfl
         rotate_left
         ·
          simp only [Act.put, List.setIfInBounds_toArray, List.set_cons_zero, List.set_cons_succ, i64_w, i32_w]
          rfl
         refine pure_ (i := 8) (N := some 45) (v := ?_) (a' := ?_) #[true, true, true, false, true, true, true, true, true, true, true, false, false, false, false, false] rfl rfl (any_of HT_.out (by kernel_rfl)) (fun _ _ _ h => h) (Or.inl ⟨by rfl, ?_⟩) ?_ ?_
         rotate_left
         ·
          intro w'
          go_simp
          with_reducible rfl
         rotate_left
         ·
          simp only [Act.put, List.setIfInBounds_toArray, List.set_cons_zero, List.set_cons_succ, i64_w, i32_w]
          rfl
         refine take_ (i := 11) (N := some 48) (v := ?_) (a' := ?_) #[true, true, true, false, true, true, true, true, true, true, true, true, false, false, false, false] rfl rfl (take_ofW HT_.out HW_.out (by kernel_rfl)) (fun _ _ _ h => h) (Or.inl ⟨by rfl, ?_⟩) hHeld ?_ ?_
         rotate_left
         ·
          rintro w' ⟨s0, s1, s2, s3, s4, s5, s6, s7⟩
          go_simp
          with_reducible rfl
         rotate_left
         ·
          simp only [Act.put, List.setIfInBounds_toArray, List.set_cons_zero, List.set_cons_succ, i64_w, i32_w]
          rfl
         refine pure_ (i := 12) (N := some 49) (v := ?_) (a' := ?_) #[true, true, true, false, true, true, true, true, true, true, true, true, true, false, false, false] rfl rfl (any_of HT_.out (by kernel_rfl)) (fun _ _ _ h => h) (Or.inl ⟨by rfl, ?_⟩) ?_ ?_
         rotate_left
         ·
          intro w'
          go_simp
          with_reducible rfl
         rotate_left
         ·
          simp only [Act.put, List.setIfInBounds_toArray, List.set_cons_zero, List.set_cons_succ, i64_w, i32_w]
          rfl
         refine one_ (i := 3) (N := some 40) #[true, true, true, true, true, true, true, true, true, true, true, true, true, false, false, false] rfl rfl (one_of HT_.out (by kernel_rfl)) (by decide) (fun K hK => ?_)
         refine goes_ Try.func131 (by kernel_rfl) rfl #[.agg #[.int .i64 a0_0, .int .i64 a0_1, .slice A0_2 l0_2.length c0_2], .int .i64 x11_2, .int .i64 x10_1] (by rfl) rfl rfl (by (try simp only [List.map_toArray, List.map_cons, List.map_nil]); first | done | rfl | (simp only [List.length_drop, List.length_take]; rfl)) ?_
         with_reducible refine (spec_l2At.calls a0_0 a0_1 _ _ l0_2 x11_2 x10_1 t105 _ ?side1 ?side2 A14.out).mono ?_
         (case side1 => repeat (first | exact (Kd.C_below HR0_2.out HB.out) | (with_reducible refine Kd.C_alloc ?_ _) | (with_reducible refine Kd.C_drewN ?_ _) | (with_reducible refine Kd.C_drew ?_)))
         (case side2 => exact HC0_2.out)
         rintro e w25 ⟨rfl, hb⟩
         refine ⟨_, rfl, ?_⟩
         replace BK101 := bB BK101 hb
         replace BK102 := bB BK102 hb
         replace BK103 := bB BK103 hb
         replace HB := bS HB hb
         (try clear hb)
         (try clear hb2)
         (try clear hk)
         (try clear hi)
         refine hK.out _ _ ⟨(blk_cell BK101.out 0).trans rfl, (blk_cell BK101.out 1).trans rfl, (blk_cell BK101.out 2).trans rfl, (blk_cell BK102.out 0).trans rfl, (blk_cell BK102.out 1).trans rfl, (blk_cell BK102.out 2).trans rfl, (blk_cell BK103.out 0).trans rfl, (blk_cell BK103.out 1).trans rfl⟩ (fun hHeld => ?_)
         clear hK K
         refine norm_ (a' := ?_) ?_ ?_
         rotate_left
         ·
          show Act.put _ (some 40) _ = _
          simp only [Act.put, List.setIfInBounds_toArray, List.set_cons_zero, List.set_cons_succ, i64_w, i32_w]
          rfl
         refine one_ (i := 13) (N := some 50) #[true, true, true, true, true, true, true, true, true, true, true, true, true, true, false, false] rfl rfl (one_of HT_.out (by kernel_rfl)) (by decide) (fun K hK => ?_)
         refine goes_ Try.func131 (by kernel_rfl) rfl #[.agg #[.int .i64 a1_0, .int .i64 a1_1, .slice A1_2 l1_2.length c1_2], .int .i64 (wrap64 (x11_2 + a2_0)), .int .i64 (wrap64 (x10_1 + a2_1))] (by rfl) rfl rfl (by (try simp only [List.map_toArray, List.map_cons, List.map_nil]); first | done | rfl | (simp only [List.length_drop, List.length_take]; rfl)) ?_
         with_reducible refine (spec_l2At.calls a1_0 a1_1 _ _ l1_2 (wrap64 (x11_2 + a2_0)) (wrap64 (x10_1 + a2_1)) t106 _ ?side1 ?side2 A15.out).mono ?_
         (case side1 => repeat (first | exact (Kd.C_below HR1_2.out HB.out) | (with_reducible refine Kd.C_alloc ?_ _) | (with_reducible refine Kd.C_drewN ?_ _) | (with_reducible refine Kd.C_drew ?_)))
         (case side2 => exact HC1_2.out)
         rintro e w26 ⟨rfl, hb⟩
         refine ⟨_, rfl, ?_⟩
         replace BK101 := bB BK101 hb
         replace BK102 := bB BK102 hb
         replace BK103 := bB BK103 hb
         replace HB := bS HB hb
         (try clear hb)
         (try clear hb2)
         (try clear hk)
         (try clear hi)
         refine hK.out _ _ ⟨(blk_cell BK101.out 0).trans rfl, (blk_cell BK101.out 1).trans rfl, (blk_cell BK101.out 2).trans rfl, (blk_cell BK102.out 0).trans rfl, (blk_cell BK102.out 1).trans rfl, (blk_cell BK102.out 2).trans rfl, (blk_cell BK103.out 0).trans rfl, (blk_cell BK103.out 1).trans rfl⟩ (fun hHeld => ?_)
         clear hK K
         refine norm_ (a' := ?_) ?_ ?_
         rotate_left
         ·
          show Act.put _ (some 50) _ = _
          simp only [Act.put, List.setIfInBounds_toArray, List.set_cons_zero, List.set_cons_succ, i64_w, i32_w]
          rfl
         refine pure_ (i := 14) (N := some 12) (v := ?_) (a' := ?_) #[true, true, true, true, true, true, true, true, true, true, true, true, true, true, true, false] rfl rfl (any_of HT_.out (by kernel_rfl)) (fun _ _ _ h => h) (Or.inl ⟨by rfl, ?_⟩) ?_ ?_
         rotate_left
         ·
          intro w'
          go_simp
          with_reducible rfl
         rotate_left
         ·
          simp only [Act.put, List.setIfInBounds_toArray, List.set_cons_zero, List.set_cons_succ, i64_w, i32_w]
          rfl
         refine pure_ (i := 15) (N := some 13) (v := ?_) (a' := ?_) #[true, true, true, true, true, true, true, true, true, true, true, true, true, true, true, true] rfl rfl (any_of HT_.out (by kernel_rfl)) (fun _ _ _ h => h) (Or.inl ⟨by rfl, ?_⟩) ?_ ?_
         rotate_left
         ·
          intro w'
          go_simp
          with_reducible rfl
         rotate_left
         ·
          simp only [Act.put, List.setIfInBounds_toArray, List.set_cons_zero, List.set_cons_succ, i64_w, i32_w]
          rfl
         refine done_ (done_of HT_.out (by kernel_rfl)) ?_
         try go_wp2
         go_roundg k2
         case measure => have := HK1.out; have := HK2.out; omega
         case rel => exact ⟨(x8_2), (x9_2), (wrap64 (x11_2 + 1)), (by first | rfl | (simp; done) | (simp [*]; done)), (by first | rfl | (simp; done) | (simp [*]; done)), (by first | rfl | (simp; done) | (simp [*]; done)), H', ⟨by have := HK1.out; have := HK2.out; omega⟩, ⟨by (with_reducible repeat (first | refine blk_drewN ?_ _ | refine blk_drew ?_ | refine blk_alloc ?_ _)); exact BK101.out⟩, ⟨by (with_reducible repeat (first | refine blk_drewN ?_ _ | refine blk_drew ?_ | refine blk_alloc ?_ _)); exact BK102.out⟩, ⟨by (with_reducible repeat (first | refine blk_drewN ?_ _ | refine blk_drew ?_ | refine blk_alloc ?_ _)); exact BK103.out⟩, ⟨by repeat (first | (with_reducible first | exact HB.out | apply below_alloc | apply pw_below_drewN | apply below_drew1 | refine below_set ?_ GE101.out | refine below_set ?_ GE102.out | refine below_set ?_ GE103.out) | exact HB.out)⟩⟩
        ·
         rw [if_neg c16] at H
         have c16b0 : (t105 == (-9999)) = false := beq_eq_false_iff_ne.mpr c16
         have c16b1 : (t105 != (-9999)) = true := bne_iff_ne.mpr c16
         by_cases c27 : t106 = (-9999)
         ·
          rw [if_pos c27] at H
          have c27b0 : (t106 == (-9999)) = true := beq_iff_eq.mpr c27
          have c27b1 : (t106 != (-9999)) = false := bne_eq_false_iff_eq.mpr c27
          clear c27
          have H' := Aside0.mk H
          clear H
          have hnb28 := NB101_102.out
          have hnc28 := NB102_101.out
          have hnb29 := NB101_103.out
          have hnc29 := NB103_101.out
          have hcz30_0 : wr.cell? ⟨gb101, 0, none⟩ = some (.int .i64 a0_0) := (blk_cell BK101.out 0).trans rfl
          have hcz30_1 : wr.cell? ⟨gb101, 1, none⟩ = some (.int .i64 a0_1) := (blk_cell BK101.out 1).trans rfl
          have hcz30_2 : wr.cell? ⟨gb101, 2, none⟩ = some (.slice A0_2 l0_2.length c0_2) := (blk_cell BK101.out 2).trans rfl
          have hfz30_0 := blk_frozen BK101.out 0
          have hfz30_1 := blk_frozen BK101.out 1
          have hfz30_2 := blk_frozen BK101.out 2
          have hnb31 := NB102_103.out
          have hnc31 := NB103_102.out
          have hcz32_0 : wr.cell? ⟨gb102, 0, none⟩ = some (.int .i64 a1_0) := (blk_cell BK102.out 0).trans rfl
          have hcz32_1 : wr.cell? ⟨gb102, 1, none⟩ = some (.int .i64 a1_1) := (blk_cell BK102.out 1).trans rfl
          have hcz32_2 : wr.cell? ⟨gb102, 2, none⟩ = some (.slice A1_2 l1_2.length c1_2) := (blk_cell BK102.out 2).trans rfl
          have hfz32_0 := blk_frozen BK102.out 0
          have hfz32_1 := blk_frozen BK102.out 1
          have hfz32_2 := blk_frozen BK102.out 2
          have hcz33_0 : wr.cell? ⟨gb103, 0, none⟩ = some (.int .i64 a2_0) := (blk_cell BK103.out 0).trans rfl
          have hcz33_1 : wr.cell? ⟨gb103, 1, none⟩ = some (.int .i64 a2_1) := (blk_cell BK103.out 1).trans rfl
          have hfz33_0 := blk_frozen BK103.out 0
          have hfz33_1 := blk_frozen BK103.out 1
          try go_wp2_with (first | ((with_reducible refine gate_callee (f := 146) rfl ?_); refine goesL_ (some 35) rfl rfl Try.func146 (by kernel_rfl) rfl #[.agg #[.int .i64 a1_0, .int .i64 a1_1, .slice A1_2 l1_2.length c1_2], .int .i64 (wrap64 (x11_2 + a2_0)), .int .i64 (wrap64 (x10_1 + a2_1))] rfl (by (try simp only [List.map_toArray, List.map_cons, List.map_nil]); first | done | rfl | (simp only [List.length_drop, List.length_take]; rfl)) ?_; (with_reducible refine (spec_l2Has.calls a1_0 a1_1 _ _ l1_2 (wrap64 (x11_2 + a2_0)) (wrap64 (x10_1 + a2_1)) true _ ?side1 ?side2 A12.out).mono ?_); (case side1 => repeat (first | exact (Kd.C_below HR1_2.out HB.out) | (with_reducible refine Kd.C_alloc ?_ _) | (with_reducible refine Kd.C_drewN ?_ _) | (with_reducible refine Kd.C_drew ?_))); (case side2 => exact HC1_2.out); rintro e w34 ⟨rfl, hb⟩; refine ⟨_, rfl, ?_⟩; replace BK101 := bB BK101 hb; replace BK102 := bB BK102 hb; replace BK103 := bB BK103 hb; replace HB := bS HB hb; (try clear hb); (try clear hb2); (try clear hk); (try clear hi)))
          have n0_ := aK (blk_drew BK101.out)
          have n1_ := aK (blk_drew BK102.out)
          have n2_ := aK (blk_drew BK103.out)
          have n3_ := aK (below_drew1 HB.out)
          clear BK101 BK102 BK103 HB
          have BK101 := n0_
          have BK102 := n1_
          have BK103 := n2_
          have HB := n3_
          clear n0_ n1_ n2_ n3_
          refine start_ (n := 16) (S := fun w' => w'.cell? ⟨gb101, 0, none⟩ = some (.int .i64 a0_0) ∧ w'.cell? ⟨gb101, 1, none⟩ = some (.int .i64 a0_1) ∧ w'.cell? ⟨gb101, 2, none⟩ = some (.slice A0_2 l0_2.length c0_2) ∧ w'.cell? ⟨gb102, 0, none⟩ = some (.int .i64 a1_0) ∧ w'.cell? ⟨gb102, 1, none⟩ = some (.int .i64 a1_1) ∧ w'.cell? ⟨gb102, 2, none⟩ = some (.slice A1_2 l1_2.length c1_2) ∧ w'.cell? ⟨gb103, 0, none⟩ = some (.int .i64 a2_0) ∧ w'.cell? ⟨gb103, 1, none⟩ = some (.int .i64 a2_1)) (ds := []) #[false, false, false, false, false, false, false, false, false, false, false, false, false, false, false, false] (by kernel_rfl) rfl rfl ⟨(blk_cell BK101.out 0).trans rfl, (blk_cell BK101.out 1).trans rfl, (blk_cell BK101.out 2).trans rfl, (blk_cell BK102.out 0).trans rfl, (blk_cell BK102.out 1).trans rfl, (blk_cell BK102.out 2).trans rfl, (blk_cell BK103.out 0).trans rfl, (blk_cell BK103.out 1).trans rfl⟩ (fun hHeld => ?_); refine with_tabW spec_l11Match.tab9 spec_l11Match.bits9 (fun HT_ HW_ => ?_)
          generalize w34.drew = w35 at BK101 BK102 BK103 HB hHeld ⊢
          refine pure_ (i := 1) (N := some 38) (v := ?_) (a' := ?_) #[false, true, false, false, false, false, false, false, false, false, false, false, false, false, false, false] rfl rfl (any_of HT_.out (by kernel_rfl)) (fun _ _ _ h => h) (Or.inl ⟨by rfl, ?_⟩) ?_ ?_
          rotate_left
          ·
           intro w'
           go_simp
           with_reducible rfl
          rotate_left
          ·
           simp only [Act.put, List.setIfInBounds_toArray, List.set_cons_zero, List.set_cons_succ, i64_w, i32_w]
           rfl
          refine pure_ (i := 2) (N := some 39) (v := ?_) (a' := ?_) #[false, true, true, false, false, false, false, false, false, false, false, false, false, false, false, false] rfl rfl (any_of HT_.out (by kernel_rfl)) (fun _ _ _ h => h) (Or.inl ⟨by rfl, ?_⟩) ?_ ?_
          rotate_left
          ·
           intro w'
           go_simp
           with_reducible rfl
          rotate_left
          ·
           simp only [Act.put, List.setIfInBounds_toArray, List.set_cons_zero, List.set_cons_succ, i64_w, i32_w]
           rfl
          refine pure_ (i := 5) (N := some 42) (v := ?_) (a' := ?_) #[false, true, true, false, false, true, false, false, false, false, false, false, false, false, false, false] rfl rfl (any_of HT_.out (by kernel_rfl)) (fun _ _ _ h => h) (Or.inl ⟨by rfl, ?_⟩) ?_ ?_
          rotate_left
          ·
           intro w'
           go_simp
           with_reducible rfl
          rotate_left
          ·
           simp only [Act.put, List.setIfInBounds_toArray, List.set_cons_zero, List.set_cons_succ, i64_w, i32_w]
           rfl
          refine pure_ (i := 6) (N := some 43) (v := ?_) (a' := ?_) #[false, true, true, false, false, true, true, false, false, false, false, false, false, false, false, false] rfl rfl (any_of HT_.out (by kernel_rfl)) (fun _ _ _ h => h) (Or.inl ⟨by rfl, ?_⟩) ?_ ?_
          rotate_left
          ·
           intro w'
           go_simp
           with_reducible rfl
          rotate_left
          ·
           simp only [Act.put, List.setIfInBounds_toArray, List.set_cons_zero, List.set_cons_succ, i64_w, i32_w]
           rfl
          refine pure_ (i := 9) (N := some 46) (v := ?_) (a' := ?_) #[false, true, true, false, false, true, true, false, false, true, false, false, false, false, false, false] rfl rfl (any_of HT_.out (by kernel_rfl)) (fun _ _ _ h => h) (Or.inl ⟨by rfl, ?_⟩) ?_ ?_
          rotate_left
          ·
           intro w'
           go_simp
           with_reducible rfl
          rotate_left
          ·
           simp only [Act.put, List.setIfInBounds_toArray, List.set_cons_zero, List.set_cons_succ, i64_w, i32_w]
           rfl
          refine pure_ (i := 10) (N := some 47) (v := ?_) (a' := ?_) #[false, true, true, false, false, true, true, false, false, true, true, false, false, false, false, false] rfl rfl (any_of HT_.out (by kernel_rfl)) (fun _ _ _ h => h) (Or.inl ⟨by rfl, ?_⟩) ?_ ?_
          rotate_left
          ·
           intro w'
           go_simp
           with_reducible rfl
          rotate_left
          ·
           simp only [Act.put, List.setIfInBounds_toArray, List.set_cons_zero, List.set_cons_succ, i64_w, i32_w]
           rfl
          refine take_ (i := 0) (N := some 37) (v := ?_) (a' := ?_) #[true, true, true, false, false, true, true, false, false, true, true, false, false, false, false, false] rfl rfl (take_ofW HT_.out HW_.out (by kernel_rfl)) (fun _ _ _ h => h) (Or.inl ⟨by rfl, ?_⟩) hHeld ?_ ?_
          rotate_left
          ·
           rintro w' ⟨s0, s1, s2, s3, s4, s5, s6, s7⟩
           go_simp
           with_reducible rfl
          rotate_left
          ·
           simp only [Act.put, List.setIfInBounds_toArray, List.set_cons_zero, List.set_cons_succ, i64_w, i32_w]
           rfl
          refine take_ (i := 4) (N := some 41) (v := ?_) (a' := ?_) #[true, true, true, false, true, true, true, false, false, true, true, false, false, false, false, false] rfl rfl (take_ofW HT_.out HW_.out (by kernel_rfl)) (fun _ _ _ h => h) (Or.inl ⟨by rfl, ?_⟩) hHeld ?_ ?_
          rotate_left
          ·
           rintro w' ⟨s0, s1, s2, s3, s4, s5, s6, s7⟩
           go_simp
           with_reducible rfl
          rotate_left
          ·
           simp only [Act.put, List.setIfInBounds_toArray, List.set_cons_zero, List.set_cons_succ, i64_w, i32_w]
           rfl
          refine take_ (i := 7) (N := some 44) (v := ?_) (a' := ?_) #[true, true, true, false, true, true, true, true, false, true, true, false, false, false, false, false] rfl rfl (take_ofW HT_.out HW_.out (by kernel_rfl)) (fun _ _ _ h => h) (Or.inl ⟨by rfl, ?_⟩) hHeld ?_ ?_
          rotate_left
          ·
           rintro w' ⟨s0, s1, s2, s3, s4, s5, s6, s7⟩
           go_simp
           with_reducible rfl
          rotate_left
          ·
           simp only [Act.put, List.setIfInBounds_toArray, List.set_cons_zero, List.set_cons_succ, i64_w, i32_w]
           rfl
          refine pure_ (i := 8) (N := some 45) (v := ?_) (a' := ?_) #[true, true, true, false, true, true, true, true, true, true, true, false, false, false, false, false] rfl rfl (any_of HT_.out (by kernel_rfl)) (fun _ _ _ h => h) (Or.inl ⟨by rfl, ?_⟩) ?_ ?_
          rotate_left
          ·
           intro w'
           go_simp
           with_reducible rfl
          rotate_left
          ·
           simp only [Act.put, List.setIfInBounds_toArray, List.set_cons_zero, List.set_cons_succ, i64_w, i32_w]
           rfl
          refine take_ (i := 11) (N := some 48) (v := ?_) (a' := ?_) #[true, true, true, false, true, true, true, true, true, true, true, true, false, false, false, false] rfl rfl (take_ofW HT_.out HW_.out (by kernel_rfl)) (fun _ _ _ h => h) (Or.inl ⟨by rfl, ?_⟩) hHeld ?_ ?_
          rotate_left
          ·
           rintro w' ⟨s0, s1, s2, s3, s4, s5, s6, s7⟩
           go_simp
           with_reducible rfl
          rotate_left
          ·
           simp only [Act.put, List.setIfInBounds_toArray, List.set_cons_zero, List.set_cons_succ, i64_w, i32_w]
           rfl
          refine pure_ (i := 12) (N := some 49) (v := ?_) (a' := ?_) #[true, true, true, false, true, true, true, true, true, true, true, true, true, false, false, false] rfl rfl (any_of HT_.out (by kernel_rfl)) (fun _ _ _ h => h) (Or.inl ⟨by rfl, ?_⟩) ?_ ?_
          rotate_left
          ·
           intro w'
           go_simp
           with_reducible rfl
          rotate_left
          ·
           simp only [Act.put, List.setIfInBounds_toArray, List.set_cons_zero, List.set_cons_succ, i64_w, i32_w]
           rfl
          refine one_ (i := 3) (N := some 40) #[true, true, true, true, true, true, true, true, true, true, true, true, true, false, false, false] rfl rfl (one_of HT_.out (by kernel_rfl)) (by decide) (fun K hK => ?_)
          refine goes_ Try.func131 (by kernel_rfl) rfl #[.agg #[.int .i64 a0_0, .int .i64 a0_1, .slice A0_2 l0_2.length c0_2], .int .i64 x11_2, .int .i64 x10_1] (by rfl) rfl rfl (by (try simp only [List.map_toArray, List.map_cons, List.map_nil]); first | done | rfl | (simp only [List.length_drop, List.length_take]; rfl)) ?_
          with_reducible refine (spec_l2At.calls a0_0 a0_1 _ _ l0_2 x11_2 x10_1 t105 _ ?side1 ?side2 A14.out).mono ?_
          (case side1 => repeat (first | exact (Kd.C_below HR0_2.out HB.out) | (with_reducible refine Kd.C_alloc ?_ _) | (with_reducible refine Kd.C_drewN ?_ _) | (with_reducible refine Kd.C_drew ?_)))
          (case side2 => exact HC0_2.out)
          rintro e w36 ⟨rfl, hb⟩
          refine ⟨_, rfl, ?_⟩
          replace BK101 := bB BK101 hb
          replace BK102 := bB BK102 hb
          replace BK103 := bB BK103 hb
          replace HB := bS HB hb
          (try clear hb)
          (try clear hb2)
          (try clear hk)
          (try clear hi)
          refine hK.out _ _ ⟨(blk_cell BK101.out 0).trans rfl, (blk_cell BK101.out 1).trans rfl, (blk_cell BK101.out 2).trans rfl, (blk_cell BK102.out 0).trans rfl, (blk_cell BK102.out 1).trans rfl, (blk_cell BK102.out 2).trans rfl, (blk_cell BK103.out 0).trans rfl, (blk_cell BK103.out 1).trans rfl⟩ (fun hHeld => ?_)
          clear hK K
          refine norm_ (a' := ?_) ?_ ?_
          rotate_left
          ·
           show Act.put _ (some 40) _ = _
           simp only [Act.put, List.setIfInBounds_toArray, List.set_cons_zero, List.set_cons_succ, i64_w, i32_w]
           rfl
          refine one_ (i := 13) (N := some 50) #[true, true, true, true, true, true, true, true, true, true, true, true, true, true, false, false] rfl rfl (one_of HT_.out (by kernel_rfl)) (by decide) (fun K hK => ?_)
          refine goes_ Try.func131 (by kernel_rfl) rfl #[.agg #[.int .i64 a1_0, .int .i64 a1_1, .slice A1_2 l1_2.length c1_2], .int .i64 (wrap64 (x11_2 + a2_0)), .int .i64 (wrap64 (x10_1 + a2_1))] (by rfl) rfl rfl (by (try simp only [List.map_toArray, List.map_cons, List.map_nil]); first | done | rfl | (simp only [List.length_drop, List.length_take]; rfl)) ?_
          with_reducible refine (spec_l2At.calls a1_0 a1_1 _ _ l1_2 (wrap64 (x11_2 + a2_0)) (wrap64 (x10_1 + a2_1)) t106 _ ?side1 ?side2 A15.out).mono ?_
          (case side1 => repeat (first | exact (Kd.C_below HR1_2.out HB.out) | (with_reducible refine Kd.C_alloc ?_ _) | (with_reducible refine Kd.C_drewN ?_ _) | (with_reducible refine Kd.C_drew ?_)))
          (case side2 => exact HC1_2.out)
          rintro e w37 ⟨rfl, hb⟩
          refine ⟨_, rfl, ?_⟩
          replace BK101 := bB BK101 hb
          replace BK102 := bB BK102 hb
          replace BK103 := bB BK103 hb
          replace HB := bS HB hb
          (try clear hb)
          (try clear hb2)
          (try clear hk)
          (try clear hi)
          refine hK.out _ _ ⟨(blk_cell BK101.out 0).trans rfl, (blk_cell BK101.out 1).trans rfl, (blk_cell BK101.out 2).trans rfl, (blk_cell BK102.out 0).trans rfl, (blk_cell BK102.out 1).trans rfl, (blk_cell BK102.out 2).trans rfl, (blk_cell BK103.out 0).trans rfl, (blk_cell BK103.out 1).trans rfl⟩ (fun hHeld => ?_)
          clear hK K
          refine norm_ (a' := ?_) ?_ ?_
          rotate_left
          ·
           show Act.put _ (some 50) _ = _
           simp only [Act.put, List.setIfInBounds_toArray, List.set_cons_zero, List.set_cons_succ, i64_w, i32_w]
           rfl
          refine pure_ (i := 14) (N := some 12) (v := ?_) (a' := ?_) #[true, true, true, true, true, true, true, true, true, true, true, true, true, true, true, false] rfl rfl (any_of HT_.out (by kernel_rfl)) (fun _ _ _ h => h) (Or.inl ⟨by rfl, ?_⟩) ?_ ?_
          rotate_left
          ·
           intro w'
           go_simp
           with_reducible rfl
          rotate_left
          ·
           simp only [Act.put, List.setIfInBounds_toArray, List.set_cons_zero, List.set_cons_succ, i64_w, i32_w]
           rfl
          refine pure_ (i := 15) (N := some 13) (v := ?_) (a' := ?_) #[true, true, true, true, true, true, true, true, true, true, true, true, true, true, true, true] rfl rfl (any_of HT_.out (by kernel_rfl)) (fun _ _ _ h => h) (Or.inl ⟨by rfl, ?_⟩) ?_ ?_
          rotate_left
          ·
           intro w'
           go_simp
           with_reducible rfl
          rotate_left
          ·
           simp only [Act.put, List.setIfInBounds_toArray, List.set_cons_zero, List.set_cons_succ, i64_w, i32_w]
           rfl
          refine done_ (done_of HT_.out (by kernel_rfl)) ?_
          try go_wp2
          go_roundg k2
          case measure => have := HK1.out; have := HK2.out; omega
          case rel => exact ⟨(x8_2), (x9_2), (wrap64 (x11_2 + 1)), (by first | rfl | (simp; done) | (simp [*]; done)), (by first | rfl | (simp; done) | (simp [*]; done)), (by first | rfl | (simp; done) | (simp [*]; done)), H', ⟨by have := HK1.out; have := HK2.out; omega⟩, ⟨by (with_reducible repeat (first | refine blk_drewN ?_ _ | refine blk_drew ?_ | refine blk_alloc ?_ _)); exact BK101.out⟩, ⟨by (with_reducible repeat (first | refine blk_drewN ?_ _ | refine blk_drew ?_ | refine blk_alloc ?_ _)); exact BK102.out⟩, ⟨by (with_reducible repeat (first | refine blk_drewN ?_ _ | refine blk_drew ?_ | refine blk_alloc ?_ _)); exact BK103.out⟩, ⟨by repeat (first | (with_reducible first | exact HB.out | apply below_alloc | apply pw_below_drewN | apply below_drew1 | refine below_set ?_ GE101.out | refine below_set ?_ GE102.out | refine below_set ?_ GE103.out) | exact HB.out)⟩⟩
         ·
          rw [if_neg c27] at H
          have c27b0 : (t106 == (-9999)) = false := beq_eq_false_iff_ne.mpr c27
          have c27b1 : (t106 != (-9999)) = true := bne_iff_ne.mpr c27
          replace H := Option.bind_eq_some_iff.mp H
          obtain ⟨t107, A380, H⟩ := H
          replace H : (spec_l11Match.l1 k2 (wrap64 (x8_2 + t107)) (wrap64 (x9_2 + 1)) x10_1 (wrap64 (x11_2 + 1)) a0_0 a0_1 l0_2 a1_0 a1_1 l1_2 a2_0 a2_1) = some (r1, r2) := H
          have A38 := Aside0.mk A380
          clear A380
          have H' := Aside0.mk H
          clear H
          have hnb39 := NB101_102.out
          have hnc39 := NB102_101.out
          have hnb40 := NB101_103.out
          have hnc40 := NB103_101.out
          have hcz41_0 : wr.cell? ⟨gb101, 0, none⟩ = some (.int .i64 a0_0) := (blk_cell BK101.out 0).trans rfl
          have hcz41_1 : wr.cell? ⟨gb101, 1, none⟩ = some (.int .i64 a0_1) := (blk_cell BK101.out 1).trans rfl
          have hcz41_2 : wr.cell? ⟨gb101, 2, none⟩ = some (.slice A0_2 l0_2.length c0_2) := (blk_cell BK101.out 2).trans rfl
          have hfz41_0 := blk_frozen BK101.out 0
          have hfz41_1 := blk_frozen BK101.out 1
          have hfz41_2 := blk_frozen BK101.out 2
          have hnb42 := NB102_103.out
          have hnc42 := NB103_102.out
          have hcz43_0 : wr.cell? ⟨gb102, 0, none⟩ = some (.int .i64 a1_0) := (blk_cell BK102.out 0).trans rfl
          have hcz43_1 : wr.cell? ⟨gb102, 1, none⟩ = some (.int .i64 a1_1) := (blk_cell BK102.out 1).trans rfl
          have hcz43_2 : wr.cell? ⟨gb102, 2, none⟩ = some (.slice A1_2 l1_2.length c1_2) := (blk_cell BK102.out 2).trans rfl
          have hfz43_0 := blk_frozen BK102.out 0
          have hfz43_1 := blk_frozen BK102.out 1
          have hfz43_2 := blk_frozen BK102.out 2
          have hcz44_0 : wr.cell? ⟨gb103, 0, none⟩ = some (.int .i64 a2_0) := (blk_cell BK103.out 0).trans rfl
          have hcz44_1 : wr.cell? ⟨gb103, 1, none⟩ = some (.int .i64 a2_1) := (blk_cell BK103.out 1).trans rfl
          have hfz44_0 := blk_frozen BK103.out 0
          have hfz44_1 := blk_frozen BK103.out 1
          try go_wp2_with (first | ((with_reducible refine gate_callee (f := 146) rfl ?_); refine goesL_ (some 35) rfl rfl Try.func146 (by kernel_rfl) rfl #[.agg #[.int .i64 a1_0, .int .i64 a1_1, .slice A1_2 l1_2.length c1_2], .int .i64 (wrap64 (x11_2 + a2_0)), .int .i64 (wrap64 (x10_1 + a2_1))] rfl (by (try simp only [List.map_toArray, List.map_cons, List.map_nil]); first | done | rfl | (simp only [List.length_drop, List.length_take]; rfl)) ?_; (with_reducible refine (spec_l2Has.calls a1_0 a1_1 _ _ l1_2 (wrap64 (x11_2 + a2_0)) (wrap64 (x10_1 + a2_1)) true _ ?side1 ?side2 A12.out).mono ?_); (case side1 => repeat (first | exact (Kd.C_below HR1_2.out HB.out) | (with_reducible refine Kd.C_alloc ?_ _) | (with_reducible refine Kd.C_drewN ?_ _) | (with_reducible refine Kd.C_drew ?_))); (case side2 => exact HC1_2.out); rintro e w45 ⟨rfl, hb⟩; refine ⟨_, rfl, ?_⟩; replace BK101 := bB BK101 hb; replace BK102 := bB BK102 hb; replace BK103 := bB BK103 hb; replace HB := bS HB hb; (try clear hb); (try clear hb2); (try clear hk); (try clear hi)))
          have n0_ := aK (blk_drew BK101.out)
          have n1_ := aK (blk_drew BK102.out)
          have n2_ := aK (blk_drew BK103.out)
          have n3_ := aK (below_drew1 HB.out)
          clear BK101 BK102 BK103 HB
          have BK101 := n0_
          have BK102 := n1_
          have BK103 := n2_
          have HB := n3_
          clear n0_ n1_ n2_ n3_
          refine start_ (n := 16) (S := fun w' => w'.cell? ⟨gb101, 0, none⟩ = some (.int .i64 a0_0) ∧ w'.cell? ⟨gb101, 1, none⟩ = some (.int .i64 a0_1) ∧ w'.cell? ⟨gb101, 2, none⟩ = some (.slice A0_2 l0_2.length c0_2) ∧ w'.cell? ⟨gb102, 0, none⟩ = some (.int .i64 a1_0) ∧ w'.cell? ⟨gb102, 1, none⟩ = some (.int .i64 a1_1) ∧ w'.cell? ⟨gb102, 2, none⟩ = some (.slice A1_2 l1_2.length c1_2) ∧ w'.cell? ⟨gb103, 0, none⟩ = some (.int .i64 a2_0) ∧ w'.cell? ⟨gb103, 1, none⟩ = some (.int .i64 a2_1)) (ds := []) #[false, false, false, false, false, false, false, false, false, false, false, false, false, false, false, false] (by kernel_rfl) rfl rfl ⟨(blk_cell BK101.out 0).trans rfl, (blk_cell BK101.out 1).trans rfl, (blk_cell BK101.out 2).trans rfl, (blk_cell BK102.out 0).trans rfl, (blk_cell BK102.out 1).trans rfl, (blk_cell BK102.out 2).trans rfl, (blk_cell BK103.out 0).trans rfl, (blk_cell BK103.out 1).trans rfl⟩ (fun hHeld => ?_); refine with_tabW spec_l11Match.tab9 spec_l11Match.bits9 (fun HT_ HW_ => ?_)
          generalize w45.drew = w46 at BK101 BK102 BK103 HB hHeld ⊢
          refine pure_ (i := 1) (N := some 38) (v := ?_) (a' := ?_) #[false, true, false, false, false, false, false, false, false, false, false, false, false, false, false, false] rfl rfl (any_of HT_.out (by kernel_rfl)) (fun _ _ _ h => h) (Or.inl ⟨by rfl, ?_⟩) ?_ ?_
          rotate_left
          ·
           intro w'
           go_simp
           with_reducible rfl
          rotate_left
          ·
           simp only [Act.put, List.setIfInBounds_toArray, List.set_cons_zero, List.set_cons_succ, i64_w, i32_w]
           rfl
          refine pure_ (i := 2) (N := some 39) (v := ?_) (a' := ?_) #[false, true, true, false, false, false, false, false, false, false, false, false, false, false, false, false] rfl rfl (any_of HT_.out (by kernel_rfl)) (fun _ _ _ h => h) (Or.inl ⟨by rfl, ?_⟩) ?_ ?_
          rotate_left
          ·
           intro w'
           go_simp
           with_reducible rfl
          rotate_left
          ·
           simp only [Act.put, List.setIfInBounds_toArray, List.set_cons_zero, List.set_cons_succ, i64_w, i32_w]
           rfl
          refine pure_ (i := 5) (N := some 42) (v := ?_) (a' := ?_) #[false, true, true, false, false, true, false, false, false, false, false, false, false, false, false, false] rfl rfl (any_of HT_.out (by kernel_rfl)) (fun _ _ _ h => h) (Or.inl ⟨by rfl, ?_⟩) ?_ ?_
          rotate_left
          ·
           intro w'
           go_simp
           with_reducible rfl
          rotate_left
          ·
           simp only [Act.put, List.setIfInBounds_toArray, List.set_cons_zero, List.set_cons_succ, i64_w, i32_w]
           rfl
          refine pure_ (i := 6) (N := some 43) (v := ?_) (a' := ?_) #[false, true, true, false, false, true, true, false, false, false, false, false, false, false, false, false] rfl rfl (any_of HT_.out (by kernel_rfl)) (fun _ _ _ h => h) (Or.inl ⟨by rfl, ?_⟩) ?_ ?_
          rotate_left
          ·
           intro w'
           go_simp
           with_reducible rfl
          rotate_left
          ·
           simp only [Act.put, List.setIfInBounds_toArray, List.set_cons_zero, List.set_cons_succ, i64_w, i32_w]
           rfl
          refine pure_ (i := 9) (N := some 46) (v := ?_) (a' := ?_) #[false, true, true, false, false, true, true, false, false, true, false, false, false, false, false, false] rfl rfl (any_of HT_.out (by kernel_rfl)) (fun _ _ _ h => h) (Or.inl ⟨by rfl, ?_⟩) ?_ ?_
          rotate_left
          ·
           intro w'
           go_simp
           with_reducible rfl
          rotate_left
          ·
           simp only [Act.put, List.setIfInBounds_toArray, List.set_cons_zero, List.set_cons_succ, i64_w, i32_w]
           rfl
          refine pure_ (i := 10) (N := some 47) (v := ?_) (a' := ?_) #[false, true, true, false, false, true, true, false, false, true, true, false, false, false, false, false] rfl rfl (any_of HT_.out (by kernel_rfl)) (fun _ _ _ h => h) (Or.inl ⟨by rfl, ?_⟩) ?_ ?_
          rotate_left
          ·
           intro w'
           go_simp
           with_reducible rfl
          rotate_left
          ·
           simp only [Act.put, List.setIfInBounds_toArray, List.set_cons_zero, List.set_cons_succ, i64_w, i32_w]
           rfl
          refine take_ (i := 0) (N := some 37) (v := ?_) (a' := ?_) #[true, true, true, false, false, true, true, false, false, true, true, false, false, false, false, false] rfl rfl (take_ofW HT_.out HW_.out (by kernel_rfl)) (fun _ _ _ h => h) (Or.inl ⟨by rfl, ?_⟩) hHeld ?_ ?_
          rotate_left
          ·
           rintro w' ⟨s0, s1, s2, s3, s4, s5, s6, s7⟩
           go_simp
           with_reducible rfl
          rotate_left
          ·
           simp only [Act.put, List.setIfInBounds_toArray, List.set_cons_zero, List.set_cons_succ, i64_w, i32_w]
           rfl
          refine take_ (i := 4) (N := some 41) (v := ?_) (a' := ?_) #[true, true, true, false, true, true, true, false, false, true, true, false, false, false, false, false] rfl rfl (take_ofW HT_.out HW_.out (by kernel_rfl)) (fun _ _ _ h => h) (Or.inl ⟨by rfl, ?_⟩) hHeld ?_ ?_
          rotate_left
          ·
           rintro w' ⟨s0, s1, s2, s3, s4, s5, s6, s7⟩
           go_simp
           with_reducible rfl
          rotate_left
          ·
           simp only [Act.put, List.setIfInBounds_toArray, List.set_cons_zero, List.set_cons_succ, i64_w, i32_w]
           rfl
          refine take_ (i := 7) (N := some 44) (v := ?_) (a' := ?_) #[true, true, true, false, true, true, true, true, false, true, true, false, false, false, false, false] rfl rfl (take_ofW HT_.out HW_.out (by kernel_rfl)) (fun _ _ _ h => h) (Or.inl ⟨by rfl, ?_⟩) hHeld ?_ ?_
          rotate_left
          ·
           rintro w' ⟨s0, s1, s2, s3, s4, s5, s6, s7⟩
           go_simp
           with_reducible rfl
          rotate_left
          ·
           simp only [Act.put, List.setIfInBounds_toArray, List.set_cons_zero, List.set_cons_succ, i64_w, i32_w]
           rfl
          refine pure_ (i := 8) (N := some 45) (v := ?_) (a' := ?_) #[true, true, true, false, true, true, true, true, true, true, true, false, false, false, false, false] rfl rfl (any_of HT_.out (by kernel_rfl)) (fun _ _ _ h => h) (Or.inl ⟨by rfl, ?_⟩) ?_ ?_
          rotate_left
          ·
           intro w'
           go_simp
           with_reducible rfl
          rotate_left
          ·
           simp only [Act.put, List.setIfInBounds_toArray, List.set_cons_zero, List.set_cons_succ, i64_w, i32_w]
           rfl
          refine take_ (i := 11) (N := some 48) (v := ?_) (a' := ?_) #[true, true, true, false, true, true, true, true, true, true, true, true, false, false, false, false] rfl rfl (take_ofW HT_.out HW_.out (by kernel_rfl)) (fun _ _ _ h => h) (Or.inl ⟨by rfl, ?_⟩) hHeld ?_ ?_
          rotate_left
          ·
           rintro w' ⟨s0, s1, s2, s3, s4, s5, s6, s7⟩
           go_simp
           with_reducible rfl
          rotate_left
          ·
           simp only [Act.put, List.setIfInBounds_toArray, List.set_cons_zero, List.set_cons_succ, i64_w, i32_w]
           rfl
          refine pure_ (i := 12) (N := some 49) (v := ?_) (a' := ?_) #[true, true, true, false, true, true, true, true, true, true, true, true, true, false, false, false] rfl rfl (any_of HT_.out (by kernel_rfl)) (fun _ _ _ h => h) (Or.inl ⟨by rfl, ?_⟩) ?_ ?_
          rotate_left
          ·
           intro w'
           go_simp
           with_reducible rfl
          rotate_left
          ·
           simp only [Act.put, List.setIfInBounds_toArray, List.set_cons_zero, List.set_cons_succ, i64_w, i32_w]
           rfl
          refine one_ (i := 3) (N := some 40) #[true, true, true, true, true, true, true, true, true, true, true, true, true, false, false, false] rfl rfl (one_of HT_.out (by kernel_rfl)) (by decide) (fun K hK => ?_)
          refine goes_ Try.func131 (by kernel_rfl) rfl #[.agg #[.int .i64 a0_0, .int .i64 a0_1, .slice A0_2 l0_2.length c0_2], .int .i64 x11_2, .int .i64 x10_1] (by rfl) rfl rfl (by (try simp only [List.map_toArray, List.map_cons, List.map_nil]); first | done | rfl | (simp only [List.length_drop, List.length_take]; rfl)) ?_
          with_reducible refine (spec_l2At.calls a0_0 a0_1 _ _ l0_2 x11_2 x10_1 t105 _ ?side1 ?side2 A14.out).mono ?_
          (case side1 => repeat (first | exact (Kd.C_below HR0_2.out HB.out) | (with_reducible refine Kd.C_alloc ?_ _) | (with_reducible refine Kd.C_drewN ?_ _) | (with_reducible refine Kd.C_drew ?_)))
          (case side2 => exact HC0_2.out)
          rintro e w47 ⟨rfl, hb⟩
          refine ⟨_, rfl, ?_⟩
          replace BK101 := bB BK101 hb
          replace BK102 := bB BK102 hb
          replace BK103 := bB BK103 hb
          replace HB := bS HB hb
          (try clear hb)
          (try clear hb2)
          (try clear hk)
          (try clear hi)
          refine hK.out _ _ ⟨(blk_cell BK101.out 0).trans rfl, (blk_cell BK101.out 1).trans rfl, (blk_cell BK101.out 2).trans rfl, (blk_cell BK102.out 0).trans rfl, (blk_cell BK102.out 1).trans rfl, (blk_cell BK102.out 2).trans rfl, (blk_cell BK103.out 0).trans rfl, (blk_cell BK103.out 1).trans rfl⟩ (fun hHeld => ?_)
          clear hK K
          refine norm_ (a' := ?_) ?_ ?_
          rotate_left
          ·
           show Act.put _ (some 40) _ = _
           simp only [Act.put, List.setIfInBounds_toArray, List.set_cons_zero, List.set_cons_succ, i64_w, i32_w]
           rfl
          refine one_ (i := 13) (N := some 50) #[true, true, true, true, true, true, true, true, true, true, true, true, true, true, false, false] rfl rfl (one_of HT_.out (by kernel_rfl)) (by decide) (fun K hK => ?_)
          refine goes_ Try.func131 (by kernel_rfl) rfl #[.agg #[.int .i64 a1_0, .int .i64 a1_1, .slice A1_2 l1_2.length c1_2], .int .i64 (wrap64 (x11_2 + a2_0)), .int .i64 (wrap64 (x10_1 + a2_1))] (by rfl) rfl rfl (by (try simp only [List.map_toArray, List.map_cons, List.map_nil]); first | done | rfl | (simp only [List.length_drop, List.length_take]; rfl)) ?_
          with_reducible refine (spec_l2At.calls a1_0 a1_1 _ _ l1_2 (wrap64 (x11_2 + a2_0)) (wrap64 (x10_1 + a2_1)) t106 _ ?side1 ?side2 A15.out).mono ?_
          (case side1 => repeat (first | exact (Kd.C_below HR1_2.out HB.out) | (with_reducible refine Kd.C_alloc ?_ _) | (with_reducible refine Kd.C_drewN ?_ _) | (with_reducible refine Kd.C_drew ?_)))
          (case side2 => exact HC1_2.out)
          rintro e w48 ⟨rfl, hb⟩
          refine ⟨_, rfl, ?_⟩
          replace BK101 := bB BK101 hb
          replace BK102 := bB BK102 hb
          replace BK103 := bB BK103 hb
          replace HB := bS HB hb
          (try clear hb)
          (try clear hb2)
          (try clear hk)
          (try clear hi)
          refine hK.out _ _ ⟨(blk_cell BK101.out 0).trans rfl, (blk_cell BK101.out 1).trans rfl, (blk_cell BK101.out 2).trans rfl, (blk_cell BK102.out 0).trans rfl, (blk_cell BK102.out 1).trans rfl, (blk_cell BK102.out 2).trans rfl, (blk_cell BK103.out 0).trans rfl, (blk_cell BK103.out 1).trans rfl⟩ (fun hHeld => ?_)
          clear hK K
          refine norm_ (a' := ?_) ?_ ?_
          rotate_left
          ·
           show Act.put _ (some 50) _ = _
           simp only [Act.put, List.setIfInBounds_toArray, List.set_cons_zero, List.set_cons_succ, i64_w, i32_w]
           rfl
          refine pure_ (i := 14) (N := some 12) (v := ?_) (a' := ?_) #[true, true, true, true, true, true, true, true, true, true, true, true, true, true, true, false] rfl rfl (any_of HT_.out (by kernel_rfl)) (fun _ _ _ h => h) (Or.inl ⟨by rfl, ?_⟩) ?_ ?_
          rotate_left
          ·
           intro w'
           go_simp
           with_reducible rfl
          rotate_left
          ·
           simp only [Act.put, List.setIfInBounds_toArray, List.set_cons_zero, List.set_cons_succ, i64_w, i32_w]
           rfl
          refine pure_ (i := 15) (N := some 13) (v := ?_) (a' := ?_) #[true, true, true, true, true, true, true, true, true, true, true, true, true, true, true, true] rfl rfl (any_of HT_.out (by kernel_rfl)) (fun _ _ _ h => h) (Or.inl ⟨by rfl, ?_⟩) ?_ ?_
          rotate_left
          ·
           intro w'
           go_simp
           with_reducible rfl
          rotate_left
          ·
           simp only [Act.put, List.setIfInBounds_toArray, List.set_cons_zero, List.set_cons_succ, i64_w, i32_w]
           rfl
          refine done_ (done_of HT_.out (by kernel_rfl)) ?_
          try go_wp2_with (first | ((with_reducible refine gate_callee (f := 152) rfl ?_); refine goesL_ (some 61) rfl rfl Try.func152 (by kernel_rfl) rfl #[.int .i64 (wrap64 (t105 - t106))] rfl (by (try simp only [List.map_toArray, List.map_cons, List.map_nil]); first | done | rfl | (simp only [List.length_drop, List.length_take]; rfl)) ?_; (with_reducible refine (spec_l11Abs.calls (wrap64 (t105 - t106)) t107 _ A38.out).mono ?_); rintro e w' ⟨rfl, ⟨nd, rfl⟩⟩; refine ⟨_, rfl, ?_⟩))
          go_roundg k2
          case measure => have := HK1.out; have := HK2.out; omega
          case rel => exact ⟨(wrap64 (x8_2 + t107)), (wrap64 (x9_2 + 1)), (wrap64 (x11_2 + 1)), (by first | rfl | (simp; done) | (simp [*]; done)), (by first | rfl | (simp; done) | (simp [*]; done)), (by first | rfl | (simp; done) | (simp [*]; done)), H', ⟨by have := HK1.out; have := HK2.out; omega⟩, ⟨by (with_reducible repeat (first | refine blk_drewN ?_ _ | refine blk_drew ?_ | refine blk_alloc ?_ _)); exact BK101.out⟩, ⟨by (with_reducible repeat (first | refine blk_drewN ?_ _ | refine blk_drew ?_ | refine blk_alloc ?_ _)); exact BK102.out⟩, ⟨by (with_reducible repeat (first | refine blk_drewN ?_ _ | refine blk_drew ?_ | refine blk_alloc ?_ _)); exact BK103.out⟩, ⟨by repeat (first | (with_reducible first | exact HB.out | apply below_alloc | apply pw_below_drewN | apply below_drew1 | refine below_set ?_ GE101.out | refine below_set ?_ GE102.out | refine below_set ?_ GE103.out) | exact HB.out)⟩⟩
       ·
        replace c13 := Bool.eq_false_iff.mpr c13
        subst c13
        have H1 : (spec_l11Match.l1 k2 x8_2 x9_2 x10_1 (wrap64 (x11_2 + 1)) a0_0 a0_1 l0_2 a1_0 a1_1 l1_2 a2_0 a2_1) = some (r1, r2) := by rw [if_neg (show ¬ (false = true) by decide)] at H; exact H
        clear H
        have H := H1
        clear H1
        have H' := Aside0.mk H
        clear H
        have hnb49 := NB101_102.out
        have hnc49 := NB102_101.out
        have hnb50 := NB101_103.out
        have hnc50 := NB103_101.out
        have hcz51_0 : wr.cell? ⟨gb101, 0, none⟩ = some (.int .i64 a0_0) := (blk_cell BK101.out 0).trans rfl
        have hcz51_1 : wr.cell? ⟨gb101, 1, none⟩ = some (.int .i64 a0_1) := (blk_cell BK101.out 1).trans rfl
        have hcz51_2 : wr.cell? ⟨gb101, 2, none⟩ = some (.slice A0_2 l0_2.length c0_2) := (blk_cell BK101.out 2).trans rfl
        have hfz51_0 := blk_frozen BK101.out 0
        have hfz51_1 := blk_frozen BK101.out 1
        have hfz51_2 := blk_frozen BK101.out 2
        have hnb52 := NB102_103.out
        have hnc52 := NB103_102.out
        have hcz53_0 : wr.cell? ⟨gb102, 0, none⟩ = some (.int .i64 a1_0) := (blk_cell BK102.out 0).trans rfl
        have hcz53_1 : wr.cell? ⟨gb102, 1, none⟩ = some (.int .i64 a1_1) := (blk_cell BK102.out 1).trans rfl
        have hcz53_2 : wr.cell? ⟨gb102, 2, none⟩ = some (.slice A1_2 l1_2.length c1_2) := (blk_cell BK102.out 2).trans rfl
        have hfz53_0 := blk_frozen BK102.out 0
        have hfz53_1 := blk_frozen BK102.out 1
        have hfz53_2 := blk_frozen BK102.out 2
        have hcz54_0 : wr.cell? ⟨gb103, 0, none⟩ = some (.int .i64 a2_0) := (blk_cell BK103.out 0).trans rfl
        have hcz54_1 : wr.cell? ⟨gb103, 1, none⟩ = some (.int .i64 a2_1) := (blk_cell BK103.out 1).trans rfl
        have hfz54_0 := blk_frozen BK103.out 0
        have hfz54_1 := blk_frozen BK103.out 1
        go_wp2_with (first | ((with_reducible refine gate_callee (f := 146) rfl ?_); refine goesL_ (some 35) rfl rfl Try.func146 (by kernel_rfl) rfl #[.agg #[.int .i64 a1_0, .int .i64 a1_1, .slice A1_2 l1_2.length c1_2], .int .i64 (wrap64 (x11_2 + a2_0)), .int .i64 (wrap64 (x10_1 + a2_1))] rfl (by (try simp only [List.map_toArray, List.map_cons, List.map_nil]); first | done | rfl | (simp only [List.length_drop, List.length_take]; rfl)) ?_; (with_reducible refine (spec_l2Has.calls a1_0 a1_1 _ _ l1_2 (wrap64 (x11_2 + a2_0)) (wrap64 (x10_1 + a2_1)) false _ ?side1 ?side2 A12.out).mono ?_); (case side1 => repeat (first | exact (Kd.C_below HR1_2.out HB.out) | (with_reducible refine Kd.C_alloc ?_ _) | (with_reducible refine Kd.C_drewN ?_ _) | (with_reducible refine Kd.C_drew ?_))); (case side2 => exact HC1_2.out); rintro e w55 ⟨rfl, hb⟩; refine ⟨_, rfl, ?_⟩; replace BK101 := bB BK101 hb; replace BK102 := bB BK102 hb; replace BK103 := bB BK103 hb; replace HB := bS HB hb; (try clear hb); (try clear hb2); (try clear hk); (try clear hi)))
        go_roundg k2
        case measure => have := HK1.out; have := HK2.out; omega
        case rel => exact ⟨(x8_2), (x9_2), (wrap64 (x11_2 + 1)), (by first | rfl | (simp; done) | (simp [*]; done)), (by first | rfl | (simp; done) | (simp [*]; done)), (by first | rfl | (simp; done) | (simp [*]; done)), H', ⟨by have := HK1.out; have := HK2.out; omega⟩, ⟨by (with_reducible repeat (first | refine blk_drewN ?_ _ | refine blk_drew ?_ | refine blk_alloc ?_ _)); exact BK101.out⟩, ⟨by (with_reducible repeat (first | refine blk_drewN ?_ _ | refine blk_drew ?_ | refine blk_alloc ?_ _)); exact BK102.out⟩, ⟨by (with_reducible repeat (first | refine blk_drewN ?_ _ | refine blk_drew ?_ | refine blk_alloc ?_ _)); exact BK103.out⟩, ⟨by repeat (first | (with_reducible first | exact HB.out | apply below_alloc | apply pw_below_drewN | apply below_drew1 | refine below_set ?_ GE101.out | refine below_set ?_ GE102.out | refine below_set ?_ GE103.out) | exact HB.out)⟩⟩
      ·
       rw [if_neg c11] at H
       have c11b0 : decide (x11_2 < a0_0) = false := decide_eq_false c11
       clear c11
       have H' := Aside0.mk H
       clear H
       have hnb56 := NB101_102.out
       have hnc56 := NB102_101.out
       have hnb57 := NB101_103.out
       have hnc57 := NB103_101.out
       have hcz58_0 : wr.cell? ⟨gb101, 0, none⟩ = some (.int .i64 a0_0) := (blk_cell BK101.out 0).trans rfl
       have hcz58_1 : wr.cell? ⟨gb101, 1, none⟩ = some (.int .i64 a0_1) := (blk_cell BK101.out 1).trans rfl
       have hcz58_2 : wr.cell? ⟨gb101, 2, none⟩ = some (.slice A0_2 l0_2.length c0_2) := (blk_cell BK101.out 2).trans rfl
       have hfz58_0 := blk_frozen BK101.out 0
       have hfz58_1 := blk_frozen BK101.out 1
       have hfz58_2 := blk_frozen BK101.out 2
       go_wp2
       go_roundg k2
       case measure => have := HK1.out; have := HK2.out; omega
       case rel => exact ⟨(x8_2), (x9_2), (wrap64 (x10_1 + 1)), (by first | rfl | (simp; done) | (simp [*]; done)), (by first | rfl | (simp; done) | (simp [*]; done)), (by first | rfl | (simp; done) | (simp [*]; done)), H', ⟨by have := HK1.out; have := HK2.out; omega⟩, ⟨by (with_reducible repeat (first | refine blk_drewN ?_ _ | refine blk_drew ?_ | refine blk_alloc ?_ _)); exact BK101.out⟩, ⟨by (with_reducible repeat (first | refine blk_drewN ?_ _ | refine blk_drew ?_ | refine blk_alloc ?_ _)); exact BK102.out⟩, ⟨by (with_reducible repeat (first | refine blk_drewN ?_ _ | refine blk_drew ?_ | refine blk_alloc ?_ _)); exact BK103.out⟩, ⟨by repeat (first | (with_reducible first | exact HB.out | apply below_alloc | apply pw_below_drewN | apply below_drew1 | refine below_set ?_ GE101.out | refine below_set ?_ GE102.out | refine below_set ?_ GE103.out) | exact HB.out)⟩⟩
   ·
    rw [if_neg c7] at H
    have c7b0 : decide (x10_1 < a0_1) = false := decide_eq_false c7
    clear c7
    simp only [Option.some.injEq, Prod.mk.injEq] at H
    obtain ⟨rfl, rfl⟩ := H
    have hnb59 := NB101_102.out
    have hnc59 := NB102_101.out
    have hnb60 := NB101_103.out
    have hnc60 := NB103_101.out
    have hcz61_0 : wr.cell? ⟨gb101, 0, none⟩ = some (.int .i64 a0_0) := (blk_cell BK101.out 0).trans rfl
    have hcz61_1 : wr.cell? ⟨gb101, 1, none⟩ = some (.int .i64 a0_1) := (blk_cell BK101.out 1).trans rfl
    have hcz61_2 : wr.cell? ⟨gb101, 2, none⟩ = some (.slice A0_2 l0_2.length c0_2) := (blk_cell BK101.out 2).trans rfl
    have hfz61_0 := blk_frozen BK101.out 0
    have hfz61_1 := blk_frozen BK101.out 1
    have hfz61_2 := blk_frozen BK101.out 2
    go_wp2
    go_ret2
    exact ⟨by first | rfl | (simp [errW_none, errW_some] <;> rfl) | (simp [*, errW_none, errW_some] <;> rfl), by repeat (first | (with_reducible first | exact HB.out | apply below_alloc | apply pw_below_drewN | apply below_drew1 | refine below_set ?_ GE101.out | refine below_set ?_ GE102.out | refine below_set ?_ GE103.out) | exact HB.out)⟩

end Go.Proofs.Ytmfgjknffmjjjaa.P
/- The match of two fields for a motion: the reference's sum, row by row. No conditions. -/
namespace Go.Proofs.Ytmfgjknffmjjjaa.Pure
set_option linter.unusedVariables false
set_option linter.unusedSimpArgs false
open Go.RowKit Go.Proofs.Ytmfgjknffmjjjaa.P Go.Proofs.YtmfgjknffmjjjaaW.PrintWords Go.Proofs.YtmfgjknffmjjjaaW.PrintLast
theorem l2At_is (a b : Int) (l : List Int) (W H x y : Nat) (ha : a = W) (hx : x < W) (hy : y < H) (hl : l.length = H * W) (h64 : l.length ≤ 64) : spec_l2At.f a b l (x : Int) (y : Int) = some (l.getD (y * W + x) 0) := by
  subst ha
  have h1 : y * W + x < H * W := by
    have : (y + 1) * W ≤ H * W := Nat.mul_le_mul_right W hy
    rw [Nat.add_mul] at this
    omega
  have e : wrap64 ((wrap64 ((y : Int) * (W : Int))) + (x : Int)) = ((y * W + x : Nat) : Int) := by
    have e1 : (y : Int) * (W : Int) = ((y * W : Nat) : Int) := by simp
    rw [e1, w64n (by omega), show ((y * W : Nat) : Int) + (x : Int) = ((y * W + x : Nat) : Int) by simp]
    exact w64n (by omega)
  unfold spec_l2At.f
  rw [e, if_pos (by omega), if_pos (by omega), rd_nat]
theorem div_at {W y x : Nat} (hx : x < W) : (y * W + x) / W = y ∧ (y * W + x) % W = x := by
  have hW : 0 < W := by omega
  constructor
  · rw [Nat.mul_comm, Nat.mul_add_div hW, Nat.div_eq_of_lt hx, Nat.add_zero]
  · rw [Nat.mul_comm, Nat.mul_add_mod, Nat.mod_eq_of_lt hx]
end Go.Proofs.Ytmfgjknffmjjjaa.Pure
/- A nearest regrid: one field in the program and in the reference. No conditions but that the list is no longer than a machine allows. -/
namespace Go.Proofs.Ytmfgjknffmjjjaa.Pure
set_option linter.unusedVariables false
set_option linter.unusedSimpArgs false
open Go.RowKit Go.Proofs.Ytmfgjknffmjjjaa.P Go.Proofs.YtmfgjknffmjjjaaW.PrintWords Go.Proofs.YtmfgjknffmjjjaaW.PrintLast
/-- The column, of a columns, in which the center of column k of c lies. -/
def near (a c k : Nat) : Nat := ((2 * k + 1) * a - 1) / (2 * c)
theorem near_bd {a c k : Nat} (ha : 1 ≤ a) (hk : k < c) : near a c k < a := by
  unfold near
  rw [Nat.div_lt_iff_lt_mul (by omega)]
  have h1 : (2 * k + 1) * a ≤ (2 * c - 1) * a := Nat.mul_le_mul_right a (by omega)
  have h2 : (2 * c - 1) * a + a = a * (2 * c) := by
    have : (2 * c - 1) * a + a = (2 * c - 1 + 1) * a := by rw [Nat.add_mul, Nat.one_mul]
    rw [this, show 2 * c - 1 + 1 = 2 * c by omega, Nat.mul_comm]
  omega
theorem near_iff {a c k i : Nat} (ha : 1 ≤ a) (hc : 1 ≤ c) : (2 * k + 1) * a ≤ 2 * (i + 1) * c ↔ near a c k ≤ i := by
  have h1 : 1 ≤ (2 * k + 1) * a := Nat.mul_pos (by omega) ha
  have h2 : 2 * (i + 1) * c = (i + 1) * (2 * c) := by rw [Nat.mul_comm 2 (i + 1), Nat.mul_assoc]
  have h3 : near a c k < i + 1 ↔ (2 * k + 1) * a - 1 < (i + 1) * (2 * c) := by unfold near; exact Nat.div_lt_iff_lt_mul (by omega)
  omega
theorem near_self {a k : Nat} (ha : 1 ≤ a) : near a a k = k := by
  unfold near
  have h1 : (2 * k + 1) * a - 1 = (a - 1) + k * (2 * a) := by
    have : (2 * k + 1) * a = k * (2 * a) + a := by rw [Nat.add_mul, Nat.one_mul, Nat.mul_comm 2 k, Nat.mul_assoc]
    omega
  rw [h1, Nat.add_mul_div_right _ _ (by omega), Nat.div_eq_of_lt (by omega), Nat.zero_add]
theorem prod_bd {a k : Nat} (ha : a ≤ 8) (hk : k ≤ 8) : (2 * k + 1) * a ≤ 136 := Nat.mul_le_mul (show 2 * k + 1 ≤ 17 by omega) ha
theorem centerIn_is {a c k : Nat} (ha : 1 ≤ a ∧ a ≤ 8) (hc : 1 ≤ c ∧ c ≤ 8) (hk : k < c) : impl_centerIn.f (a : Int) (c : Int) (k : Int) = some ((near a c k : Nat) : Int) := by
  have hp := prod_bd (k := k) ha.2 (by omega)
  have h1 : 1 ≤ (2 * k + 1) * a := Nat.mul_pos (by omega) (by omega)
  have hb := near_bd ha.1 hk
  unfold impl_centerIn.f
  rw [w64 (x := 2 * (c : Int)) (by omega) (by omega), if_neg (by omega), w64 (x := 2 * (k : Int)) (by omega) (by omega), w64 (x := 2 * (k : Int) + 1) (by omega) (by omega)]
  have e1 : (2 * (k : Int) + 1) * (a : Int) = (((2 * k + 1) * a : Nat) : Int) := by simp
  rw [e1, w64n (by omega), w64 (x := (((2 * k + 1) * a : Nat) : Int) - 1) (by omega) (by omega)]
  have e2 : (((2 * k + 1) * a : Nat) : Int) - 1 = (((2 * k + 1) * a - 1 : Nat) : Int) := by omega
  have e3 : 2 * (c : Int) = ((2 * c : Nat) : Int) := by omega
  rw [e2, e3, tdiv_cast, w64n (by unfold near at hb; omega)]
  rfl
theorem l7Near_ev {a c k : Nat} (ha : 1 ≤ a ∧ a ≤ 8) (hc : 1 ≤ c ∧ c ≤ 8) (hk : k < c) : Ev (fun K => spec_l7Near.f K (a : Int) (c : Int) (k : Int)) ((near a c k : Nat) : Int) := by
  have hp := prod_bd (k := k) ha.2 (by omega)
  have hb := near_bd ha.1 hk
  have el : wrap64 (wrap64 (wrap64 (2 * (k : Int)) + 1) * (a : Int)) = (((2 * k + 1) * a : Nat) : Int) := by
    rw [w64 (x := 2 * (k : Int)) (by omega) (by omega), w64 (x := 2 * (k : Int) + 1) (by omega) (by omega), show (2 * (k : Int) + 1) * (a : Int) = (((2 * k + 1) * a : Nat) : Int) by simp, w64n (by omega)]
  have er : ∀ i : Nat, i < 9 → wrap64 (wrap64 (2 * wrap64 ((i : Int) + 1)) * (c : Int)) = ((2 * (i + 1) * c : Nat) : Int) := fun i hi => by
    have h2 : 2 * (i + 1) * c ≤ 18 * 8 := Nat.mul_le_mul (by omega) hc.2
    rw [w64 (x := (i : Int) + 1) (by omega) (by omega), w64 (x := 2 * ((i : Int) + 1)) (by omega) (by omega), show 2 * ((i : Int) + 1) * (c : Int) = ((2 * (i + 1) * c : Nat) : Int) by simp, w64n (by omega)]
  have EL := Aside0.mk el
  have ER := Aside0.mk er
  clear el er
  have key : ∀ d i : Nat, near a c k - i = d → i ≤ near a c k → Ev (fun K => spec_l7Near.l0 K (a : Int) (c : Int) (k : Int) (i : Int)) ((near a c k : Nat) : Int) := by
    intro d
    induction d with
    | zero =>
      intro i h0 h1
      obtain rfl : i = near a c k := by omega
      refine ev_step (f := fun _ => some ((near a c k : Nat) : Int)) (fun K => ?_) (ev_some _)
      simp only [spec_l7Near.l0]
      rw [EL.out, ER.out _ (by omega), if_pos (by omega), if_pos (by exact_mod_cast (near_iff ha.1 hc.1).2 (Nat.le_refl _))]
    | succ d ih =>
      intro i h0 h1
      refine ev_step (fun K => ?_) (ih (i + 1) (by omega) (by omega))
      have hn : ¬ (((2 * k + 1) * a : Nat) : Int) ≤ ((2 * (i + 1) * c : Nat) : Int) := by
        intro h
        have := (near_iff (a := a) (c := c) (k := k) (i := i) ha.1 hc.1).1 (by exact_mod_cast h)
        omega
      simp only [spec_l7Near.l0]
      rw [EL.out, ER.out _ (by omega), if_pos (by omega), if_neg hn, w64 (by omega) (by omega)]
      rfl
  exact key (near a c k) 0 rfl (Nat.zero_le _)
/-- The value of cell i of the new field, W columns and H rows of l come to W' and H'. -/
def nearCell (W H W' H' : Nat) (l : List Int) (i : Nat) : Int := l.getD (near H H' (i / W') * W + near W W' (i % W')) 0
theorem near1_is (W H W' H' : Nat) (l : List Int) (hW : 1 ≤ W ∧ W ≤ 8) (hH : 1 ≤ H ∧ H ≤ 8) (hW' : 1 ≤ W' ∧ W' ≤ 8) (hH' : 1 ≤ H' ∧ H' ≤ 8) (hl : l.length = H * W) (x y : Nat) (hx : x < W') (hy : y < H') :
    impl_RegridNearest_1.f (x : Int) (y : Int) (W : Int) (H : Int) l (H' : Int) (W' : Int) = some (nearCell W H W' H' l (y * W' + x)) := by
  obtain ⟨d1, d2⟩ := div_at (y := y) hx
  have b1 := near_bd hW.1 hx
  have b2 := near_bd hH.1 hy
  have h64 : H * W ≤ 64 := Nat.mul_le_mul hH.2 hW.2
  have hlt : near H H' y * W + near W W' x < H * W := by
    have : (near H H' y + 1) * W ≤ H * W := Nat.mul_le_mul_right W b2
    rw [Nat.add_mul] at this
    omega
  unfold impl_RegridNearest_1.f nearCell
  rw [d1, d2, centerIn_is hH hH' hy, Option.bind_some, centerIn_is hW hW' hx, Option.bind_some]
  have e : wrap64 (wrap64 (((near H H' y : Nat) : Int) * (W : Int)) + ((near W W' x : Nat) : Int)) = ((near H H' y * W + near W W' x : Nat) : Int) := by
    rw [← Int.natCast_mul, w64n (by omega), ← Int.natCast_add, w64n (by omega)]
  rw [e, if_pos (Int.natCast_nonneg _), if_pos (by rw [hl]; exact_mod_cast hlt), rd_nat]
theorem regridImpl_ev (W H W' H' : Nat) (l : List Int) (hW : 1 ≤ W ∧ W ≤ 8) (hH : 1 ≤ H ∧ H ≤ 8) (hW' : 1 ≤ W' ∧ W' ≤ 8) (hH' : 1 ≤ H' ∧ H' ≤ 8) (hl : l.length = H * W) :
    Ev (fun k => impl_fieldBy_at_mp_mpGi64_i64_i64.f k (fun z0_ z1_ => impl_RegridNearest_1.f z0_ z1_ (W : Int) (H : Int) l (H' : Int) (W' : Int)) (W' : Int) (H' : Int)) ((W' : Int), (H' : Int), tab (H' * W') (nearCell W H W' H' l)) := by
  refine fieldBy_ev (fun _ => fun z0_ z1_ => impl_RegridNearest_1.f z0_ z1_ (W : Int) (H : Int) l (H' : Int) (W' : Int)) (nearCell W H W' H' l) W' H' hW' hH' (fun i hi => ev_const ?_)
  obtain ⟨g1, g2, g3⟩ := grid_bd hi
  have := near1_is W H W' H' l hW hH hW' hH' hl (i % W') (i / W') g1 g2
  rw [g3] at this
  exact this
theorem regridSpec_ev (W H W' H' : Nat) (l : List Int) (hW : 1 ≤ W ∧ W ≤ 8) (hH : 1 ≤ H ∧ H ≤ 8) (hW' : 1 ≤ W' ∧ W' ≤ 8) (hH' : 1 ≤ H' ∧ H' ≤ 8) (hl : l.length = H * W) :
    Ev (fun k => spec_RegridNearest.l0 k (W' : Int) (H' : Int) 0 (W : Int) (H : Int) l (W' : Int) (H' : Int) (List.replicate (H' * W') 0)) ((W' : Int), (H' : Int), tab (H' * W') (nearCell W H W' H' l), true) := by
  have h64 : H * W ≤ 64 := Nat.mul_le_mul hH.2 hW.2
  have h64' : H' * W' ≤ 64 := Nat.mul_le_mul hH'.2 hW'.2
  have h := grid_ev (fun k s y => spec_RegridNearest.l0 k (W' : Int) (H' : Int) (y : Int) (W : Int) (H : Int) l (W' : Int) (H' : Int) s) (fun k s y x => spec_RegridNearest.l1 k (W' : Int) (H' : Int) (y : Int) (x : Int) (W : Int) (H : Int) l (W' : Int) (H' : Int) s) W' H'
    (fun i (s : List Int) => s.set i (nearCell W H W' H' l i)) (fun s => ((W' : Int), (H' : Int), s, true)) (fun _ s => s.length = H' * W')
    (fun y s r hI hy h => ev_step (fun k => by
      simp only [spec_RegridNearest.l0]
      rw [if_pos (by omega)]
      rfl) h)
    (fun y x s r hI hy hx h => ?_)
    (fun y x s hI hy hx => by simpa using hI)
    (fun y s r hI hy h => ev_step (fun k => by
      simp only [spec_RegridNearest.l1]
      rw [if_neg (by omega), w64 (by omega) (by omega)]
      rfl) h)
    (fun s hI => ev_step (f := fun _ => some ((W' : Int), (H' : Int), s, true)) (fun k => by
      simp only [spec_RegridNearest.l0]
      rw [if_neg (by omega)]) (ev_some _)) (List.replicate (H' * W') 0) (by simp)
  · rw [iter_set_tab 0 _ (H' * W') _ (by simp)] at h
    exact h
  have hyx : y * W' + x < H' * W' := by
    have : (y + 1) * W' ≤ H' * W' := Nat.mul_le_mul_right W' hy
    rw [Nat.add_mul] at this
    omega
  obtain ⟨d1, d2⟩ := div_at (y := y) hx
  have e := Aside0.mk (show wrap64 (wrap64 ((y : Int) * (W' : Int)) + (x : Int)) = ((y * W' + x : Nat) : Int) by
    rw [← Int.natCast_mul, w64n (by omega), ← Int.natCast_add, w64n (by omega)])
  have ex1 := Aside0.mk (show wrap64 ((x : Int) + 1) = ((x + 1 : Nat) : Int) by rw [w64 (by omega) (by omega)]; rfl)
  have c1 : (0 : Int) ≤ ((y * W' + x : Nat) : Int) := Int.natCast_nonneg _
  have c2 : ((y * W' + x : Nat) : Int) < (s.length : Int) := by rw [hI]; exact_mod_cast hyx
  have b1 := near_bd hW.1 hx
  have b2 := near_bd hH.1 hy
  have eAt := l2At_is (W : Int) (H : Int) l W H (near W W' x) (near H H' y) rfl b1 b2 hl (by omega)
  refine ev_step (fun k => spec_RegridNearest.l1.eq_2 _ _ _ _ _ _ _ _ _ _ k) (ev_ifp (by omega) (ev_bind (l7Near_ev hW hW' hx) (ev_bind (l7Near_ev hH hH' hy) (ev_bind (ev_const eAt) ?_))))
  rw [e.out, ex1.out]
  refine ev_ifp c1 (ev_ifp c2 ?_)
  rw [Int.toNat_natCast]
  unfold nearCell at h
  simp only [d1, d2] at h
  exact h
theorem isShape_is (a b : Int) : impl_isShape.f a b = some (inb a 1 8 && inb b 1 8) := by
  unfold impl_isShape.f
  rw [within_is, within_is]
  cases inb a 1 8 <;> simp
theorem shape_nat2 {a b : Int} (h : (inb a 1 8 && inb b 1 8) = true) : ∃ W H : Nat, a = W ∧ b = H ∧ (1 ≤ W ∧ W ≤ 8) ∧ (1 ≤ H ∧ H ≤ 8) := by
  obtain ⟨⟨a1, a8⟩, b1, b8⟩ := shape_iff.1 h
  obtain ⟨W, rfl⟩ := Int.eq_ofNat_of_zero_le (show 0 ≤ a by omega)
  obtain ⟨H, rfl⟩ := Int.eq_ofNat_of_zero_le (show 0 ≤ b by omega)
  exact ⟨W, H, rfl, rfl, by omega, by omega⟩
/-- What both tell: nothing, or the new field. -/
def NearRes (a b : Int) (l : List Int) (wide high : Int) (r : Int × Int × List Int × Bool) : Prop :=
  r = (0, 0, [], false) ∨ ∃ W H W' H' : Nat, a = W ∧ b = H ∧ wide = W' ∧ high = H' ∧ ((1 ≤ W ∧ W ≤ 8) ∧ (1 ≤ H ∧ H ≤ 8) ∧ (1 ≤ W' ∧ W' ≤ 8) ∧ (1 ≤ H' ∧ H' ≤ 8)) ∧ l.length = H * W ∧ r = ((W' : Int), (H' : Int), tab (H' * W') (nearCell W H W' H' l), true) ∧ FieldIs a b l
theorem regridNearest_both (a b : Int) (l : List Int) (wide high : Int) (hl : l.length ≤ 9223372036854775806) :
    ∃ r, Ev (fun k => spec_RegridNearest.f k a b l wide high) r ∧ Ev (fun k => impl_RegridNearest.f k a b l wide high) r ∧ NearRes a b l wide high r := by
  have g1 := l2Good_ev a b l hl
  have no : Ev (fun k => spec_RegridNearest.j0 k wide high true a b l) (0, 0, ([] : List Int), false) := ev_step (fun k => spec_RegridNearest.j0.eq_2 _ _ _ _ _ _ k) (ev_ifp rfl (ev_some _))
  unfold spec_RegridNearest.f impl_RegridNearest.f
  rw [isValidField_is, isShape_is, l2Shape_is]
  simp only [Option.bind_some]
  cases hf : fieldOk a b l with
  | false =>
    rw [hf] at g1
    exact ⟨(0, 0, [], false), ev_bind g1 (ev_ifn (by simp) no), ev_ifn (by simp) (ev_some _), .inl rfl⟩
  | true =>
    rw [hf] at g1
    cases hm : (inb wide 1 8 && inb high 1 8) with
    | false => exact ⟨(0, 0, [], false), ev_bind g1 (ev_ifp rfl no), ev_ifp rfl (ev_ifn (by simp) (ev_some _)), .inl rfl⟩
    | true =>
      have fi := fieldOk_iff.1 hf
      obtain ⟨W, H, rfl, rfl, hW, hH, hlen, h64⟩ := shape_nat fi
      obtain ⟨W', H', rfl, rfl, hW', hH'⟩ := shape_nat2 hm
      have hmm : 1 ≤ (W' : Int) * H' ∧ (W' : Int) * H' ≤ 64 := mul_bd (by omega) (by omega) (by omega) (by omega)
      have hn : ((W' : Int) * H').toNat = H' * W' := by rw [← Int.natCast_mul, Int.toNat_natCast, Nat.mul_comm]
      have hfill := l2Fill_ev (W' : Int) (H' : Int) 0 hmm.1 hmm.2
      rw [hn] at hfill
      exact ⟨((W' : Int), (H' : Int), tab (H' * W') (nearCell W H W' H' l), true),
        ev_bind g1 (ev_ifp rfl (ev_step (fun k => spec_RegridNearest.j0.eq_2 _ _ _ _ _ _ k) (ev_ifn (by simp) (ev_bind hfill (regridSpec_ev W H W' H' l hW hH hW' hH' hlen))))),
        ev_ifp rfl (ev_ifp rfl (ev_bind (regridImpl_ev W H W' H' l hW hH hW' hH' hlen) (ev_some _))), .inr ⟨W, H, W', H', rfl, rfl, rfl, rfl, ⟨hW, hH, hW', hH'⟩, hlen, rfl, fi⟩⟩
end Go.Proofs.Ytmfgjknffmjjjaa.Pure
/- What the laws' helpers for lists and fields come to: a list is itself; what is in it is found. No conditions. -/
namespace Go.Proofs.Ytmfgjknffmjjjaa.Pure
set_option linter.unusedVariables false
set_option linter.unusedSimpArgs false
open Go.RowKit Go.Proofs.Ytmfgjknffmjjjaa.P Go.Proofs.YtmfgjknffmjjjaaW.PrintWords Go.Proofs.YtmfgjknffmjjjaaW.PrintLast
theorem vInts_self (l : List Int) (hl : l.length ≤ 9223372036854775806) : Ev (fun k => laws_vInts.f k l l) true := by
  have h := loop_ev (σ := Unit) (fun k _ i => laws_vInts.l0 k l l (i : Int)) l.length (fun _ _ => ()) (fun _ => true) (fun _ _ => True)
    (fun i s r _ hi h => ev_step (fun k => by
      simp only [laws_vInts.l0]
      rw [if_pos (by omega), if_pos (by omega), if_pos (by omega), if_pos trivial, w64 (by omega) (by omega)]
      rfl) h)
    (fun _ _ _ _ => trivial)
    (fun _ _ => ev_step (f := fun _ => some true) (fun k => by
      simp only [laws_vInts.l0]
      rw [if_neg (by omega)]) (ev_some _)) 0 () (Nat.zero_le _) trivial
  unfold laws_vInts.f
  exact ev_ifp rfl h
theorem vField_self (a b : Int) (l : List Int) (hl : l.length ≤ 9223372036854775806) : Ev (fun k => laws_vField.f k a b l a b l) true := by
  unfold laws_vField.f
  exact ev_ifp rfl (ev_ifp rfl (ev_bind (vInts_self l hl) (ev_some _)))
theorem vHas_yes (l : List Int) (x : Int) (hl : l.length ≤ 9223372036854775806) (j : Nat) (hj : j < l.length) (hx : l.getD j 0 = x) : Ev (fun k => laws_vHas.f k l x) true := by
  have key : ∀ d i : Nat, j - i = d → i ≤ j → Ev (fun k => laws_vHas.l0 k l x (i : Int)) true := by
    intro d
    induction d with
    | zero =>
      intro i h0 h1
      obtain rfl : i = j := by omega
      refine ev_step (f := fun _ => some true) (fun k => ?_) (ev_some _)
      simp only [laws_vHas.l0, rd_nat]
      rw [if_pos (by omega), if_pos (by omega), if_pos hx]
    | succ d ih =>
      intro i h0 h1
      by_cases e : l.getD i 0 = x
      · refine ev_step (f := fun _ => some true) (fun k => ?_) (ev_some _)
        simp only [laws_vHas.l0, rd_nat]
        rw [if_pos (by omega), if_pos (by omega), if_pos e]
      · refine ev_step (fun k => ?_) (ih (i + 1) (by omega) (by omega))
        simp only [laws_vHas.l0, rd_nat]
        rw [if_pos (by omega), if_pos (by omega), if_neg e, w64 (by omega) (by omega)]
        rfl
  exact key j 0 rfl (Nat.zero_le _)
end Go.Proofs.Ytmfgjknffmjjjaa.Pure
/- Choices that are drawn from bytes: each comes to an answer within its bounds. No conditions but that the code is short and made of bytes. -/
namespace Go.Proofs.Ytmfgjknffmjjjaa.Pure
set_option linter.unusedVariables false
set_option linter.unusedSimpArgs false
open Go Go.RowKit Go.Proofs.Ytmfgjknffmjjjaa.P Go.Proofs.YtmfgjknffmjjjaaW.PrintWords Go.Proofs.YtmfgjknffmjjjaaW.PrintLast
theorem u64_bd (x : Int) : 0 ≤ IntKind.u64.wrap x ∧ IntKind.u64.wrap x < 18446744073709551616 := by
  rw [IntKind.wrap_u64]
  omega
theorem wraps63 (n : Int) (h0 : 0 ≤ n) (h1 : n < 2 ^ 63) : IntKind.u64.wrap n = n := by
  rw [IntKind.wrap_u64]
  omega
theorem and255 (v : Int) (h0 : 0 ≤ v) (h1 : v < 18446744073709551616) : 0 ≤ Go.bits .and .u64 (v / 1099511627776) 255 ∧ Go.bits .and .u64 (v / 1099511627776) 255 ≤ 255 := by
  have h := bits_mask .u64 63 (by decide) wraps63 8 (by decide) (v / 1099511627776) (by omega) (by omega)
  have e : ((2 : Int) ^ 8 - 1) = 255 := by decide
  have e2 : ((2 : Int) ^ 8) = 256 := by decide
  rw [e, e2] at h
  rw [h]
  omega
/-- A code: bytes, not too many. -/
structure Code (l : List Int) : Prop where
  len : l.length ≤ 65536
  byte : ∀ x ∈ l, 0 ≤ x ∧ x ≤ 255
theorem Code.bd {l : List Int} (h : Code l) (i : Int) : 0 ≤ rd l i ∧ rd l i ≤ 255 := by
  unfold rd
  by_cases hi : i.toNat < l.length
  · rw [getD_eq_get 0 hi]
    exact h.byte _ (List.getElem_mem hi)
  · simp [List.getD, List.getElem?_eq_none (show l.length ≤ i.toNat by omega)]
theorem next_at {l : List Int} (hl : Code l) (i s : Int) (h0 : 0 ≤ i) (h1 : i ≤ 1000000000) : ∃ x s', spec_l1Cur_next.f l i s = some (x, i + 1, s') ∧ 0 ≤ x ∧ x ≤ 255 := by
  unfold spec_l1Cur_next.f
  have hr := hl.bd i
  have w1 : wrap64 (i + 1) = i + 1 := w64 (by omega) (by omega)
  rw [w1]
  by_cases c1 : i < (l.length : Int)
  · rw [if_pos c1, if_pos h0, if_pos (by omega)]
    exact ⟨_, _, rfl, by rw [w64 (by omega) (by omega)]; exact hr.1, by rw [w64 (by omega) (by omega)]; exact hr.2⟩
  · rw [if_neg c1, if_neg (by omega)]
    have hb := u64_bd (IntKind.u64.wrap (IntKind.u64.wrap (s * 6364136223846793005)) + 889889)
    have ha := and255 _ hb.1 hb.2
    exact ⟨_, _, rfl, by rw [w64 (by omega) (by omega)]; exact ha.1, by rw [w64 (by omega) (by omega)]; exact ha.2⟩
theorem pick_at {l : List Int} (hl : Code l) (i s n : Int) (h0 : 0 ≤ i) (h1 : i ≤ 100000000) :
    ∃ x i' s', spec_l1Cur_pick.f l i s n = some (x, i', s') ∧ 0 ≤ x ∧ (1 ≤ n → x < n) ∧ i ≤ i' ∧ i' ≤ i + 2 := by
  unfold spec_l1Cur_pick.f
  by_cases c1 : n ≤ 1
  · rw [if_pos c1]
    exact ⟨_, _, _, rfl, by omega, fun h => by omega, by omega, by omega⟩
  · rw [if_neg c1]
    obtain ⟨x, s1, e1, b1, b2⟩ := next_at hl i s h0 (by omega)
    rw [e1, Option.bind_some]
    have cn : ¬ n = 0 := by omega
    by_cases c2 : n > 200
    · rw [if_pos c2]
      obtain ⟨y, s2, e2, b3, b4⟩ := next_at hl (i + 1) s1 (by omega) (by omega)
      simp only
      rw [e2, Option.bind_some, if_neg cn]
      simp only
      rw [w64 (x := x * 256) (by omega) (by omega), w64 (by omega) (by omega), Int.tmod_eq_emod_of_nonneg (by omega)]
      exact ⟨_, _, _, rfl, Int.emod_nonneg _ cn, fun _ => Int.emod_lt_of_pos _ (by omega), by omega, by omega⟩
    · rw [if_neg c2, if_neg cn]
      simp only
      rw [Int.tmod_eq_emod_of_nonneg (by omega)]
      exact ⟨_, _, _, rfl, Int.emod_nonneg _ cn, fun _ => Int.emod_lt_of_pos _ (by omega), by omega, by omega⟩
theorem one_at {l : List Int} (hl : Code l) (i s n : Int) (h0 : 0 ≤ i) (h1 : i ≤ 100000000) : ∃ b i' s', spec_l1Cur_one.f l i s n = some (b, i', s') ∧ i ≤ i' ∧ i' ≤ i + 2 := by
  unfold spec_l1Cur_one.f
  obtain ⟨x, i', s', e, _, _, b3, b4⟩ := pick_at hl i s n h0 h1
  rw [e, Option.bind_some]
  exact ⟨_, _, _, rfl, b3, b4⟩
theorem among_at {l : List Int} (hl : Code l) (i s : Int) (xs : List Int) (hx : 1 ≤ xs.length) (h0 : 0 ≤ i) (h1 : i ≤ 100000000) :
    ∃ x i' s', spec_l1Cur_among.f l i s xs = some (x, i', s') ∧ x ∈ xs ∧ i ≤ i' ∧ i' ≤ i + 2 := by
  unfold spec_l1Cur_among.f
  obtain ⟨x, i', s', e, b1, b2, b3, b4⟩ := pick_at hl i s (xs.length : Int) h0 h1
  have b5 := b2 (by omega)
  rw [e, Option.bind_some, if_pos b1, if_pos b5]
  refine ⟨_, _, _, rfl, ?_, b3, b4⟩
  unfold rd
  simp only
  have hlt : x.toNat < xs.length := by omega
  rw [getD_eq_get 0 hlt]
  exact List.getElem_mem hlt
/-- A loop that ends: at each index it goes on with some state that is in order; behind the last it answers. -/
theorem ends_inv {σ ρ : Type} (F : Nat → σ → Nat → Option ρ) (n : Nat) (I : Nat → σ → Prop) (P : ρ → Prop)
    (hs : ∀ i s, I i s → i < n → ∃ s', I (i + 1) s' ∧ ∀ r, Ev (fun k => F k s' (i + 1)) r → Ev (fun k => F k s i) r)
    (he : ∀ s, I n s → ∃ r, Ev (fun k => F k s n) r ∧ P r) : ∀ i s, i ≤ n → I i s → ∃ r, Ev (fun k => F k s i) r ∧ P r := by
  have key : ∀ d i s, n - i = d → i ≤ n → I i s → ∃ r, Ev (fun k => F k s i) r ∧ P r := by
    intro d
    induction d with
    | zero =>
      intro i s h0 h1 h2
      obtain rfl : i = n := by omega
      exact he s h2
    | succ d ih =>
      intro i s h0 h1 h2
      obtain ⟨s', h3, h4⟩ := hs i s h2 (by omega)
      obtain ⟨r, h5, h6⟩ := ih (i + 1) s' (by omega) (by omega) h3
      exact ⟨r, h4 r h5, h6⟩
  exact fun i s h1 h2 => key (n - i) i s rfl h1 h2
end Go.Proofs.Ytmfgjknffmjjjaa.Pure
/- Fields that are drawn: there is one, and its list is short. No conditions but that the code is short and made of bytes. -/
namespace Go.Proofs.Ytmfgjknffmjjjaa.Pure
set_option linter.unusedVariables false
set_option linter.unusedSimpArgs false
open Go Go.RowKit Go.Proofs.Ytmfgjknffmjjjaa.P Go.Proofs.YtmfgjknffmjjjaaW.PrintWords Go.Proofs.YtmfgjknffmjjjaaW.PrintLast
theorem field_j1 {l : List Int} (hl : Code l) (i s : Int) (h0 : 0 ≤ i) (h1 : i ≤ 90000000) (w h : Int) (c : List Int) (hc : 1 ≤ c.length ∧ c.length ≤ 64) :
    ∃ r : Int × Int × List Int × Int × Int, Ev (fun k => spec_l1Cur_field.j1 k l i s w h c) r ∧ (1 ≤ r.2.2.1.length ∧ r.2.2.1.length ≤ 64) ∧ i ≤ r.2.2.2.1 ∧ r.2.2.2.1 ≤ i + 2 := by
  obtain ⟨b, i1, s1, e1, b1, b2⟩ := one_at hl i s 24 h0 (by omega)
  cases b with
  | true =>
    have hf := l2Fill_ev 8 8 3 (by decide) (by decide)
    refine ⟨(8, 8, List.replicate (8 * 8 : Int).toNat 3, i1, s1), ev_step (fun k => spec_l1Cur_field.j1.eq_2 _ _ _ _ _ _ k) (ev_bind (ev_const e1) (ev_ifp rfl (ev_bind hf (ev_some _)))), by simp, b1, b2⟩
  | false =>
    exact ⟨(w, h, c, i1, s1), ev_step (fun k => spec_l1Cur_field.j1.eq_2 _ _ _ _ _ _ k) (ev_bind (ev_const e1) (ev_ifn (by simp) (ev_some _))), hc, b1, b2⟩
theorem field_at {l : List Int} (hl : Code l) (i s : Int) (h0 : 0 ≤ i) (h1 : i ≤ 80000000) :
    ∃ r : Int × Int × List Int × Int × Int, Ev (fun k => spec_l1Cur_field.f k l i s) r ∧ (1 ≤ r.2.2.1.length ∧ r.2.2.1.length ≤ 64) ∧ i ≤ r.2.2.2.1 ∧ r.2.2.2.1 ≤ i + 200 := by
  obtain ⟨x1, i1, s1, e1, p1, q1, b1, b2⟩ := pick_at hl i s 5 h0 (by omega)
  obtain ⟨x2, i2, s2, e2, p2, q2, b3, b4⟩ := pick_at hl i1 s1 5 (by omega) (by omega)
  obtain ⟨x3, i3, s3, e3, _, b5, b6⟩ := among_at hl i2 s2 [0, 10, 100, (-50)] (by simp) (by omega) (by omega)
  have q1' := q1 (by omega)
  have q2' := q2 (by omega)
  obtain ⟨W, hW⟩ := Int.eq_ofNat_of_zero_le (show 0 ≤ 1 + x1 by omega)
  obtain ⟨H, hH⟩ := Int.eq_ofNat_of_zero_le (show 0 ≤ 1 + x2 by omega)
  have hm : W * H ≤ 25 := Nat.mul_le_mul (show W ≤ 5 by omega) (show H ≤ 5 by omega)
  have hm1 : 1 ≤ W * H := Nat.mul_pos (by omega) (by omega)
  have ew := Aside0.mk (show wrap64 ((W : Int) * (H : Int)) = ((W * H : Nat) : Int) by rw [← Int.natCast_mul, w64n (by omega)])
  obtain ⟨r, hr, hp⟩ := ends_inv (fun k (st : Int × Int × List Int) j => spec_l1Cur_field.l0 k x3 (j : Int) l st.1 st.2.1 (W : Int) (H : Int) st.2.2) (W * H) (fun j st => i3 ≤ st.1 ∧ st.1 ≤ i3 + 4 * (j : Int) ∧ st.2.2.length = j)
    (fun r => (1 ≤ r.2.2.1.length ∧ r.2.2.1.length ≤ 64) ∧ i ≤ r.2.2.2.1 ∧ r.2.2.2.1 ≤ i + 200)
    (fun j st hI hj => by
      obtain ⟨at_, sd, c⟩ := st
      obtain ⟨c1, c2, c3⟩ := hI
      simp only at c1 c2 c3
      obtain ⟨y, i4, s4, e4, _, _, d1, d2⟩ := pick_at hl at_ sd 40 (by omega) (by omega)
      obtain ⟨b, i5, s5, e5, d3, d4⟩ := one_at hl i4 s4 12 (by omega) (by omega)
      have ej := Aside0.mk (show wrap64 ((j : Int) + 1) = ((j + 1 : Nat) : Int) by rw [w64 (by omega) (by omega)]; rfl)
      cases b with
      | true =>
        refine ⟨(i5, s5, c ++ [(-9999)]), ⟨by simp only; omega, by simp only; omega, by simp [c3]⟩, fun r h => ev_step (fun k => ?_) h⟩
        simp only [spec_l1Cur_field.l0]
        rw [ew.out, if_pos (by omega), e4]
        simp only [Option.bind_some]
        rw [e5]
        simp only [Option.bind_some, if_true]
        rw [if_pos (by omega), ej.out]
      | false =>
        refine ⟨(i5, s5, c ++ [wrap64 (x3 + y)]), ⟨by simp only; omega, by simp only; omega, by simp [c3]⟩, fun r h => ev_step (fun k => ?_) h⟩
        simp only [spec_l1Cur_field.l0]
        rw [ew.out, if_pos (by omega), e4]
        simp only [Option.bind_some]
        rw [e5]
        simp only [Option.bind_some, Bool.false_eq_true, if_false]
        rw [if_pos (by omega), ej.out])
    (fun st hI => by
      obtain ⟨at_, sd, c⟩ := st
      obtain ⟨c1, c2, c3⟩ := hI
      simp only at c1 c2 c3
      obtain ⟨b, i4, s4, e4, d1, d2⟩ := one_at hl at_ sd 10 (by omega) (by omega)
      cases b with
      | true =>
        obtain ⟨y, i5, s5, e5, d3, d4, d5, d6⟩ := pick_at hl i4 s4 (c.length : Int) (by omega) (by omega)
        obtain ⟨z, i6, s6, e6, _, d7, d8⟩ := among_at hl i5 s5 [9000, (-9000), 0] (by simp) (by omega) (by omega)
        have d4' := d4 (by omega)
        obtain ⟨r, hr, hc, d9, d10⟩ := field_j1 hl i6 s6 (by omega) (by omega) (W : Int) (H : Int) (c.set y.toNat z) (by simp; omega)
        refine ⟨r, ev_step (fun k => ?_) hr, hc, by omega, by omega⟩
        simp only [spec_l1Cur_field.l0]
        rw [ew.out, if_neg (by omega), e4]
        simp only [Option.bind_some, if_true]
        rw [e5]
        simp only [Option.bind_some]
        rw [e6]
        simp only [Option.bind_some]
        rw [if_pos d3, if_pos d4']
      | false =>
        obtain ⟨r, hr, hc, d9, d10⟩ := field_j1 hl i4 s4 (by omega) (by omega) (W : Int) (H : Int) c (by omega)
        refine ⟨r, ev_step (fun k => ?_) hr, hc, by omega, by omega⟩
        simp only [spec_l1Cur_field.l0]
        rw [ew.out, if_neg (by omega), e4]
        simp only [Option.bind_some, Bool.false_eq_true, if_false]) 0 (i3, s3, []) (Nat.zero_le _) ⟨by simp only; omega, by simp only; omega, rfl⟩
  refine ⟨r, ?_, hp⟩
  unfold spec_l1Cur_field.f
  refine ev_bind (ev_const e1) (ev_bind (ev_const e2) (ev_bind (ev_const e3) ?_))
  simp only
  rw [w64 (x := 1 + x1) (by omega) (by omega), w64 (x := 1 + x2) (by omega) (by omega), hW, hH]
  exact hr
theorem anyField_at {l : List Int} (hl : Code l) (i s : Int) (h0 : 0 ≤ i) (h1 : i ≤ 70000000) :
    ∃ r : Int × Int × List Int × Int × Int, Ev (fun k => spec_l1Cur_anyField.f k l i s) r ∧ r.2.2.1.length ≤ 64 ∧ i ≤ r.2.2.2.1 ∧ r.2.2.2.1 ≤ i + 300 := by
  obtain ⟨⟨w, h, c, i1, s1⟩, hr, hc, b1, b2⟩ := field_at hl i s h0 (by omega)
  simp only at hc b1 b2
  obtain ⟨x, i2, s2, e2, _, _, b3, b4⟩ := pick_at hl i1 s1 24 (by omega) (by omega)
  unfold spec_l1Cur_anyField.f
  by_cases c0 : x = 0
  · obtain ⟨y, i3, s3, e3, _, b5, b6⟩ := among_at hl i2 s2 [0, 9, 8, h] (by simp) (by omega) (by omega)
    exact ⟨(y, h, c, i3, s3), ev_bind hr (ev_bind (ev_const e2) (ev_ifp c0 (ev_bind (ev_const e3) (ev_some _)))), by simp only; omega, by simp only; omega, by simp only; omega⟩
  · by_cases c1 : x = 1
    · obtain ⟨y, i3, s3, e3, p3, q3, b5, b6⟩ := pick_at hl i2 s2 (c.length : Int) (by omega) (by omega)
      obtain ⟨z, i4, s4, e4, _, b7, b8⟩ := among_at hl i3 s3 [9001, (-9001), (-9998), (-9999)] (by simp) (by omega) (by omega)
      exact ⟨(w, h, c.set y.toNat z, i4, s4), ev_bind hr (ev_bind (ev_const e2) (ev_ifn c0 (ev_ifp c1 (ev_bind (ev_const e3) (ev_bind (ev_const e4) (ev_ifp p3 (ev_ifp (q3 (by omega)) (ev_some _)))))))), by simp; omega, by simp only; omega, by simp only; omega⟩
    · by_cases c2 : x = 2
      · exact ⟨(w, h, c.drop (1 : Int).toNat, i2, s2), ev_bind hr (ev_bind (ev_const e2) (ev_ifn c0 (ev_ifn c1 (ev_ifp c2 (ev_ifp (by simp only; omega) (ev_some _)))))), by simp; omega, by simp only; omega, by simp only; omega⟩
      · exact ⟨(w, h, c, i2, s2), ev_bind hr (ev_bind (ev_const e2) (ev_ifn c0 (ev_ifn c1 (ev_ifn c2 (ev_some _))))), by simp only; omega, by simp only; omega, by simp only; omega⟩
end Go.Proofs.Ytmfgjknffmjjjaa.Pure
/- The law FnNearest: overlaps add up to a column's units, and a nearest regrid to the own shape changes nothing; no conditions. -/
namespace Go.Proofs.Ytmfgjknffmjjjaa.Pure
set_option linter.unusedVariables false
set_option linter.unusedSimpArgs false
open Go Go.RowKit Go.Proofs.Ytmfgjknffmjjjaa.P Go.Proofs.YtmfgjknffmjjjaaW.PrintWords Go.Proofs.YtmfgjknffmjjjaaW.PrintLast
theorem code_of {l : List Int} (hl : l.length ≤ 9223372036854775807 ∧ ∀ z ∈ l, (Lit.int .u8 z).wf = true) (h : l.length ≤ 65536) : Code l :=
  ⟨h, fun x hx => by
    have := hl.2 x hx
    simp [Lit.wf, IntKind.min, IntKind.max, IntKind.signed, IntKind.bits] at this
    omega⟩
theorem drawOverlap_at {l : List Int} (hl : Code l) : ∃ a c i k : Int, spec_DrawOverlapUnits.f l = some (a, c, i, k) ∧ (0 ≤ a ∧ a ≤ 9) ∧ (0 ≤ c ∧ c ≤ 9) := by
  obtain ⟨x1, i1, s1, e1, p1, q1, b1, b2⟩ := pick_at hl 0 0 10 (by omega) (by omega)
  obtain ⟨x2, i2, s2, e2, p2, q2, b3, b4⟩ := pick_at hl i1 s1 10 (by omega) (by omega)
  obtain ⟨x3, i3, s3, e3, p3, q3, b5, b6⟩ := pick_at hl i2 s2 8 (by omega) (by omega)
  obtain ⟨x4, i4, s4, e4, p4, q4, b7, b8⟩ := pick_at hl i3 s3 9 (by omega) (by omega)
  obtain ⟨x5, i5, s5, e5, p5, q5, b9, b10⟩ := pick_at hl i4 s4 8 (by omega) (by omega)
  have q1' := q1 (by omega)
  have q2' := q2 (by omega)
  unfold spec_DrawOverlapUnits.f
  rw [e1]; simp only [Option.bind_some]
  rw [e2]; simp only [Option.bind_some]
  rw [e3]; simp only [Option.bind_some]
  rw [e4]; simp only [Option.bind_some]
  rw [e5]; simp only [Option.bind_some]
  exact ⟨_, _, _, _, rfl, by omega, by omega⟩
theorem drawRegrid_at {l : List Int} (hl : Code l) : ∃ r : Int × Int × List Int × Int × Int, Ev (fun k => spec_DrawRegridNearest.f k l) r ∧ r.2.2.1.length ≤ 64 := by
  obtain ⟨⟨w, h, c, i1, s1⟩, hr, hc, b1, b2⟩ := anyField_at hl 0 0 (by omega) (by omega)
  simp only at hc b1 b2
  obtain ⟨x1, i2, s2, e1, p1, q1, b3, b4⟩ := pick_at hl i1 s1 9 (by omega) (by omega)
  obtain ⟨x2, i3, s3, e2, p2, q2, b5, b6⟩ := pick_at hl i2 s2 9 (by omega) (by omega)
  exact ⟨(w, h, c, x1, wrap64 (1 + x2)), ev_bind hr (ev_bind (ev_const e1) (ev_bind (ev_const e2) (ev_some _))), hc⟩
theorem near_same (W H : Nat) (c : List Int) (hW : 1 ≤ W ∧ W ≤ 8) (hH : 1 ≤ H ∧ H ≤ 8) (hlen : c.length = H * W) (fi : FieldIs (W : Int) (H : Int) c) :
    Ev (fun k => impl_RegridNearest.f k (W : Int) (H : Int) c (W : Int) (H : Int)) ((W : Int), (H : Int), c, true) := by
  have e1 := regridImpl_ev W H W H c hW hH hW hH hlen
  have e2 : tab (H * W) (nearCell W H W H c) = c := by
    rw [← hlen]
    refine (tab_congr (fun i hi => ?_)).trans (tab_of c 0)
    rw [hlen] at hi
    obtain ⟨_, _, g3⟩ := grid_bd hi
    unfold nearCell
    rw [near_self hW.1, near_self hH.1, g3]
  rw [e2] at e1
  unfold impl_RegridNearest.f
  rw [isValidField_is, isShape_is, fieldOk_iff.2 fi, shape_iff.2 ⟨by omega, by omega⟩]
  exact ev_bind (ev_some _) (ev_ifp rfl (ev_bind (ev_some _) (ev_ifp rfl (ev_bind e1 (ev_some _)))))
theorem nearest_l1 (W H W' H' : Nat) (c : List Int) (hW : 1 ≤ W ∧ W ≤ 8) (hH : 1 ≤ H ∧ H ≤ 8) (hW' : 1 ≤ W' ∧ W' ≤ 8) (hH' : 1 ≤ H' ∧ H' ≤ 8) (hlen : c.length = H * W) :
    Ev (fun k => laws_FnNearest.l1 k true 0 (W : Int) (H : Int) c (W' : Int) (H' : Int) (tab (H' * W') (nearCell W H W' H' c)) (W : Int) (H : Int) c) true := by
  have h64 : H * W ≤ 64 := Nat.mul_le_mul hH.2 hW.2
  have h64' : H' * W' ≤ 64 := Nat.mul_le_mul hH'.2 hW'.2
  refine loop_ev (σ := Unit) (fun k _ i => laws_FnNearest.l1 k true (i : Int) (W : Int) (H : Int) c (W' : Int) (H' : Int) (tab (H' * W') (nearCell W H W' H' c)) (W : Int) (H : Int) c) (H' * W') (fun _ _ => ()) (fun _ => true) (fun _ _ => True)
    (fun i s r _ hi h => ?_)
    (fun _ _ _ _ => trivial)
    (fun _ _ => ?_) 0 () (Nat.zero_le _) trivial
  · obtain ⟨g1, g2, g3⟩ := grid_bd hi
    have n1 := near_bd hW.1 g1
    have n2 := near_bd hH.1 g2
    have hj : near H H' (i / W') * W + near W W' (i % W') < c.length := by
      have : (near H H' (i / W') + 1) * W ≤ H * W := Nat.mul_le_mul_right W n2
      rw [Nat.add_mul] at this
      omega
    have hv := vHas_yes c ((tab (H' * W') (nearCell W H W' H' c)).getD i 0) (by omega) _ hj (by rw [tab_getD _ _ 0 hi]; rfl)
    have e1 := Aside0.mk (show wrap64 ((i : Int) + 1) = ((i + 1 : Nat) : Int) by rw [w64 (by omega) (by omega)]; rfl)
    have c1 : (i : Int) < ((tab (H' * W') (nearCell W H W' H' c)).length : Int) := by rw [tab_length]; exact_mod_cast hi
    refine ev_step (fun k => laws_FnNearest.l1.eq_2 _ _ _ _ _ _ _ _ _ _ _ k) (ev_ifp c1 (ev_ifp (Int.natCast_nonneg i) ?_))
    rw [rd_nat, e1.out]
    exact ev_bind hv (ev_ifp rfl h)
  · refine ev_step (fun k => laws_FnNearest.l1.eq_2 _ _ _ _ _ _ _ _ _ _ _ k) (ev_ifn (by rw [tab_length]; omega) (ev_ifp rfl (ev_bind (vField_self (W : Int) (H : Int) c (by omega)) (ev_some _))))
theorem nearest_j2 {l : List Int} (hl : Code l) : Ev (fun k => laws_FnNearest.j2 k l) true := by
  obtain ⟨⟨a, b, c, wide, high⟩, hd, hc⟩ := drawRegrid_at hl
  simp only at hc
  obtain ⟨⟨ra, rb, rc, rok⟩, hs, hi, hres⟩ := regridNearest_both a b c wide high (by omega)
  refine ev_step (fun k => laws_FnNearest.j2.eq_2 _ k) (ev_bind hd (ev_bind hi (ev_bind hs ?_)))
  rcases hres with h | ⟨W, H, W', H', rfl, rfl, rfl, rfl, ⟨hW, hH, hW', hH'⟩, hlen, h, fi⟩
  · simp only [Prod.mk.injEq] at h
    obtain ⟨rfl, rfl, rfl, rfl⟩ := h
    exact ev_ifn (by simp) (ev_bind (vField_self 0 0 [] (by simp)) (ev_step (fun k => laws_FnNearest.j3.eq_2 _ _ _ _ _ _ _ _ k) (ev_ifn (by simp) (ev_ifn (by simp) (ev_some _)))))
  · simp only [Prod.mk.injEq] at h
    obtain ⟨rfl, rfl, rfl, rfl⟩ := h
    have h64' : H' * W' ≤ 64 := Nat.mul_le_mul hH'.2 hW'.2
    refine ev_ifn (by simp) (ev_bind (vField_self (W' : Int) (H' : Int) _ (by rw [tab_length]; omega)) (ev_step (fun k => laws_FnNearest.j3.eq_2 _ _ _ _ _ _ _ _ k) (ev_ifn (by simp) (ev_ifp rfl ?_))))
    exact ev_bind (near_same W H c hW hH hlen fi) (nearest_l1 W H W' H' c hW hH hW' hH' hlen)
theorem FnNearest : laws_FnNearest.Pure := by
  intro l hl _
  refine Ev.rounds ?_
  unfold laws_FnNearest.f laws_vBig.f
  refine ev_bind (ev_some _) ?_
  by_cases hb : (l.length : Int) > 65536
  · exact ev_ifp (decide_eq_true hb) (ev_some _)
  refine ev_ifn (by simp only [decide_eq_true_eq]; exact hb) ?_
  have hc := code_of hl (by omega)
  obtain ⟨a, c, i, k, ed, ha, hcc⟩ := drawOverlap_at hc
  obtain ⟨o1, o2⟩ := overlapUnits_both a c i k (by omega) (by omega)
  refine ev_bind (ev_const ed) (ev_bind (ev_const o1) (ev_bind (ev_const o2) (ev_ifp rfl ?_)))
  refine ev_step (fun K => laws_FnNearest.j0.eq_2 _ _ _ _ _ _ _ _ K) (ev_ifn (by simp) ?_)
  cases hok : ovOk a c i k with
  | false => exact ev_ifn (by simp) (nearest_j2 hc)
  | true =>
    refine ev_ifp (by simp) ?_
    simp only [if_true]
    obtain ⟨⟨a18, c18⟩, hi, hk⟩ := ovOk_iff.1 hok
    obtain ⟨C, rfl⟩ := Int.eq_ofNat_of_zero_le (show 0 ≤ c by omega)
    have hcov : ∀ m : Int, 0 ≤ m → m ≤ (C : Int) → -1 ≤ cover a (C : Int) i m ∧ cover a (C : Int) i m ≤ 100 := by
      intro m h0 h1
      unfold cover
      have e2 : (i + 1) * (C : Int) = i * (C : Int) + C := by rw [Int.add_mul, Int.one_mul]
      rw [e2]
      generalize m * a = A
      generalize i * (C : Int) = B
      omega
    have hloop := loop_ev (fun K (s : Int) m => laws_FnNearest.l0 K l a (C : Int) i k (ov a (C : Int) i k) s (m : Int)) C (fun m s => s + ov a (C : Int) i (m : Int)) (fun _ => true) (fun m s => s = cover a (C : Int) i (m : Int))
      (fun m s r hI hm h => ?_)
      (fun m s hI hm => by
        show s + ov a (C : Int) i (m : Int) = cover a (C : Int) i ((m + 1 : Nat) : Int)
        rw [hI, show ((m + 1 : Nat) : Int) = (m : Int) + 1 by omega, cover_step (by omega) (by omega)])
      (fun s hI => ?_) 0 0 (Nat.zero_le _) (by
        show (0 : Int) = cover a (C : Int) i ((0 : Nat) : Int)
        rw [show ((0 : Nat) : Int) = 0 from rfl, cover_zero (by omega) hi.1])
    · exact hloop
    · obtain ⟨u1, _⟩ := overlapUnits_both a (C : Int) i (m : Int) (by omega) (by omega)
      have okm : ovOk a (C : Int) i (m : Int) = true := ovOk_iff.2 ⟨⟨a18, c18⟩, hi, by omega, by omega⟩
      rw [okm, if_pos rfl] at u1
      have b1 := hcov (m : Int) (by omega) (by omega)
      have b2 := hcov ((m : Int) + 1) (by omega) (by omega)
      have b3 := cover_step (a := a) (c := (C : Int)) (i := i) (m := (m : Int)) (by omega) (by omega)
      refine ev_step (fun K => ?_) h
      simp only [laws_FnNearest.l0]
      rw [if_pos (by omega), u1]
      simp only [Option.bind_some, if_true]
      rw [w64 (x := s + ov a (C : Int) i (m : Int)) (by omega) (by omega), w64 (x := (m : Int) + 1) (by omega) (by omega)]
      rfl
    · rw [cover_all (by omega) hi] at hI
      obtain ⟨u1, _⟩ := overlapUnits_both (C : Int) a k i (by omega) (by omega)
      have okm : ovOk (C : Int) a k i = true := ovOk_iff.2 ⟨⟨c18, a18⟩, hk, hi⟩
      rw [okm, if_pos rfl, ← ov_comm] at u1
      refine ev_step (f := fun K => laws_FnNearest.j2 K l) (fun K => ?_) (nearest_j2 hc)
      simp only [laws_FnNearest.l0]
      rw [if_neg (by omega), u1]
      simp only [Option.bind_some, if_true]
      rw [if_pos hI]
end Go.Proofs.Ytmfgjknffmjjjaa.Pure
/- The law FnNearest answers true whatever its arguments are; no conditions. (Written by mp.py out of the plain law and the walk.) -/
namespace Go.Proofs.Ytmfgjknffmjjjaa.fnNearest
open Go.ChangeShapes Go.WideShapes Go.ChangeAt Go.RowKit Go.Proofs.Ytmfgjknffmjjjaa.Open Go.Proofs.Ytmfgjknffmjjjaa.P Go.Proofs.YtmfgjknffmjjjaaW.PrintWords
open Go.ChangeMaps (open_string shut_string)
set_option linter.unusedVariables false
theorem own : ownKnob Try.prog.godebug = none := by kernel_rfl
theorem laidOut : laidOutB Try.prog = true := by kernel_rfl
set_option maxRecDepth 100000 in
theorem lifted (os : Os) (started : os.Started) (H : Type) (enc : TypeId × Value → H) :
    ReturnsInHanded {} Try.checked os 12 .any (Rows.fnNearestSpec.pre6 enc Try.prog Try.f12 Rows.fnNearestRow.domain false) (Rows.fnNearestSpec.post enc Try.prog Try.f12 false true false false) := by
  refine returnsInHanded_of_change_sized (C := Try.checked) own started (by kernel_rfl) Try.func12
    (ChangeSpec.witness6 (enc := enc) (C := Try.checked) false ⟨#[], #[.slice none 0 0], []⟩ 8 (by kernel_rfl) (by kernel_rfl) (by kernel_rfl) (by kernel_rfl)) ?_
  intro W base args ds gs before hval0 hW hcnd hsz0 _
  have hsz : (DataW.weightsEach Try.prog (Try.f12.params.toList ++ Rows.fnNearestSpec.plain.varTypes Try.prog) (ds ++ gs)).all (· ≤ reachBytes) = true := hsz0
  have hval : ∀ (j : Nat) t v, Try.f12.params[j]? = some t → args[j]? = some v → Value.okWide Try.prog W .any base t v := hval0
  have hW' := hW
  obtain ⟨p, q, hA0, hV, rfl, hfz, hnd⟩ := hW
  have hA : DataW.TrodAll enc Try.prog W 0 (fun _ => true) true Try.f12.params.toList args.toList ds p := hA0
  rw [Try.params12] at hA hval hsz
  obtain ⟨v0, vs0, d0, ds0, p0, q0, hargs, rfl, rfl, h0, r0⟩ := trodAll_cons hA
  obtain ⟨rfl, rfl, rfl⟩ := trodAll_nil r0
  obtain rfl : args = #[v0] := by cases args; simp_all
  obtain ⟨rfl, rfl⟩ := trodVars_none hV
  obtain ⟨A0, len0, c0, rfl⟩ := okWide_slice Try.underlying92 (hval 0 92 v0 rfl rfl)
  have k0 := h0
  have lt0 : ∀ x ∈ p0, x.block < W.heap.size := by obtain ⟨m, hm⟩ := k0; exact DataW.trod_lt m _ _ _ hm
  have y0 : len0 * 1 ≤ 140737488351232 := sized_any hsz (j := 0) (t := 92) rfl rfl Try.underlying92 (by kernel_rfl) h0
  obtain ⟨l0, rfl, hc0, hr0, w0⟩ := slice_at (opens_slice Try.underlying92 (by kernel_rfl) (opens_int Try.underlying5)) h0
  clear hA0 hval0 hsz0 hsz
  obtain ⟨k, hp⟩ := Pure.FnNearest l0 w0 y0
  refine (laws_FnNearest.calls k A0 c0 l0 true W hr0 hc0 hp).mono fun e W' ⟨he, bel0⟩ => ?_
  have bel : Below W.heap.size W W' := bel0
  subst he
  exact ⟨_, rfl, _, _, _, [], _, [], hW', trodAll_mk1 (shut_bool Try.underlying4 _), (trodAll_cons_mk (Below.trod laidOut (by kernel_rfl) (of_decide_eq_true (by kernel_rfl)) k0 bel lt0) trodAll_mk0), rfl, bel.frame _, fun h => by cases h⟩
theorem over : Rows.fnNearestRow.holds Try.pinned (OpenSpec.ofChange Rows.fnNearestSpec) :=
  OpenClaim.holds_of_wide 12 Try.f12 rfl rfl rfl rfl rfl rfl rfl ⟨rfl, rfl, rfl, rfl, rfl⟩ rfl rfl rfl rfl rfl (by kernel_rfl) Try.func12 (by kernel_rfl)
    (of_decide_eq_true (by kernel_rfl)) (by unfold Func.isWrapper; first | (rw [if_pos (by decide +kernel)]; kernel_rfl) | (rw [if_neg (by decide +kernel)]; exact ⟨rfl, rfl⟩))
    (fun os started H enc _ => lifted os started H enc)
theorem proved : Rows.FnNearestSaid := over
#print axioms proved
end Go.Proofs.Ytmfgjknffmjjjaa.fnNearest
namespace Go.Proofs.Ytmfgjknffmjjjaa
/-- The row, under a short name, for the claim. -/
theorem fnNearest_holds : Rows.FnNearestSaid := fnNearest.proved
end Go.Proofs.Ytmfgjknffmjjjaa
