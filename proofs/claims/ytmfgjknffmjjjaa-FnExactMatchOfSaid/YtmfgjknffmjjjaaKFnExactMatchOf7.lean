/- Texts of the claim FnExactMatchOf, merged: part 7 of 7: the program's and the reference's functions as Lean functions, the walks that show it, and plain lemmas; no conditions. -/
import Derived.Test.YtmfgjknffmjjjaaKFnExactMatchOf1
import Derived.Test.YtmfgjknffmjjjaaKFnExactMatchOf2
import Derived.Test.YtmfgjknffmjjjaaKFnExactMatchOf6
import Derived.Test.YtmfgjknffmjjjaaKFnExactMatchOf5
import Derived.Test.YtmfgjknffmjjjaaKFnExactMatchOf4
import Derived.Test.YtmfgjknffmjjjaaRows
import Derived.WalkKit
import Derived.ProofKit
import Derived.OpenShut
import Derived.ShutString
import Derived.ChangeOld
import Derived.Below
import Derived.SizedLaws
namespace Go.Proofs.Ytmfgjknffmjjjaa.P
open Go.RowKit Go.Proofs.YtmfgjknffmjjjaaW.PrintWords Go.Proofs.YtmfgjknffmjjjaaW.PrintLast Go.Proofs.YtmfgjknffmjjjaaW.PrintMore
attribute [local go_sem] max2_int min2_int max_two min_two max_three min_three max_four min_four   -- for this text's walks alone
set_option linter.unusedVariables false
set_option linter.unusedSimpArgs false

/-! ### spec_MoveField: function 27 -/
def spec_MoveField.f (k : Nat) (a0_0 : Int) (a0_1 : Int) (l0_2 : List Int) (a1_0 : Int) (a1_1 : Int) : Option (Int × Int × List Int × Bool) := (spec_l2Good.f k a0_0 a0_1 l0_2).bind fun t104 => (if t104 = true then ((spec_l11Good.f a1_0 a1_1).bind fun t105 => (if t105 = true then ((spec_l11Move.f k a0_0 a0_1 l0_2 a1_0 a1_1).bind fun bt106 => (some (bt106.1, bt106.2.1, bt106.2.2, true))) else (some (0, 0, ([] : List Int), false)))) else (some (0, 0, ([] : List Int), false)))

set_option maxHeartbeats 8000000 in
set_option maxRecDepth 100000 in
theorem spec_MoveField.calls (k : Nat) (a0_0 : Int) (a0_1 : Int) (A0_2 : Option Addr) (c0_2 : Nat) (l0_2 : List Int) (a1_0 : Int) (a1_1 : Int) (r1 : Int) (r2 : Int) (r3 : List Int) (r4 : Bool) (w : World) (hr0_2 : Kd.C (Kd.int .i64) w A0_2 l0_2.length l0_2) (hc0_2 : l0_2.length ≤ c0_2) (h : spec_MoveField.f k a0_0 a0_1 l0_2 a1_0 a1_1 = some (r1, r2, r3, r4)) :
  Calls Try.prog 27 #[.agg #[.int .i64 a0_0, .int .i64 a0_1, .slice A0_2 l0_2.length c0_2], .agg #[.int .i64 a1_0, .int .i64 a1_1]] w fun e w' => ∃ v2_ : Value, e = .returned (.tuple #[.agg #[.int .i64 r1, .int .i64 r2, v2_], .bool r4]) ∧ Kd.R (Kd.int .i64) 3 w' w.heap.size (fun _ => True) v2_ r3 ∧ Below w.heap.size w w' := by
 have hu42 := Try.underlying42
 have hu46 := Try.underlying46
 have HR0_2 := Aside0.mk hr0_2
 have HC0_2 := Aside0.mk hc0_2
 clear hr0_2 hc0_2
 have HB := aK (Below.refl w.heap.size w)
 have H : ((spec_l2Good.f k a0_0 a0_1 l0_2).bind fun t104 => (if t104 = true then ((spec_l11Good.f a1_0 a1_1).bind fun t105 => (if t105 = true then ((spec_l11Move.f k a0_0 a0_1 l0_2 a1_0 a1_1).bind fun bt106 => (some (bt106.1, bt106.2.1, bt106.2.2, true))) else (some (0, 0, ([] : List Int), false)))) else (some (0, 0, ([] : List Int), false)))) = some (r1, r2, r3, r4) := h
 clear h
 replace H := Option.bind_eq_some_iff.mp H
 obtain ⟨t104, A30, H⟩ := H
 replace H : (if t104 = true then ((spec_l11Good.f a1_0 a1_1).bind fun t105 => (if t105 = true then ((spec_l11Move.f k a0_0 a0_1 l0_2 a1_0 a1_1).bind fun bt106 => (some (bt106.1, bt106.2.1, bt106.2.2, true))) else (some (0, 0, ([] : List Int), false)))) else (some (0, 0, ([] : List Int), false))) = some (r1, r2, r3, r4) := H
 have A3 := Aside0.mk A30
 clear A30
 by_cases c4 : t104 = true
 ·
  subst c4
  have H1 : ((spec_l11Good.f a1_0 a1_1).bind fun t105 => (if t105 = true then ((spec_l11Move.f k a0_0 a0_1 l0_2 a1_0 a1_1).bind fun bt106 => (some (bt106.1, bt106.2.1, bt106.2.2, true))) else (some (0, 0, ([] : List Int), false)))) = some (r1, r2, r3, r4) := by rw [if_pos rfl] at H; exact H
  clear H
  have H := H1
  clear H1
  replace H := Option.bind_eq_some_iff.mp H
  obtain ⟨t105, A50, H⟩ := H
  replace H : (if t105 = true then ((spec_l11Move.f k a0_0 a0_1 l0_2 a1_0 a1_1).bind fun bt106 => (some (bt106.1, bt106.2.1, bt106.2.2, true))) else (some (0, 0, ([] : List Int), false))) = some (r1, r2, r3, r4) := H
  have A5 := Aside0.mk A50
  clear A50
  by_cases c6 : t105 = true
  ·
   subst c6
   have H1 : ((spec_l11Move.f k a0_0 a0_1 l0_2 a1_0 a1_1).bind fun bt106 => (some (bt106.1, bt106.2.1, bt106.2.2, true))) = some (r1, r2, r3, r4) := by rw [if_pos rfl] at H; exact H
   clear H
   have H := H1
   clear H1
   replace H := Option.bind_eq_some_iff.mp H
   obtain ⟨⟨t106, t107, t108⟩, A70, H⟩ := H
   replace H : (some (t106, t107, t108, true)) = some (r1, r2, r3, r4) := H
   have A7 := Aside0.mk A70
   clear A70
   simp only [Option.some.injEq, Prod.mk.injEq] at H
   obtain ⟨rfl, rfl, rfl, rfl⟩ := H
   go_enter Try.func27, Try.ntmps27
   go_wp2_with (first | ((with_reducible refine gate_dst (N := 2) rfl ?_); refine box_event ?hg (N := 2) ?hd (cs := #[.int .i64 a0_0, .int .i64 a0_1, .slice A0_2 l0_2.length c0_2]) (t := 42) ?hr ?_; (case hd => rfl); (case hg => rfl); (case hr => first | (go_simp; done) | (go_simp; rfl)); intro gb101 hg w8 hbox hb; have BK101 := aK (hbox); have GW101 := aK (gE hg (pS HB.out)); have GE101 := aK (gE hg (pS HB.out)); replace HB := bS HB hb; clear hb hbox hg) | ((with_reducible refine gate_dst (N := 3) rfl ?_); refine box_event ?hg (N := 3) ?hd (cs := #[.int .i64 a1_0, .int .i64 a1_1]) (t := 46) ?hr ?_; (case hd => rfl); (case hg => rfl); (case hr => first | (go_simp; done) | (go_simp; rfl)); intro gb102 hg w9 hbox hb; have BK102 := aK (hbox); have GW102 := aK (gE hg (pS HB.out)); have GE102 := aK (gE hg (pS HB.out)); have NB101_102 := aK (nL hg (pB BK101.out)); have NB102_101 := aK (nG hg (pB BK101.out)); replace BK101 := bB BK101 hb; replace HB := bS HB hb; clear hb hbox hg) | ((with_reducible refine gate_dst (N := 4) rfl ?_); refine box_event ?hg (N := 4) ?hd (cs := #[.int .i64 0, .int .i64 0, .slice none 0 0]) (t := 42) ?hr ?_; (case hd => rfl); (case hg => rfl); (case hr => first | (go_simp; done) | (go_simp; rfl)); intro gb103 hg w10 hbox hb; have BK103 := aK (hbox); have GW103 := aK (gE hg (pS HB.out)); have GE103 := aK (gE hg (pS HB.out)); have NB101_103 := aK (nL hg (pB BK101.out)); have NB103_101 := aK (nG hg (pB BK101.out)); have NB102_103 := aK (nL hg (pB BK102.out)); have NB103_102 := aK (nG hg (pB BK102.out)); replace BK101 := bB BK101 hb; replace BK102 := bB BK102 hb; replace HB := bS HB hb; clear hb hbox hg; have hnb11 := NB101_102.out; have hnc11 := NB102_101.out; have hnb12 := NB101_103.out; have hnc12 := NB103_101.out; have hcz13_0 : w10.cell? ⟨gb101, 0, none⟩ = some (.int .i64 a0_0) := (blk_cell BK101.out 0).trans rfl; have hcz13_1 : w10.cell? ⟨gb101, 1, none⟩ = some (.int .i64 a0_1) := (blk_cell BK101.out 1).trans rfl; have hcz13_2 : w10.cell? ⟨gb101, 2, none⟩ = some (.slice A0_2 l0_2.length c0_2) := (blk_cell BK101.out 2).trans rfl; have hfz13_0 := blk_frozen BK101.out 0; have hfz13_1 := blk_frozen BK101.out 1; have hfz13_2 := blk_frozen BK101.out 2) | ((with_reducible refine gate_callee (f := 93) rfl ?_); refine goesL_ (some 7) rfl rfl Try.func93 (by kernel_rfl) rfl #[.agg #[.int .i64 a0_0, .int .i64 a0_1, .slice A0_2 l0_2.length c0_2]] rfl (by (try simp only [List.map_toArray, List.map_cons, List.map_nil]); first | done | rfl | (simp only [List.length_drop, List.length_take]; rfl)) ?_; (with_reducible refine (spec_l2Good.calls k a0_0 a0_1 _ _ l0_2 true _ ?side1 ?side2 A3.out).mono ?_); (case side1 => repeat (first | exact (Kd.C_below HR0_2.out HB.out) | (with_reducible refine Kd.C_alloc ?_ _) | (with_reducible refine Kd.C_drewN ?_ _) | (with_reducible refine Kd.C_drew ?_))); (case side2 => exact HC0_2.out); rintro e w14 ⟨rfl, hb⟩; refine ⟨_, rfl, ?_⟩; replace BK101 := bB BK101 hb; replace BK102 := bB BK102 hb; replace BK103 := bB BK103 hb; replace HB := bS HB hb; (try clear hb); (try clear hb2); (try clear hk); (try clear hi); have hnb15 := NB102_103.out; have hnc15 := NB103_102.out; have hcz16_0 : w14.cell? ⟨gb102, 0, none⟩ = some (.int .i64 a1_0) := (blk_cell BK102.out 0).trans rfl; have hcz16_1 : w14.cell? ⟨gb102, 1, none⟩ = some (.int .i64 a1_1) := (blk_cell BK102.out 1).trans rfl; have hfz16_0 := blk_frozen BK102.out 0; have hfz16_1 := blk_frozen BK102.out 1) | (go_at_call 94; (with_reducible refine (spec_l11Good.calls a1_0 a1_1 true _ A5.out).mono ?_); rintro e w17 ⟨rfl, hb⟩; replace BK101 := bB BK101 hb; replace BK102 := bB BK102 hb; replace BK103 := bB BK103 hb; replace HB := bS HB hb; (try clear hb); (try clear hb2); (try clear hk); (try clear hi); have hcz18_0 : w17.cell? ⟨gb101, 0, none⟩ = some (.int .i64 a0_0) := (blk_cell BK101.out 0).trans rfl; have hcz18_1 : w17.cell? ⟨gb101, 1, none⟩ = some (.int .i64 a0_1) := (blk_cell BK101.out 1).trans rfl; have hcz18_2 : w17.cell? ⟨gb101, 2, none⟩ = some (.slice A0_2 l0_2.length c0_2) := (blk_cell BK101.out 2).trans rfl; have hfz18_0 := blk_frozen BK101.out 0; have hfz18_1 := blk_frozen BK101.out 1; have hfz18_2 := blk_frozen BK101.out 2; have hcz19_0 : w17.cell? ⟨gb102, 0, none⟩ = some (.int .i64 a1_0) := (blk_cell BK102.out 0).trans rfl; have hcz19_1 : w17.cell? ⟨gb102, 1, none⟩ = some (.int .i64 a1_1) := (blk_cell BK102.out 1).trans rfl; have hfz19_0 := blk_frozen BK102.out 0; have hfz19_1 := blk_frozen BK102.out 1) | ((with_reducible refine gate_callee (f := 95) rfl ?_); refine goesL_ (some 17) rfl rfl Try.func95 (by kernel_rfl) rfl #[.agg #[.int .i64 a0_0, .int .i64 a0_1, .slice A0_2 l0_2.length c0_2], .agg #[.int .i64 a1_0, .int .i64 a1_1]] rfl (by (try simp only [List.map_toArray, List.map_cons, List.map_nil]); first | done | rfl | (simp only [List.length_drop, List.length_take]; rfl)) ?_; (with_reducible refine (spec_l11Move.calls k a0_0 a0_1 _ _ l0_2 a1_0 a1_1 t106 t107 t108 _ ?side1 ?side2 A7.out).mono ?_); (case side1 => repeat (first | exact (Kd.C_below HR0_2.out HB.out) | (with_reducible refine Kd.C_alloc ?_ _) | (with_reducible refine Kd.C_drewN ?_ _) | (with_reducible refine Kd.C_drew ?_))); (case side2 => exact HC0_2.out); rintro e w20 ⟨v109, rfl, ho0, hb⟩; refine ⟨_, rfl, ?_⟩; have HO110 := aK (Kd.R_lower ho0 (below_size (pS HB.out))); replace BK101 := bB BK101 hb; replace BK102 := bB BK102 hb; replace BK103 := bB BK103 hb; replace HB := bS HB hb; (try clear hb); (try clear hb2); (try clear hk); (try clear hi); (try clear ho0); have hcz21_0 : w20.cell? ⟨gb103, 0, none⟩ = some (.int .i64 0) := (blk_cell BK103.out 0).trans rfl; have hcz21_1 : w20.cell? ⟨gb103, 1, none⟩ = some (.int .i64 0) := (blk_cell BK103.out 1).trans rfl; have hcz21_2 : w20.cell? ⟨gb103, 2, none⟩ = some (.slice none 0 0) := (blk_cell BK103.out 2).trans rfl; have hfz21_0 := blk_frozen BK103.out 0; have hfz21_1 := blk_frozen BK103.out 1; have hfz21_2 := blk_frozen BK103.out 2; obtain ⟨Ao22, co22, eo22⟩ := Kd.R_slice HO110.out; subst eo22))
   refine bodyPost_ret (results_ct rfl _ _ gb103 42 #[.int .i64 t106, .int .i64 t107, .slice Ao22 t108.length co22] (0, 0) _ rfl (by (with_reducible repeat (first | refine blk_drewN ?_ _ | refine blk_drew ?_ | refine blk_alloc ?_ _)); refine blk_put (cs := #[.int .i64 t106, .int .i64 t107, .slice none 0 0]) ?_ 2 _ rfl; (with_reducible repeat (first | refine blk_drewN ?_ _ | refine blk_drew ?_ | refine blk_alloc ?_ _)); refine blk_put (cs := #[.int .i64 t106, .int .i64 0, .slice none 0 0]) ?_ 1 _ rfl; (with_reducible repeat (first | refine blk_drewN ?_ _ | refine blk_drew ?_ | refine blk_alloc ?_ _)); refine blk_put (cs := #[.int .i64 0, .int .i64 0, .slice none 0 0]) ?_ 0 _ rfl; (with_reducible repeat (first | refine blk_drewN ?_ _ | refine blk_drew ?_ | refine blk_alloc ?_ _)); exact BK103.out) Try.underlying42 rfl (by kernel_rfl)) rfl ?_
   exact ⟨_, by first | rfl | (simp [errW_none, errW_some] <;> rfl) | (simp [*, errW_none, errW_some] <;> rfl), by (with_reducible repeat (first | apply Kd.R_alloc | apply Kd.R_drewN | apply Kd.R_drew)); exact Kd.R_mono (Kd.R_far (p := ⟨gb103, 2, none⟩) (Kd.R_far (p := ⟨gb103, 1, none⟩) (Kd.R_far (p := ⟨gb103, 0, none⟩) (Kd.R_types HO110.out BK103.out (by decide)) (fun _ hk => hk.2) (.int .i64 t106)) (fun _ hk => hk.2) (.int .i64 t107)) (fun _ hk => hk.2) (.slice Ao22 t108.length co22)) (fun _ hk => trivial), by repeat (first | (with_reducible first | exact HB.out | apply below_alloc | apply pw_below_drewN | apply below_drew1 | refine below_set ?_ GE101.out | refine below_set ?_ GE102.out | refine below_set ?_ GE103.out) | exact HB.out)⟩
  ·
   replace c6 := Bool.eq_false_iff.mpr c6
   subst c6
   have H1 : (some (0, 0, ([] : List Int), false)) = some (r1, r2, r3, r4) := by rw [if_neg (show ¬ (false = true) by decide)] at H; exact H
   clear H
   have H := H1
   clear H1
   simp only [Option.some.injEq, Prod.mk.injEq] at H
   obtain ⟨rfl, rfl, rfl, rfl⟩ := H
   go_enter Try.func27, Try.ntmps27
   go_wp2_with (first | ((with_reducible refine gate_dst (N := 2) rfl ?_); refine box_event ?hg (N := 2) ?hd (cs := #[.int .i64 a0_0, .int .i64 a0_1, .slice A0_2 l0_2.length c0_2]) (t := 42) ?hr ?_; (case hd => rfl); (case hg => rfl); (case hr => first | (go_simp; done) | (go_simp; rfl)); intro gb101 hg w23 hbox hb; have BK101 := aK (hbox); have GW101 := aK (gE hg (pS HB.out)); have GE101 := aK (gE hg (pS HB.out)); replace HB := bS HB hb; clear hb hbox hg) | ((with_reducible refine gate_dst (N := 3) rfl ?_); refine box_event ?hg (N := 3) ?hd (cs := #[.int .i64 a1_0, .int .i64 a1_1]) (t := 46) ?hr ?_; (case hd => rfl); (case hg => rfl); (case hr => first | (go_simp; done) | (go_simp; rfl)); intro gb102 hg w24 hbox hb; have BK102 := aK (hbox); have GW102 := aK (gE hg (pS HB.out)); have GE102 := aK (gE hg (pS HB.out)); have NB101_102 := aK (nL hg (pB BK101.out)); have NB102_101 := aK (nG hg (pB BK101.out)); replace BK101 := bB BK101 hb; replace HB := bS HB hb; clear hb hbox hg) | ((with_reducible refine gate_dst (N := 4) rfl ?_); refine box_event ?hg (N := 4) ?hd (cs := #[.int .i64 0, .int .i64 0, .slice none 0 0]) (t := 42) ?hr ?_; (case hd => rfl); (case hg => rfl); (case hr => first | (go_simp; done) | (go_simp; rfl)); intro gb103 hg w25 hbox hb; have BK103 := aK (hbox); have GW103 := aK (gE hg (pS HB.out)); have GE103 := aK (gE hg (pS HB.out)); have NB101_103 := aK (nL hg (pB BK101.out)); have NB103_101 := aK (nG hg (pB BK101.out)); have NB102_103 := aK (nL hg (pB BK102.out)); have NB103_102 := aK (nG hg (pB BK102.out)); replace BK101 := bB BK101 hb; replace BK102 := bB BK102 hb; replace HB := bS HB hb; clear hb hbox hg; have hnb26 := NB101_102.out; have hnc26 := NB102_101.out; have hnb27 := NB101_103.out; have hnc27 := NB103_101.out; have hcz28_0 : w25.cell? ⟨gb101, 0, none⟩ = some (.int .i64 a0_0) := (blk_cell BK101.out 0).trans rfl; have hcz28_1 : w25.cell? ⟨gb101, 1, none⟩ = some (.int .i64 a0_1) := (blk_cell BK101.out 1).trans rfl; have hcz28_2 : w25.cell? ⟨gb101, 2, none⟩ = some (.slice A0_2 l0_2.length c0_2) := (blk_cell BK101.out 2).trans rfl; have hfz28_0 := blk_frozen BK101.out 0; have hfz28_1 := blk_frozen BK101.out 1; have hfz28_2 := blk_frozen BK101.out 2) | ((with_reducible refine gate_callee (f := 93) rfl ?_); refine goesL_ (some 7) rfl rfl Try.func93 (by kernel_rfl) rfl #[.agg #[.int .i64 a0_0, .int .i64 a0_1, .slice A0_2 l0_2.length c0_2]] rfl (by (try simp only [List.map_toArray, List.map_cons, List.map_nil]); first | done | rfl | (simp only [List.length_drop, List.length_take]; rfl)) ?_; (with_reducible refine (spec_l2Good.calls k a0_0 a0_1 _ _ l0_2 true _ ?side1 ?side2 A3.out).mono ?_); (case side1 => repeat (first | exact (Kd.C_below HR0_2.out HB.out) | (with_reducible refine Kd.C_alloc ?_ _) | (with_reducible refine Kd.C_drewN ?_ _) | (with_reducible refine Kd.C_drew ?_))); (case side2 => exact HC0_2.out); rintro e w29 ⟨rfl, hb⟩; refine ⟨_, rfl, ?_⟩; replace BK101 := bB BK101 hb; replace BK102 := bB BK102 hb; replace BK103 := bB BK103 hb; replace HB := bS HB hb; (try clear hb); (try clear hb2); (try clear hk); (try clear hi); have hnb30 := NB102_103.out; have hnc30 := NB103_102.out; have hcz31_0 : w29.cell? ⟨gb102, 0, none⟩ = some (.int .i64 a1_0) := (blk_cell BK102.out 0).trans rfl; have hcz31_1 : w29.cell? ⟨gb102, 1, none⟩ = some (.int .i64 a1_1) := (blk_cell BK102.out 1).trans rfl; have hfz31_0 := blk_frozen BK102.out 0; have hfz31_1 := blk_frozen BK102.out 1) | (go_at_call 94; (with_reducible refine (spec_l11Good.calls a1_0 a1_1 false _ A5.out).mono ?_); rintro e w32 ⟨rfl, hb⟩; replace BK101 := bB BK101 hb; replace BK102 := bB BK102 hb; replace BK103 := bB BK103 hb; replace HB := bS HB hb; (try clear hb); (try clear hb2); (try clear hk); (try clear hi); have hcz33_0 : w32.cell? ⟨gb103, 0, none⟩ = some (.int .i64 0) := (blk_cell BK103.out 0).trans rfl; have hcz33_1 : w32.cell? ⟨gb103, 1, none⟩ = some (.int .i64 0) := (blk_cell BK103.out 1).trans rfl; have hcz33_2 : w32.cell? ⟨gb103, 2, none⟩ = some (.slice none 0 0) := (blk_cell BK103.out 2).trans rfl; have hfz33_0 := blk_frozen BK103.out 0; have hfz33_1 := blk_frozen BK103.out 1; have hfz33_2 := blk_frozen BK103.out 2))
   refine bodyPost_ret (results_ct rfl _ _ gb103 42 #[.int .i64 0, .int .i64 0, .slice none 0 0] (0, 0) _ rfl (by (with_reducible repeat (first | refine blk_drewN ?_ _ | refine blk_drew ?_ | refine blk_alloc ?_ _)); refine blk_put (cs := #[.int .i64 0, .int .i64 0, .slice none 0 0]) ?_ 2 _ rfl; (with_reducible repeat (first | refine blk_drewN ?_ _ | refine blk_drew ?_ | refine blk_alloc ?_ _)); refine blk_put (cs := #[.int .i64 0, .int .i64 0, .slice none 0 0]) ?_ 1 _ rfl; (with_reducible repeat (first | refine blk_drewN ?_ _ | refine blk_drew ?_ | refine blk_alloc ?_ _)); refine blk_put (cs := #[.int .i64 0, .int .i64 0, .slice none 0 0]) ?_ 0 _ rfl; (with_reducible repeat (first | refine blk_drewN ?_ _ | refine blk_drew ?_ | refine blk_alloc ?_ _)); exact BK103.out) Try.underlying42 rfl (by kernel_rfl)) rfl ?_
   exact ⟨_, by first | rfl | (simp [errW_none, errW_some] <;> rfl) | (simp [*, errW_none, errW_some] <;> rfl), by first | exact Kd.R_nil _ _ _ _ _ | exact Kd.N_nil _ _ _ _ _ | exact Kd.V_nil _ _ _ _ _ | exact Kd.Q_nil _ _ _ _ _ | exact Kd.S_nil _ _ _ _ _, by repeat (first | (with_reducible first | exact HB.out | apply below_alloc | apply pw_below_drewN | apply below_drew1 | refine below_set ?_ GE101.out | refine below_set ?_ GE102.out | refine below_set ?_ GE103.out) | exact HB.out)⟩
 ·
  replace c4 := Bool.eq_false_iff.mpr c4
  subst c4
  have H1 : (some (0, 0, ([] : List Int), false)) = some (r1, r2, r3, r4) := by rw [if_neg (show ¬ (false = true) by decide)] at H; exact H
  clear H
  have H := H1
  clear H1
  simp only [Option.some.injEq, Prod.mk.injEq] at H
  obtain ⟨rfl, rfl, rfl, rfl⟩ := H
  go_enter Try.func27, Try.ntmps27
  go_wp2_with (first | ((with_reducible refine gate_dst (N := 2) rfl ?_); refine box_event ?hg (N := 2) ?hd (cs := #[.int .i64 a0_0, .int .i64 a0_1, .slice A0_2 l0_2.length c0_2]) (t := 42) ?hr ?_; (case hd => rfl); (case hg => rfl); (case hr => first | (go_simp; done) | (go_simp; rfl)); intro gb101 hg w34 hbox hb; have BK101 := aK (hbox); have GW101 := aK (gE hg (pS HB.out)); have GE101 := aK (gE hg (pS HB.out)); replace HB := bS HB hb; clear hb hbox hg) | ((with_reducible refine gate_dst (N := 3) rfl ?_); refine box_event ?hg (N := 3) ?hd (cs := #[.int .i64 a1_0, .int .i64 a1_1]) (t := 46) ?hr ?_; (case hd => rfl); (case hg => rfl); (case hr => first | (go_simp; done) | (go_simp; rfl)); intro gb102 hg w35 hbox hb; have BK102 := aK (hbox); have GW102 := aK (gE hg (pS HB.out)); have GE102 := aK (gE hg (pS HB.out)); have NB101_102 := aK (nL hg (pB BK101.out)); have NB102_101 := aK (nG hg (pB BK101.out)); replace BK101 := bB BK101 hb; replace HB := bS HB hb; clear hb hbox hg) | ((with_reducible refine gate_dst (N := 4) rfl ?_); refine box_event ?hg (N := 4) ?hd (cs := #[.int .i64 0, .int .i64 0, .slice none 0 0]) (t := 42) ?hr ?_; (case hd => rfl); (case hg => rfl); (case hr => first | (go_simp; done) | (go_simp; rfl)); intro gb103 hg w36 hbox hb; have BK103 := aK (hbox); have GW103 := aK (gE hg (pS HB.out)); have GE103 := aK (gE hg (pS HB.out)); have NB101_103 := aK (nL hg (pB BK101.out)); have NB103_101 := aK (nG hg (pB BK101.out)); have NB102_103 := aK (nL hg (pB BK102.out)); have NB103_102 := aK (nG hg (pB BK102.out)); replace BK101 := bB BK101 hb; replace BK102 := bB BK102 hb; replace HB := bS HB hb; clear hb hbox hg; have hnb37 := NB101_102.out; have hnc37 := NB102_101.out; have hnb38 := NB101_103.out; have hnc38 := NB103_101.out; have hcz39_0 : w36.cell? ⟨gb101, 0, none⟩ = some (.int .i64 a0_0) := (blk_cell BK101.out 0).trans rfl; have hcz39_1 : w36.cell? ⟨gb101, 1, none⟩ = some (.int .i64 a0_1) := (blk_cell BK101.out 1).trans rfl; have hcz39_2 : w36.cell? ⟨gb101, 2, none⟩ = some (.slice A0_2 l0_2.length c0_2) := (blk_cell BK101.out 2).trans rfl; have hfz39_0 := blk_frozen BK101.out 0; have hfz39_1 := blk_frozen BK101.out 1; have hfz39_2 := blk_frozen BK101.out 2) | ((with_reducible refine gate_callee (f := 93) rfl ?_); refine goesL_ (some 7) rfl rfl Try.func93 (by kernel_rfl) rfl #[.agg #[.int .i64 a0_0, .int .i64 a0_1, .slice A0_2 l0_2.length c0_2]] rfl (by (try simp only [List.map_toArray, List.map_cons, List.map_nil]); first | done | rfl | (simp only [List.length_drop, List.length_take]; rfl)) ?_; (with_reducible refine (spec_l2Good.calls k a0_0 a0_1 _ _ l0_2 false _ ?side1 ?side2 A3.out).mono ?_); (case side1 => repeat (first | exact (Kd.C_below HR0_2.out HB.out) | (with_reducible refine Kd.C_alloc ?_ _) | (with_reducible refine Kd.C_drewN ?_ _) | (with_reducible refine Kd.C_drew ?_))); (case side2 => exact HC0_2.out); rintro e w40 ⟨rfl, hb⟩; refine ⟨_, rfl, ?_⟩; replace BK101 := bB BK101 hb; replace BK102 := bB BK102 hb; replace BK103 := bB BK103 hb; replace HB := bS HB hb; (try clear hb); (try clear hb2); (try clear hk); (try clear hi); have hnb41 := NB103_102.out; have hnc41 := NB102_103.out; have hcz42_0 : w40.cell? ⟨gb103, 0, none⟩ = some (.int .i64 0) := (blk_cell BK103.out 0).trans rfl; have hcz42_1 : w40.cell? ⟨gb103, 1, none⟩ = some (.int .i64 0) := (blk_cell BK103.out 1).trans rfl; have hcz42_2 : w40.cell? ⟨gb103, 2, none⟩ = some (.slice none 0 0) := (blk_cell BK103.out 2).trans rfl; have hfz42_0 := blk_frozen BK103.out 0; have hfz42_1 := blk_frozen BK103.out 1; have hfz42_2 := blk_frozen BK103.out 2))
  refine bodyPost_ret (results_ct rfl _ _ gb103 42 #[.int .i64 0, .int .i64 0, .slice none 0 0] (0, 0) _ rfl (by (with_reducible repeat (first | refine blk_drewN ?_ _ | refine blk_drew ?_ | refine blk_alloc ?_ _)); refine blk_put (cs := #[.int .i64 0, .int .i64 0, .slice none 0 0]) ?_ 2 _ rfl; (with_reducible repeat (first | refine blk_drewN ?_ _ | refine blk_drew ?_ | refine blk_alloc ?_ _)); refine blk_put (cs := #[.int .i64 0, .int .i64 0, .slice none 0 0]) ?_ 1 _ rfl; (with_reducible repeat (first | refine blk_drewN ?_ _ | refine blk_drew ?_ | refine blk_alloc ?_ _)); refine blk_put (cs := #[.int .i64 0, .int .i64 0, .slice none 0 0]) ?_ 0 _ rfl; (with_reducible repeat (first | refine blk_drewN ?_ _ | refine blk_drew ?_ | refine blk_alloc ?_ _)); exact BK103.out) Try.underlying42 rfl (by kernel_rfl)) rfl ?_
  exact ⟨_, by first | rfl | (simp [errW_none, errW_some] <;> rfl) | (simp [*, errW_none, errW_some] <;> rfl), by first | exact Kd.R_nil _ _ _ _ _ | exact Kd.N_nil _ _ _ _ _ | exact Kd.V_nil _ _ _ _ _ | exact Kd.Q_nil _ _ _ _ _ | exact Kd.S_nil _ _ _ _ _, by repeat (first | (with_reducible first | exact HB.out | apply below_alloc | apply pw_below_drewN | apply below_drew1 | refine below_set ?_ GE101.out | refine below_set ?_ GE102.out | refine below_set ?_ GE103.out) | exact HB.out)⟩

end Go.Proofs.Ytmfgjknffmjjjaa.P
/- MoveField: one field in the program and in the reference. No conditions but that the list is no longer than a machine allows. -/
namespace Go.Proofs.Ytmfgjknffmjjjaa.Pure
set_option linter.unusedVariables false
set_option linter.unusedSimpArgs false
open Go.RowKit Go.Proofs.Ytmfgjknffmjjjaa.P Go.Proofs.YtmfgjknffmjjjaaW.PrintWords Go.Proofs.YtmfgjknffmjjjaaW.PrintLast
def motionOk (x y : Int) : Bool := inb x (-2) 2 && inb y (-2) 2
theorem motionOk_iff {x y : Int} : motionOk x y = true ↔ (-2 ≤ x ∧ x ≤ 2) ∧ -2 ≤ y ∧ y ≤ 2 := by unfold motionOk; rw [Bool.and_eq_true, inb_iff, inb_iff]
theorem l11Good_is (x y : Int) : spec_l11Good.f x y = some (motionOk x y) := by
  unfold spec_l11Good.f motionOk
  rw [l1In_is, l1In_is]
  cases inb x (-2) 2 <;> simp
theorem isMotion_is (x y : Int) : impl_isMotion.f x y = some (motionOk x y) := by
  unfold impl_isMotion.f motionOk
  rw [within_is, within_is]
  cases inb x (-2) 2 <;> simp
end Go.Proofs.Ytmfgjknffmjjjaa.Pure
/- Sums over a grid, shifted. No conditions. -/
namespace Go.Proofs.Ytmfgjknffmjjjaa.Pure
set_option linter.unusedVariables false
set_option linter.unusedSimpArgs false
def pstep (f : Nat → Int × Int) (i : Nat) (s : Int × Int) : Int × Int := (s.1 + (f i).1, s.2 + (f i).2)
/-- f 0 + .. + f (n - 1), of pairs. -/
def psum (n : Nat) (f : Nat → Int × Int) : Int × Int := iter (pstep f) 0 n (0, 0)
theorem psum_zero (f : Nat → Int × Int) : psum 0 f = (0, 0) := rfl
theorem psum_succ (n : Nat) (f : Nat → Int × Int) : psum (n + 1) f = ((psum n f).1 + (f n).1, (psum n f).2 + (f n).2) := by
  unfold psum
  rw [iter_add _ n 0 1 (0, 0), Nat.zero_add]
  rfl
theorem psum_congr {f g : Nat → Int × Int} : ∀ n, (∀ i, i < n → f i = g i) → psum n f = psum n g
  | 0, _ => rfl
  | n + 1, h => by rw [psum_succ, psum_succ, psum_congr n (fun i hi => h i (by omega)), h n (by omega)]
/-- Rows of W, one behind the other. -/
theorem psum_grid (W : Nat) (f : Nat → Int × Int) : ∀ H, psum (H * W) f = psum H (fun y => psum W (fun x => f (y * W + x)))
  | 0 => by rw [Nat.zero_mul]; rfl
  | H + 1 => by
    rw [psum_succ, ← psum_grid W f H, Nat.add_mul, Nat.one_mul]
    have key : ∀ w, psum (H * W + w) f = ((psum (H * W) f).1 + (psum w (fun x => f (H * W + x))).1, (psum (H * W) f).2 + (psum w (fun x => f (H * W + x))).2) := by
      intro w
      induction w with
      | zero => simp [psum_zero]
      | succ w ih =>
        rw [← Nat.add_assoc, psum_succ, ih, psum_succ]
        refine Prod.ext ?_ ?_ <;> (simp only; omega)
    exact key W
theorem psum_nil : ∀ n, psum n (fun _ => ((0, 0) : Int × Int)) = (0, 0)
  | 0 => rfl
  | n + 1 => by rw [psum_succ, psum_nil n]; rfl
/-- What lies m behind, within 0 .. w - 1. -/
def sh (w : Nat) (m : Int) (f : Nat → Int × Int) (x : Nat) : Int × Int := if 0 ≤ (x : Int) - m ∧ (x : Int) - m < w then f ((x : Int) - m).toNat else (0, 0)
def shb (w : Nat) (m : Int) (f : Nat → Int × Int) (x : Nat) : Int × Int := if 0 ≤ (x : Int) + m ∧ (x : Int) + m < w then f x else (0, 0)
theorem psum_part (f : Nat → Int × Int) (a : Nat) : ∀ n, a ≤ n → psum n (fun x => if x < a then f x else (0, 0)) = psum a f
  | 0, h => by obtain rfl : a = 0 := by omega
               rfl
  | n + 1, h => by
    by_cases e : a = n + 1
    · rw [e]; exact psum_congr _ (fun i hi => by rw [if_pos hi])
    · rw [psum_succ, psum_part f a n (by omega), if_neg (by omega)]
      refine Prod.ext ?_ ?_ <;> simp
theorem psum_drop (f : Nat → Int × Int) (a : Nat) : ∀ n, a ≤ n → psum n (fun x => if a ≤ x then f x else (0, 0)) = psum (n - a) (fun x => f (x + a))
  | 0, h => by obtain rfl : a = 0 := by omega
               rfl
  | n + 1, h => by
    by_cases e : a = n + 1
    · rw [e, Nat.sub_self, psum_zero]
      exact (psum_congr _ (fun i hi => by rw [if_neg (by omega)])).trans (psum_nil (n + 1))
    · rw [psum_succ, psum_drop f a n (by omega), if_pos (by omega), show n + 1 - a = (n - a) + 1 by omega, psum_succ, show n - a + a = n by omega]
/-- A shifted sum: over where it comes to, or over where it comes from. -/
theorem psum_shift (w : Nat) (m : Int) (f : Nat → Int × Int) : psum w (sh w m f) = psum w (shb w m f) := by
  by_cases h0 : 0 ≤ m
  · obtain ⟨a, rfl⟩ := Int.eq_ofNat_of_zero_le h0
    by_cases ha : a ≤ w
    · have e1 : psum w (sh w (a : Int) f) = psum (w - a) f := by
        rw [show psum w (sh w (a : Int) f) = psum w (fun x => if a ≤ x then f (x - a) else (0, 0)) from psum_congr _ (fun x hx => by
          unfold sh
          by_cases h : a ≤ x
          · rw [if_pos (by omega), if_pos h, show ((x : Int) - (a : Int)).toNat = x - a by omega]
          · rw [if_neg (by omega), if_neg h]), psum_drop (fun x => f (x - a)) a w ha]
        exact psum_congr _ (fun x _ => by show f (x + a - a) = f x; rw [Nat.add_sub_cancel])
      have e2 : psum w (shb w (a : Int) f) = psum (w - a) f := by
        rw [← psum_part f (w - a) w (by omega)]
        exact psum_congr _ (fun x hx => by
          unfold shb
          by_cases h : x < w - a
          · rw [if_pos (by omega), if_pos h]
          · rw [if_neg (by omega), if_neg h])
      rw [e1, e2]
    · rw [show psum w (sh w (a : Int) f) = psum w (fun _ => (0, 0)) from psum_congr _ (fun x hx => by unfold sh; rw [if_neg (by omega)]), show psum w (shb w (a : Int) f) = psum w (fun _ => (0, 0)) from psum_congr _ (fun x hx => by unfold shb; rw [if_neg (by omega)])]
  · obtain ⟨a, hm⟩ : ∃ a : Nat, m = -(a : Int) := ⟨(-m).toNat, by omega⟩
    subst hm
    by_cases ha : a ≤ w
    · have e1 : psum w (sh w (-(a : Int)) f) = psum (w - a) (fun x => f (x + a)) := by
        rw [← psum_part (fun x => f (x + a)) (w - a) w (by omega)]
        exact psum_congr _ (fun x hx => by
          unfold sh
          by_cases h : x < w - a
          · rw [if_pos (by omega), if_pos h, show ((x : Int) - -(a : Int)).toNat = x + a by omega]
          · rw [if_neg (by omega), if_neg h])
      have e2 : psum w (shb w (-(a : Int)) f) = psum (w - a) (fun x => f (x + a)) := by
        rw [← psum_drop f a w ha]
        exact psum_congr _ (fun x hx => by
          unfold shb
          by_cases h : a ≤ x
          · rw [if_pos (by omega), if_pos h]
          · rw [if_neg (by omega), if_neg h])
      rw [e1, e2]
    · rw [show psum w (sh w (-(a : Int)) f) = psum w (fun _ => (0, 0)) from psum_congr _ (fun x hx => by unfold sh; rw [if_neg (by omega)]), show psum w (shb w (-(a : Int)) f) = psum w (fun _ => (0, 0)) from psum_congr _ (fun x hx => by unfold shb; rw [if_neg (by omega)])]
end Go.Proofs.Ytmfgjknffmjjjaa.Pure
/- MatchOf: the program's differences of the moved field are the reference's sum over the cells that come to a cell. No conditions. -/
namespace Go.Proofs.Ytmfgjknffmjjjaa.Pure
set_option linter.unusedVariables false
set_option linter.unusedSimpArgs false
open Go.RowKit Go.Proofs.Ytmfgjknffmjjjaa.P Go.Proofs.YtmfgjknffmjjjaaW.PrintWords Go.Proofs.YtmfgjknffmjjjaaW.PrintLast
/-- Two values' part in an error. -/
def dphi (x y : Int) : Int × Int := if x = -9999 then (0, 0) else if y = -9999 then (0, 0) else (absZ (x - y), 1)
theorem diffs_psum (u v : List Int) : diffs u v = psum u.length (fun i => dphi (u.getD i 0) (v.getD i 0)) := by
  unfold diffs psum
  refine iter_congr _ _ _ (fun j s _ _ => ?_)
  unfold diffStep pstep dphi
  dsimp only
  generalize u.getD j 0 = x
  generalize v.getD j 0 = y
  by_cases h1 : x = -9999
  · simp [h1]
  · by_cases h2 : y = -9999 <;> simp [h1, h2]
theorem matchS_psum (W H : Nat) (u v : List Int) (mx my : Int) : matchS W H u v mx my = psum (H * W) (fun i => if inb (((i % W : Nat) : Int) + mx) 0 ((W : Int) - 1) = true ∧ inb (((i / W : Nat) : Int) + my) 0 ((H : Int) - 1) = true then
    dphi (u.getD i 0) (v.getD ((((i / W : Nat) : Int) + my).toNat * W + (((i % W : Nat) : Int) + mx).toNat) 0) else (0, 0)) := by
  unfold matchS psum
  refine iter_congr _ _ _ (fun j s _ _ => ?_)
  unfold matchStep pstep dphi
  dsimp only
  generalize u.getD j 0 = x
  generalize v.getD ((((j / W : Nat) : Int) + my).toNat * W + (((j % W : Nat) : Int) + mx).toNat) 0 = y
  by_cases h0 : inb (((j % W : Nat) : Int) + mx) 0 ((W : Int) - 1) = true ∧ inb (((j / W : Nat) : Int) + my) 0 ((H : Int) - 1) = true
  · rw [if_pos h0, if_pos h0]
    by_cases h1 : x = -9999
    · simp [h1]
    · by_cases h2 : y = -9999 <;> simp [h1, h2]
  · rw [if_neg h0, if_neg h0]
    simp
theorem moved_match (W H : Nat) (u v : List Int) (mx my : Int) (hu : u.length = H * W) : diffs (tab (H * W) (moveCell W H u mx my)) v = matchS W H u v mx my := by
  rw [diffs_psum, matchS_psum, tab_length, psum_grid, psum_grid]
  have eL : psum H (fun y => psum W (fun x => dphi ((tab (H * W) (moveCell W H u mx my)).getD (y * W + x) 0) (v.getD (y * W + x) 0))) =
      psum H (sh H my (fun y => psum W (sh W mx (fun x => dphi (u.getD (y * W + x) 0) (v.getD (((y : Int) + my).toNat * W + ((x : Int) + mx).toNat) 0))))) := by
    refine psum_congr _ (fun y hy => ?_)
    unfold sh
    by_cases cy : 0 ≤ (y : Int) - my ∧ (y : Int) - my < H
    · rw [if_pos cy]
      refine psum_congr _ (fun x hx => ?_)
      obtain ⟨d1, d2⟩ := div_at (y := y) hx
      rw [tab_getD _ _ 0 (at_lt hx hy)]
      unfold moveCell
      rw [d1, d2]
      by_cases cx : 0 ≤ (x : Int) - mx ∧ (x : Int) - mx < W
      · rw [if_pos ⟨by rw [inb_iff]; omega, by rw [inb_iff]; omega⟩, if_pos cx, show (((((y : Int) - my).toNat : Nat) : Int) + my).toNat = y by omega]
        dsimp only
        rw [show (((((x : Int) - mx).toNat : Nat) : Int) + mx).toNat = x by omega]
      · rw [if_neg (by rw [inb_iff]; omega), if_neg cx]
        rfl
    · rw [if_neg cy]
      refine (psum_congr _ (fun x hx => ?_)).trans (psum_nil W)
      obtain ⟨d1, d2⟩ := div_at (y := y) hx
      rw [tab_getD _ _ 0 (at_lt hx hy)]
      unfold moveCell
      rw [d1, d2, if_neg (by rw [inb_iff, inb_iff]; omega)]
      rfl
  have eR : psum H (fun y => psum W (fun x => if inb ((((y * W + x) % W : Nat) : Int) + mx) 0 ((W : Int) - 1) = true ∧ inb ((((y * W + x) / W : Nat) : Int) + my) 0 ((H : Int) - 1) = true then
      dphi (u.getD (y * W + x) 0) (v.getD (((((y * W + x) / W : Nat) : Int) + my).toNat * W + ((((y * W + x) % W : Nat) : Int) + mx).toNat) 0) else (0, 0))) =
      psum H (shb H my (fun y => psum W (shb W mx (fun x => dphi (u.getD (y * W + x) 0) (v.getD (((y : Int) + my).toNat * W + ((x : Int) + mx).toNat) 0))))) := by
    refine psum_congr _ (fun y hy => ?_)
    unfold shb
    by_cases cy : 0 ≤ (y : Int) + my ∧ (y : Int) + my < H
    · rw [if_pos cy]
      refine psum_congr _ (fun x hx => ?_)
      obtain ⟨d1, d2⟩ := div_at (y := y) hx
      rw [d1, d2]
      by_cases cx : 0 ≤ (x : Int) + mx ∧ (x : Int) + mx < W
      · rw [if_pos ⟨by rw [inb_iff]; omega, by rw [inb_iff]; omega⟩, if_pos cx]
      · rw [if_neg (by rw [inb_iff]; omega), if_neg cx]
    · rw [if_neg cy]
      refine (psum_congr _ (fun x hx => ?_)).trans (psum_nil W)
      obtain ⟨d1, d2⟩ := div_at (y := y) hx
      rw [d1, d2, if_neg (by rw [inb_iff, inb_iff]; omega)]
  rw [eL, eR, psum_shift]
  refine psum_congr _ (fun y hy => ?_)
  unfold shb
  split
  · exact psum_shift W mx _
  · rfl
theorem moveCell_ok {W H : Nat} {l : List Int} {mx my : Int} (h : ∀ x ∈ l, cellOk x = true) : ∀ x ∈ tab (H * W) (moveCell W H l mx my), cellOk x = true := by
  intro x hx
  obtain ⟨i, hi, rfl⟩ := tab_mem.1 hx
  unfold moveCell
  split
  · by_cases hj : (((i / W : Nat) : Int) - my).toNat * W + (((i % W : Nat) : Int) - mx).toNat < l.length
    · rw [getD_eq_get 0 hj]
      exact h _ (List.getElem_mem hj)
    · rw [List.getD, List.getElem?_eq_none (by omega)]
      rfl
  · rfl
theorem matchOf_ev (W H : Nat) (u v : List Int) (mx my : Int) (fu : FieldIs (W : Int) (H : Int) u) (fv : FieldIs (W : Int) (H : Int) v) (hmx : -2 ≤ mx ∧ mx ≤ 2) (hmy : -2 ≤ my ∧ my ≤ 2) :
    Ev (fun k => impl_matchOf.f k (W : Int) (H : Int) u (W : Int) (H : Int) v mx my) (matchS W H u v mx my) := by
  have hW : 1 ≤ W ∧ W ≤ 8 := by have := fu.a1; have := fu.a8; omega
  have hH : 1 ≤ H ∧ H ≤ 8 := by have := fu.b1; have := fu.b8; omega
  have hlu : u.length = H * W := by have := fu.len; rw [Int.mul_comm] at this; exact_mod_cast this
  have hlv : v.length = H * W := by have := fv.len; rw [Int.mul_comm] at this; exact_mod_cast this
  have h64 : H * W ≤ 64 := Nat.mul_le_mul hH.2 hW.2
  unfold impl_matchOf.f
  refine ev_bind (moveField_ev W H u mx my hW hH hlu hmx hmy) ?_
  have d := differences_ev (W : Int) (H : Int) (tab (H * W) (moveCell W H u mx my)) (W : Int) (H : Int) v (moveCell_ok fu.cells) fv.cells (by rw [tab_length, hlv]) (by rw [tab_length]; exact h64)
  rw [moved_match W H u v mx my hlu] at d
  exact ev_bind d (ev_some _)
theorem matchOf_both (a b : Int) (u : List Int) (a' b' : Int) (v : List Int) (mx my : Int) (hu : u.length ≤ 9223372036854775806) (hv : v.length ≤ 9223372036854775806) :
    ∃ r, Ev (fun k => spec_MatchOf.f k a b u a' b' v mx my) r ∧ Ev (fun k => impl_MatchOf.f k a b u a' b' v mx my) r := by
  unfold spec_MatchOf.f impl_MatchOf.f
  have g1 := l2Same_ev a b u a' b' v hu hv
  have g2 := alike2_ev a b u a' b' v
  rw [l11Good_is, isMotion_is]
  simp only [Option.bind_some]
  cases h : alike a b u a' b' v with
  | false =>
    rw [h] at g1 g2
    exact ⟨_, ev_bind g1 (ev_ifn (by simp) (ev_some (0, 0, false))), ev_bind g2 (ev_ifn (by simp) (ev_some (0, 0, false)))⟩
  | true =>
    rw [h] at g1 g2
    cases hm : motionOk mx my with
    | false => exact ⟨_, ev_bind g1 (ev_ifp rfl (ev_ifn (by simp) (ev_some (0, 0, false)))), ev_bind g2 (ev_ifp rfl (ev_ifn (by simp) (ev_some (0, 0, false))))⟩
    | true =>
      obtain ⟨fu, fv, ea, eb⟩ := alike_iff.1 h
      subst ea
      subst eb
      obtain ⟨W, H, rfl, rfl, hW, hH, hlen, h64⟩ := shape_nat fu
      obtain ⟨m1, m2⟩ := motionOk_iff.1 hm
      exact ⟨((matchS W H u v mx my).1, (matchS W H u v mx my).2, true), ev_bind g1 (ev_ifp rfl (ev_ifp rfl (ev_bind (l11Match_ev (W : Int) (H : Int) u v mx my W H rfl rfl fu fv m1 m2) (ev_some _)))),
        ev_bind g2 (ev_ifp rfl (ev_ifp rfl (ev_bind (matchOf_ev W H u v mx my fu fv m1 m2) (ev_some _))))⟩
end Go.Proofs.Ytmfgjknffmjjjaa.Pure
/- What the laws' helpers for lists of whole numbers come to: a copy is the list, equality is equality. No conditions. -/
namespace Go.Proofs.Ytmfgjknffmjjjaa.Pure
set_option linter.unusedVariables false
set_option linter.unusedSimpArgs false
open Go.RowKit Go.Proofs.Ytmfgjknffmjjjaa.P Go.Proofs.YtmfgjknffmjjjaaW.PrintWords Go.Proofs.YtmfgjknffmjjjaaW.PrintLast

theorem toIntS_ev (xs : List Int) (hm : xs.length ≤ 35184372088832) : Ev (fun k => laws_toIntS.f k xs) xs := by
  have h := loop_ev (fun k ys i => laws_toIntS.l0 k xs ys (i : Int)) xs.length (fun i ys => ys.set i (xs.getD i 0)) (fun ys => ys)
    (fun i ys => ys.length = xs.length ∧ ∀ j, j < i → ys.getD j 0 = xs.getD j 0)
    (fun i ys r hI hi h => ev_step (fun k => by
      show laws_toIntS.l0 (k + 1) xs ys (i : Int) = laws_toIntS.l0 k xs (ys.set i (xs.getD i 0)) ((i + 1 : Nat) : Int)
      have hl := hI.1
      simp only [laws_toIntS.l0]
      rw [if_pos (by omega), if_pos (by omega), if_pos (by omega), w64 (by omega) (by omega), rd_nat]
      simp) h)
    (fun i ys hI hi => ⟨by simp [hI.1], fun j hj => by
      by_cases e : j = i
      · subst e
        have := hI.1
        simp [List.getD, List.getElem?_set_self (show j < ys.length by omega)]
      · have := hI.2 j (by omega)
        rw [← this]
        simp [List.getD, List.getElem?_set_ne (Ne.symm e)]⟩)
    (fun ys hI => ev_step (f := fun _ => some ys) (fun k => by
      simp only [laws_toIntS.l0]
      rw [if_neg (by omega)]) (ev_some _)) 0 (List.replicate xs.length 0) (Nat.zero_le _) ⟨by simp, fun j hj => by omega⟩
  have e : iter (fun i (ys : List Int) => ys.set i (xs.getD i 0)) 0 (xs.length - 0) (List.replicate xs.length 0) = xs := by
    have hi := iter_inv (fun i (ys : List Int) => ys.set i (xs.getD i 0)) (fun i ys => ys.length = xs.length ∧ ∀ j, j < i → ys.getD j 0 = xs.getD j 0) xs.length
      (fun i ys hI hi => ⟨by simp [hI.1], fun j hj => by
        by_cases e : j = i
        · subst e
          have := hI.1
          simp [List.getD, List.getElem?_set_self (show j < ys.length by omega)]
        · have := hI.2 j (by omega)
          rw [← this]
          simp [List.getD, List.getElem?_set_ne (Ne.symm e)]⟩) (xs.length - 0) 0 (List.replicate xs.length 0) (by omega) ⟨by simp, fun j hj => by omega⟩
    exact eq_index 0 hi.1 (fun j hj => hi.2 j (by have := hi.1; omega))
  rw [e] at h
  refine Ev.congr (fun k => ?_) h
  unfold laws_toIntS.f
  rw [if_pos (by omega), if_pos (by omega)]
  simp

theorem eqIntS_ev (xs ys : List Int) (hm : xs.length ≤ 9223372036854775806) : Ev (fun k => laws_eqIntS.f k xs ys) (decide (xs = ys)) := by
  by_cases hl : xs.length = ys.length
  · have h := allb_ev (fun k i => laws_eqIntS.l0 k xs ys (i : Int)) xs.length (fun i => decide (xs.getD i 0 = ys.getD i 0))
      (fun i r hi hp h => ev_step (fun k => by
        simp only [laws_eqIntS.l0]
        rw [if_pos (by omega), if_pos (by omega), if_pos (by omega), rd_nat, rd_nat, if_pos (by simpa using hp), w64 (by omega) (by omega)]
        rfl) h)
      (fun i hi hp => ev_step (f := fun _ => some false) (fun k => by
        simp only [laws_eqIntS.l0]
        rw [if_pos (by omega), if_pos (by omega), if_pos (by omega), rd_nat, rd_nat, if_neg (by simpa using hp)]) (ev_some _))
      (ev_step (f := fun _ => some true) (fun k => by
        simp only [laws_eqIntS.l0]
        rw [if_neg (by omega)]) (ev_some _))
    rw [rall_eq 0 hl] at h
    refine Ev.congr (fun k => ?_) h
    unfold laws_eqIntS.f
    rw [if_pos (by omega)]
    rfl
  · refine Ev.congr (f := fun _ => some false) (fun k => ?_) (by rw [decide_eq_false (fun e => hl (by rw [e]))]; exact ev_some _)
    unfold laws_eqIntS.f
    rw [if_neg (by omega)]
end Go.Proofs.Ytmfgjknffmjjjaa.Pure
/- What the laws' helpers for fields come to: copies, equality, sizes, marks. No conditions. -/
namespace Go.Proofs.Ytmfgjknffmjjjaa.Pure
set_option linter.unusedVariables false
set_option linter.unusedSimpArgs false
open Go.RowKit Go.Proofs.Ytmfgjknffmjjjaa.P Go.Proofs.YtmfgjknffmjjjaaW.PrintWords Go.Proofs.YtmfgjknffmjjjaaW.PrintLast
theorem toField_ev (a b : Int) (l : List Int) (hl : l.length ≤ 35184372088832) : Ev (fun k => laws_toField.f k a b l) (a, b, l) := ev_bind (toIntS_ev l hl) (ev_some _)
theorem eqField_ev (a b : Int) (l : List Int) (a' b' : Int) (l' : List Int) (hl : l.length ≤ 9223372036854775806) : Ev (fun k => laws_eqField.f k a b l a' b' l') (decide (a = a' ∧ b = b' ∧ l = l')) := by
  unfold laws_eqField.f
  by_cases h1 : a = a'
  · refine ev_ifp h1 ?_
    by_cases h2 : b = b'
    · refine ev_ifp h2 (ev_bind (eqIntS_ev l l' hl) ?_)
      by_cases h3 : l = l'
      · simp only [h1, h2, h3, decide_true, and_self, if_true]
        exact ev_some _
      · simp only [h3, decide_false, and_false, Bool.false_eq_true, if_false]
        exact ev_some _
    · simp only [h2, false_and, and_false, decide_false, if_false]
      exact ev_some _
  · simp only [h1, false_and, decide_false, if_false]
    exact ev_some _
theorem eqField_self (a b : Int) (l : List Int) (hl : l.length ≤ 9223372036854775806) : Ev (fun k => laws_eqField.f k a b l a b l) true := by
  have := eqField_ev a b l a b l hl
  simpa using this
theorem szInt_is (l : List Int) (a : Int) (ha : 0 ≤ a) (ha2 : a ≤ 1048576) (hl : l.length ≤ 9223372036854775807) : laws_szIntS.f l a = some (if a < l.length then -1 else a - l.length) := by
  unfold laws_szIntS.f
  rw [w64 (by omega) (by omega)]
  split
  · rw [if_pos (by omega)]
  · rw [if_neg (by omega)]
theorem szField_at (a b : Int) (l : List Int) (s : Int) (hs : 0 ≤ s) (hs2 : s ≤ 1048576) (hl : l.length ≤ 9223372036854775807) : laws_szField.f a b l s = some (if s < l.length then -1 else s - l.length) := by
  unfold laws_szField.f
  rw [szInt_is l s hs hs2 hl]
  by_cases h : s < (l.length : Int)
  · simp [h]
  · rw [if_neg h, Option.bind_some, if_neg (by omega)]
/-- The law's guard on a field's size: too large, or the list is short. -/
theorem szField_go (a b : Int) (l : List Int) (s : Int) (hs : 0 ≤ s) (hs2 : s ≤ 1048576) (hl : l.length ≤ 9223372036854775807) :
    (∃ r, laws_szField.f a b l s = some r ∧ r < 0) ∨ ∃ r, laws_szField.f a b l s = some r ∧ ¬ r < 0 ∧ 0 ≤ r ∧ r ≤ 1048576 ∧ l.length ≤ 1048576 := by
  rw [szField_at a b l s hs hs2 hl]
  by_cases h : s < (l.length : Int)
  · rw [if_pos h]
    exact .inl ⟨_, rfl, by omega⟩
  · rw [if_neg h]
    exact .inr ⟨_, rfl, by omega, by omega, by omega, by omega⟩
end Go.Proofs.Ytmfgjknffmjjjaa.Pure
/- The program's MatchOf returns what the reference's MatchOf returns, for all arguments; no conditions. -/
namespace Go.Proofs.Ytmfgjknffmjjjaa.Pure
set_option linter.unusedVariables false
set_option linter.unusedSimpArgs false
open Go.RowKit Go.Proofs.Ytmfgjknffmjjjaa.P Go.Proofs.YtmfgjknffmjjjaaW.PrintWords Go.Proofs.YtmfgjknffmjjjaaW.PrintLast
theorem FnExactMatchOf : laws_FnExactMatchOf.Pure := by
  intro a b l a' b' l' mx my ha hb hl ha' hb' hl' hmx hmy
  refine Ev.rounds ?_
  unfold laws_FnExactMatchOf.f
  rcases szField_go a b l 1048576 (by first | omega | (dsimp only; omega) | (simp; omega)) (by first | omega | (dsimp only; omega) | (simp; omega)) (hl.1) with ⟨rz1, ez1, hz1⟩ | ⟨rz1, ez1, hz1, hza1, hzb1, hlz1⟩
  · exact ev_bind (ev_const ez1) (ev_ifp hz1 (ev_some _))
  refine ev_bind (ev_const ez1) ?_
  refine ev_ifn hz1 ?_
  rcases szField_go a' b' l' rz1 (by first | omega | (dsimp only; omega) | (simp; omega)) (by first | omega | (dsimp only; omega) | (simp; omega)) (hl'.1) with ⟨rz2, ez2, hz2⟩ | ⟨rz2, ez2, hz2, hza2, hzb2, hlz2⟩
  · exact ev_bind (ev_const ez2) (ev_ifp hz2 (ev_some _))
  refine ev_bind (ev_const ez2) ?_
  refine ev_ifn hz2 ?_
  obtain ⟨⟨x, y, z⟩, hs, hi⟩ := matchOf_both a b l a' b' l' mx my (by omega) (by omega)
  refine ev_bind (toField_ev _ _ _ (by first | omega | (dsimp only; omega) | (simp; omega))) ?_
  refine ev_bind (toField_ev _ _ _ (by first | omega | (dsimp only; omega) | (simp; omega))) ?_
  refine ev_bind (ev_const rfl) ?_
  refine ev_bind hs ?_
  refine ev_bind (toField_ev _ _ _ (by first | omega | (dsimp only; omega) | (simp; omega))) ?_
  refine ev_bind (toField_ev _ _ _ (by first | omega | (dsimp only; omega) | (simp; omega))) ?_
  refine ev_bind (ev_const rfl) ?_
  refine ev_bind hi ?_
  refine ev_ifp (by first | rfl | (simp; done)) ?_
  refine ev_ifp (by first | rfl | (simp; done)) ?_
  refine ev_step (fun k => laws_FnExactMatchOf.j0.eq_2 _ _ _ _ _ _ _ _ _ _ _ _ _ k) ?_
  refine ev_ifn (by simp) ?_
  refine ev_bind (toField_ev _ _ _ (by first | omega | (dsimp only; omega) | (simp; omega))) ?_
  refine ev_bind (eqField_self _ _ _ (by first | omega | (dsimp only; omega) | (simp; omega))) ?_
  refine ev_ifp rfl ?_
  refine ev_bind (toField_ev _ _ _ (by first | omega | (dsimp only; omega) | (simp; omega))) ?_
  refine ev_bind (eqField_self _ _ _ (by first | omega | (dsimp only; omega) | (simp; omega))) ?_
  refine ev_ifp rfl ?_
  exact ev_some _
end Go.Proofs.Ytmfgjknffmjjjaa.Pure
/- The law FnExactMatchOf answers true whatever its arguments are; no conditions. (Written by mp.py out of the plain law and the walk.) -/
namespace Go.Proofs.Ytmfgjknffmjjjaa.fnExactMatchOf
open Go.ChangeShapes Go.WideShapes Go.ChangeAt Go.RowKit Go.Proofs.Ytmfgjknffmjjjaa.Open Go.Proofs.Ytmfgjknffmjjjaa.P Go.Proofs.YtmfgjknffmjjjaaW.PrintWords
open Go.ChangeMaps (open_string shut_string)
set_option linter.unusedVariables false
theorem own : ownKnob Try.prog.godebug = none := by kernel_rfl
theorem laidOut : laidOutB Try.prog = true := by kernel_rfl
set_option maxRecDepth 100000 in
theorem lifted (os : Os) (started : os.Started) (H : Type) (enc : TypeId × Value → H) :
    ReturnsInHanded {} Try.checked os 8 .any (Rows.fnExactMatchOfSpec.pre6 enc Try.prog Try.f8 Rows.fnExactMatchOfRow.domain false) (Rows.fnExactMatchOfSpec.post enc Try.prog Try.f8 false true false false) := by
  refine returnsInHanded_of_change_sized (C := Try.checked) own started (by kernel_rfl) Try.func8
    (ChangeSpec.witness6 (enc := enc) (C := Try.checked) false ⟨#[], #[.agg #[.int .i64 0, .int .i64 0, .slice none 0 0], .agg #[.int .i64 0, .int .i64 0, .slice none 0 0], .agg #[.int .i64 0, .int .i64 0]], []⟩ 8 (by kernel_rfl) (by kernel_rfl) (by kernel_rfl) (by kernel_rfl)) ?_
  intro W base args ds gs before hval0 hW hcnd hsz0 _
  have hsz : (DataW.weightsEach Try.prog (Try.f8.params.toList ++ Rows.fnExactMatchOfSpec.plain.varTypes Try.prog) (ds ++ gs)).all (· ≤ reachBytes) = true := hsz0
  have hval : ∀ (j : Nat) t v, Try.f8.params[j]? = some t → args[j]? = some v → Value.okWide Try.prog W .any base t v := hval0
  have hW' := hW
  obtain ⟨p, q, hA0, hV, rfl, hfz, hnd⟩ := hW
  have hA : DataW.TrodAll enc Try.prog W 0 (fun _ => true) true Try.f8.params.toList args.toList ds p := hA0
  rw [Try.params8] at hA hval hsz
  obtain ⟨v0, vs0, d0, ds0, p0, q0, hargs, rfl, rfl, h0, r0⟩ := trodAll_cons hA
  obtain ⟨v1, vs1, d1, ds1, p1, q1, rfl, rfl, rfl, h1, r1⟩ := trodAll_cons r0
  obtain ⟨v2, vs2, d2, ds2, p2, q2, rfl, rfl, rfl, h2, r2⟩ := trodAll_cons r1
  obtain ⟨rfl, rfl, rfl⟩ := trodAll_nil r2
  obtain rfl : args = #[v0, v1, v2] := by cases args; simp_all
  obtain ⟨rfl, rfl⟩ := trodVars_none hV
  have k0 := h0
  have lt0 : ∀ x ∈ p0, x.block < W.heap.size := by obtain ⟨m, hm⟩ := k0; exact DataW.trod_lt m _ _ _ hm
  obtain ⟨u0_0, u0_1, u0_2, b0_0, b0_1, b0_2, rfl, K0_0, w0_0, K0_1, w0_1, K0_2, w0_2⟩ := agg3_at Try.underlying38 (by kernel_rfl) (by kernel_rfl) (opens_int Try.underlying3) (opens_int Try.underlying3) (opens_slice Try.underlying36 (by kernel_rfl) (opens_int Try.underlying3)) (hval 0 38 v0 rfl rfl) h0
  obtain rfl := int_cell K0_0
  obtain rfl := int_cell K0_1
  obtain ⟨A0_2, c0_2, rfl, hc0_2, hr0_2⟩ := slice_cell K0_2
  have k1 := h1
  have lt1 : ∀ x ∈ p1, x.block < W.heap.size := by obtain ⟨m, hm⟩ := k1; exact DataW.trod_lt m _ _ _ hm
  obtain ⟨u1_0, u1_1, u1_2, b1_0, b1_1, b1_2, rfl, K1_0, w1_0, K1_1, w1_1, K1_2, w1_2⟩ := agg3_at Try.underlying38 (by kernel_rfl) (by kernel_rfl) (opens_int Try.underlying3) (opens_int Try.underlying3) (opens_slice Try.underlying36 (by kernel_rfl) (opens_int Try.underlying3)) (hval 1 38 v1 rfl rfl) h1
  obtain rfl := int_cell K1_0
  obtain rfl := int_cell K1_1
  obtain ⟨A1_2, c1_2, rfl, hc1_2, hr1_2⟩ := slice_cell K1_2
  have k2 := h2
  have lt2 : ∀ x ∈ p2, x.block < W.heap.size := by obtain ⟨m, hm⟩ := k2; exact DataW.trod_lt m _ _ _ hm
  obtain ⟨u2_0, u2_1, b2_0, b2_1, rfl, K2_0, w2_0, K2_1, w2_1⟩ := agg2_at Try.underlying40 (by kernel_rfl) (by kernel_rfl) (opens_int Try.underlying3) (opens_int Try.underlying3) (hval 2 40 v2 rfl rfl) h2
  obtain rfl := int_cell K2_0
  obtain rfl := int_cell K2_1
  clear hA0 hval0 hsz0 hsz
  obtain ⟨k, hp⟩ := Pure.FnExactMatchOf b0_0 b0_1 b0_2 b1_0 b1_1 b1_2 b2_0 b2_1 w0_0 w0_1 w0_2 w1_0 w1_1 w1_2 w2_0 w2_1
  refine (laws_FnExactMatchOf.calls k b0_0 b0_1 A0_2 c0_2 b0_2 b1_0 b1_1 A1_2 c1_2 b1_2 b2_0 b2_1 true W hr0_2 hc0_2 hr1_2 hc1_2 hp).mono fun e W' ⟨he, bel0⟩ => ?_
  have bel : Below W.heap.size W W' := bel0
  subst he
  exact ⟨_, rfl, _, _, _, [], _, [], hW', trodAll_mk1 (shut_bool Try.underlying4 _), (trodAll_cons_mk (Below.trod laidOut (by kernel_rfl) (of_decide_eq_true (by kernel_rfl)) k0 bel lt0) (trodAll_cons_mk (Below.trod laidOut (by kernel_rfl) (of_decide_eq_true (by kernel_rfl)) k1 bel lt1) (trodAll_cons_mk (Below.trod laidOut (by kernel_rfl) (of_decide_eq_true (by kernel_rfl)) k2 bel lt2) trodAll_mk0))), rfl, bel.frame _, fun h => by cases h⟩
theorem over : Rows.fnExactMatchOfRow.holds Try.pinned (OpenSpec.ofChange Rows.fnExactMatchOfSpec) :=
  OpenClaim.holds_of_wide 8 Try.f8 rfl rfl rfl rfl rfl rfl rfl ⟨rfl, rfl, rfl, rfl, rfl⟩ rfl rfl rfl rfl rfl (by kernel_rfl) Try.func8 (by kernel_rfl)
    (of_decide_eq_true (by kernel_rfl)) (by unfold Func.isWrapper; first | (rw [if_pos (by decide +kernel)]; kernel_rfl) | (rw [if_neg (by decide +kernel)]; exact ⟨rfl, rfl⟩))
    (fun os started H enc _ => lifted os started H enc)
theorem proved : Rows.FnExactMatchOfSaid := over
#print axioms proved
end Go.Proofs.Ytmfgjknffmjjjaa.fnExactMatchOf
namespace Go.Proofs.Ytmfgjknffmjjjaa
/-- The row, under a short name, for the claim. -/
theorem fnExactMatchOf_holds : Rows.FnExactMatchOfSaid := fnExactMatchOf.proved
end Go.Proofs.Ytmfgjknffmjjjaa
