/- Texts of the claim FnRegions, merged: part 5 of 7: the program's and the reference's functions as Lean functions, the walks that show it, and plain lemmas; no conditions. -/
import Derived.Test.YtnpclamoabcbgaaKFnRegions2
import Derived.Test.YtnpclamoabcbgaaKFnRegions3
import Derived.Test.YtnpclamoabcbgaaKFnRegions4
import Derived.DataElems
namespace Go.Proofs.Ytnpclamoabcbgaa.P
open Go.RowKit Go.Proofs.YtnpclamoabcbgaaW.PrintWords Go.Proofs.YtnpclamoabcbgaaW.PrintLast Go.Proofs.YtnpclamoabcbgaaW.PrintMore
attribute [local go_sem] max2_int min2_int max_two min_two max_three min_three max_four min_four
set_option linter.unusedVariables false
set_option linter.unusedSimpArgs false
set_option maxHeartbeats 8000000
set_option maxRecDepth 100000
mutual
def spec_l8Parts.l0 : Nat → Int → List Int → List (List Int) → List Int → Int → Option ((List (List Int)))
 | 0, _, _, _, _, _ => none
 | k + 1, x0, x1, x5, x6, x7 => if x7 < (x1.length : Int) then (if 0 ≤ x7 then ((spec_l1Has.f k x6 (rd x1 x7)).bind fun t108 => (if t108 = true then (spec_l8Parts.l0 k x0 x1 x5 x6 (wrap64 (x7 + 1))) else (spec_l8Parts.l1 k x0 x1 x5 x6 x7 (([rd x1 x7] : List Int)) 0))) else (none)) else (some x5)
def spec_l8Parts.l1 : Nat → Int → List Int → List (List Int) → List Int → Int → List Int → Int → Option ((List (List Int)))
 | 0, _, _, _, _, _, _, _ => none
 | k + 1, x0, x1, x5, x6, x7, x8, x9 => if x9 < (x8.length : Int) then (spec_l8Parts.l2 k x0 x1 x5 x6 x7 x8 x9 0) else (spec_l8Parts.l3 k x0 x1 x5 x6 x7 x8 (([] : List Int)) 0)
def spec_l8Parts.l2 : Nat → Int → List Int → List (List Int) → List Int → Int → List Int → Int → Int → Option ((List (List Int)))
 | 0, _, _, _, _, _, _, _, _ => none
 | k + 1, x0, x1, x5, x6, x7, x8, x9, x10 => if x10 < (x1.length : Int) then (if 0 ≤ x10 then ((spec_l1Has.f k x8 (rd x1 x10)).bind fun t114 => (if t114 = true then (spec_l8Parts.l2 k x0 x1 x5 x6 x7 x8 x9 (wrap64 (x10 + 1))) else (if 0 ≤ x9 then (if x9 < (x8.length : Int) then ((spec_l8Beside.f x0 (rd x8 x9) (rd x1 x10)).bind fun t117 => (if t117 = true then (if x8.length < 17592186044416 then (spec_l8Parts.l2 k x0 x1 x5 x6 x7 (x8 ++ [rd x1 x10]) x9 (wrap64 (x10 + 1))) else (none)) else (spec_l8Parts.l2 k x0 x1 x5 x6 x7 x8 x9 (wrap64 (x10 + 1))))) else (none)) else (none)))) else (none)) else (spec_l8Parts.l1 k x0 x1 x5 x6 x7 x8 (wrap64 (x9 + 1)))
def spec_l8Parts.l3 : Nat → Int → List Int → List (List Int) → List Int → Int → List Int → List Int → Int → Option ((List (List Int)))
 | 0, _, _, _, _, _, _, _, _ => none
 | k + 1, x0, x1, x5, x6, x7, x8, x11, x12 => if x12 < (x8.length : Int) then (if 0 ≤ x12 then ((spec_l1Put.f k x11 (rd x8 x12)).bind fun t126 => (spec_l8Parts.l3 k x0 x1 x5 x6 x7 x8 t126 (wrap64 (x12 + 1)))) else (none)) else (if x6.length + x8.length < 17592186044416 then (if x5.length < 5864062014805 then (spec_l8Parts.l0 k x0 x1 (x5 ++ [x11]) (x6 ++ x8) (wrap64 (x7 + 1))) else (none)) else (none))
end
def spec_l8Parts.f (k : Nat) (a0 : Int) (l1 : List Int) : Option ((List (List Int))) := spec_l8Parts.l0 k a0 l1 (([] : List (List Int))) (([] : List Int)) 0
theorem spec_l8Parts.calls (k : Nat) (a0 : Int) (A1 : Option Addr) (c1 : Nat) (l1 : List Int) (r : List (List Int)) (w : World) (hr1 : Kd.C (Kd.int .i64) w A1 l1.length l1) (hc1 : l1.length ≤ c1) (h : spec_l8Parts.f k a0 l1 = some r) :
  Calls Try.prog 23 #[.int .i64 a0, .slice A1 l1.length c1] w fun e w' => ∃ v0_ : Value, e = .returned (v0_) ∧ Kd.S (Kd.slice 3 (Kd.int .i64)) 22 w' w.heap.size (fun _ => True) v0_ r ∧ Below w.heap.size w w' := by
 have HR1 := Aside0.mk hr1
 have HC1 := Aside0.mk hc1
 clear hr1 hc1
 have HB := aK (Below.refl w.heap.size w)
 have H : (spec_l8Parts.l0 k a0 l1 (([] : List (List Int))) (([] : List Int)) 0) = some r := h
 clear h
 obtain ⟨y101, hy101⟩ : ∃ y_ : List (List Int), y_ = (([] : List (List Int))) := ⟨_, rfl⟩
 replace H : (spec_l8Parts.l0 k a0 l1 y101 (([] : List Int)) 0) = some r := by first | (rw [hy101]; with_reducible exact H) | (have H2_ := (Option.bind_some _ _).symm.trans H; rw [hy101]; with_reducible exact H2_) | (have H2_ := (Option.bind_some _ _).symm.trans H; with_reducible exact H2_) | with_reducible exact H | (rw [hy101]; exact H) | exact H
 have Ny101 := Aside0.mk hy101
 clear hy101
 obtain ⟨y104, hy104⟩ : ∃ y_ : List Int, y_ = (([] : List Int)) := ⟨_, rfl⟩
 replace H : (spec_l8Parts.l0 k a0 l1 y101 y104 0) = some r := by first | (rw [hy104]; with_reducible exact H) | (have H2_ := (Option.bind_some _ _).symm.trans H; rw [hy104]; with_reducible exact H2_) | (have H2_ := (Option.bind_some _ _).symm.trans H; with_reducible exact H2_) | with_reducible exact H | (rw [hy104]; exact H) | exact H
 have Ny104 := Aside0.mk hy104
 clear hy104
 have H' := Aside0.mk H
 clear H
 go_enter Try.func23, Try.ntmps23
 go_wp2_with (first | ((with_reducible refine gate_dst (N := 13) rfl ?_); refine Kd.S_lit (Kd.slice 3 (Kd.int .i64)) _ 22 ?hg (N := 13) ?hd (xs := ([] : List (List Int))) (inner := []) (ok := fun _ => True) (okp := fun _ => True) ?hr ?hp (fun _ hk => hk) trivial (Below.refl _ _) (Nat.le_refl _) (by simp) ?_; (case hd => rfl); (case hg => rfl); (case hr => first | (go_simp; done) | (go_simp; rfl)); (case hp => exact (Reps.none _ _)); intro v102 w3 ho4 hb hg_ hnew_; clear hg_ hnew_; (first | rw [← Ny101.out] at ho4 | (simp only [Int.reduceToNat] at ho4; rw [← Ny101.out] at ho4)); have HO103 := aK (Kd.S_lower ho4 (below_size (pS HB.out))); replace HB := bS HB hb; clear hb ho4) | ((with_reducible refine gate_dst (N := 14) rfl ?_); refine Kd.R_lit (Kd.int .i64) _ 3 ?hg (N := 14) ?hd (xs := ([] : List Int)) (inner := []) (ok := fun _ => True) (okp := fun _ => True) ?hr ?hp (fun _ hk => hk) trivial (Below.refl _ _) (Nat.le_refl _) (by simp) ?_; (case hd => rfl); (case hg => rfl); (case hr => first | (go_simp; done) | (go_simp; rfl)); (case hp => exact (Reps.none _ _)); intro v105 w5 ho6 hb hg_ hnew_; clear hg_ hnew_; (first | rw [← Ny104.out] at ho6 | (simp only [Int.reduceToNat] at ho6; rw [← Ny104.out] at ho6)); have n0_ := aK (Kd.S_elder' (by (with_reducible repeat (first | apply Kd.S_alloc | apply Kd.S_drewN | apply Kd.S_drew)); exact HO103.out) (Kd.R_base ho6) hb); have HO106 := aK (Kd.R_lower ho6 (below_size (pS HB.out))); replace HB := bS HB hb; clear HO103; have HO103 := n0_; clear n0_; clear hb ho6))
 repeat (go_quiet (first | ((with_reducible refine gate_dst (N := 13) rfl ?_); refine Kd.S_lit (Kd.slice 3 (Kd.int .i64)) _ 22 ?hg (N := 13) ?hd (xs := ([] : List (List Int))) (inner := []) (ok := fun _ => True) (okp := fun _ => True) ?hr ?hp (fun _ hk => hk) trivial (Below.refl _ _) (Nat.le_refl _) (by simp) ?_; (case hd => rfl); (case hg => rfl); (case hr => first | (go_simp; done) | (go_simp; rfl)); (case hp => exact (Reps.none _ _)); intro v102 w3 ho4 hb hg_ hnew_; clear hg_ hnew_; (first | rw [← Ny101.out] at ho4 | (simp only [Int.reduceToNat] at ho4; rw [← Ny101.out] at ho4)); have HO103 := aK (Kd.S_lower ho4 (below_size (pS HB.out))); replace HB := bS HB hb; clear hb ho4) | ((with_reducible refine gate_dst (N := 14) rfl ?_); refine Kd.R_lit (Kd.int .i64) _ 3 ?hg (N := 14) ?hd (xs := ([] : List Int)) (inner := []) (ok := fun _ => True) (okp := fun _ => True) ?hr ?hp (fun _ hk => hk) trivial (Below.refl _ _) (Nat.le_refl _) (by simp) ?_; (case hd => rfl); (case hg => rfl); (case hr => first | (go_simp; done) | (go_simp; rfl)); (case hp => exact (Reps.none _ _)); intro v105 w5 ho6 hb hg_ hnew_; clear hg_ hnew_; (first | rw [← Ny104.out] at ho6 | (simp only [Int.reduceToNat] at ho6; rw [← Ny104.out] at ho6)); have n0_ := aK (Kd.S_elder' (by (with_reducible repeat (first | apply Kd.S_alloc | apply Kd.S_drewN | apply Kd.S_drew)); exact HO103.out) (Kd.R_base ho6) hb); have HO106 := aK (Kd.R_lower ho6 (below_size (pS HB.out))); replace HB := bS HB hb; clear HO103; have HO103 := n0_; clear n0_; clear hb ho6)); try go_wp2_with (first | ((with_reducible refine gate_dst (N := 13) rfl ?_); refine Kd.S_lit (Kd.slice 3 (Kd.int .i64)) _ 22 ?hg (N := 13) ?hd (xs := ([] : List (List Int))) (inner := []) (ok := fun _ => True) (okp := fun _ => True) ?hr ?hp (fun _ hk => hk) trivial (Below.refl _ _) (Nat.le_refl _) (by simp) ?_; (case hd => rfl); (case hg => rfl); (case hr => first | (go_simp; done) | (go_simp; rfl)); (case hp => exact (Reps.none _ _)); intro v102 w3 ho4 hb hg_ hnew_; clear hg_ hnew_; (first | rw [← Ny101.out] at ho4 | (simp only [Int.reduceToNat] at ho4; rw [← Ny101.out] at ho4)); have HO103 := aK (Kd.S_lower ho4 (below_size (pS HB.out))); replace HB := bS HB hb; clear hb ho4) | ((with_reducible refine gate_dst (N := 14) rfl ?_); refine Kd.R_lit (Kd.int .i64) _ 3 ?hg (N := 14) ?hd (xs := ([] : List Int)) (inner := []) (ok := fun _ => True) (okp := fun _ => True) ?hr ?hp (fun _ hk => hk) trivial (Below.refl _ _) (Nat.le_refl _) (by simp) ?_; (case hd => rfl); (case hg => rfl); (case hr => first | (go_simp; done) | (go_simp; rfl)); (case hp => exact (Reps.none _ _)); intro v105 w5 ho6 hb hg_ hnew_; clear hg_ hnew_; (first | rw [← Ny104.out] at ho6 | (simp only [Int.reduceToNat] at ho6; rw [← Ny104.out] at ho6)); have n0_ := aK (Kd.S_elder' (by (with_reducible repeat (first | apply Kd.S_alloc | apply Kd.S_drewN | apply Kd.S_drew)); exact HO103.out) (Kd.R_base ho6) hb); have HO106 := aK (Kd.R_lower ho6 (below_size (pS HB.out))); replace HB := bS HB hb; clear HO103; have HO103 := n0_; clear n0_; clear hb ho6)))
 go_loopg [5, 6, 7] k (fun kq v5 v6 v7 w' => ∃ (x5_1 : List (List Int)) (x6_1 : List Int) (x7_1 : Int), v7 = .int .i64 x7_1 ∧ Aside0 (spec_l8Parts.l0 kq a0 l1 x5_1 x6_1 x7_1 = some r) ∧ Aside0 (kq ≤ k) ∧ Aside0 (Kd.S (Kd.slice 3 (Kd.int .i64)) 22 w' w.heap.size (fun k_ => some k_ ≠ (v6 : Value).ownBlock) v5 x5_1) ∧ Aside0 (Kd.R (Kd.int .i64) 3 w' w.heap.size (fun _ => True) v6 x6_1) ∧ Aside0 (Below w.heap.size w w'))
 case atStart => exact ⟨(y101), (y104), (0), (by first | rfl | (simp; done) | (simp [*]; done)), H', ⟨Nat.le_refl _⟩, ⟨by (with_reducible repeat (first | apply Kd.S_alloc | apply Kd.S_drewN | apply Kd.S_drew)); exact Kd.S_mono HO103.out (fun _ hk => hk.2)⟩, ⟨pR HO106.out⟩, ⟨pT HB.out⟩⟩
 case round =>
  clear H'
  try clear c1
  try clear c2
  try clear p2
  obtain ⟨x5_1, x6_1, x7_1, rfl, HA, HK1, HO_5, HO_6, HB⟩ := hrel
  cases gk with
  | zero => exact absurd HA.out (by simp [spec_l8Parts.l0])
  | succ k1 =>
   have H := HA.out
   clear HA
   simp only [spec_l8Parts.l0] at H
   by_cases c7 : x7_1 < (l1.length : Int)
   ·
    rw [if_pos c7] at H
    have c7b0 : decide (x7_1 < (l1.length : Int)) = true := decide_eq_true c7
    clear c7
    by_cases c8 : 0 ≤ x7_1
    ·
     rw [if_pos c8] at H
     have c8b0 : decide (0 ≤ x7_1) = true := decide_eq_true c8
     clear c8
     replace H := Option.bind_eq_some_iff.mp H
     obtain ⟨t108, A90, H⟩ := H
     replace H : (if t108 = true then (spec_l8Parts.l0 k1 a0 l1 x5_1 x6_1 (wrap64 (x7_1 + 1))) else (spec_l8Parts.l1 k1 a0 l1 x5_1 x6_1 x7_1 (([rd l1 x7_1] : List Int)) 0)) = some r := H
     have A9 := Aside0.mk A90
     clear A90
     by_cases c10 : t108 = true
     ·
      subst c10
      have H1 : (spec_l8Parts.l0 k1 a0 l1 x5_1 x6_1 (wrap64 (x7_1 + 1))) = some r := by rw [if_pos rfl] at H; exact H
      clear H
      have H := H1
      clear H1
      have H' := Aside0.mk H
      clear H
      have p107 : 0 ≤ (x7_1 : Int) := of_decide_eq_true (by first | (with_reducible assumption) | assumption)
      have q107 : x7_1 < (l1.length : Int) := of_decide_eq_true (by first | (with_reducible assumption) | assumption)
      obtain ⟨ad107, e107, hx107_0⟩ := Kd.at_int HR1.out x7_1 p107 q107
      cases e107
      replace hx107_0 := (HB.out.cell (World.block_lt_of_cell? w _ hx107_0)).trans hx107_0
      replace p107 := eq_true p107
      replace q107 := eq_true q107
      obtain ⟨Ao11, co11, eo11⟩ := Kd.R_slice HO_6.out
      subst eo11
      go_wp2_with (first | (go_at_call 37; (with_reducible refine (spec_l1Has.calls k1 _ _ x6_1 (rd l1 x7_1) true _ ?side1 ?side2 A9.out).mono ?_); (case side1 => exact pC (Kd.R_reads' HO_6.out).2.2); (case side2 => exact (Kd.R_reads' HO_6.out).2.1); rintro e w' ⟨rfl, ⟨nd, rfl⟩⟩; (try first | exact ⟨rfl, _, World.drewN_drewN _ _ _⟩ | exact ⟨rfl, _, Eq.trans (World.drewN_drewN _ _ _) (congrArg (World.drewN _) (Nat.add_assoc _ _ _))⟩)))
      repeat (go_quiet (first | (go_at_call 37; (with_reducible refine (spec_l1Has.calls k1 _ _ x6_1 (rd l1 x7_1) true _ ?side1 ?side2 A9.out).mono ?_); (case side1 => exact pC (Kd.R_reads' HO_6.out).2.2); (case side2 => exact (Kd.R_reads' HO_6.out).2.1); rintro e w' ⟨rfl, ⟨nd, rfl⟩⟩; (try first | exact ⟨rfl, _, World.drewN_drewN _ _ _⟩ | exact ⟨rfl, _, Eq.trans (World.drewN_drewN _ _ _) (congrArg (World.drewN _) (Nat.add_assoc _ _ _))⟩))); try go_wp2_with (first | (go_at_call 37; (with_reducible refine (spec_l1Has.calls k1 _ _ x6_1 (rd l1 x7_1) true _ ?side1 ?side2 A9.out).mono ?_); (case side1 => exact pC (Kd.R_reads' HO_6.out).2.2); (case side2 => exact (Kd.R_reads' HO_6.out).2.1); rintro e w' ⟨rfl, ⟨nd, rfl⟩⟩; (try first | exact ⟨rfl, _, World.drewN_drewN _ _ _⟩ | exact ⟨rfl, _, Eq.trans (World.drewN_drewN _ _ _) (congrArg (World.drewN _) (Nat.add_assoc _ _ _))⟩))))
      go_roundg k1
      case measure => have := HK1.out; omega
      case rel => exact ⟨(x5_1), (x6_1), (wrap64 (x7_1 + 1)), (by first | rfl | (simp; done) | (simp [*]; done)), H', ⟨by have := HK1.out; omega⟩, ⟨by (with_reducible repeat (first | apply Kd.S_alloc | apply Kd.S_drewN | apply Kd.S_drew)); exact HO_5.out⟩, ⟨pR HO_6.out⟩, ⟨pT HB.out⟩⟩
     replace c10 := Bool.eq_false_iff.mpr c10
     subst c10
     have H1 : (spec_l8Parts.l1 k1 a0 l1 x5_1 x6_1 x7_1 (([rd l1 x7_1] : List Int)) 0) = some r := by rw [if_neg (show ¬ (false = true) by decide)] at H; exact H
     clear H
     have H := H1
     clear H1
     obtain ⟨y110, hy110⟩ : ∃ y_ : List Int, y_ = (([rd l1 x7_1] : List Int)) := ⟨_, rfl⟩
     replace H : (spec_l8Parts.l1 k1 a0 l1 x5_1 x6_1 x7_1 y110 0) = some r := by first | (rw [hy110]; with_reducible exact H) | (have H2_ := (Option.bind_some _ _).symm.trans H; rw [hy110]; with_reducible exact H2_) | (have H2_ := (Option.bind_some _ _).symm.trans H; with_reducible exact H2_) | with_reducible exact H | (rw [hy110]; exact H) | exact H
     have Ny110 := Aside0.mk hy110
     clear hy110
     have H' := Aside0.mk H
     clear H
     have p107 : 0 ≤ (x7_1 : Int) := of_decide_eq_true (by first | (with_reducible assumption) | assumption)
     have q107 : x7_1 < (l1.length : Int) := of_decide_eq_true (by first | (with_reducible assumption) | assumption)
     obtain ⟨ad107, e107, hx107_0⟩ := Kd.at_int HR1.out x7_1 p107 q107
     cases e107
     replace hx107_0 := (HB.out.cell (World.block_lt_of_cell? w _ hx107_0)).trans hx107_0
     replace p107 := eq_true p107
     replace q107 := eq_true q107
     obtain ⟨Ao12, co12, eo12⟩ := Kd.R_slice HO_6.out
     subst eo12
     go_wp2_with (first | (go_at_call 37; (with_reducible refine (spec_l1Has.calls k1 _ _ x6_1 (rd l1 x7_1) false _ ?side1 ?side2 A9.out).mono ?_); (case side1 => exact pC (Kd.R_reads' HO_6.out).2.2); (case side2 => exact (Kd.R_reads' HO_6.out).2.1); rintro e w' ⟨rfl, ⟨nd, rfl⟩⟩; (try first | exact ⟨rfl, _, World.drewN_drewN _ _ _⟩ | exact ⟨rfl, _, Eq.trans (World.drewN_drewN _ _ _) (congrArg (World.drewN _) (Nat.add_assoc _ _ _))⟩); have p109 : 0 ≤ (x7_1 : Int) := of_decide_eq_true (by first | (with_reducible assumption) | assumption); have q109 : x7_1 < (l1.length : Int) := of_decide_eq_true (by first | (with_reducible assumption) | assumption); obtain ⟨ad109, e109, hx109_0⟩ := Kd.at_int HR1.out x7_1 p109 q109; obtain rfl : ad107 = ad109 := (by injection e109); replace hx109_0 := (HB.out.cell (World.block_lt_of_cell? w _ hx109_0)).trans hx109_0; replace p109 := eq_true p109; replace q109 := eq_true q109) | ((with_reducible refine gate_dst (N := 31) rfl ?_); refine Kd.R_lit (Kd.int .i64) _ 3 ?hg (N := 31) ?hd (xs := ([rd l1 x7_1] : List Int)) (inner := [.int .i64 (rd l1 x7_1)]) (ok := fun _ => True) (okp := fun _ => True) ?hr ?hp (fun _ hk => hk) trivial (Below.refl _ _) (Nat.le_refl _) (by simp) ?_; (case hd => rfl); (case hg => rfl); (case hr => first | (go_simp; done) | (go_simp; rfl)); (case hp => exact (Reps.one (show Kd.M (Kd.int .i64) _ _ _ (rd l1 x7_1) [.int .i64 (rd l1 x7_1)] from rfl) (Reps.none _ _))); intro v111 w13 ho14 hb hg_ hnew_; clear hg_ hnew_; (first | rw [← Ny110.out] at ho14 | (simp only [Int.reduceToNat] at ho14; rw [← Ny110.out] at ho14)); have n0_ := aK (Kd.S_elder' (by (with_reducible repeat (first | apply Kd.S_alloc | apply Kd.S_drewN | apply Kd.S_drew)); exact HO_5.out) (Kd.R_base ho14) hb); have n1_ := aK (Kd.R_elder' (pR HO_6.out) (Kd.R_base ho14) hb); have HO112 := aK (Kd.R_lower (nw1 ho14 (pR HO_6.out)) (below_size (pS HB.out))); replace HB := bS HB hb; clear HO_5 HO_6; have HO_5 := n0_; have HO_6 := n1_; clear n0_ n1_; clear hb ho14))
     repeat (go_quiet (first | (go_at_call 37; (with_reducible refine (spec_l1Has.calls k1 _ _ x6_1 (rd l1 x7_1) false _ ?side1 ?side2 A9.out).mono ?_); (case side1 => exact pC (Kd.R_reads' HO_6.out).2.2); (case side2 => exact (Kd.R_reads' HO_6.out).2.1); rintro e w' ⟨rfl, ⟨nd, rfl⟩⟩; (try first | exact ⟨rfl, _, World.drewN_drewN _ _ _⟩ | exact ⟨rfl, _, Eq.trans (World.drewN_drewN _ _ _) (congrArg (World.drewN _) (Nat.add_assoc _ _ _))⟩); have p109 : 0 ≤ (x7_1 : Int) := of_decide_eq_true (by first | (with_reducible assumption) | assumption); have q109 : x7_1 < (l1.length : Int) := of_decide_eq_true (by first | (with_reducible assumption) | assumption); obtain ⟨ad109, e109, hx109_0⟩ := Kd.at_int HR1.out x7_1 p109 q109; obtain rfl : ad107 = ad109 := (by injection e109); replace hx109_0 := (HB.out.cell (World.block_lt_of_cell? w _ hx109_0)).trans hx109_0; replace p109 := eq_true p109; replace q109 := eq_true q109) | ((with_reducible refine gate_dst (N := 31) rfl ?_); refine Kd.R_lit (Kd.int .i64) _ 3 ?hg (N := 31) ?hd (xs := ([rd l1 x7_1] : List Int)) (inner := [.int .i64 (rd l1 x7_1)]) (ok := fun _ => True) (okp := fun _ => True) ?hr ?hp (fun _ hk => hk) trivial (Below.refl _ _) (Nat.le_refl _) (by simp) ?_; (case hd => rfl); (case hg => rfl); (case hr => first | (go_simp; done) | (go_simp; rfl)); (case hp => exact (Reps.one (show Kd.M (Kd.int .i64) _ _ _ (rd l1 x7_1) [.int .i64 (rd l1 x7_1)] from rfl) (Reps.none _ _))); intro v111 w13 ho14 hb hg_ hnew_; clear hg_ hnew_; (first | rw [← Ny110.out] at ho14 | (simp only [Int.reduceToNat] at ho14; rw [← Ny110.out] at ho14)); have n0_ := aK (Kd.S_elder' (by (with_reducible repeat (first | apply Kd.S_alloc | apply Kd.S_drewN | apply Kd.S_drew)); exact HO_5.out) (Kd.R_base ho14) hb); have n1_ := aK (Kd.R_elder' (pR HO_6.out) (Kd.R_base ho14) hb); have HO112 := aK (Kd.R_lower (nw1 ho14 (pR HO_6.out)) (below_size (pS HB.out))); replace HB := bS HB hb; clear HO_5 HO_6; have HO_5 := n0_; have HO_6 := n1_; clear n0_ n1_; clear hb ho14)); try go_wp2_with (first | (go_at_call 37; (with_reducible refine (spec_l1Has.calls k1 _ _ x6_1 (rd l1 x7_1) false _ ?side1 ?side2 A9.out).mono ?_); (case side1 => exact pC (Kd.R_reads' HO_6.out).2.2); (case side2 => exact (Kd.R_reads' HO_6.out).2.1); rintro e w' ⟨rfl, ⟨nd, rfl⟩⟩; (try first | exact ⟨rfl, _, World.drewN_drewN _ _ _⟩ | exact ⟨rfl, _, Eq.trans (World.drewN_drewN _ _ _) (congrArg (World.drewN _) (Nat.add_assoc _ _ _))⟩); have p109 : 0 ≤ (x7_1 : Int) := of_decide_eq_true (by first | (with_reducible assumption) | assumption); have q109 : x7_1 < (l1.length : Int) := of_decide_eq_true (by first | (with_reducible assumption) | assumption); obtain ⟨ad109, e109, hx109_0⟩ := Kd.at_int HR1.out x7_1 p109 q109; obtain rfl : ad107 = ad109 := (by injection e109); replace hx109_0 := (HB.out.cell (World.block_lt_of_cell? w _ hx109_0)).trans hx109_0; replace p109 := eq_true p109; replace q109 := eq_true q109) | ((with_reducible refine gate_dst (N := 31) rfl ?_); refine Kd.R_lit (Kd.int .i64) _ 3 ?hg (N := 31) ?hd (xs := ([rd l1 x7_1] : List Int)) (inner := [.int .i64 (rd l1 x7_1)]) (ok := fun _ => True) (okp := fun _ => True) ?hr ?hp (fun _ hk => hk) trivial (Below.refl _ _) (Nat.le_refl _) (by simp) ?_; (case hd => rfl); (case hg => rfl); (case hr => first | (go_simp; done) | (go_simp; rfl)); (case hp => exact (Reps.one (show Kd.M (Kd.int .i64) _ _ _ (rd l1 x7_1) [.int .i64 (rd l1 x7_1)] from rfl) (Reps.none _ _))); intro v111 w13 ho14 hb hg_ hnew_; clear hg_ hnew_; (first | rw [← Ny110.out] at ho14 | (simp only [Int.reduceToNat] at ho14; rw [← Ny110.out] at ho14)); have n0_ := aK (Kd.S_elder' (by (with_reducible repeat (first | apply Kd.S_alloc | apply Kd.S_drewN | apply Kd.S_drew)); exact HO_5.out) (Kd.R_base ho14) hb); have n1_ := aK (Kd.R_elder' (pR HO_6.out) (Kd.R_base ho14) hb); have HO112 := aK (Kd.R_lower (nw1 ho14 (pR HO_6.out)) (below_size (pS HB.out))); replace HB := bS HB hb; clear HO_5 HO_6; have HO_5 := n0_; have HO_6 := n1_; clear n0_ n1_; clear hb ho14)))
     go_loopg [8, 9] k1 (fun kq v8 v9 w' => ∃ (x8_2 : List Int) (x9_2 : Int), v9 = .int .i64 x9_2 ∧ Aside0 (spec_l8Parts.l1 kq a0 l1 x5_1 x6_1 x7_1 x8_2 x9_2 = some r) ∧ Aside0 (kq ≤ k1) ∧ Aside0 (Kd.S (Kd.slice 3 (Kd.int .i64)) 22 w' w.heap.size (fun k_ => some k_ ≠ ((.slice Ao12 x6_1.length co12) : Value).ownBlock ∧ some k_ ≠ (v8 : Value).ownBlock) u5 x5_1) ∧ Aside0 (Kd.R (Kd.int .i64) 3 w' w.heap.size (fun k_ => some k_ ≠ (v8 : Value).ownBlock) (.slice Ao12 x6_1.length co12) x6_1) ∧ Aside0 (Kd.R (Kd.int .i64) 3 w' w.heap.size (fun k_ => some k_ ≠ ((.slice Ao12 x6_1.length co12) : Value).ownBlock) v8 x8_2) ∧ Aside0 (Below w.heap.size w w'))
     case atStart => exact ⟨(y110), (0), (by first | rfl | (simp; done) | (simp [*]; done)), H', ⟨Nat.le_refl _⟩, ⟨by (with_reducible repeat (first | apply Kd.S_alloc | apply Kd.S_drewN | apply Kd.S_drew)); exact HO_5.out⟩, ⟨pR (Kd.R_mono HO_6.out (fun _ hk => hk.2))⟩, ⟨pR (Kd.R_mono HO112.out (fun _ hk => hk.2))⟩, ⟨pT HB.out⟩⟩
     case round =>
      clear H'
      try clear c1
      try clear p1
      try clear q1
      try clear hx1
      try clear c2
      try clear p2
      try clear p6
      try clear c7
      try clear c7b0
      try clear c8
      try clear c8b0
      try clear c10
      try clear p10
      try clear q10
      try clear hx10
      try clear hx107_0
      try clear hx109_0
      try clear p107
      try clear p109
      try clear p2
      try clear q107
      try clear q109
      obtain ⟨x8_2, x9_2, rfl, HA, HK2, HO_5, HO_6, HO_8, HB⟩ := hrel
      cases gk with
      | zero => exact absurd HA.out (by simp [spec_l8Parts.l1])
      | succ k2 =>
       have H := HA.out
       clear HA
       simp only [spec_l8Parts.l1] at H
       by_cases c15 : x9_2 < (x8_2.length : Int)
       ·
        rw [if_pos c15] at H
        have c15b0 : decide (x9_2 < (x8_2.length : Int)) = true := decide_eq_true c15
        clear c15
        have H' := Aside0.mk H
        clear H
        obtain ⟨Ao16, co16, eo16⟩ := Kd.R_slice HO_8.out
        subst eo16
        go_wp2
        repeat (go_quiet (fail); try go_wp2)
        go_loopg [8, 10] k2 (fun kq v8 v10 w' => ∃ (x8_3 : List Int) (x10_3 : Int), v10 = .int .i64 x10_3 ∧ Aside0 (spec_l8Parts.l2 kq a0 l1 x5_1 x6_1 x7_1 x8_3 x9_2 x10_3 = some r) ∧ Aside0 (kq ≤ k2) ∧ Aside0 (Kd.S (Kd.slice 3 (Kd.int .i64)) 22 w' w.heap.size (fun k_ => some k_ ≠ ((.slice Ao12 x6_1.length co12) : Value).ownBlock ∧ some k_ ≠ (v8 : Value).ownBlock) u5 x5_1) ∧ Aside0 (Kd.R (Kd.int .i64) 3 w' w.heap.size (fun k_ => some k_ ≠ (v8 : Value).ownBlock) (.slice Ao12 x6_1.length co12) x6_1) ∧ Aside0 (Kd.R (Kd.int .i64) 3 w' w.heap.size (fun k_ => some k_ ≠ ((.slice Ao12 x6_1.length co12) : Value).ownBlock) v8 x8_3) ∧ Aside0 (Below w.heap.size w w'))
        case atStart => exact ⟨(x8_2), (0), (by first | rfl | (simp; done) | (simp [*]; done)), H', ⟨Nat.le_refl _⟩, ⟨by (with_reducible repeat (first | apply Kd.S_alloc | apply Kd.S_drewN | apply Kd.S_drew)); exact HO_5.out⟩, ⟨pR HO_6.out⟩, ⟨pR HO_8.out⟩, ⟨pT HB.out⟩⟩
        case round =>
         clear H'
         try clear c1
         try clear p1
         try clear q1
         try clear hx1
         try clear c2
         try clear p2
         try clear p6
         try clear c7
         try clear c7b0
         try clear c8
         try clear c8b0
         try clear c10
         try clear p10
         try clear q10
         try clear hx10
         try clear c15
         try clear c15b0
         try clear hx107_0
         try clear hx109_0
         try clear p1
         try clear p10
         try clear p107
         try clear p109
         try clear p2
         try clear p6
         try clear q1
         try clear q10
         try clear q107
         try clear q109
         obtain ⟨x8_3, x10_3, rfl, HA, HK3, HO_5, HO_6, HO_8, HB⟩ := hrel
         cases gk with
         | zero => exact absurd HA.out (by simp [spec_l8Parts.l2])
         | succ k3 =>
          have H := HA.out
          clear HA
          simp only [spec_l8Parts.l2] at H
          by_cases c17 : x10_3 < (l1.length : Int)
          ·
           rw [if_pos c17] at H
           have c17b0 : decide (x10_3 < (l1.length : Int)) = true := decide_eq_true c17
           clear c17
           by_cases c18 : 0 ≤ x10_3
           ·
            rw [if_pos c18] at H
            have c18b0 : decide (0 ≤ x10_3) = true := decide_eq_true c18
            clear c18
            replace H := Option.bind_eq_some_iff.mp H
            obtain ⟨t114, A190, H⟩ := H
            replace H : (if t114 = true then (spec_l8Parts.l2 k3 a0 l1 x5_1 x6_1 x7_1 x8_3 x9_2 (wrap64 (x10_3 + 1))) else (if 0 ≤ x9_2 then (if x9_2 < (x8_3.length : Int) then ((spec_l8Beside.f a0 (rd x8_3 x9_2) (rd l1 x10_3)).bind fun t117 => (if t117 = true then (if x8_3.length < 17592186044416 then (spec_l8Parts.l2 k3 a0 l1 x5_1 x6_1 x7_1 (x8_3 ++ [rd l1 x10_3]) x9_2 (wrap64 (x10_3 + 1))) else (none)) else (spec_l8Parts.l2 k3 a0 l1 x5_1 x6_1 x7_1 x8_3 x9_2 (wrap64 (x10_3 + 1))))) else (none)) else (none))) = some r := H
            have A19 := Aside0.mk A190
            clear A190
            by_cases c20 : t114 = true
            ·
             subst c20
             have H1 : (spec_l8Parts.l2 k3 a0 l1 x5_1 x6_1 x7_1 x8_3 x9_2 (wrap64 (x10_3 + 1))) = some r := by rw [if_pos rfl] at H; exact H
             clear H
             have H := H1
             clear H1
             have H' := Aside0.mk H
             clear H
             have p113 : 0 ≤ (x10_3 : Int) := of_decide_eq_true (by first | (with_reducible assumption) | assumption)
             have q113 : x10_3 < (l1.length : Int) := of_decide_eq_true (by first | (with_reducible assumption) | assumption)
             obtain ⟨ad113, e113, hx113_0⟩ := Kd.at_int HR1.out x10_3 p113 q113
             obtain rfl : ad107 = ad113 := (by injection e113)
             replace hx113_0 := (HB.out.cell (World.block_lt_of_cell? w _ hx113_0)).trans hx113_0
             replace p113 := eq_true p113
             replace q113 := eq_true q113
             obtain ⟨Ao21, co21, eo21⟩ := Kd.R_slice HO_8.out
             subst eo21
             go_wp2_with (first | (go_at_call 37; (with_reducible refine (spec_l1Has.calls k3 _ _ x8_3 (rd l1 x10_3) true _ ?side1 ?side2 A19.out).mono ?_); (case side1 => exact pC (Kd.R_reads' HO_8.out).2.2); (case side2 => exact (Kd.R_reads' HO_8.out).2.1); rintro e w' ⟨rfl, ⟨nd, rfl⟩⟩; (try first | exact ⟨rfl, _, World.drewN_drewN _ _ _⟩ | exact ⟨rfl, _, Eq.trans (World.drewN_drewN _ _ _) (congrArg (World.drewN _) (Nat.add_assoc _ _ _))⟩)))
             repeat (go_quiet (first | (go_at_call 37; (with_reducible refine (spec_l1Has.calls k3 _ _ x8_3 (rd l1 x10_3) true _ ?side1 ?side2 A19.out).mono ?_); (case side1 => exact pC (Kd.R_reads' HO_8.out).2.2); (case side2 => exact (Kd.R_reads' HO_8.out).2.1); rintro e w' ⟨rfl, ⟨nd, rfl⟩⟩; (try first | exact ⟨rfl, _, World.drewN_drewN _ _ _⟩ | exact ⟨rfl, _, Eq.trans (World.drewN_drewN _ _ _) (congrArg (World.drewN _) (Nat.add_assoc _ _ _))⟩))); try go_wp2_with (first | (go_at_call 37; (with_reducible refine (spec_l1Has.calls k3 _ _ x8_3 (rd l1 x10_3) true _ ?side1 ?side2 A19.out).mono ?_); (case side1 => exact pC (Kd.R_reads' HO_8.out).2.2); (case side2 => exact (Kd.R_reads' HO_8.out).2.1); rintro e w' ⟨rfl, ⟨nd, rfl⟩⟩; (try first | exact ⟨rfl, _, World.drewN_drewN _ _ _⟩ | exact ⟨rfl, _, Eq.trans (World.drewN_drewN _ _ _) (congrArg (World.drewN _) (Nat.add_assoc _ _ _))⟩))))
             go_roundg k3
             case measure => have := HK1.out; have := HK2.out; have := HK3.out; omega
             case rel => exact ⟨(x8_3), (wrap64 (x10_3 + 1)), (by first | rfl | (simp; done) | (simp [*]; done)), H', ⟨by have := HK1.out; have := HK2.out; have := HK3.out; omega⟩, ⟨by (with_reducible repeat (first | apply Kd.S_alloc | apply Kd.S_drewN | apply Kd.S_drew)); exact HO_5.out⟩, ⟨pR HO_6.out⟩, ⟨pR HO_8.out⟩, ⟨pT HB.out⟩⟩
            replace c20 := Bool.eq_false_iff.mpr c20
            subst c20
            have H1 : (if 0 ≤ x9_2 then (if x9_2 < (x8_3.length : Int) then ((spec_l8Beside.f a0 (rd x8_3 x9_2) (rd l1 x10_3)).bind fun t117 => (if t117 = true then (if x8_3.length < 17592186044416 then (spec_l8Parts.l2 k3 a0 l1 x5_1 x6_1 x7_1 (x8_3 ++ [rd l1 x10_3]) x9_2 (wrap64 (x10_3 + 1))) else (none)) else (spec_l8Parts.l2 k3 a0 l1 x5_1 x6_1 x7_1 x8_3 x9_2 (wrap64 (x10_3 + 1))))) else (none)) else (none)) = some r := by rw [if_neg (show ¬ (false = true) by decide)] at H; exact H
            clear H
            have H := H1
            clear H1
            by_cases c22 : 0 ≤ x9_2
            ·
             rw [if_pos c22] at H
             have c22b0 : decide (0 ≤ x9_2) = true := decide_eq_true c22
             clear c22
             by_cases c23 : x9_2 < (x8_3.length : Int)
             ·
              rw [if_pos c23] at H
              have c23b0 : decide (x9_2 < (x8_3.length : Int)) = true := decide_eq_true c23
              clear c23
              replace H := Option.bind_eq_some_iff.mp H
              obtain ⟨t117, A240, H⟩ := H
              replace H : (if t117 = true then (if x8_3.length < 17592186044416 then (spec_l8Parts.l2 k3 a0 l1 x5_1 x6_1 x7_1 (x8_3 ++ [rd l1 x10_3]) x9_2 (wrap64 (x10_3 + 1))) else (none)) else (spec_l8Parts.l2 k3 a0 l1 x5_1 x6_1 x7_1 x8_3 x9_2 (wrap64 (x10_3 + 1)))) = some r := H
              have A24 := Aside0.mk A240
              clear A240
              by_cases c25 : t117 = true
              ·
               subst c25
               have H1 : (if x8_3.length < 17592186044416 then (spec_l8Parts.l2 k3 a0 l1 x5_1 x6_1 x7_1 (x8_3 ++ [rd l1 x10_3]) x9_2 (wrap64 (x10_3 + 1))) else (none)) = some r := by rw [if_pos rfl] at H; exact H
               clear H
               have H := H1
               clear H1
               by_cases c26 : x8_3.length < 17592186044416
               ·
                rw [if_pos c26] at H
                have LMc26 := Aside0.mk c26
                clear c26
                obtain ⟨y119, hy119⟩ : ∃ y_ : List Int, y_ = (x8_3 ++ [rd l1 x10_3]) := ⟨_, rfl⟩
                replace H : (spec_l8Parts.l2 k3 a0 l1 x5_1 x6_1 x7_1 y119 x9_2 (wrap64 (x10_3 + 1))) = some r := by first | (rw [hy119]; with_reducible exact H) | (have H2_ := (Option.bind_some _ _).symm.trans H; rw [hy119]; with_reducible exact H2_) | (have H2_ := (Option.bind_some _ _).symm.trans H; with_reducible exact H2_) | with_reducible exact H | (rw [hy119]; exact H) | exact H
                have Ny119 := Aside0.mk hy119
                clear hy119
                have H' := Aside0.mk H
                clear H
                have p113 : 0 ≤ (x10_3 : Int) := of_decide_eq_true (by first | (with_reducible assumption) | assumption)
                have q113 : x10_3 < (l1.length : Int) := of_decide_eq_true (by first | (with_reducible assumption) | assumption)
                obtain ⟨ad113, e113, hx113_0⟩ := Kd.at_int HR1.out x10_3 p113 q113
                obtain rfl : ad107 = ad113 := (by injection e113)
                replace hx113_0 := (HB.out.cell (World.block_lt_of_cell? w _ hx113_0)).trans hx113_0
                replace p113 := eq_true p113
                replace q113 := eq_true q113
                obtain ⟨Ao27, co27, eo27⟩ := Kd.R_slice HO_8.out
                subst eo27
                go_wp2_with (first | (go_at_call 37; (with_reducible refine (spec_l1Has.calls k3 _ _ x8_3 (rd l1 x10_3) false _ ?side1 ?side2 A19.out).mono ?_); (case side1 => exact pC (Kd.R_reads' HO_8.out).2.2); (case side2 => exact (Kd.R_reads' HO_8.out).2.1); rintro e w' ⟨rfl, ⟨nd, rfl⟩⟩; (try first | exact ⟨rfl, _, World.drewN_drewN _ _ _⟩ | exact ⟨rfl, _, Eq.trans (World.drewN_drewN _ _ _) (congrArg (World.drewN _) (Nat.add_assoc _ _ _))⟩); have p115 : 0 ≤ (x9_2 : Int) := of_decide_eq_true (by first | (with_reducible assumption) | assumption); have q115 : x9_2 < (x8_3.length : Int) := of_decide_eq_true (by first | (with_reducible assumption) | assumption); obtain ⟨ad115, e115, hx115_0⟩ := Kd.at_int (Kd.R_reads' HO_8.out).2.2 x9_2 p115 q115; cases e115; replace p115 := eq_true p115; replace q115 := eq_true q115; have p116 : 0 ≤ (x10_3 : Int) := of_decide_eq_true (by first | (with_reducible assumption) | assumption); have q116 : x10_3 < (l1.length : Int) := of_decide_eq_true (by first | (with_reducible assumption) | assumption); obtain ⟨ad116, e116, hx116_0⟩ := Kd.at_int HR1.out x10_3 p116 q116; obtain rfl : ad107 = ad116 := (by injection e116); replace hx116_0 := (HB.out.cell (World.block_lt_of_cell? w _ hx116_0)).trans hx116_0; replace p116 := eq_true p116; replace q116 := eq_true q116) | (go_at_call 38; (with_reducible refine (spec_l8Beside.calls a0 (rd x8_3 x9_2) (rd l1 x10_3) true _ A24.out).mono ?_); rintro e w' ⟨rfl, ⟨nd, rfl⟩⟩; (try first | exact ⟨rfl, _, World.drewN_drewN _ _ _⟩ | exact ⟨rfl, _, Eq.trans (World.drewN_drewN _ _ _) (congrArg (World.drewN _) (Nat.add_assoc _ _ _))⟩); have p118 : 0 ≤ (x10_3 : Int) := of_decide_eq_true (by first | (with_reducible assumption) | assumption); have q118 : x10_3 < (l1.length : Int) := of_decide_eq_true (by first | (with_reducible assumption) | assumption); obtain ⟨ad118, e118, hx118_0⟩ := Kd.at_int HR1.out x10_3 p118 q118; obtain rfl : ad107 = ad118 := (by injection e118); replace hx118_0 := (HB.out.cell (World.block_lt_of_cell? w _ hx118_0)).trans hx118_0; replace p118 := eq_true p118; replace q118 := eq_true q118) | ((with_reducible refine gate_builtin (b := .append) (xs := #[.tmp 63, .tmp 68]) rfl ?_); at_builtin; refine Kd.R_append (Kd.int .i64) (w0 := w) w.heap.size rfl (.tmp 63) (.tmp 68) 22 3 (.int .i64 0) 8 rfl Try.underlying22 info3 rfl (by decide) (by omega) (.slice (some ad115) x8_3.length co27) x8_3 (rd l1 x10_3) [.int .i64 (rd l1 x10_3)] (fun k_ => some k_ ≠ (.slice Ao12 x6_1.length co12 : Value).ownBlock) (fun _ => False) rfl rfl ?aP (fun _ hk => hk.elim) ?aF ?aO ?aB ?aS ?aL ?_; (case aP => exact rfl); (case aB => exact (pS HB.out)); (case aF => exact (fun k_ hk => Kd.fresh' (Kd.R_lt (pR HO_6.out)) k_ hk)); (case aO => exact (pR HO_8.out)); (case aS => exact (below_size (pS HB.out))); (case aL => have := LMc26.out; omega); intro v120 w28 ho hb hg hat; rw [← Ny119.out] at ho; have n0_ := aK (Kd.S_after (ok := (fun k_ => some k_ ≠ (.slice Ao12 x6_1.length co12 : Value).ownBlock)) (by (with_reducible repeat (first | apply Kd.S_alloc | apply Kd.S_drewN | apply Kd.S_drew)); exact HO_5.out) hg hat); have n1_ := aK (Kd.R_after (ok := (fun _ => True)) (pR (Kd.R_mono HO_6.out (fun _ hk => ⟨trivial, hk⟩))) hg hat); have n2_ := aK (hb); have HO121 := aK (ho); clear HO_5 HO_6 HB HO_8; have HO_5 := n0_; have HO_6 := n1_; have HB := n2_; clear n0_ n1_ n2_; clear ho hb hg hat))
                repeat (go_quiet (first | (go_at_call 37; (with_reducible refine (spec_l1Has.calls k3 _ _ x8_3 (rd l1 x10_3) false _ ?side1 ?side2 A19.out).mono ?_); (case side1 => exact pC (Kd.R_reads' HO_8.out).2.2); (case side2 => exact (Kd.R_reads' HO_8.out).2.1); rintro e w' ⟨rfl, ⟨nd, rfl⟩⟩; (try first | exact ⟨rfl, _, World.drewN_drewN _ _ _⟩ | exact ⟨rfl, _, Eq.trans (World.drewN_drewN _ _ _) (congrArg (World.drewN _) (Nat.add_assoc _ _ _))⟩); have p115 : 0 ≤ (x9_2 : Int) := of_decide_eq_true (by first | (with_reducible assumption) | assumption); have q115 : x9_2 < (x8_3.length : Int) := of_decide_eq_true (by first | (with_reducible assumption) | assumption); obtain ⟨ad115, e115, hx115_0⟩ := Kd.at_int (Kd.R_reads' HO_8.out).2.2 x9_2 p115 q115; cases e115; replace p115 := eq_true p115; replace q115 := eq_true q115; have p116 : 0 ≤ (x10_3 : Int) := of_decide_eq_true (by first | (with_reducible assumption) | assumption); have q116 : x10_3 < (l1.length : Int) := of_decide_eq_true (by first | (with_reducible assumption) | assumption); obtain ⟨ad116, e116, hx116_0⟩ := Kd.at_int HR1.out x10_3 p116 q116; obtain rfl : ad107 = ad116 := (by injection e116); replace hx116_0 := (HB.out.cell (World.block_lt_of_cell? w _ hx116_0)).trans hx116_0; replace p116 := eq_true p116; replace q116 := eq_true q116) | (go_at_call 38; (with_reducible refine (spec_l8Beside.calls a0 (rd x8_3 x9_2) (rd l1 x10_3) true _ A24.out).mono ?_); rintro e w' ⟨rfl, ⟨nd, rfl⟩⟩; (try first | exact ⟨rfl, _, World.drewN_drewN _ _ _⟩ | exact ⟨rfl, _, Eq.trans (World.drewN_drewN _ _ _) (congrArg (World.drewN _) (Nat.add_assoc _ _ _))⟩); have p118 : 0 ≤ (x10_3 : Int) := of_decide_eq_true (by first | (with_reducible assumption) | assumption); have q118 : x10_3 < (l1.length : Int) := of_decide_eq_true (by first | (with_reducible assumption) | assumption); obtain ⟨ad118, e118, hx118_0⟩ := Kd.at_int HR1.out x10_3 p118 q118; obtain rfl : ad107 = ad118 := (by injection e118); replace hx118_0 := (HB.out.cell (World.block_lt_of_cell? w _ hx118_0)).trans hx118_0; replace p118 := eq_true p118; replace q118 := eq_true q118) | ((with_reducible refine gate_builtin (b := .append) (xs := #[.tmp 63, .tmp 68]) rfl ?_); at_builtin; refine Kd.R_append (Kd.int .i64) (w0 := w) w.heap.size rfl (.tmp 63) (.tmp 68) 22 3 (.int .i64 0) 8 rfl Try.underlying22 info3 rfl (by decide) (by omega) (.slice (some ad115) x8_3.length co27) x8_3 (rd l1 x10_3) [.int .i64 (rd l1 x10_3)] (fun k_ => some k_ ≠ (.slice Ao12 x6_1.length co12 : Value).ownBlock) (fun _ => False) rfl rfl ?aP (fun _ hk => hk.elim) ?aF ?aO ?aB ?aS ?aL ?_; (case aP => exact rfl); (case aB => exact (pS HB.out)); (case aF => exact (fun k_ hk => Kd.fresh' (Kd.R_lt (pR HO_6.out)) k_ hk)); (case aO => exact (pR HO_8.out)); (case aS => exact (below_size (pS HB.out))); (case aL => have := LMc26.out; omega); intro v120 w28 ho hb hg hat; rw [← Ny119.out] at ho; have n0_ := aK (Kd.S_after (ok := (fun k_ => some k_ ≠ (.slice Ao12 x6_1.length co12 : Value).ownBlock)) (by (with_reducible repeat (first | apply Kd.S_alloc | apply Kd.S_drewN | apply Kd.S_drew)); exact HO_5.out) hg hat); have n1_ := aK (Kd.R_after (ok := (fun _ => True)) (pR (Kd.R_mono HO_6.out (fun _ hk => ⟨trivial, hk⟩))) hg hat); have n2_ := aK (hb); have HO121 := aK (ho); clear HO_5 HO_6 HB HO_8; have HO_5 := n0_; have HO_6 := n1_; have HB := n2_; clear n0_ n1_ n2_; clear ho hb hg hat)); try go_wp2_with (first | (go_at_call 37; (with_reducible refine (spec_l1Has.calls k3 _ _ x8_3 (rd l1 x10_3) false _ ?side1 ?side2 A19.out).mono ?_); (case side1 => exact pC (Kd.R_reads' HO_8.out).2.2); (case side2 => exact (Kd.R_reads' HO_8.out).2.1); rintro e w' ⟨rfl, ⟨nd, rfl⟩⟩; (try first | exact ⟨rfl, _, World.drewN_drewN _ _ _⟩ | exact ⟨rfl, _, Eq.trans (World.drewN_drewN _ _ _) (congrArg (World.drewN _) (Nat.add_assoc _ _ _))⟩); have p115 : 0 ≤ (x9_2 : Int) := of_decide_eq_true (by first | (with_reducible assumption) | assumption); have q115 : x9_2 < (x8_3.length : Int) := of_decide_eq_true (by first | (with_reducible assumption) | assumption); obtain ⟨ad115, e115, hx115_0⟩ := Kd.at_int (Kd.R_reads' HO_8.out).2.2 x9_2 p115 q115; cases e115; replace p115 := eq_true p115; replace q115 := eq_true q115; have p116 : 0 ≤ (x10_3 : Int) := of_decide_eq_true (by first | (with_reducible assumption) | assumption); have q116 : x10_3 < (l1.length : Int) := of_decide_eq_true (by first | (with_reducible assumption) | assumption); obtain ⟨ad116, e116, hx116_0⟩ := Kd.at_int HR1.out x10_3 p116 q116; obtain rfl : ad107 = ad116 := (by injection e116); replace hx116_0 := (HB.out.cell (World.block_lt_of_cell? w _ hx116_0)).trans hx116_0; replace p116 := eq_true p116; replace q116 := eq_true q116) | (go_at_call 38; (with_reducible refine (spec_l8Beside.calls a0 (rd x8_3 x9_2) (rd l1 x10_3) true _ A24.out).mono ?_); rintro e w' ⟨rfl, ⟨nd, rfl⟩⟩; (try first | exact ⟨rfl, _, World.drewN_drewN _ _ _⟩ | exact ⟨rfl, _, Eq.trans (World.drewN_drewN _ _ _) (congrArg (World.drewN _) (Nat.add_assoc _ _ _))⟩); have p118 : 0 ≤ (x10_3 : Int) := of_decide_eq_true (by first | (with_reducible assumption) | assumption); have q118 : x10_3 < (l1.length : Int) := of_decide_eq_true (by first | (with_reducible assumption) | assumption); obtain ⟨ad118, e118, hx118_0⟩ := Kd.at_int HR1.out x10_3 p118 q118; obtain rfl : ad107 = ad118 := (by injection e118); replace hx118_0 := (HB.out.cell (World.block_lt_of_cell? w _ hx118_0)).trans hx118_0; replace p118 := eq_true p118; replace q118 := eq_true q118) | ((with_reducible refine gate_builtin (b := .append) (xs := #[.tmp 63, .tmp 68]) rfl ?_); at_builtin; refine Kd.R_append (Kd.int .i64) (w0 := w) w.heap.size rfl (.tmp 63) (.tmp 68) 22 3 (.int .i64 0) 8 rfl Try.underlying22 info3 rfl (by decide) (by omega) (.slice (some ad115) x8_3.length co27) x8_3 (rd l1 x10_3) [.int .i64 (rd l1 x10_3)] (fun k_ => some k_ ≠ (.slice Ao12 x6_1.length co12 : Value).ownBlock) (fun _ => False) rfl rfl ?aP (fun _ hk => hk.elim) ?aF ?aO ?aB ?aS ?aL ?_; (case aP => exact rfl); (case aB => exact (pS HB.out)); (case aF => exact (fun k_ hk => Kd.fresh' (Kd.R_lt (pR HO_6.out)) k_ hk)); (case aO => exact (pR HO_8.out)); (case aS => exact (below_size (pS HB.out))); (case aL => have := LMc26.out; omega); intro v120 w28 ho hb hg hat; rw [← Ny119.out] at ho; have n0_ := aK (Kd.S_after (ok := (fun k_ => some k_ ≠ (.slice Ao12 x6_1.length co12 : Value).ownBlock)) (by (with_reducible repeat (first | apply Kd.S_alloc | apply Kd.S_drewN | apply Kd.S_drew)); exact HO_5.out) hg hat); have n1_ := aK (Kd.R_after (ok := (fun _ => True)) (pR (Kd.R_mono HO_6.out (fun _ hk => ⟨trivial, hk⟩))) hg hat); have n2_ := aK (hb); have HO121 := aK (ho); clear HO_5 HO_6 HB HO_8; have HO_5 := n0_; have HO_6 := n1_; have HB := n2_; clear n0_ n1_ n2_; clear ho hb hg hat)))
                go_roundg k3
                case measure => have := HK1.out; have := HK2.out; have := HK3.out; omega
                case rel => exact ⟨(y119), (wrap64 (x10_3 + 1)), (by first | rfl | (simp; done) | (simp [*]; done)), H', ⟨by have := HK1.out; have := HK2.out; have := HK3.out; omega⟩, ⟨by (with_reducible repeat (first | apply Kd.S_alloc | apply Kd.S_drewN | apply Kd.S_drew)); exact HO_5.out⟩, ⟨pR (Kd.R_mono HO_6.out (fun _ hk => hk.2))⟩, ⟨pR HO121.out⟩, ⟨pT HB.out⟩⟩
               rw [if_neg c26] at H
               exact absurd H (by simp)
              replace c25 := Bool.eq_false_iff.mpr c25
              subst c25
              have H1 : (spec_l8Parts.l2 k3 a0 l1 x5_1 x6_1 x7_1 x8_3 x9_2 (wrap64 (x10_3 + 1))) = some r := by rw [if_neg (show ¬ (false = true) by decide)] at H; exact H
              clear H
              have H := H1
              clear H1
              have H' := Aside0.mk H
              clear H
              have p113 : 0 ≤ (x10_3 : Int) := of_decide_eq_true (by first | (with_reducible assumption) | assumption)
              have q113 : x10_3 < (l1.length : Int) := of_decide_eq_true (by first | (with_reducible assumption) | assumption)
              obtain ⟨ad113, e113, hx113_0⟩ := Kd.at_int HR1.out x10_3 p113 q113
              obtain rfl : ad107 = ad113 := (by injection e113)
              replace hx113_0 := (HB.out.cell (World.block_lt_of_cell? w _ hx113_0)).trans hx113_0
              replace p113 := eq_true p113
              replace q113 := eq_true q113
              obtain ⟨Ao29, co29, eo29⟩ := Kd.R_slice HO_8.out
              subst eo29
              go_wp2_with (first | (go_at_call 37; (with_reducible refine (spec_l1Has.calls k3 _ _ x8_3 (rd l1 x10_3) false _ ?side1 ?side2 A19.out).mono ?_); (case side1 => exact pC (Kd.R_reads' HO_8.out).2.2); (case side2 => exact (Kd.R_reads' HO_8.out).2.1); rintro e w' ⟨rfl, ⟨nd, rfl⟩⟩; (try first | exact ⟨rfl, _, World.drewN_drewN _ _ _⟩ | exact ⟨rfl, _, Eq.trans (World.drewN_drewN _ _ _) (congrArg (World.drewN _) (Nat.add_assoc _ _ _))⟩); have p115 : 0 ≤ (x9_2 : Int) := of_decide_eq_true (by first | (with_reducible assumption) | assumption); have q115 : x9_2 < (x8_3.length : Int) := of_decide_eq_true (by first | (with_reducible assumption) | assumption); obtain ⟨ad115, e115, hx115_0⟩ := Kd.at_int (Kd.R_reads' HO_8.out).2.2 x9_2 p115 q115; cases e115; replace p115 := eq_true p115; replace q115 := eq_true q115; have p116 : 0 ≤ (x10_3 : Int) := of_decide_eq_true (by first | (with_reducible assumption) | assumption); have q116 : x10_3 < (l1.length : Int) := of_decide_eq_true (by first | (with_reducible assumption) | assumption); obtain ⟨ad116, e116, hx116_0⟩ := Kd.at_int HR1.out x10_3 p116 q116; obtain rfl : ad107 = ad116 := (by injection e116); replace hx116_0 := (HB.out.cell (World.block_lt_of_cell? w _ hx116_0)).trans hx116_0; replace p116 := eq_true p116; replace q116 := eq_true q116) | (go_at_call 38; (with_reducible refine (spec_l8Beside.calls a0 (rd x8_3 x9_2) (rd l1 x10_3) false _ A24.out).mono ?_); rintro e w' ⟨rfl, ⟨nd, rfl⟩⟩; (try first | exact ⟨rfl, _, World.drewN_drewN _ _ _⟩ | exact ⟨rfl, _, Eq.trans (World.drewN_drewN _ _ _) (congrArg (World.drewN _) (Nat.add_assoc _ _ _))⟩)))
              repeat (go_quiet (first | (go_at_call 37; (with_reducible refine (spec_l1Has.calls k3 _ _ x8_3 (rd l1 x10_3) false _ ?side1 ?side2 A19.out).mono ?_); (case side1 => exact pC (Kd.R_reads' HO_8.out).2.2); (case side2 => exact (Kd.R_reads' HO_8.out).2.1); rintro e w' ⟨rfl, ⟨nd, rfl⟩⟩; (try first | exact ⟨rfl, _, World.drewN_drewN _ _ _⟩ | exact ⟨rfl, _, Eq.trans (World.drewN_drewN _ _ _) (congrArg (World.drewN _) (Nat.add_assoc _ _ _))⟩); have p115 : 0 ≤ (x9_2 : Int) := of_decide_eq_true (by first | (with_reducible assumption) | assumption); have q115 : x9_2 < (x8_3.length : Int) := of_decide_eq_true (by first | (with_reducible assumption) | assumption); obtain ⟨ad115, e115, hx115_0⟩ := Kd.at_int (Kd.R_reads' HO_8.out).2.2 x9_2 p115 q115; cases e115; replace p115 := eq_true p115; replace q115 := eq_true q115; have p116 : 0 ≤ (x10_3 : Int) := of_decide_eq_true (by first | (with_reducible assumption) | assumption); have q116 : x10_3 < (l1.length : Int) := of_decide_eq_true (by first | (with_reducible assumption) | assumption); obtain ⟨ad116, e116, hx116_0⟩ := Kd.at_int HR1.out x10_3 p116 q116; obtain rfl : ad107 = ad116 := (by injection e116); replace hx116_0 := (HB.out.cell (World.block_lt_of_cell? w _ hx116_0)).trans hx116_0; replace p116 := eq_true p116; replace q116 := eq_true q116) | (go_at_call 38; (with_reducible refine (spec_l8Beside.calls a0 (rd x8_3 x9_2) (rd l1 x10_3) false _ A24.out).mono ?_); rintro e w' ⟨rfl, ⟨nd, rfl⟩⟩; (try first | exact ⟨rfl, _, World.drewN_drewN _ _ _⟩ | exact ⟨rfl, _, Eq.trans (World.drewN_drewN _ _ _) (congrArg (World.drewN _) (Nat.add_assoc _ _ _))⟩))); try go_wp2_with (first | (go_at_call 37; (with_reducible refine (spec_l1Has.calls k3 _ _ x8_3 (rd l1 x10_3) false _ ?side1 ?side2 A19.out).mono ?_); (case side1 => exact pC (Kd.R_reads' HO_8.out).2.2); (case side2 => exact (Kd.R_reads' HO_8.out).2.1); rintro e w' ⟨rfl, ⟨nd, rfl⟩⟩; (try first | exact ⟨rfl, _, World.drewN_drewN _ _ _⟩ | exact ⟨rfl, _, Eq.trans (World.drewN_drewN _ _ _) (congrArg (World.drewN _) (Nat.add_assoc _ _ _))⟩); have p115 : 0 ≤ (x9_2 : Int) := of_decide_eq_true (by first | (with_reducible assumption) | assumption); have q115 : x9_2 < (x8_3.length : Int) := of_decide_eq_true (by first | (with_reducible assumption) | assumption); obtain ⟨ad115, e115, hx115_0⟩ := Kd.at_int (Kd.R_reads' HO_8.out).2.2 x9_2 p115 q115; cases e115; replace p115 := eq_true p115; replace q115 := eq_true q115; have p116 : 0 ≤ (x10_3 : Int) := of_decide_eq_true (by first | (with_reducible assumption) | assumption); have q116 : x10_3 < (l1.length : Int) := of_decide_eq_true (by first | (with_reducible assumption) | assumption); obtain ⟨ad116, e116, hx116_0⟩ := Kd.at_int HR1.out x10_3 p116 q116; obtain rfl : ad107 = ad116 := (by injection e116); replace hx116_0 := (HB.out.cell (World.block_lt_of_cell? w _ hx116_0)).trans hx116_0; replace p116 := eq_true p116; replace q116 := eq_true q116) | (go_at_call 38; (with_reducible refine (spec_l8Beside.calls a0 (rd x8_3 x9_2) (rd l1 x10_3) false _ A24.out).mono ?_); rintro e w' ⟨rfl, ⟨nd, rfl⟩⟩; (try first | exact ⟨rfl, _, World.drewN_drewN _ _ _⟩ | exact ⟨rfl, _, Eq.trans (World.drewN_drewN _ _ _) (congrArg (World.drewN _) (Nat.add_assoc _ _ _))⟩))))
              go_roundg k3
              case measure => have := HK1.out; have := HK2.out; have := HK3.out; omega
              case rel => exact ⟨(x8_3), (wrap64 (x10_3 + 1)), (by first | rfl | (simp; done) | (simp [*]; done)), H', ⟨by have := HK1.out; have := HK2.out; have := HK3.out; omega⟩, ⟨by (with_reducible repeat (first | apply Kd.S_alloc | apply Kd.S_drewN | apply Kd.S_drew)); exact HO_5.out⟩, ⟨pR HO_6.out⟩, ⟨pR HO_8.out⟩, ⟨pT HB.out⟩⟩
             rw [if_neg c23] at H
             exact absurd H (by simp)
            rw [if_neg c22] at H
            exact absurd H (by simp)
           rw [if_neg c18] at H
           exact absurd H (by simp)
          rw [if_neg c17] at H
          have c17b0 : decide (x10_3 < (l1.length : Int)) = false := decide_eq_false c17
          clear c17
          have H' := Aside0.mk H
          clear H
          go_wp2
          repeat (go_quiet (fail); try go_wp2)
          go_roundg k3
          case measure => have := HK1.out; have := HK2.out; have := HK3.out; omega
          case rel => exact ⟨(x8_3), (wrap64 (x9_2 + 1)), (by first | rfl | (simp; done) | (simp [*]; done)), H', ⟨by have := HK1.out; have := HK2.out; have := HK3.out; omega⟩, ⟨by (with_reducible repeat (first | apply Kd.S_alloc | apply Kd.S_drewN | apply Kd.S_drew)); exact HO_5.out⟩, ⟨pR HO_6.out⟩, ⟨pR HO_8.out⟩, ⟨pT HB.out⟩⟩
       rw [if_neg c15] at H
       have c15b0 : decide (x9_2 < (x8_2.length : Int)) = false := decide_eq_false c15
       clear c15
       obtain ⟨y122, hy122⟩ : ∃ y_ : List Int, y_ = (([] : List Int)) := ⟨_, rfl⟩
       replace H : (spec_l8Parts.l3 k2 a0 l1 x5_1 x6_1 x7_1 x8_2 y122 0) = some r := by first | (rw [hy122]; with_reducible exact H) | (have H2_ := (Option.bind_some _ _).symm.trans H; rw [hy122]; with_reducible exact H2_) | (have H2_ := (Option.bind_some _ _).symm.trans H; with_reducible exact H2_) | with_reducible exact H | (rw [hy122]; exact H) | exact H
       have Ny122 := Aside0.mk hy122
       clear hy122
       have H' := Aside0.mk H
       clear H
       obtain ⟨Ao30, co30, eo30⟩ := Kd.R_slice HO_8.out
       subst eo30
       go_wp2_with (first | ((with_reducible refine gate_dst (N := 70) rfl ?_); refine Kd.R_lit (Kd.int .i64) _ 3 ?hg (N := 70) ?hd (xs := ([] : List Int)) (inner := []) (ok := fun _ => True) (okp := fun _ => True) ?hr ?hp (fun _ hk => hk) trivial (Below.refl _ _) (Nat.le_refl _) (by simp) ?_; (case hd => rfl); (case hg => rfl); (case hr => first | (go_simp; done) | (go_simp; rfl)); (case hp => exact (Reps.none _ _)); intro v123 w31 ho32 hb hg_ hnew_; clear hg_ hnew_; (first | rw [← Ny122.out] at ho32 | (simp only [Int.reduceToNat] at ho32; rw [← Ny122.out] at ho32)); have n0_ := aK (Kd.S_elder' (by (with_reducible repeat (first | apply Kd.S_alloc | apply Kd.S_drewN | apply Kd.S_drew)); exact HO_5.out) (Kd.R_base ho32) hb); have n1_ := aK (Kd.R_elder' (pR HO_6.out) (Kd.R_base ho32) hb); have n2_ := aK (Kd.R_elder' (pR HO_8.out) (Kd.R_base ho32) hb); have HO124 := aK (Kd.R_lower (nw2 ho32 (pR HO_6.out) (pR HO_8.out)) (below_size (pS HB.out))); replace HB := bS HB hb; clear HO_5 HO_6 HO_8; have HO_5 := n0_; have HO_6 := n1_; have HO_8 := n2_; clear n0_ n1_ n2_; clear hb ho32))
       repeat (go_quiet (first | ((with_reducible refine gate_dst (N := 70) rfl ?_); refine Kd.R_lit (Kd.int .i64) _ 3 ?hg (N := 70) ?hd (xs := ([] : List Int)) (inner := []) (ok := fun _ => True) (okp := fun _ => True) ?hr ?hp (fun _ hk => hk) trivial (Below.refl _ _) (Nat.le_refl _) (by simp) ?_; (case hd => rfl); (case hg => rfl); (case hr => first | (go_simp; done) | (go_simp; rfl)); (case hp => exact (Reps.none _ _)); intro v123 w31 ho32 hb hg_ hnew_; clear hg_ hnew_; (first | rw [← Ny122.out] at ho32 | (simp only [Int.reduceToNat] at ho32; rw [← Ny122.out] at ho32)); have n0_ := aK (Kd.S_elder' (by (with_reducible repeat (first | apply Kd.S_alloc | apply Kd.S_drewN | apply Kd.S_drew)); exact HO_5.out) (Kd.R_base ho32) hb); have n1_ := aK (Kd.R_elder' (pR HO_6.out) (Kd.R_base ho32) hb); have n2_ := aK (Kd.R_elder' (pR HO_8.out) (Kd.R_base ho32) hb); have HO124 := aK (Kd.R_lower (nw2 ho32 (pR HO_6.out) (pR HO_8.out)) (below_size (pS HB.out))); replace HB := bS HB hb; clear HO_5 HO_6 HO_8; have HO_5 := n0_; have HO_6 := n1_; have HO_8 := n2_; clear n0_ n1_ n2_; clear hb ho32)); try go_wp2_with (first | ((with_reducible refine gate_dst (N := 70) rfl ?_); refine Kd.R_lit (Kd.int .i64) _ 3 ?hg (N := 70) ?hd (xs := ([] : List Int)) (inner := []) (ok := fun _ => True) (okp := fun _ => True) ?hr ?hp (fun _ hk => hk) trivial (Below.refl _ _) (Nat.le_refl _) (by simp) ?_; (case hd => rfl); (case hg => rfl); (case hr => first | (go_simp; done) | (go_simp; rfl)); (case hp => exact (Reps.none _ _)); intro v123 w31 ho32 hb hg_ hnew_; clear hg_ hnew_; (first | rw [← Ny122.out] at ho32 | (simp only [Int.reduceToNat] at ho32; rw [← Ny122.out] at ho32)); have n0_ := aK (Kd.S_elder' (by (with_reducible repeat (first | apply Kd.S_alloc | apply Kd.S_drewN | apply Kd.S_drew)); exact HO_5.out) (Kd.R_base ho32) hb); have n1_ := aK (Kd.R_elder' (pR HO_6.out) (Kd.R_base ho32) hb); have n2_ := aK (Kd.R_elder' (pR HO_8.out) (Kd.R_base ho32) hb); have HO124 := aK (Kd.R_lower (nw2 ho32 (pR HO_6.out) (pR HO_8.out)) (below_size (pS HB.out))); replace HB := bS HB hb; clear HO_5 HO_6 HO_8; have HO_5 := n0_; have HO_6 := n1_; have HO_8 := n2_; clear n0_ n1_ n2_; clear hb ho32)))
       go_loopg [11, 12] k2 (fun kq v11 v12 w' => ∃ (x11_3 : List Int) (x12_3 : Int), v12 = .int .i64 x12_3 ∧ Aside0 (spec_l8Parts.l3 kq a0 l1 x5_1 x6_1 x7_1 x8_2 x11_3 x12_3 = some r) ∧ Aside0 (kq ≤ k2) ∧ Aside0 (Kd.S (Kd.slice 3 (Kd.int .i64)) 22 w' w.heap.size (fun k_ => some k_ ≠ ((.slice Ao12 x6_1.length co12) : Value).ownBlock ∧ some k_ ≠ ((.slice Ao30 x8_2.length co30) : Value).ownBlock ∧ some k_ ≠ (v11 : Value).ownBlock) u5 x5_1) ∧ Aside0 (Kd.R (Kd.int .i64) 3 w' w.heap.size (fun k_ => some k_ ≠ ((.slice Ao30 x8_2.length co30) : Value).ownBlock ∧ some k_ ≠ (v11 : Value).ownBlock) (.slice Ao12 x6_1.length co12) x6_1) ∧ Aside0 (Kd.R (Kd.int .i64) 3 w' w.heap.size (fun k_ => some k_ ≠ ((.slice Ao12 x6_1.length co12) : Value).ownBlock ∧ some k_ ≠ (v11 : Value).ownBlock) (.slice Ao30 x8_2.length co30) x8_2) ∧ Aside0 (Kd.R (Kd.int .i64) 3 w' w.heap.size (fun k_ => some k_ ≠ ((.slice Ao12 x6_1.length co12) : Value).ownBlock ∧ some k_ ≠ ((.slice Ao30 x8_2.length co30) : Value).ownBlock) v11 x11_3) ∧ Aside0 (Below w.heap.size w w'))
       case atStart => exact ⟨(y122), (0), (by first | rfl | (simp; done) | (simp [*]; done)), H', ⟨Nat.le_refl _⟩, ⟨by (with_reducible repeat (first | apply Kd.S_alloc | apply Kd.S_drewN | apply Kd.S_drew)); exact Kd.S_mono HO_5.out (fun _ hk => ⟨hk.1.1, ⟨hk.1.2, hk.2⟩⟩)⟩, ⟨pR HO_6.out⟩, ⟨pR HO_8.out⟩, ⟨pR (rP HO124.out)⟩, ⟨pT HB.out⟩⟩
       case round =>
        clear H'
        try clear c1
        try clear p1
        try clear q1
        try clear hx1
        try clear c2
        try clear p2
        try clear p6
        try clear c7
        try clear c7b0
        try clear c8
        try clear c8b0
        try clear c10
        try clear p10
        try clear q10
        try clear hx10
        try clear p11
        try clear q11
        try clear hx11
        try clear c15
        try clear c15b0
        try clear c17
        try clear c17b0
        try clear c18
        try clear c18b0
        try clear c20
        try clear c22
        try clear c22b0
        try clear c23
        try clear c23b0
        try clear c25
        try clear c26
        try clear hx107_0
        try clear hx109_0
        try clear hx113_0
        try clear hx115_0
        try clear hx116_0
        try clear hx118_0
        try clear p1
        try clear p10
        try clear p107
        try clear p109
        try clear p113
        try clear p115
        try clear p116
        try clear p118
        try clear p2
        try clear p6
        try clear q1
        try clear q10
        try clear q107
        try clear q109
        try clear q113
        try clear q115
        try clear q116
        try clear q118
        obtain ⟨x11_3, x12_3, rfl, HA, HK3, HO_5, HO_6, HO_8, HO_11, HB⟩ := hrel
        cases gk with
        | zero => exact absurd HA.out (by simp [spec_l8Parts.l3])
        | succ k3 =>
         have H := HA.out
         clear HA
         simp only [spec_l8Parts.l3] at H
         by_cases c33 : x12_3 < (x8_2.length : Int)
         ·
          rw [if_pos c33] at H
          have c33b0 : decide (x12_3 < (x8_2.length : Int)) = true := decide_eq_true c33
          clear c33
          by_cases c34 : 0 ≤ x12_3
          ·
           rw [if_pos c34] at H
           have c34b0 : decide (0 ≤ x12_3) = true := decide_eq_true c34
           clear c34
           replace H := Option.bind_eq_some_iff.mp H
           obtain ⟨t126, A350, H⟩ := H
           replace H : (spec_l8Parts.l3 k3 a0 l1 x5_1 x6_1 x7_1 x8_2 t126 (wrap64 (x12_3 + 1))) = some r := H
           have A35 := Aside0.mk A350
           clear A350
           have H' := Aside0.mk H
           clear H
           have p125 : 0 ≤ (x12_3 : Int) := of_decide_eq_true (by first | (with_reducible assumption) | assumption)
           have q125 : x12_3 < (x8_2.length : Int) := of_decide_eq_true (by first | (with_reducible assumption) | assumption)
           obtain ⟨ad125, e125, hx125_0⟩ := Kd.at_int (Kd.R_reads' HO_8.out).2.2 x12_3 p125 q125
           cases e125
           replace p125 := eq_true p125
           replace q125 := eq_true q125
           obtain ⟨Ao36, co36, eo36⟩ := Kd.R_slice HO_11.out
           subst eo36
           go_wp2_with (first | (go_at_call 41; (with_reducible refine (spec_l1Put.calls k3 (fun k_ => some k_ = (.slice Ao36 x11_3.length co36 : Value).ownBlock) (.slice Ao36 x11_3.length co36) x11_3 (rd x8_2 x12_3) t126 w _ ?side1 ?side2 A35.out).mono ?_); (case side1 => exact pT HB.out); (case side2 => exact Kd.R_tight rfl HO_11.out); rintro e w37 ⟨v127, rfl, ho0, hb, hkp⟩; have n0_ := aK (Kd.S_mono (ok' := fun k_ => some k_ ≠ (.slice Ao12 x6_1.length co12 : Value).ownBlock ∧ some k_ ≠ (.slice (some ad125) x8_2.length co30 : Value).ownBlock ∧ some k_ ≠ (v127 : Value).ownBlock) (Kd.S_keptB (HO_5.out) hkp (fun k_ hk_ hs_ => (hk_.2.2) hs_)) (fun k_ hk_ => ⟨hk_.1.1, hk_.1.2.1, fun e_ => Or.elim (ho0.1 k_ e_.symm) (fun hs_ => hk_.2.1 hs_) (fun hn_ => Nat.not_le.2 hk_.2.2 hn_)⟩)); have n1_ := aK (Kd.R_mono (ok' := fun k_ => some k_ ≠ (.slice (some ad125) x8_2.length co30 : Value).ownBlock ∧ some k_ ≠ (v127 : Value).ownBlock) (Kd.R_keptB (HO_6.out) hkp (fun k_ hk_ hs_ => (hk_.2) hs_)) (fun k_ hk_ => ⟨hk_.1.1, fun e_ => Or.elim (ho0.1 k_ e_.symm) (fun hs_ => hk_.2.1 hs_) (fun hn_ => Nat.not_le.2 hk_.2.2 hn_)⟩)); have n2_ := aK (Kd.R_mono (ok' := fun k_ => some k_ ≠ (.slice Ao12 x6_1.length co12 : Value).ownBlock ∧ some k_ ≠ (v127 : Value).ownBlock) (Kd.R_keptB (HO_8.out) hkp (fun k_ hk_ hs_ => (hk_.2) hs_)) (fun k_ hk_ => ⟨hk_.1.1, fun e_ => Or.elim (ho0.1 k_ e_.symm) (fun hs_ => hk_.2.1 hs_) (fun hn_ => Nat.not_le.2 hk_.2.2 hn_)⟩)); have HO128 := aK (Kd.R_mono (ok' := fun k_ => some k_ ≠ (.slice Ao12 x6_1.length co12 : Value).ownBlock ∧ some k_ ≠ (.slice (some ad125) x8_2.length co30 : Value).ownBlock) ho0 (fun k_ hk_ => ⟨Or.elim hk_ (fun hs_ => fun e_ => (((HO_6.out).1 k_ e_.symm).2) hs_) (fun hn_ => (Kd.fresh' (Kd.R_lt (pR HO_6.out)) k_ hn_)), Or.elim hk_ (fun hs_ => fun e_ => (((HO_8.out).1 k_ e_.symm).2) hs_) (fun hn_ => (Kd.fresh' (Kd.R_lt (pR HO_8.out)) k_ hn_))⟩)); have n4_ := aK (hb); clear HO_5 HO_6 HO_8 HB HO_11; have HO_5 := n0_; have HO_6 := n1_; have HO_8 := n2_; have HB := n4_; clear n0_ n1_ n2_ n4_; (try clear hb); (try clear hkp); (try clear ho0)))
           repeat (go_quiet (first | (go_at_call 41; (with_reducible refine (spec_l1Put.calls k3 (fun k_ => some k_ = (.slice Ao36 x11_3.length co36 : Value).ownBlock) (.slice Ao36 x11_3.length co36) x11_3 (rd x8_2 x12_3) t126 w _ ?side1 ?side2 A35.out).mono ?_); (case side1 => exact pT HB.out); (case side2 => exact Kd.R_tight rfl HO_11.out); rintro e w37 ⟨v127, rfl, ho0, hb, hkp⟩; have n0_ := aK (Kd.S_mono (ok' := fun k_ => some k_ ≠ (.slice Ao12 x6_1.length co12 : Value).ownBlock ∧ some k_ ≠ (.slice (some ad125) x8_2.length co30 : Value).ownBlock ∧ some k_ ≠ (v127 : Value).ownBlock) (Kd.S_keptB (HO_5.out) hkp (fun k_ hk_ hs_ => (hk_.2.2) hs_)) (fun k_ hk_ => ⟨hk_.1.1, hk_.1.2.1, fun e_ => Or.elim (ho0.1 k_ e_.symm) (fun hs_ => hk_.2.1 hs_) (fun hn_ => Nat.not_le.2 hk_.2.2 hn_)⟩)); have n1_ := aK (Kd.R_mono (ok' := fun k_ => some k_ ≠ (.slice (some ad125) x8_2.length co30 : Value).ownBlock ∧ some k_ ≠ (v127 : Value).ownBlock) (Kd.R_keptB (HO_6.out) hkp (fun k_ hk_ hs_ => (hk_.2) hs_)) (fun k_ hk_ => ⟨hk_.1.1, fun e_ => Or.elim (ho0.1 k_ e_.symm) (fun hs_ => hk_.2.1 hs_) (fun hn_ => Nat.not_le.2 hk_.2.2 hn_)⟩)); have n2_ := aK (Kd.R_mono (ok' := fun k_ => some k_ ≠ (.slice Ao12 x6_1.length co12 : Value).ownBlock ∧ some k_ ≠ (v127 : Value).ownBlock) (Kd.R_keptB (HO_8.out) hkp (fun k_ hk_ hs_ => (hk_.2) hs_)) (fun k_ hk_ => ⟨hk_.1.1, fun e_ => Or.elim (ho0.1 k_ e_.symm) (fun hs_ => hk_.2.1 hs_) (fun hn_ => Nat.not_le.2 hk_.2.2 hn_)⟩)); have HO128 := aK (Kd.R_mono (ok' := fun k_ => some k_ ≠ (.slice Ao12 x6_1.length co12 : Value).ownBlock ∧ some k_ ≠ (.slice (some ad125) x8_2.length co30 : Value).ownBlock) ho0 (fun k_ hk_ => ⟨Or.elim hk_ (fun hs_ => fun e_ => (((HO_6.out).1 k_ e_.symm).2) hs_) (fun hn_ => (Kd.fresh' (Kd.R_lt (pR HO_6.out)) k_ hn_)), Or.elim hk_ (fun hs_ => fun e_ => (((HO_8.out).1 k_ e_.symm).2) hs_) (fun hn_ => (Kd.fresh' (Kd.R_lt (pR HO_8.out)) k_ hn_))⟩)); have n4_ := aK (hb); clear HO_5 HO_6 HO_8 HB HO_11; have HO_5 := n0_; have HO_6 := n1_; have HO_8 := n2_; have HB := n4_; clear n0_ n1_ n2_ n4_; (try clear hb); (try clear hkp); (try clear ho0))); try go_wp2_with (first | (go_at_call 41; (with_reducible refine (spec_l1Put.calls k3 (fun k_ => some k_ = (.slice Ao36 x11_3.length co36 : Value).ownBlock) (.slice Ao36 x11_3.length co36) x11_3 (rd x8_2 x12_3) t126 w _ ?side1 ?side2 A35.out).mono ?_); (case side1 => exact pT HB.out); (case side2 => exact Kd.R_tight rfl HO_11.out); rintro e w37 ⟨v127, rfl, ho0, hb, hkp⟩; have n0_ := aK (Kd.S_mono (ok' := fun k_ => some k_ ≠ (.slice Ao12 x6_1.length co12 : Value).ownBlock ∧ some k_ ≠ (.slice (some ad125) x8_2.length co30 : Value).ownBlock ∧ some k_ ≠ (v127 : Value).ownBlock) (Kd.S_keptB (HO_5.out) hkp (fun k_ hk_ hs_ => (hk_.2.2) hs_)) (fun k_ hk_ => ⟨hk_.1.1, hk_.1.2.1, fun e_ => Or.elim (ho0.1 k_ e_.symm) (fun hs_ => hk_.2.1 hs_) (fun hn_ => Nat.not_le.2 hk_.2.2 hn_)⟩)); have n1_ := aK (Kd.R_mono (ok' := fun k_ => some k_ ≠ (.slice (some ad125) x8_2.length co30 : Value).ownBlock ∧ some k_ ≠ (v127 : Value).ownBlock) (Kd.R_keptB (HO_6.out) hkp (fun k_ hk_ hs_ => (hk_.2) hs_)) (fun k_ hk_ => ⟨hk_.1.1, fun e_ => Or.elim (ho0.1 k_ e_.symm) (fun hs_ => hk_.2.1 hs_) (fun hn_ => Nat.not_le.2 hk_.2.2 hn_)⟩)); have n2_ := aK (Kd.R_mono (ok' := fun k_ => some k_ ≠ (.slice Ao12 x6_1.length co12 : Value).ownBlock ∧ some k_ ≠ (v127 : Value).ownBlock) (Kd.R_keptB (HO_8.out) hkp (fun k_ hk_ hs_ => (hk_.2) hs_)) (fun k_ hk_ => ⟨hk_.1.1, fun e_ => Or.elim (ho0.1 k_ e_.symm) (fun hs_ => hk_.2.1 hs_) (fun hn_ => Nat.not_le.2 hk_.2.2 hn_)⟩)); have HO128 := aK (Kd.R_mono (ok' := fun k_ => some k_ ≠ (.slice Ao12 x6_1.length co12 : Value).ownBlock ∧ some k_ ≠ (.slice (some ad125) x8_2.length co30 : Value).ownBlock) ho0 (fun k_ hk_ => ⟨Or.elim hk_ (fun hs_ => fun e_ => (((HO_6.out).1 k_ e_.symm).2) hs_) (fun hn_ => (Kd.fresh' (Kd.R_lt (pR HO_6.out)) k_ hn_)), Or.elim hk_ (fun hs_ => fun e_ => (((HO_8.out).1 k_ e_.symm).2) hs_) (fun hn_ => (Kd.fresh' (Kd.R_lt (pR HO_8.out)) k_ hn_))⟩)); have n4_ := aK (hb); clear HO_5 HO_6 HO_8 HB HO_11; have HO_5 := n0_; have HO_6 := n1_; have HO_8 := n2_; have HB := n4_; clear n0_ n1_ n2_ n4_; (try clear hb); (try clear hkp); (try clear ho0))))
           go_roundg k3
           case measure => have := HK1.out; have := HK2.out; have := HK3.out; omega
           case rel => exact ⟨(t126), (wrap64 (x12_3 + 1)), (by first | rfl | (simp; done) | (simp [*]; done)), H', ⟨by have := HK1.out; have := HK2.out; have := HK3.out; omega⟩, ⟨by (with_reducible repeat (first | apply Kd.S_alloc | apply Kd.S_drewN | apply Kd.S_drew)); exact HO_5.out⟩, ⟨pR HO_6.out⟩, ⟨pR HO_8.out⟩, ⟨pR HO128.out⟩, ⟨pT HB.out⟩⟩
          rw [if_neg c34] at H
          exact absurd H (by simp)
         rw [if_neg c33] at H
         have c33b0 : decide (x12_3 < (x8_2.length : Int)) = false := decide_eq_false c33
         clear c33
         by_cases c38 : x6_1.length + x8_2.length < 17592186044416
         ·
          rw [if_pos c38] at H
          have LMc38 := Aside0.mk c38
          clear c38
          obtain ⟨y129, hy129⟩ : ∃ y_ : List Int, y_ = (x6_1 ++ x8_2) := ⟨_, rfl⟩
          replace H : (if x5_1.length < 5864062014805 then (spec_l8Parts.l0 k3 a0 l1 (x5_1 ++ [x11_3]) y129 (wrap64 (x7_1 + 1))) else (none)) = some r := by first | (rw [hy129]; with_reducible exact H) | (have H2_ := (Option.bind_some _ _).symm.trans H; rw [hy129]; with_reducible exact H2_) | (have H2_ := (Option.bind_some _ _).symm.trans H; with_reducible exact H2_) | with_reducible exact H | (rw [hy129]; exact H) | exact H
          have Ny129 := Aside0.mk hy129
          clear hy129
          by_cases c39 : x5_1.length < 5864062014805
          ·
           rw [if_pos c39] at H
           have LMc39 := Aside0.mk c39
           clear c39
           obtain ⟨y132, hy132⟩ : ∃ y_ : List (List Int), y_ = (x5_1 ++ [x11_3]) := ⟨_, rfl⟩
           replace H : (spec_l8Parts.l0 k3 a0 l1 y132 y129 (wrap64 (x7_1 + 1))) = some r := by first | (rw [hy132]; with_reducible exact H) | (have H2_ := (Option.bind_some _ _).symm.trans H; rw [hy132]; with_reducible exact H2_) | (have H2_ := (Option.bind_some _ _).symm.trans H; with_reducible exact H2_) | with_reducible exact H | (rw [hy132]; exact H) | exact H
           have Ny132 := Aside0.mk hy132
           clear hy132
           have H' := Aside0.mk H
           clear H
           go_wp2_with (first | ((with_reducible refine gate_builtin (b := .append) (xs := #[.tmp 83, .tmp 84]) rfl ?_); at_builtin; refine Kd.R_append_rows (Kd.int .i64) (w0 := w) w.heap.size rfl (.tmp 83) (.tmp 84) 22 3 (.int .i64 0) 8 rfl Try.underlying22 info3 rfl (by decide) (by omega) (.slice Ao12 x6_1.length co12) x6_1 x8_2 _ _ _ (fun k_ => some k_ ≠ (.slice Ao30 x8_2.length co30 : Value).ownBlock ∧ some k_ ≠ (u11 : Value).ownBlock) (fun _ => False) rfl rfl ?aO ?aR (fun _ _ h => h) (fun _ h => h.elim) ?aF ?aB ?aS ?aL ?_; (case aR => exact pC (Kd.R_reads' HO_8.out).2.2); (case aB => exact (pS HB.out)); (case aF => exact (fun k_ hk => ⟨Kd.fresh' (Kd.R_lt (pR HO_8.out)) k_ hk, Kd.fresh' (Kd.R_lt (pR HO_11.out)) k_ hk⟩)); (case aO => exact (pR HO_6.out)); (case aS => exact (below_size (pS HB.out))); (case aL => have := LMc38.out; omega); intro v130 w40 ho hb hg hat; rw [← Ny129.out] at ho; have n0_ := aK (Kd.S_after (ok := (fun k_ => some k_ ≠ (.slice Ao30 x8_2.length co30 : Value).ownBlock ∧ some k_ ≠ (u11 : Value).ownBlock)) (by (with_reducible repeat (first | apply Kd.S_alloc | apply Kd.S_drewN | apply Kd.S_drew)); exact Kd.S_mono HO_5.out (fun _ hk => ⟨⟨hk.2.1, hk.2.2⟩, hk.1⟩)) hg hat); have n1_ := aK (Kd.R_after (ok := (fun k_ => some k_ ≠ (u11 : Value).ownBlock)) (pR (rP HO_8.out)) hg hat); have n2_ := aK (Kd.R_after (ok := (fun k_ => some k_ ≠ (.slice Ao30 x8_2.length co30 : Value).ownBlock)) (pR (rP HO_11.out)) hg hat); have n3_ := aK (hb); have HO131 := aK (ho); clear HO_5 HO_8 HO_11 HB HO_6; have HO_5 := n0_; have HO_8 := n1_; have HO_11 := n2_; have HB := n3_; clear n0_ n1_ n2_ n3_ ho hb hg hat; obtain ⟨Ao42, co42, eo42⟩ := Kd.R_slice HO_11.out; subst eo42) | ((with_reducible refine gate_builtin (b := .append) (xs := #[.tmp 86, .tmp 88]) rfl ?_); at_builtin; refine Kd.S_append (Kd.slice 3 (Kd.int .i64)) (w0 := w) w.heap.size rfl (.tmp 86) (.tmp 88) 23 22 (.slice none 0 0) 24 rfl Try.underlying23 info22 rfl (by decide) (by omega) u5 x5_1 x11_3 [.slice Ao42 x11_3.length co42] (fun k_ => some k_ ≠ (.slice Ao30 x8_2.length co30 : Value).ownBlock ∧ some k_ ≠ (v130 : Value).ownBlock) (fun k_ => some k_ = (.slice Ao42 x11_3.length co42 : Value).ownBlock) rfl rfl ?aP (fun k_ hk_ => ((Kd.R_mono (ok' := fun k_ => ((fun k_ => some k_ ≠ (.slice Ao30 x8_2.length co30 : Value).ownBlock ∧ some k_ ≠ (v130 : Value).ownBlock)) k_ ∧ some k_ ≠ (u5 : Value).ownBlock) (Kd.R_apart' (HO_11.out) (Kd.S_typed HO_5.out) (by decide)) (fun k_ hk => ⟨⟨hk.1.1, hk.1.2⟩, hk.2⟩))).1 k_ hk_.symm) ?aF ?aO ?aB ?aS ?aL ?_; (case aP => exact Kd.M_row (Kd.R_mono (Kd.R_tight rfl (Kd.R_mono (ok' := fun k_ => ((fun k_ => some k_ ≠ (.slice Ao30 x8_2.length co30 : Value).ownBlock ∧ some k_ ≠ (v130 : Value).ownBlock)) k_ ∧ some k_ ≠ (u5 : Value).ownBlock) (Kd.R_apart' (HO_11.out) (Kd.S_typed HO_5.out) (by decide)) (fun k_ hk => ⟨⟨hk.1.1, hk.1.2⟩, hk.2⟩))) (fun _ h_ => h_))); (case aB => exact (pS HB.out)); (case aF => exact (fun k_ hk => ⟨Kd.fresh' (Kd.R_lt (pR HO_8.out)) k_ hk, Kd.fresh' (Kd.R_lt (pR HO131.out)) k_ hk⟩)); (case aO => exact (by (with_reducible repeat (first | apply Kd.S_alloc | apply Kd.S_drewN | apply Kd.S_drew)); exact Kd.S_mono HO_5.out (fun k_ hk => ⟨⟨hk.1.1, hk.2⟩, fun e_ => hk.1.2 e_⟩))); (case aS => exact (below_size (pS HB.out))); (case aL => have := LMc39.out; omega); intro v133 w41 ho hb hg hat; rw [← Ny132.out] at ho; have n0_ := aK (Kd.R_over' (pR HO_8.out) (Kd.S_typed (by (with_reducible repeat (first | apply Kd.S_alloc | apply Kd.S_drewN | apply Kd.S_drew)); exact HO_5.out)) (by decide) hg); have n1_ := aK (Kd.R_over' (pR HO131.out) (Kd.S_typed (by (with_reducible repeat (first | apply Kd.S_alloc | apply Kd.S_drewN | apply Kd.S_drew)); exact HO_5.out)) (by decide) hg); have n2_ := aK (hb); have HO134 := aK (ho); clear HO_8 HO131 HB HO_5 HO_11; have HO_8 := n0_; have HO131 := n1_; have HB := n2_; clear n0_ n1_ n2_; clear ho hb hg hat))
           repeat (go_quiet (first | ((with_reducible refine gate_builtin (b := .append) (xs := #[.tmp 83, .tmp 84]) rfl ?_); at_builtin; refine Kd.R_append_rows (Kd.int .i64) (w0 := w) w.heap.size rfl (.tmp 83) (.tmp 84) 22 3 (.int .i64 0) 8 rfl Try.underlying22 info3 rfl (by decide) (by omega) (.slice Ao12 x6_1.length co12) x6_1 x8_2 _ _ _ (fun k_ => some k_ ≠ (.slice Ao30 x8_2.length co30 : Value).ownBlock ∧ some k_ ≠ (u11 : Value).ownBlock) (fun _ => False) rfl rfl ?aO ?aR (fun _ _ h => h) (fun _ h => h.elim) ?aF ?aB ?aS ?aL ?_; (case aR => exact pC (Kd.R_reads' HO_8.out).2.2); (case aB => exact (pS HB.out)); (case aF => exact (fun k_ hk => ⟨Kd.fresh' (Kd.R_lt (pR HO_8.out)) k_ hk, Kd.fresh' (Kd.R_lt (pR HO_11.out)) k_ hk⟩)); (case aO => exact (pR HO_6.out)); (case aS => exact (below_size (pS HB.out))); (case aL => have := LMc38.out; omega); intro v130 w40 ho hb hg hat; rw [← Ny129.out] at ho; have n0_ := aK (Kd.S_after (ok := (fun k_ => some k_ ≠ (.slice Ao30 x8_2.length co30 : Value).ownBlock ∧ some k_ ≠ (u11 : Value).ownBlock)) (by (with_reducible repeat (first | apply Kd.S_alloc | apply Kd.S_drewN | apply Kd.S_drew)); exact Kd.S_mono HO_5.out (fun _ hk => ⟨⟨hk.2.1, hk.2.2⟩, hk.1⟩)) hg hat); have n1_ := aK (Kd.R_after (ok := (fun k_ => some k_ ≠ (u11 : Value).ownBlock)) (pR (rP HO_8.out)) hg hat); have n2_ := aK (Kd.R_after (ok := (fun k_ => some k_ ≠ (.slice Ao30 x8_2.length co30 : Value).ownBlock)) (pR (rP HO_11.out)) hg hat); have n3_ := aK (hb); have HO131 := aK (ho); clear HO_5 HO_8 HO_11 HB HO_6; have HO_5 := n0_; have HO_8 := n1_; have HO_11 := n2_; have HB := n3_; clear n0_ n1_ n2_ n3_ ho hb hg hat; obtain ⟨Ao42, co42, eo42⟩ := Kd.R_slice HO_11.out; subst eo42) | ((with_reducible refine gate_builtin (b := .append) (xs := #[.tmp 86, .tmp 88]) rfl ?_); at_builtin; refine Kd.S_append (Kd.slice 3 (Kd.int .i64)) (w0 := w) w.heap.size rfl (.tmp 86) (.tmp 88) 23 22 (.slice none 0 0) 24 rfl Try.underlying23 info22 rfl (by decide) (by omega) u5 x5_1 x11_3 [.slice Ao42 x11_3.length co42] (fun k_ => some k_ ≠ (.slice Ao30 x8_2.length co30 : Value).ownBlock ∧ some k_ ≠ (v130 : Value).ownBlock) (fun k_ => some k_ = (.slice Ao42 x11_3.length co42 : Value).ownBlock) rfl rfl ?aP (fun k_ hk_ => ((Kd.R_mono (ok' := fun k_ => ((fun k_ => some k_ ≠ (.slice Ao30 x8_2.length co30 : Value).ownBlock ∧ some k_ ≠ (v130 : Value).ownBlock)) k_ ∧ some k_ ≠ (u5 : Value).ownBlock) (Kd.R_apart' (HO_11.out) (Kd.S_typed HO_5.out) (by decide)) (fun k_ hk => ⟨⟨hk.1.1, hk.1.2⟩, hk.2⟩))).1 k_ hk_.symm) ?aF ?aO ?aB ?aS ?aL ?_; (case aP => exact Kd.M_row (Kd.R_mono (Kd.R_tight rfl (Kd.R_mono (ok' := fun k_ => ((fun k_ => some k_ ≠ (.slice Ao30 x8_2.length co30 : Value).ownBlock ∧ some k_ ≠ (v130 : Value).ownBlock)) k_ ∧ some k_ ≠ (u5 : Value).ownBlock) (Kd.R_apart' (HO_11.out) (Kd.S_typed HO_5.out) (by decide)) (fun k_ hk => ⟨⟨hk.1.1, hk.1.2⟩, hk.2⟩))) (fun _ h_ => h_))); (case aB => exact (pS HB.out)); (case aF => exact (fun k_ hk => ⟨Kd.fresh' (Kd.R_lt (pR HO_8.out)) k_ hk, Kd.fresh' (Kd.R_lt (pR HO131.out)) k_ hk⟩)); (case aO => exact (by (with_reducible repeat (first | apply Kd.S_alloc | apply Kd.S_drewN | apply Kd.S_drew)); exact Kd.S_mono HO_5.out (fun k_ hk => ⟨⟨hk.1.1, hk.2⟩, fun e_ => hk.1.2 e_⟩))); (case aS => exact (below_size (pS HB.out))); (case aL => have := LMc39.out; omega); intro v133 w41 ho hb hg hat; rw [← Ny132.out] at ho; have n0_ := aK (Kd.R_over' (pR HO_8.out) (Kd.S_typed (by (with_reducible repeat (first | apply Kd.S_alloc | apply Kd.S_drewN | apply Kd.S_drew)); exact HO_5.out)) (by decide) hg); have n1_ := aK (Kd.R_over' (pR HO131.out) (Kd.S_typed (by (with_reducible repeat (first | apply Kd.S_alloc | apply Kd.S_drewN | apply Kd.S_drew)); exact HO_5.out)) (by decide) hg); have n2_ := aK (hb); have HO134 := aK (ho); clear HO_8 HO131 HB HO_5 HO_11; have HO_8 := n0_; have HO131 := n1_; have HB := n2_; clear n0_ n1_ n2_; clear ho hb hg hat)); try go_wp2_with (first | ((with_reducible refine gate_builtin (b := .append) (xs := #[.tmp 83, .tmp 84]) rfl ?_); at_builtin; refine Kd.R_append_rows (Kd.int .i64) (w0 := w) w.heap.size rfl (.tmp 83) (.tmp 84) 22 3 (.int .i64 0) 8 rfl Try.underlying22 info3 rfl (by decide) (by omega) (.slice Ao12 x6_1.length co12) x6_1 x8_2 _ _ _ (fun k_ => some k_ ≠ (.slice Ao30 x8_2.length co30 : Value).ownBlock ∧ some k_ ≠ (u11 : Value).ownBlock) (fun _ => False) rfl rfl ?aO ?aR (fun _ _ h => h) (fun _ h => h.elim) ?aF ?aB ?aS ?aL ?_; (case aR => exact pC (Kd.R_reads' HO_8.out).2.2); (case aB => exact (pS HB.out)); (case aF => exact (fun k_ hk => ⟨Kd.fresh' (Kd.R_lt (pR HO_8.out)) k_ hk, Kd.fresh' (Kd.R_lt (pR HO_11.out)) k_ hk⟩)); (case aO => exact (pR HO_6.out)); (case aS => exact (below_size (pS HB.out))); (case aL => have := LMc38.out; omega); intro v130 w40 ho hb hg hat; rw [← Ny129.out] at ho; have n0_ := aK (Kd.S_after (ok := (fun k_ => some k_ ≠ (.slice Ao30 x8_2.length co30 : Value).ownBlock ∧ some k_ ≠ (u11 : Value).ownBlock)) (by (with_reducible repeat (first | apply Kd.S_alloc | apply Kd.S_drewN | apply Kd.S_drew)); exact Kd.S_mono HO_5.out (fun _ hk => ⟨⟨hk.2.1, hk.2.2⟩, hk.1⟩)) hg hat); have n1_ := aK (Kd.R_after (ok := (fun k_ => some k_ ≠ (u11 : Value).ownBlock)) (pR (rP HO_8.out)) hg hat); have n2_ := aK (Kd.R_after (ok := (fun k_ => some k_ ≠ (.slice Ao30 x8_2.length co30 : Value).ownBlock)) (pR (rP HO_11.out)) hg hat); have n3_ := aK (hb); have HO131 := aK (ho); clear HO_5 HO_8 HO_11 HB HO_6; have HO_5 := n0_; have HO_8 := n1_; have HO_11 := n2_; have HB := n3_; clear n0_ n1_ n2_ n3_ ho hb hg hat; obtain ⟨Ao42, co42, eo42⟩ := Kd.R_slice HO_11.out; subst eo42) | ((with_reducible refine gate_builtin (b := .append) (xs := #[.tmp 86, .tmp 88]) rfl ?_); at_builtin; refine Kd.S_append (Kd.slice 3 (Kd.int .i64)) (w0 := w) w.heap.size rfl (.tmp 86) (.tmp 88) 23 22 (.slice none 0 0) 24 rfl Try.underlying23 info22 rfl (by decide) (by omega) u5 x5_1 x11_3 [.slice Ao42 x11_3.length co42] (fun k_ => some k_ ≠ (.slice Ao30 x8_2.length co30 : Value).ownBlock ∧ some k_ ≠ (v130 : Value).ownBlock) (fun k_ => some k_ = (.slice Ao42 x11_3.length co42 : Value).ownBlock) rfl rfl ?aP (fun k_ hk_ => ((Kd.R_mono (ok' := fun k_ => ((fun k_ => some k_ ≠ (.slice Ao30 x8_2.length co30 : Value).ownBlock ∧ some k_ ≠ (v130 : Value).ownBlock)) k_ ∧ some k_ ≠ (u5 : Value).ownBlock) (Kd.R_apart' (HO_11.out) (Kd.S_typed HO_5.out) (by decide)) (fun k_ hk => ⟨⟨hk.1.1, hk.1.2⟩, hk.2⟩))).1 k_ hk_.symm) ?aF ?aO ?aB ?aS ?aL ?_; (case aP => exact Kd.M_row (Kd.R_mono (Kd.R_tight rfl (Kd.R_mono (ok' := fun k_ => ((fun k_ => some k_ ≠ (.slice Ao30 x8_2.length co30 : Value).ownBlock ∧ some k_ ≠ (v130 : Value).ownBlock)) k_ ∧ some k_ ≠ (u5 : Value).ownBlock) (Kd.R_apart' (HO_11.out) (Kd.S_typed HO_5.out) (by decide)) (fun k_ hk => ⟨⟨hk.1.1, hk.1.2⟩, hk.2⟩))) (fun _ h_ => h_))); (case aB => exact (pS HB.out)); (case aF => exact (fun k_ hk => ⟨Kd.fresh' (Kd.R_lt (pR HO_8.out)) k_ hk, Kd.fresh' (Kd.R_lt (pR HO131.out)) k_ hk⟩)); (case aO => exact (by (with_reducible repeat (first | apply Kd.S_alloc | apply Kd.S_drewN | apply Kd.S_drew)); exact Kd.S_mono HO_5.out (fun k_ hk => ⟨⟨hk.1.1, hk.2⟩, fun e_ => hk.1.2 e_⟩))); (case aS => exact (below_size (pS HB.out))); (case aL => have := LMc39.out; omega); intro v133 w41 ho hb hg hat; rw [← Ny132.out] at ho; have n0_ := aK (Kd.R_over' (pR HO_8.out) (Kd.S_typed (by (with_reducible repeat (first | apply Kd.S_alloc | apply Kd.S_drewN | apply Kd.S_drew)); exact HO_5.out)) (by decide) hg); have n1_ := aK (Kd.R_over' (pR HO131.out) (Kd.S_typed (by (with_reducible repeat (first | apply Kd.S_alloc | apply Kd.S_drewN | apply Kd.S_drew)); exact HO_5.out)) (by decide) hg); have n2_ := aK (hb); have HO134 := aK (ho); clear HO_8 HO131 HB HO_5 HO_11; have HO_8 := n0_; have HO131 := n1_; have HB := n2_; clear n0_ n1_ n2_; clear ho hb hg hat)))
           go_roundg k3
           case measure => have := HK1.out; have := HK2.out; have := HK3.out; omega
           case rel => exact ⟨(y132), (y129), (wrap64 (x7_1 + 1)), (by first | rfl | (simp; done) | (simp [*]; done)), H', ⟨by have := HK1.out; have := HK2.out; have := HK3.out; omega⟩, ⟨by (with_reducible repeat (first | apply Kd.S_alloc | apply Kd.S_drewN | apply Kd.S_drew)); exact Kd.S_mono HO134.out (fun _ hk => hk.2)⟩, ⟨pR (Kd.R_mono HO131.out (fun _ hk => trivial))⟩, ⟨pT HB.out⟩⟩
          rw [if_neg c39] at H
          exact absurd H (by simp)
         rw [if_neg c38] at H
         exact absurd H (by simp)
    rw [if_neg c8] at H
    exact absurd H (by simp)
   rw [if_neg c7] at H
   have c7b0 : decide (x7_1 < (l1.length : Int)) = false := decide_eq_false c7
   clear c7
   obtain rfl := Option.some.inj H
   go_wp2
   repeat (go_quiet (fail); try go_wp2)
   go_ret
   exact ⟨_, er, by (with_reducible repeat (first | apply Kd.S_alloc | apply Kd.S_drewN | apply Kd.S_drew)); exact Kd.S_mono HO_5.out (fun _ hk => trivial), pT HB.out⟩
def spec_RegionParts.f (k : Nat) (a0 : Int) (a1 : Int) (l2 : List Int) : Option ((List (List Int)) × Bool) := (spec_l8Region.f k a0 a1 l2).bind fun t101 => (if t101 = true then ((spec_l8Parts.f k a0 l2).bind fun t102 => (some (t102, true))) else (some ((([] : List (List Int))), false)))
theorem spec_RegionParts.calls (k : Nat) (a0 : Int) (a1 : Int) (A2 : Option Addr) (c2 : Nat) (l2 : List Int) (r1 : List (List Int)) (r2 : Bool) (w : World) (hr2 : Kd.C (Kd.int .i64) w A2 l2.length l2) (hc2 : l2.length ≤ c2) (h : spec_RegionParts.f k a0 a1 l2 = some (r1, r2)) :
  Calls Try.prog 5 #[.int .i64 a0, .int .i64 a1, .slice A2 l2.length c2] w fun e w' => ∃ v0_ : Value, e = .returned (.tuple #[v0_, .bool r2]) ∧ Kd.S (Kd.slice 3 (Kd.int .i64)) 22 w' w.heap.size (fun _ => True) v0_ r1 ∧ Below w.heap.size w w' := by
 have HR2 := Aside0.mk hr2
 have HC2 := Aside0.mk hc2
 clear hr2 hc2
 have HB := aK (Below.refl w.heap.size w)
 have H : ((spec_l8Region.f k a0 a1 l2).bind fun t101 => (if t101 = true then ((spec_l8Parts.f k a0 l2).bind fun t102 => (some (t102, true))) else (some ((([] : List (List Int))), false)))) = some (r1, r2) := h
 clear h
 replace H := Option.bind_eq_some_iff.mp H
 obtain ⟨t101, A40, H⟩ := H
 replace H : (if t101 = true then ((spec_l8Parts.f k a0 l2).bind fun t102 => (some (t102, true))) else (some ((([] : List (List Int))), false))) = some (r1, r2) := H
 have A4 := Aside0.mk A40
 clear A40
 by_cases c5 : t101 = true
 ·
  subst c5
  have H1 : ((spec_l8Parts.f k a0 l2).bind fun t102 => (some (t102, true))) = some (r1, r2) := by rw [if_pos rfl] at H; exact H
  clear H
  have H := H1
  clear H1
  replace H := Option.bind_eq_some_iff.mp H
  obtain ⟨t102, A60, H⟩ := H
  replace H : (some (t102, true)) = some (r1, r2) := H
  have A6 := Aside0.mk A60
  clear A60
  simp only [Option.some.injEq, Prod.mk.injEq] at H
  obtain ⟨rfl, rfl⟩ := H
  go_enter Try.func5, Try.ntmps5
  go_wp2_with (first | ((with_reducible refine gate_callee (f := 22) rfl ?_); refine gl (some 11) Try.func22 #[.int .i64 a0, .int .i64 a1, .slice A2 l2.length c2] ?_; (with_reducible refine (spec_l8Region.calls k a0 a1 _ _ l2 true _ ?side1 ?side2 A4.out).mono ?_); (case side1 => exact pC HR2.out); (case side2 => exact HC2.out); rintro e w' ⟨rfl, ⟨nd, rfl⟩⟩; refine ⟨_, rfl, ?_⟩) | ((with_reducible refine gate_callee (f := 23) rfl ?_); refine gl (some 16) Try.func23 #[.int .i64 a0, .slice A2 l2.length c2] ?_; (with_reducible refine (spec_l8Parts.calls k a0 _ _ l2 t102 _ ?side1 ?side2 A6.out).mono ?_); (case side1 => exact pC HR2.out); (case side2 => exact HC2.out); rintro e w7 ⟨v103, rfl, ho0, hb⟩; refine ⟨_, rfl, ?_⟩; have HO104 := aK (Kd.S_lower ho0 (below_size (pS HB.out))); replace HB := bS HB hb; (try clear hb); (try clear hb2); (try clear hk); (try clear hi); (try clear ho0)))
  go_ret2
  exact ⟨_, er, by (with_reducible repeat (first | apply Kd.S_alloc | apply Kd.S_drewN | apply Kd.S_drew)); exact HO104.out, pT HB.out⟩
 replace c5 := Bool.eq_false_iff.mpr c5
 subst c5
 have H1 : (some ((([] : List (List Int))), false)) = some (r1, r2) := by rw [if_neg (show ¬ (false = true) by decide)] at H; exact H
 clear H
 have H := H1
 clear H1
 obtain ⟨y105, hy105⟩ : ∃ y_ : List (List Int), y_ = (([] : List (List Int))) := ⟨_, rfl⟩
 replace H : (some (y105, false)) = some (r1, r2) := by first | (rw [hy105]; with_reducible exact H) | (have H2_ := (Option.bind_some _ _).symm.trans H; rw [hy105]; with_reducible exact H2_) | (have H2_ := (Option.bind_some _ _).symm.trans H; with_reducible exact H2_) | with_reducible exact H | (rw [hy105]; exact H) | exact H
 have Ny105 := Aside0.mk hy105
 clear hy105
 simp only [Option.some.injEq, Prod.mk.injEq] at H
 obtain ⟨rfl, rfl⟩ := H
 go_enter Try.func5, Try.ntmps5
 go_wp2_with (first | ((with_reducible refine gate_callee (f := 22) rfl ?_); refine gl (some 11) Try.func22 #[.int .i64 a0, .int .i64 a1, .slice A2 l2.length c2] ?_; (with_reducible refine (spec_l8Region.calls k a0 a1 _ _ l2 false _ ?side1 ?side2 A4.out).mono ?_); (case side1 => exact pC HR2.out); (case side2 => exact HC2.out); rintro e w' ⟨rfl, ⟨nd, rfl⟩⟩; refine ⟨_, rfl, ?_⟩) | ((with_reducible refine gate_dst (N := 13) rfl ?_); refine Kd.S_lit (Kd.slice 3 (Kd.int .i64)) _ 22 ?hg (N := 13) ?hd (xs := ([] : List (List Int))) (inner := []) (ok := fun _ => True) (okp := fun _ => True) ?hr ?hp (fun _ hk => hk) trivial (Below.refl _ _) (Nat.le_refl _) (by simp) ?_; (case hd => rfl); (case hg => rfl); (case hr => first | (go_simp; done) | (go_simp; rfl)); (case hp => exact (Reps.none _ _)); intro v106 w8 ho9 hb hg_ hnew_; clear hg_ hnew_; (first | rw [← Ny105.out] at ho9 | (simp only [Int.reduceToNat] at ho9; rw [← Ny105.out] at ho9)); have HO107 := aK (Kd.S_lower ho9 (below_size (pS HB.out))); replace HB := bS HB hb; clear hb ho9))
 go_ret2
 exact ⟨_, er, by (with_reducible repeat (first | apply Kd.S_alloc | apply Kd.S_drewN | apply Kd.S_drew)); exact HO107.out, pT HB.out⟩
end Go.Proofs.Ytnpclamoabcbgaa.P
namespace Go.Proofs.Ytnpclamoabcbgaa.P
open Go.RowKit Go.Proofs.YtnpclamoabcbgaaW.PrintWords Go.Proofs.YtnpclamoabcbgaaW.PrintLast Go.Proofs.YtnpclamoabcbgaaW.PrintMore
set_option linter.unusedVariables false
set_option linter.unusedSimpArgs false
set_option maxHeartbeats 4000000 in
set_option maxRecDepth 100000 in
theorem rp1_calls (cell wide i : Int) (gW gP gI : Nat) (v : Value) (part : List Int) (near : Bool) (w : World) (base : Nat) (ok : Nat → Prop)
    (hW : w.heap[gW]? = some (.cells #[.int .i64 wide] 3 (0, 0))) (hP : w.heap[gP]? = some (.cells #[v] 22 (0, 0))) (hI : w.heap[gI]? = some (.cells #[.int .i64 i] 3 (0, 0)))
    (h12 : gW ≠ gP) (h13 : gW ≠ gI) (h23 : gP ≠ gI) (HO : Kd.R (Kd.int .i64) 3 w base ok v part) (hbase : base ≤ w.heap.size) (hok : ∀ k, w.heap.size ≤ k → ok k)
    (hlen : part.length < 1000) (h0 : 0 ≤ i) (h1 : i < part.length) (hn : impl_areConnected.f wide (rd part i) cell = some near) :
    Calls Try.prog 46 #[.int .i64 cell, .pointer (some ⟨gW, 0, none⟩), .pointer (some ⟨gP, 0, none⟩), .pointer (some ⟨gI, 0, none⟩)] w fun e w' =>
      e = .returned (.bool near) ∧ ∃ v', Kd.R (Kd.int .i64) 3 w' base ok v' (if near = true then part ++ [cell] else part) ∧ w'.heap[gP]? = some (.cells #[v'] 22 (0, 0)) ∧ KeepBut w w' gP v.ownBlock ∧
        (v'.ownBlock = v.ownBlock ∨ ∃ b, v'.ownBlock = some b ∧ w.heap.size ≤ b) ∧ Below 0 w w' := by
  obtain ⟨A, c, ev⟩ := Kd.R_slice HO
  subst ev
  obtain ⟨ad, eA, hx⟩ := Kd.at_int (Kd.R_reads' HO).2.2 i h0 h1
  subst eA
  have HOa := aK HO
  have p1 := eq_true h0
  have q1 := eq_true h1
  have BW := aK hW
  have BP := aK hP
  have BI := aK hI
  have cW := (blk_cell hW 0).trans rfl
  have cP := (blk_cell hP 0).trans rfl
  have cI := (blk_cell hI 0).trans rfl
  have fW := blk_frozen hW 0
  have fP := blk_frozen hP 0
  have fI := blk_frozen hI 0
  have HN := aK hn
  clear HO hW hP hI hn h0 h1
  cases near with
  | false =>
    go_enter Try.func46, Try.ntmps46
    go_wp2_with (first | (go_at_call 34; (with_reducible refine (impl_areConnected.calls wide (rd part i) cell false _ HN.out).mono ?_); rintro e w' ⟨rfl, ⟨nd, rfl⟩⟩; (try first | exact ⟨rfl, _, World.drewN_drewN _ _ _⟩ | exact ⟨rfl, _, Eq.trans (World.drewN_drewN _ _ _) (congrArg (World.drewN _) (Nat.add_assoc _ _ _))⟩)))
    repeat (go_quiet (first | (go_at_call 34; (with_reducible refine (impl_areConnected.calls wide (rd part i) cell false _ HN.out).mono ?_); rintro e w' ⟨rfl, ⟨nd, rfl⟩⟩; (try first | exact ⟨rfl, _, World.drewN_drewN _ _ _⟩ | exact ⟨rfl, _, Eq.trans (World.drewN_drewN _ _ _) (congrArg (World.drewN _) (Nat.add_assoc _ _ _))⟩)))); try go_wp2_with (first | (go_at_call 34; (with_reducible refine (impl_areConnected.calls wide (rd part i) cell false _ HN.out).mono ?_); rintro e w' ⟨rfl, ⟨nd, rfl⟩⟩; (try first | exact ⟨rfl, _, World.drewN_drewN _ _ _⟩ | exact ⟨rfl, _, Eq.trans (World.drewN_drewN _ _ _) (congrArg (World.drewN _) (Nat.add_assoc _ _ _))⟩)))
    go_ret
    exact ⟨rfl, _, pR HOa.out, pB BP.out, ⟨Nat.le_refl _, fun _ _ _ _ => rfl⟩, .inl rfl, by repeat (first | exact Below.refl _ _ | apply pw_below_drewN | apply below_drew1)⟩
  | true =>
    go_enter Try.func46, Try.ntmps46
    go_wp2_with (first | (go_at_call 34; (with_reducible refine (impl_areConnected.calls wide (rd part i) cell true _ HN.out).mono ?_); rintro e w' ⟨rfl, ⟨nd, rfl⟩⟩; (try first | exact ⟨rfl, _, World.drewN_drewN _ _ _⟩ | exact ⟨rfl, _, Eq.trans (World.drewN_drewN _ _ _) (congrArg (World.drewN _) (Nat.add_assoc _ _ _))⟩)) | ((with_reducible refine gate_builtin (b := .append) (xs := #[.tmp 15, .tmp 17]) rfl ?_); at_builtin; refine Kd.R_append (Kd.int .i64) (w0 := w) base rfl (.tmp 15) (.tmp 17) 22 3 (.int .i64 0) 8 rfl Try.underlying22 info3 rfl (by decide) (by omega) _ part cell [.int .i64 cell] ok (fun _ => False) rfl rfl ?aP (fun _ hk => hk.elim) ?aF ?aO ?aB ?aS ?aL ?_; (case aP => exact rfl); (case aB => (repeat (first | exact Below.refl _ _ | apply pw_below_drewN | apply below_drew1))); (case aF => exact hok); (case aO => exact (pR HOa.out)); (case aS => exact hbase); (case aL => omega); intro v1 w1 ho hb hg hat; have BP1 := aK (blk_grown (g := gP) (o := .cells #[.slice (some ad) part.length c] 22 (0, 0)) (pB BP.out) hg (Kd.R_ne HOa.out BP.out (by decide))); have cP1 := (blk_cell BP1.out 0).trans rfl; have fP1 := blk_frozen BP1.out 0; obtain ⟨A1, c1, e1⟩ := Kd.R_slice ho; subst e1))
    repeat (go_quiet (first | (go_at_call 34; (with_reducible refine (impl_areConnected.calls wide (rd part i) cell true _ HN.out).mono ?_); rintro e w' ⟨rfl, ⟨nd, rfl⟩⟩; (try first | exact ⟨rfl, _, World.drewN_drewN _ _ _⟩ | exact ⟨rfl, _, Eq.trans (World.drewN_drewN _ _ _) (congrArg (World.drewN _) (Nat.add_assoc _ _ _))⟩)) | ((with_reducible refine gate_builtin (b := .append) (xs := #[.tmp 15, .tmp 17]) rfl ?_); at_builtin; refine Kd.R_append (Kd.int .i64) (w0 := w) base rfl (.tmp 15) (.tmp 17) 22 3 (.int .i64 0) 8 rfl Try.underlying22 info3 rfl (by decide) (by omega) _ part cell [.int .i64 cell] ok (fun _ => False) rfl rfl ?aP (fun _ hk => hk.elim) ?aF ?aO ?aB ?aS ?aL ?_; (case aP => exact rfl); (case aB => (repeat (first | exact Below.refl _ _ | apply pw_below_drewN | apply below_drew1))); (case aF => exact hok); (case aO => exact (pR HOa.out)); (case aS => exact hbase); (case aL => omega); intro v1 w1 ho hb hg hat; have BP1 := aK (blk_grown (g := gP) (o := .cells #[.slice (some ad) part.length c] 22 (0, 0)) (pB BP.out) hg (Kd.R_ne HOa.out BP.out (by decide))); have cP1 := (blk_cell BP1.out 0).trans rfl; have fP1 := blk_frozen BP1.out 0; obtain ⟨A1, c1, e1⟩ := Kd.R_slice ho; subst e1)))
    try go_wp2_with (first | (go_at_call 34; (with_reducible refine (impl_areConnected.calls wide (rd part i) cell true _ HN.out).mono ?_); rintro e w' ⟨rfl, ⟨nd, rfl⟩⟩; (try first | exact ⟨rfl, _, World.drewN_drewN _ _ _⟩ | exact ⟨rfl, _, Eq.trans (World.drewN_drewN _ _ _) (congrArg (World.drewN _) (Nat.add_assoc _ _ _))⟩)) | ((with_reducible refine gate_builtin (b := .append) (xs := #[.tmp 15, .tmp 17]) rfl ?_); at_builtin; refine Kd.R_append (Kd.int .i64) (w0 := w) base rfl (.tmp 15) (.tmp 17) 22 3 (.int .i64 0) 8 rfl Try.underlying22 info3 rfl (by decide) (by omega) _ part cell [.int .i64 cell] ok (fun _ => False) rfl rfl ?aP (fun _ hk => hk.elim) ?aF ?aO ?aB ?aS ?aL ?_; (case aP => exact rfl); (case aB => (repeat (first | exact Below.refl _ _ | apply pw_below_drewN | apply below_drew1))); (case aF => exact hok); (case aO => exact (pR HOa.out)); (case aS => exact hbase); (case aL => omega); intro v1 w1 ho hb hg hat; have BP1 := aK (blk_grown (g := gP) (o := .cells #[.slice (some ad) part.length c] 22 (0, 0)) (pB BP.out) hg (Kd.R_ne HOa.out BP.out (by decide))); have cP1 := (blk_cell BP1.out 0).trans rfl; have fP1 := blk_frozen BP1.out 0; obtain ⟨A1, c1, e1⟩ := Kd.R_slice ho; subst e1))
    go_ret
    rw [List.length_append, List.length_singleton] at ho hat
    refine ⟨rfl, .slice A1 (part.length + 1) c1, ?_, ?_, ?_, ?_, ?_⟩
    · exact Kd.R_mono (Kd.R_far (p := ⟨gP, 0, none⟩) (Kd.R_types ho BP1.out (by decide)) (fun _ hk => hk.2) _) (fun _ h => h.1)
    · exact blk_put BP1.out 0 _ rfl
    · exact KeepBut.set_ (KeepBut.of_grown hg gP) 0 _
    · exact hat
    · exact (hb.mono (Nat.zero_le _)).setCell (Nat.zero_le _) _
structure StOK (g : Nat) (lb : Array Value) (p : Int → Bool) (A : Option Addr) (J : List Int → List Int → World → Prop) (N : Nat) : Prop where
  row : ∀ {cs acc W}, J cs acc W → Kd.C (Kd.int .i64) W A cs.length cs
  call : ∀ (x : Int) {cs acc W}, J cs acc W → acc.length < N → Calls Try.prog g (#[.int .i64 x] ++ lb) W fun e W' => e = .returned (.bool (p x)) ∧ J cs (if p x = true then acc ++ [x] else acc) W'
set_option maxHeartbeats 2000000 in
set_option maxRecDepth 100000 in
theorem indexFunc_st (g : Nat) (lb : Array Value) (p : Int → Bool) (J : List Int → List Int → World → Prop) (eg : ∀ args w, (callFunc g args).run Try.prog w = .ok (.enter g args) w) (A : Option Addr) (c : Nat) (xs acc : List Int) (w : World)
    (N : Nat) (S : StOK g lb p A J N) (hN : acc.length < N) (hj : J xs acc w) :
    Calls Try.prog 54 #[.slice A xs.length c, .func (.func g) #[] lb] w fun e w' => ∃ k : Int, e = .returned (.int .i64 k) ∧ ((k = -1 ∧ (∀ j, j < xs.length → p (xs.getD j 0) = false) ∧ J xs acc w') ∨
      (∃ i : Nat, k = (i : Int) ∧ i < xs.length ∧ p (xs.getD i 0) = true ∧ (∀ j, j < i → p (xs.getD j 0) = false) ∧ J xs (acc ++ [xs.getD i 0]) w')) := by
  have hn : xs.length ≤ 9223372036854775807 := (S.row hj).2.1
  have HJ := Aside0.mk hj
  clear hj
  go_enter Try.func54, Try.ntmps54
  go_wp2
  go_loopg [5, 8] xs.length (fun gg _ s8 wr => ∃ x : Int, s8 = .int .i64 x ∧ Aside0 (0 ≤ x ∧ x ≤ (xs.length : Int) ∧ (xs.length : Int) - x ≤ (gg : Int) ∧ ∀ j : Nat, (j : Int) < x → p (xs.getD j 0) = false) ∧ Aside0 (J xs acc wr))
  case atStart => exact ⟨0, rfl, ⟨by omega, by omega, by omega, fun j hj => by omega⟩, HJ⟩
  case round =>
    clear HJ
    obtain ⟨x, rfl, AA, HJ⟩ := hrel
    by_cases hlt : x < (xs.length : Int)
    · have c4b0 : decide (x < (xs.length : Int)) = true := decide_eq_true hlt
      obtain ⟨ad, e0, hcell⟩ := Kd.at_int (S.row HJ.out) x AA.out.1 hlt
      cases e0
      have hcall := S.call (rd xs x) HJ.out hN
      have BB : Aside0 (xs.getD x.toNat 0 = rd xs x) := ⟨rfl⟩
      have p101 := eq_true AA.out.1
      have q101 := eq_true hlt
      have LT := Aside0.mk hlt
      clear hlt
      cases hq : p (rd xs x) with
      | true =>
        rw [hq] at hcall
        have HC := Aside0.mk hcall
        have HQ := Aside0.mk hq
        clear hcall hq
        go_wp2_with fail
        refine HC.out.mono ?_
        rintro e w' ⟨rfl, hj'⟩
        have HJ2 := Aside0.mk hj'
        clear hj'
        go_wp2_with fail
        go_ret
        have hA := AA.out
        have hl := LT.out
        refine ⟨x, rfl, .inr ⟨x.toNat, by omega, by omega, by rw [BB.out]; exact HQ.out, fun j hj => hA.2.2.2 j (by omega), ?_⟩⟩
        rw [BB.out]
        exact HJ2.out
      | false =>
        rw [hq] at hcall
        have HC := Aside0.mk hcall
        have HQ := Aside0.mk hq
        clear hcall hq
        go_wp2_with fail
        refine HC.out.mono ?_
        rintro e w' ⟨rfl, hj'⟩
        have HJ2 := Aside0.mk hj'
        clear hj'
        go_wp2_with fail
        go_roundg (xs.length - (x.toNat + 1))
        case measure => have hA := AA.out; have hl := LT.out; omega
        case rel =>
          have hA := AA.out
          have hl := LT.out
          refine ⟨x + 1, by (first | rfl | (congr 1; unfold wrap64; omega)), ⟨by omega, by omega, by omega, fun j hj => ?_⟩, ⟨HJ2.out⟩⟩
          by_cases e : (j : Int) = x
          · have e2 : j = x.toNat := by omega
            rw [e2, BB.out]; exact HQ.out
          · exact hA.2.2.2 j (by omega)
    · have c4b0 : decide (x < (xs.length : Int)) = false := decide_eq_false hlt
      have LT := Aside0.mk hlt
      clear hlt
      go_wp2_with fail
      go_ret
      have hA := AA.out
      have hl := LT.out
      exact ⟨-1, rfl, .inl ⟨rfl, fun j hj => hA.2.2.2 j (by omega), HJ.out⟩⟩
theorem store1 {W : World} {A : Addr} {x : Value} (v : Int) (hc : W.cell? A = some x) (hf : W.frozen? A = false) : (store A (.int .i64 v)).run Try.prog W = .ok () (W.setCell A (.int .i64 v)) := by
  go_simp
structure StW (ad : Addr) (J : List Int → List Int → World → Prop) : Prop where
  set : ∀ {cs acc W} (i : Nat) (v : Int), J cs acc W → i < cs.length → J (cs.set i v) acc (W.setCell (ad.add i) (.int .i64 v))
  fz : ∀ {cs acc W} (i : Nat), J cs acc W → i < cs.length → W.frozen? (ad.add i) = false
theorem storeZ {g : Nat} {lb : Array Value} {p : Int → Bool} {ad : Addr} {J : List Int → List Int → World → Prop} {N : Nat} (S : StOK g lb p (some ad) J N) (SW : StW ad J) (a : Nat) : ∀ (m k : Nat) (cs acc : List Int) (W : World), J cs acc W → a + k + m = cs.length →
    ∃ cs' W', (storeCells (ad.add a) (List.replicate m (.int .i64 0)) k).run Try.prog W = .ok () W' ∧ J cs' acc W' ∧ cs'.take a = cs.take a
  | 0, k, cs, acc, W, hj, h => ⟨cs, W, by simp [storeCells], hj, rfl⟩
  | m + 1, k, cs, acc, W, hj, h => by
    obtain ⟨ad', e0, hc⟩ := Kd.at_int (S.row hj) ((a + k : Nat) : Int) (by omega) (by omega)
    cases e0
    rw [Int.toNat_natCast] at hc
    have hf := SW.fz (a + k) hj (by omega)
    have hj2 := SW.set (a + k) 0 hj (by omega)
    obtain ⟨cs', W', h1, h2, h3⟩ := storeZ S SW a m (k + 1) _ acc _ hj2 (by rw [List.length_set]; omega)
    refine ⟨cs', W', ?_, h2, by rw [h3, List.take_set_of_le (by omega)]⟩
    rw [List.replicate_succ, storeCells, Addr.add_add]
    have hs := store1 0 hc hf
    simp only [Sem.run_bind, hs, Result.andThen_ok]
    exact h1
theorem zeroCells_one (x : Value) (n : Nat) : (Builtin.zeroCells #[x] n).toList = List.replicate n x := by
  unfold Builtin.zeroCells
  refine List.ext_getElem (by simp) (fun i h1 h2 => ?_)
  simp [Nat.mod_one]
theorem clear_st {g : Nat} {lb : Array Value} {p : Int → Bool} {ad : Addr} {J : List Int → List Int → World → Prop} {N : Nat} (S : StOK g lb p (some ad) J N) (SW : StW ad J) (a c : Nat) (cs acc : List Int) (W : World) (hj : J cs acc W) (h : a ≤ cs.length) :
    ∃ cs' W', (Builtin.clear_ #[22] 0 #[.slice (some (ad.add a)) (cs.length - a) c]).run Try.prog W = .ok (.tuple #[]) W' ∧ J cs' acc W' ∧ cs'.take a = cs.take a := by
  have hu22 := Try.underlying22
  cases hm : cs.length - a with
  | zero => exact ⟨cs, W, by unfold Builtin.clear_; go_simp, hj, rfl⟩
  | succ m =>
    obtain ⟨cs', W', h1, h2, h3⟩ := storeZ S SW a (m + 1) 0 cs acc W hj (by omega)
    refine ⟨cs', W', ?_, h2, h3⟩
    unfold Builtin.clear_
    go_simp
    rw [zeroCells_one, h1]
    rfl
structure DelAt (p : Int → Bool) (xs cs : List Int) (i j : Nat) : Prop where
  len : cs.length = xs.length
  lt : i < j
  le : j ≤ xs.length
  kept : cs.take i = (xs.take j).filter (fun x => !p x)
  rest : ∀ m, j ≤ m → cs.getD m 0 = xs.getD m 0
theorem take_more {xs : List Int} {b : Nat} (h : b < xs.length) : xs.take (b + 1) = xs.take b ++ [xs.getD b 0] := by
  rw [List.take_add_one, List.getElem?_eq_getElem h, List.getD_eq_getElem?_getD, List.getElem?_eq_getElem h]
  rfl
theorem DelAt.start {p : Int → Bool} {xs : List Int} {i : Nat} (hi : i < xs.length) (hp : p (xs.getD i 0) = true) (hb : ∀ j, j < i → p (xs.getD j 0) = false) : DelAt p xs xs i (i + 1) ∧ (xs.take (i + 1)).filter p = [xs.getD i 0] := by
  have key : ∀ x ∈ xs.take i, p x = false := fun x hx => by
    obtain ⟨m, hm, em⟩ := List.getElem_of_mem hx
    rw [List.length_take] at hm
    have := hb m (by omega)
    rw [List.getD_eq_getElem?_getD, List.getElem?_eq_getElem (by omega), Option.getD_some] at this
    rw [List.getElem_take] at em
    rw [← em]
    exact this
  have e1 : (xs.take i).filter (fun x => !p x) = xs.take i := List.filter_eq_self.2 (fun x hx => by rw [key x hx]; rfl)
  have e2 : (xs.take i).filter p = [] := List.filter_eq_nil_iff.2 (fun x hx => by rw [key x hx]; simp)
  refine ⟨⟨rfl, by omega, by omega, ?_, fun _ _ => rfl⟩, ?_⟩
  · rw [take_more hi, List.filter_append, e1]
    rw [List.getD_eq_getElem?_getD] at hp
    simp [hp]
  · rw [take_more hi, List.filter_append, e2]
    rw [List.getD_eq_getElem?_getD] at hp
    simp [hp]
theorem DelAt.gone {p : Int → Bool} {xs cs : List Int} {i j : Nat} (h : DelAt p xs cs i j) (hj : j < xs.length) (hp : p (xs.getD j 0) = true) : DelAt p xs cs i (j + 1) ∧ (xs.take (j + 1)).filter p = (xs.take j).filter p ++ [xs.getD j 0] := by
  refine ⟨⟨h.len, by have := h.lt; omega, by omega, ?_, fun m hm => h.rest m (by omega)⟩, ?_⟩
  · rw [take_more hj, List.filter_append, h.kept]
    rw [List.getD_eq_getElem?_getD] at hp
    simp [hp]
  · rw [take_more hj, List.filter_append]
    rw [List.getD_eq_getElem?_getD] at hp
    simp [hp]
theorem DelAt.stay {p : Int → Bool} {xs cs : List Int} {i j : Nat} (h : DelAt p xs cs i j) (hj : j < xs.length) (hp : p (xs.getD j 0) = false) : DelAt p xs (cs.set i (xs.getD j 0)) (i + 1) (j + 1) ∧ (xs.take (j + 1)).filter p = (xs.take j).filter p := by
  have hl := h.len
  have hlt := h.lt
  refine ⟨⟨by rw [List.length_set]; exact hl, by omega, by omega, ?_, fun m hm => ?_⟩, ?_⟩
  · rw [take_more hj, List.filter_append, ← h.kept, take_more (by rw [List.length_set]; omega), List.take_set_of_le (by omega)]
    rw [List.getD_eq_getElem?_getD] at hp
    simp [hp, List.getD_eq_getElem?_getD, show i < cs.length by omega]
  · rw [List.getD_eq_getElem?_getD, List.getElem?_set_ne (by omega), ← List.getD_eq_getElem?_getD]
    exact h.rest m (by omega)
  · rw [take_more hj, List.filter_append]
    rw [List.getD_eq_getElem?_getD] at hp
    simp [hp]
set_option maxHeartbeats 2000000 in
set_option maxRecDepth 100000 in
theorem deleteFunc_st (g : Nat) (lb : Array Value) (p : Int → Bool) (J : List Int → List Int → World → Prop) (eg : ∀ args w, (callFunc g args).run Try.prog w = .ok (.enter g args) w) (ad : Addr) (c : Nat) (xs acc : List Int) (w : World)
    (N : Nat) (S : StOK g lb p (some ad) J N) (hN : acc.length + xs.length < N) (SW : StW ad J) (hc : xs.length ≤ c) (hj : J xs acc w) :
    Calls Try.prog 45 #[.slice (some ad) xs.length c, .func (.func g) #[] lb] w fun e w' => ∃ cs, e = .returned (.slice (some ad) (xs.filter (fun x => !p x)).length c) ∧ cs.take (xs.filter (fun x => !p x)).length = xs.filter (fun x => !p x) ∧ J cs (acc ++ xs.filter p) w' := by
  have hn : xs.length ≤ 9223372036854775807 := (S.row hj).2.1
  have HJ := Aside0.mk hj
  clear hj
  go_enter Try.func45, Try.ntmps45
  go_wp2_with (first | (go_at_call 54; refine (indexFunc_st g lb p J eg (some ad) c xs acc _ N S (by omega) HJ.out).mono ?_; rintro e w1 ⟨k, rfl, hk⟩))
  · rcases hk with ⟨rfl, hall, hj1⟩ | ⟨i, rfl, hi, hp, hb, hj1⟩
    · have e1 : xs.filter (fun x => !p x) = xs := List.filter_eq_self.2 (fun x hx => by
        obtain ⟨m, hm, em⟩ := List.getElem_of_mem hx
        have := hall m hm
        rw [List.getD_eq_getElem?_getD, List.getElem?_eq_getElem hm, Option.getD_some, em] at this
        rw [this]; rfl)
      have e2 : xs.filter p = [] := List.filter_eq_nil_iff.2 (fun x hx => by
        obtain ⟨m, hm, em⟩ := List.getElem_of_mem hx
        have := hall m hm
        rw [List.getD_eq_getElem?_getD, List.getElem?_eq_getElem hm, Option.getD_some, em] at this
        rw [this]; simp)
      have HJ1 := Aside0.mk hj1
      clear hj1
      go_ret
      exact ⟨xs, by rw [e1]; rfl, by rw [e1, List.take_length], by rw [e2, List.append_nil]; exact HJ1.out⟩
    · exfalso
      simp at *
      try omega
  · rcases hk with ⟨rfl, hall, hj1⟩ | ⟨i, rfl, hi, hp, hb, hj1⟩
    · exfalso
      simp at *
    · have HJ1 := Aside0.mk hj1
      clear hj1 HJ
      go_loopg [5, 6, 7] xs.length (fun gg s5 s6 s7 wr => ∃ (cs : List Int) (a b : Nat), s5 = .int .i64 (a : Int) ∧ s6 = .int .i64 (b : Int) ∧ Aside0 (DelAt p xs cs a b ∧ xs.length - b ≤ gg) ∧ Aside0 (J cs (acc ++ (xs.take b).filter p) wr))
      case atStart =>
        obtain ⟨d1, d2⟩ := DelAt.start hi hp hb
        exact ⟨xs, i, i + 1, rfl, by first | rfl | (congr 1; unfold wrap64; omega) | (congr 1; simp only [i64_w]; unfold wrap64; omega), ⟨d1, by omega⟩, ⟨by rw [d2]; exact HJ1.out⟩⟩
      case round =>
        clear HJ1
        obtain ⟨cs, a, b, rfl, rfl, AA, HJ⟩ := hrel
        by_cases hlt : b < xs.length
        · have c4b0 : decide ((b : Int) < (xs.length : Int)) = true := decide_eq_true (by omega)
          have hcl := AA.out.1.len
          obtain ⟨ad', e0, hcell⟩ := Kd.at_int (S.row HJ.out) (b : Int) (by omega) (by omega)
          cases e0
          rw [Int.toNat_natCast] at hcell
          have hcall := S.call (rd cs b) HJ.out (by
            have h1 := List.length_filter_le p (xs.take b)
            rw [List.length_take] at h1
            rw [List.length_append]
            omega)
          have BB : Aside0 (rd cs b = xs.getD b 0) := ⟨by rw [← AA.out.1.rest b (Nat.le_refl _)]; simp [rd]⟩
          have p101 : (0 ≤ (b : Int)) = True := eq_true (by omega)
          have q101 : ((b : Int) < (xs.length : Int)) = True := eq_true (by omega)
          have LT := Aside0.mk hlt
          have CL := Aside0.mk hcl
          clear hlt hcl
          cases hq : p (rd cs b) with
          | true =>
            rw [hq] at hcall
            have HC := Aside0.mk hcall
            have HQ := Aside0.mk hq
            clear hcall hq
            go_wp2_with fail
            refine HC.out.mono ?_
            rintro e w' ⟨rfl, hj'⟩
            have HJ2 := Aside0.mk hj'
            clear hj'
            go_wp2_with fail
            go_roundg (xs.length - (b + 1))
            case measure => have hA := AA.out; have hl := LT.out; omega
            case rel =>
              have hA := AA.out.2
              have hl := LT.out
              obtain ⟨d1, d2⟩ := AA.out.1.gone LT.out (by rw [← BB.out]; exact HQ.out)
              exact ⟨cs, a, b + 1, rfl, by first | rfl | (congr 1; unfold wrap64; omega), ⟨d1, by omega⟩, ⟨by rw [d2, ← List.append_assoc, ← BB.out]; exact HJ2.out⟩⟩
          | false =>
            rw [hq] at hcall
            have HC := Aside0.mk hcall
            have HQ := Aside0.mk hq
            clear hcall hq
            go_wp2_with fail
            refine HC.out.mono ?_
            rintro e w' ⟨rfl, hj'⟩
            have HJ2 := Aside0.mk hj'
            clear hj'
            have hcl := CL.out
            have hA := AA.out.1.lt
            have hl := LT.out
            obtain ⟨ad', e0, hcell2⟩ := Kd.at_int (S.row HJ2.out) (a : Int) (by omega) (by omega)
            cases e0
            rw [Int.toNat_natCast] at hcell2
            have hfz := SW.fz a HJ2.out (by omega)
            have p102 : (0 ≤ (a : Int)) = True := eq_true (by omega)
            have q102 : ((a : Int) < (xs.length : Int)) = True := eq_true (by omega)
            clear hcl hA hl
            go_wp2_with fail
            go_roundg (xs.length - (b + 1))
            case measure => have hA := AA.out; have hl := LT.out; omega
            case rel =>
              have hA := AA.out.2
              have hl := LT.out
              have hcl := CL.out
              have hlt := AA.out.1.lt
              obtain ⟨d1, d2⟩ := AA.out.1.stay LT.out (by rw [← BB.out]; exact HQ.out)
              exact ⟨cs.set a (xs.getD b 0), a + 1, b + 1, by first | rfl | (congr 1; unfold wrap64; omega), by first | rfl | (congr 1; unfold wrap64; omega), ⟨d1, by omega⟩, ⟨by rw [d2, ← BB.out]; exact SW.set a _ HJ2.out (by omega)⟩⟩
        · have c4b0 : decide ((b : Int) < (xs.length : Int)) = false := decide_eq_false (by omega)
          have hA := AA.out.1
          have hcl := hA.len
          have hle := hA.le
          have hab := hA.lt
          have hbn : b = xs.length := by omega
          obtain ⟨cs', W', h1, h2, h3⟩ := clear_st S SW a (c - a) cs _ wr HJ.out (by omega)
          rw [hcl] at h1
          have H1 := Aside0.mk h1
          have p103 : (0 ≤ (a : Int)) = True := eq_true (by omega)
          have p104 : ((a : Int) ≤ (xs.length : Int)) = True := eq_true (by omega)
          have p105 : ((a : Int) ≤ (c : Int)) = True := eq_true (by omega)
          clear h1
          go_wp2_with fail
          rw [H1.out]
          go_wp2_with fail
          go_ret
          have hk := hA.kept
          rw [hbn, List.take_length] at hk
          have hlen : (xs.filter (fun x => !p x)).length = a := by rw [← hk, List.length_take]; omega
          refine ⟨cs', ?_, ?_, ?_⟩
          · rw [hlen]
            rfl
          · rw [hlen, h3, hk]
          · rw [hbn, List.take_length] at h2
            exact h2
def LeftAt (gL o : Nat) (W : World) (cs : List Int) : Prop := cs.length ≤ 1000000 ∧ ∃ arr, W.heap[gL]? = some (.cells arr 3 (0, 0)) ∧ ∀ m, m < cs.length → arr[o + m]? = some (.int .i64 (cs.getD m 0))
theorem add_at (g o k : Nat) : (⟨g, o, none⟩ : Addr).add k = ⟨g, o + k, none⟩ := by unfold Addr.add; simp
theorem LeftAt.row {gL o : Nat} {W : World} {cs : List Int} (h : LeftAt gL o W cs) : Kd.C (Kd.int .i64) W (some ⟨gL, o, none⟩) cs.length cs := by
  obtain ⟨hl, arr, hb, ha⟩ := h
  refine ⟨rfl, by omega, fun _ => ⟨_, rfl, fun j p hp => ⟨[.int .i64 p], rfl, rfl, fun i u hu => ?_⟩⟩⟩
  obtain ⟨hj, ej⟩ := List.getElem?_eq_some_iff.1 hp
  cases i with
  | zero =>
    simp only [List.getElem?_cons_zero, Option.some.injEq] at hu
    subst hu
    have := ha j hj
    rw [List.getD_eq_getElem?_getD, hp, Option.getD_some] at this
    rw [add_at, blk_cell hb, show o + (j * (Kd.int .i64).sz + 0) = o + j by show o + (j * 1 + 0) = o + j; omega]
    exact this
  | succ i => simp at hu
theorem LeftAt.fz {gL o : Nat} {W : World} {cs : List Int} (h : LeftAt gL o W cs) (i : Nat) : W.frozen? ((⟨gL, o, none⟩ : Addr).add i) = false := by
  obtain ⟨hl, arr, hb, ha⟩ := h
  rw [add_at]
  exact blk_frozen hb _
theorem LeftAt.set {gL o : Nat} {W : World} {cs : List Int} (h : LeftAt gL o W cs) (i : Nat) (v : Int) (hi : i < cs.length) : LeftAt gL o (W.setCell ((⟨gL, o, none⟩ : Addr).add i) (.int .i64 v)) (cs.set i v) := by
  obtain ⟨hl, arr, hb, ha⟩ := h
  rw [add_at]
  refine ⟨by rw [List.length_set]; exact hl, _, blk_put hb (o + i) _ rfl, fun m hm => ?_⟩
  rw [List.length_set] at hm
  have hsz : o + i < arr.size := by
    have := ha i hi
    obtain ⟨h1, _⟩ := Array.getElem?_eq_some_iff.1 this
    exact h1
  by_cases e : m = i
  · subst e
    rw [Array.getElem?_setIfInBounds_self_of_lt hsz, List.getD_eq_getElem?_getD, List.getElem?_set_self hi]
    rfl
  · rw [Array.getElem?_setIfInBounds_ne (by omega), List.getD_eq_getElem?_getD, List.getElem?_set_ne (by omega), ← List.getD_eq_getElem?_getD]
    exact ha m hm
theorem LeftAt.keep {gL o : Nat} {W W' : World} {cs : List Int} (h : LeftAt gL o W cs) (e : W'.heap[gL]? = W.heap[gL]?) : LeftAt gL o W' cs := by
  obtain ⟨hl, arr, hb, ha⟩ := h
  exact ⟨hl, arr, e.trans hb, ha⟩
structure JR (gW gP gI gL o : Nat) (wide i : Int) (part0 : List Int) (base : Nat) (w1 : World) (v1 : Value) (cs acc : List Int) (W : World) : Prop where
  bW : W.heap[gW]? = some (.cells #[.int .i64 wide] 3 (0, 0))
  bI : W.heap[gI]? = some (.cells #[.int .i64 i] 3 (0, 0))
  part : ∃ v, W.heap[gP]? = some (.cells #[v] 22 (0, 0)) ∧ Kd.R (Kd.int .i64) 3 W base (fun k => k ≠ gL ∧ k ≠ gW ∧ k ≠ gI) v (part0 ++ acc) ∧ (v.ownBlock = v1.ownBlock ∨ ∃ b, v.ownBlock = some b ∧ w1.heap.size ≤ b)
  left : LeftAt gL o W cs
  size : w1.heap.size ≤ W.heap.size
  low : Below 0 w1 W
  keep : ∀ k, k < w1.heap.size → k ≠ gP → k ≠ gL → some k ≠ v1.ownBlock → W.heap[k]? = w1.heap[k]?
def nearP (wide i : Int) (part0 : List Int) (x : Int) : Bool := (impl_areConnected.f wide (rd part0 i) x).getD false
theorem connected_some {wide a b : Int} (h : wide ≠ 0) : ∃ r, impl_areConnected.f wide a b = some r := by
  unfold impl_areConnected.f
  rw [if_neg h]
  have k : ∀ d, ∃ r, impl_absOf.f d = some r := fun d => by
    unfold impl_absOf.f
    split
    · exact ⟨_, rfl⟩
    · exact ⟨_, rfl⟩
  obtain ⟨r1, e1⟩ := k (wrap64 ((Int.tmod a wide) - (Int.tmod b wide)))
  obtain ⟨r2, e2⟩ := k (wrap64 ((wrap64 (Int.tdiv a wide)) - (wrap64 (Int.tdiv b wide))))
  rw [e1, Option.bind_some, e2, Option.bind_some]
  exact ⟨_, rfl⟩
section
variable {gW gP gI gL o base : Nat} {wide i : Int} {part0 : List Int} {w1 : World} {v1 : Value} (h12 : gW ≠ gP) (h13 : gW ≠ gI) (h23 : gP ≠ gI) (hLW : gL ≠ gW) (hLP : gL ≠ gP) (hLI : gL ≠ gI)
  (lW : gW < w1.heap.size) (lI : gI < w1.heap.size) (lL : gL < w1.heap.size) (hb : base ≤ w1.heap.size) (hlen : part0.length < 400) (h0 : 0 ≤ i) (h1 : i < part0.length) (hw : wide ≠ 0)
include h12 h13 h23 hLW hLP hLI lW lI lL hb hlen h0 h1 hw in
theorem jr_ok : StOK 46 #[.pointer (some ⟨gW, 0, none⟩), .pointer (some ⟨gP, 0, none⟩), .pointer (some ⟨gI, 0, none⟩)] (nearP wide i part0) (some ⟨gL, o, none⟩) (JR gW gP gI gL o wide i part0 base w1 v1) 500 := by
  refine ⟨fun h => h.left.row, fun x cs acc W h ha => ?_⟩
  obtain ⟨v, bP, hR, hv⟩ := h.part
  have hs := h.size
  obtain ⟨r, er⟩ := connected_some (a := rd part0 i) (b := x) hw
  have ep : nearP wide i part0 x = r := by unfold nearP; rw [er]; rfl
  have ei : rd (part0 ++ acc) i = rd part0 i := by
    unfold rd
    rw [List.getD_eq_getElem?_getD, List.getElem?_append_left (by omega), ← List.getD_eq_getElem?_getD]
  rw [ep]
  refine (rp1_calls x wide i gW gP gI v (part0 ++ acc) r W base (fun k => k ≠ gL ∧ k ≠ gW ∧ k ≠ gI) h.bW bP h.bI h12 h13 h23 hR (by omega) (fun k hk => ⟨by omega, by omega, by omega⟩) (by rw [List.length_append]; omega) h0 (by rw [List.length_append]; omega) (by rw [ei]; exact er)).mono ?_
  rintro e W' ⟨rfl, v', hR', bP', hk, hv', hlow⟩
  have own : ∀ k, (k = gL ∨ k = gW ∨ k = gI) → some k ≠ v.ownBlock := fun k hk2 e => by
    have := hR.1 k e.symm
    rcases hk2 with rfl | rfl | rfl
    · exact this.1 rfl
    · exact this.2.1 rfl
    · exact this.2.2 rfl
  refine ⟨rfl, (hk.2 gW (by omega) h12 (own _ (.inr (.inl rfl)))).trans h.bW, (hk.2 gI (by omega) (Ne.symm h23) (own _ (.inr (.inr rfl)))).trans h.bI, ⟨v', bP', ?_, ?_⟩, h.left.keep (hk.2 gL (by omega) hLP (own _ (.inl rfl))), Nat.le_trans hs hk.1, h.low.trans hlow, fun k k1 k2 k3 k4 => ?_⟩
  · cases r with
    | true => rw [if_pos rfl] at hR' ⊢; rw [← List.append_assoc]; exact hR'
    | false => exact hR'
  · rcases hv' with e | ⟨b, e, hb2⟩
    · rw [e]; exact hv
    · exact .inr ⟨b, e, by omega⟩
  · refine (hk.2 k (by omega) k2 (fun e => ?_)).trans (h.keep k k1 k2 k3 k4)
    rcases hv with e2 | ⟨b, e2, hb2⟩
    · exact k4 (e.trans e2)
    · rw [e2] at e
      cases e
      omega
include hLW hLP hLI in
theorem jr_w : StW ⟨gL, o, none⟩ (JR gW gP gI gL o wide i part0 base w1 v1) := by
  refine ⟨fun k v h hk => ?_, fun k h hk => h.left.fz k⟩
  obtain ⟨v', bP, hR, hv⟩ := h.part
  have far : ∀ q, q ≠ gL → ∀ W : World, (W.setCell ((⟨gL, o, none⟩ : Addr).add k) (.int .i64 v)).heap[q]? = W.heap[q]? := fun q hq W => by
    rw [add_at]
    exact Below.heap_setCell W _ _ q hq
  exact ⟨(far gW (Ne.symm hLW) _).trans h.bW, (far gI (Ne.symm hLI) _).trans h.bI, ⟨v', (far gP (Ne.symm hLP) _).trans bP, Kd.R_far hR (fun q hq => by rw [add_at]; exact hq.1) _, hv⟩, h.left.set k v hk, by have := h.size; simpa [World.setCell] using this, h.low.setCell (Nat.zero_le _) _, fun q q1 q2 q3 q4 => (far q q3 _).trans (h.keep q q1 q2 q3 q4)⟩
end
theorem LeftAt.pre {gL o : Nat} {W : World} {cs xs : List Int} (h : LeftAt gL o W cs) (e : cs.take xs.length = xs) : LeftAt gL o W xs := by
  obtain ⟨hl, arr, hb, ha⟩ := h
  have hlen : xs.length ≤ cs.length := by have := congrArg List.length e; rw [List.length_take] at this; omega
  refine ⟨by omega, arr, hb, fun m hm => ?_⟩
  have := ha m (by omega)
  rw [this, ← e]
  congr 2
  rw [List.getD_eq_getElem?_getD, List.getD_eq_getElem?_getD, List.getElem?_take_of_lt (by omega)]
theorem del_call {gW gP gI gL o base : Nat} {wide i : Int} {part0 left : List Int} {w1 : World} {v1 : Value} (c : Nat) (h12 : gW ≠ gP) (h13 : gW ≠ gI) (h23 : gP ≠ gI) (hLW : gL ≠ gW) (hLP : gL ≠ gP) (hLI : gL ≠ gI)
    (lW : gW < w1.heap.size) (lI : gI < w1.heap.size) (lL : gL < w1.heap.size) (hb : base ≤ w1.heap.size) (hlen : part0.length < 400) (h0 : 0 ≤ i) (h1 : i < part0.length) (hw : wide ≠ 0) (hll : left.length < 400) (hlc : left.length ≤ c)
    (bW : w1.heap[gW]? = some (.cells #[.int .i64 wide] 3 (0, 0))) (bI : w1.heap[gI]? = some (.cells #[.int .i64 i] 3 (0, 0))) (bP : w1.heap[gP]? = some (.cells #[v1] 22 (0, 0)))
    (hR : Kd.R (Kd.int .i64) 3 w1 base (fun k => k ≠ gL ∧ k ≠ gW ∧ k ≠ gI) v1 part0) (hL : LeftAt gL o w1 left) :
    Calls Try.prog 45 #[.slice (some ⟨gL, o, none⟩) left.length c, .func (.func 46) #[] #[.pointer (some ⟨gW, 0, none⟩), .pointer (some ⟨gP, 0, none⟩), .pointer (some ⟨gI, 0, none⟩)]] w1 fun e W =>
      e = .returned (.slice (some ⟨gL, o, none⟩) (left.filter (fun x => !nearP wide i part0 x)).length c) ∧ LeftAt gL o W (left.filter (fun x => !nearP wide i part0 x)) ∧
      W.heap[gW]? = some (.cells #[.int .i64 wide] 3 (0, 0)) ∧ W.heap[gI]? = some (.cells #[.int .i64 i] 3 (0, 0)) ∧
      (∃ v, W.heap[gP]? = some (.cells #[v] 22 (0, 0)) ∧ Kd.R (Kd.int .i64) 3 W base (fun k => k ≠ gL ∧ k ≠ gW ∧ k ≠ gI) v (part0 ++ left.filter (nearP wide i part0)) ∧ (v.ownBlock = v1.ownBlock ∨ ∃ b, v.ownBlock = some b ∧ w1.heap.size ≤ b)) ∧
      w1.heap.size ≤ W.heap.size ∧ Below 0 w1 W ∧ (∀ k, k < w1.heap.size → k ≠ gP → k ≠ gL → some k ≠ v1.ownBlock → W.heap[k]? = w1.heap[k]?) := by
  have S := jr_ok (o := o) (v1 := v1) (base := base) h12 h13 h23 hLW hLP hLI lW lI lL hb hlen h0 h1 hw
  have SW := jr_w (o := o) (v1 := v1) (base := base) (wide := wide) (i := i) (part0 := part0) (w1 := w1) hLW hLP hLI
  refine (deleteFunc_st 46 _ (nearP wide i part0) (JR gW gP gI gL o wide i part0 base w1 v1) (fun args_ w_ => enters_ Try.func46 (by kernel_rfl) rfl args_ w_) ⟨gL, o, none⟩ c left [] w1 500 S (by simp only [List.length_nil]; omega) SW hlc
    ⟨bW, bI, ⟨v1, bP, by rw [List.append_nil]; exact hR, .inl rfl⟩, hL, Nat.le_refl _, Below.refl _ _, fun _ _ _ _ _ => rfl⟩).mono ?_
  rintro e W ⟨cs, rfl, h2, h3⟩
  rw [List.nil_append] at h3
  exact ⟨rfl, h3.left.pre h2, h3.bW, h3.bI, h3.part, h3.size, h3.low, h3.keep⟩
theorem LeftAt.lt {gL o : Nat} {W : World} {cs : List Int} (h : LeftAt gL o W cs) : gL < W.heap.size := by
  obtain ⟨_, arr, hb, _⟩ := h
  exact blk_lt hb
theorem LeftAt.tail {gL o : Nat} {W : World} {s : Int} {cs : List Int} (h : LeftAt gL o W (s :: cs)) : LeftAt gL (o + 1) W cs := by
  obtain ⟨hl, arr, hb, ha⟩ := h
  refine ⟨by simp only [List.length_cons] at hl; omega, arr, hb, fun m hm => ?_⟩
  have := ha (m + 1) (by simp only [List.length_cons]; omega)
  rw [show o + 1 + m = o + (m + 1) by omega, this]
  rfl
theorem LeftAt.none_ {gL o : Nat} {W : World} {cs : List Int} (h : LeftAt gL o W cs) (o2 : Nat) : LeftAt gL o2 W [] := by
  obtain ⟨hl, arr, hb, ha⟩ := h
  exact ⟨by simp, arr, hb, fun m hm => absurd hm (by simp)⟩
theorem rd_nat' (xs : List Int) (i : Nat) : rd xs (i : Int) = xs.getD i 0 := by simp [rd]
def nrP (wide a b : Int) : Bool := (impl_areConnected.f wide a b).getD false
theorem nearP_is (wide : Int) (i : Nat) (part : List Int) : nearP wide (i : Int) part = nrP wide (part.getD i 0) := by
  funext x
  unfold nearP nrP
  rw [rd_nat']
theorem filt_len (p : Int → Bool) : ∀ l : List Int, (l.filter p).length + (l.filter (fun x => !p x)).length = l.length
  | [] => rfl
  | x :: l => by
    have := filt_len p l
    rw [List.filter_cons, List.filter_cons]
    cases h : p x <;> simp [h] <;> omega
structure InR (gb gL gP : Nat) (wide : Int) (wr W : World) (i : Nat) (part lf : List Int) (o2 gI : Nat) (v : Value) : Prop where
  gbL : gL ≠ gb
  gbr : gb < wr.heap.size
  gLr : gL < wr.heap.size
  gPr : wr.heap.size ≤ gP
  gIr : wr.heap.size ≤ gI
  gIP : gI ≠ gP
  bW : W.heap[gb]? = some (.cells #[.int .i64 wide] 3 (0, 0))
  bI : W.heap[gI]? = some (.cells #[.int .i64 (i : Int)] 3 (0, 0))
  bP : W.heap[gP]? = some (.cells #[v] 22 (0, 0))
  row : Kd.R (Kd.int .i64) 3 W wr.heap.size (fun k => k ≠ gL ∧ k ≠ gb ∧ k ≠ gI) v part
  left : LeftAt gL o2 W lf
  low : Below 0 wr W
  keep : ∀ k, k < wr.heap.size → k ≠ gL → W.heap[k]? = wr.heap[k]?
section
variable {gb gL gP o2 gI i : Nat} {wide : Int} {w wr W : World} {part lf : List Int} {v : Value}
theorem InR.call (h : InR gb gL gP wide wr W i part lf o2 gI v) (c : Nat) (hc : lf.length ≤ c) (hi : i < part.length) (hp : part.length < 400) (hl : lf.length < 400) (hw : wide ≠ 0) :
    Calls Try.prog 45 #[.slice (some ⟨gL, o2, none⟩) lf.length c, .func (.func 46) #[] #[.pointer (some ⟨gb, 0, none⟩), .pointer (some ⟨gP, 0, none⟩), .pointer (some ⟨gI, 0, none⟩)]] W fun e W' =>
      ∃ v', e = .returned (.slice (some ⟨gL, o2, none⟩) (lf.filter (fun x => !nrP wide (part.getD i 0) x)).length c) ∧ InR gb gL gP wide wr W' i (part ++ lf.filter (nrP wide (part.getD i 0))) (lf.filter (fun x => !nrP wide (part.getD i 0) x)) o2 gI v' := by
  have e1 := h.gbr
  have e2 := h.gLr
  have e3 := h.gPr
  have e4 := h.gIr
  have e5 := h.low.size
  refine (del_call (base := wr.heap.size) (i := (i : Int)) (part0 := part) (left := lf) (v1 := v) c (by omega) (by omega) h.gIP.symm h.gbL (by omega) (by omega) (blk_lt h.bW) (blk_lt h.bI) h.left.lt e5 hp (by omega) (by omega) hw hl hc h.bW h.bI h.bP h.row h.left).mono ?_
  rintro e W' ⟨rfl, hL, hbW, hbI, ⟨v', hbP, hR, hv⟩, hs, hlow, hk⟩
  rw [nearP_is] at hL hR
  refine ⟨v', by rw [nearP_is], h.gbL, h.gbr, h.gLr, h.gPr, h.gIr, h.gIP, hbW, hbI, hbP, hR, hL, h.low.trans hlow, fun k k1 k2 => ?_⟩
  refine (hk k (by omega) (by omega) k2 (fun e => ?_)).trans (h.keep k k1 k2)
  have := Kd.R_base h.row k e.symm
  omega
theorem InR.anew (h : InR gb gL gP wide wr W i part lf o2 gI v) (hi : i ≤ 100000) :
    InR gb gL gP wide wr (W.alloc (.cells #[.int .i64 (wrap64 ((i : Int) + 1))] 3)) (i + 1) part lf o2 W.heap.size v := by
  have e5 := h.low.size
  have s1 := blk_lt h.bW
  have s2 := blk_lt h.bP
  have s3 := h.left.lt
  have hw : wrap64 ((i : Int) + 1) = ((i + 1 : Nat) : Int) := by unfold wrap64; omega
  rw [hw]
  have far : ∀ q, q < W.heap.size → (W.alloc (.cells #[.int .i64 ((i + 1 : Nat) : Int)] 3)).heap[q]? = W.heap[q]? := fun q hq => Below.heap_alloc _ _ q hq
  refine ⟨h.gbL, h.gbr, h.gLr, h.gPr, e5, by omega, (far gb s1).trans h.bW, ?_, (far gP s2).trans h.bP, ?_, h.left.keep (far gL s3), h.low.alloc (Nat.zero_le _) _, fun k k1 k2 => (far k (by omega)).trans (h.keep k k1 k2)⟩
  · show (W.heap.push _)[W.heap.size]? = _
    rw [Array.getElem?_push, if_pos rfl]
  · exact Kd.R_mono (Kd.R_step (Kd.R_bound h.row) (fun k _ hk => far k hk)) (fun k hk => ⟨hk.1.1, hk.1.2.1, by have := hk.2.2.1; omega⟩)
theorem InR.start {w17 wgP wg : World} (hR : Kd.R (Kd.int .i64) 3 w17 wr.heap.size (fun _ => True) v part) (b1 : Below wr.heap.size wr w17) (b2 : Below w17.heap.size w17 wgP) (hgP : w17.heap.size ≤ gP)
    (bP : wgP.heap[gP]? = some (.cells #[.slice none 0 0] 22 (0, 0))) (b3 : Below (wgP.setCell ⟨gP, 0, none⟩ v).heap.size (wgP.setCell ⟨gP, 0, none⟩ v) wg) (hgI : (wgP.setCell ⟨gP, 0, none⟩ v).heap.size ≤ gI)
    (bI : wg.heap[gI]? = some (.cells #[.int .i64 0] 3 (0, 0))) (hL : LeftAt gL o2 wr lf) (hgb : wr.heap[gb]? = some (.cells #[.int .i64 wide] 3 (0, 0))) (gbL : gL ≠ gb) :
    InR gb gL gP wide wr (wg.setCell ⟨gI, 0, none⟩ (.int .i64 0)) 0 part lf o2 gI v := by
  have hone : v.oneCell' = true := (Kd.R_val hR).2
  have e1 := b1.size
  have e2 := b2.size
  have e3 := b3.size
  have es : (wgP.setCell ⟨gP, 0, none⟩ v).heap.size = wgP.heap.size := by simp [World.setCell]
  have hP2 := blk_lt bP
  have far0 : ∀ q, q < wgP.heap.size → q ≠ gP → (wg.setCell ⟨gI, 0, none⟩ (.int .i64 0)).heap[q]? = wgP.heap[q]? := fun q hq hne =>
    (Below.heap_setCell _ _ _ q (by show q ≠ gI; omega)).trans ((b3.block q (by omega)).trans (Below.heap_setCell _ _ _ q hne))
  have far : ∀ q, q < w17.heap.size → (wg.setCell ⟨gI, 0, none⟩ (.int .i64 0)).heap[q]? = w17.heap[q]? := fun q hq => (far0 q (by omega) (by omega)).trans (b2.block q hq)
  have farr : ∀ q, q < wr.heap.size → (wg.setCell ⟨gI, 0, none⟩ (.int .i64 0)).heap[q]? = wr.heap[q]? := fun q hq => (far q (by omega)).trans (b1.block q hq)
  have sb := blk_lt hgb
  have sL := hL.lt
  refine ⟨gbL, sb, sL, by omega, by omega, by omega, (farr gb sb).trans hgb, blk_put bI 0 _ rfl, ?_, ?_, hL.keep (farr gL sL), ?_, fun k k1 _ => farr k k1⟩
  · refine (Below.heap_setCell _ _ _ gP (by show gP ≠ gI; omega)).trans ((b3.block gP (by omega)).trans ?_)
    exact blk_put bP 0 _ rfl
  · exact Kd.R_mono (Kd.R_step (Kd.R_bound hR) (fun k _ hk => far k hk)) (fun k hk => ⟨by have := hk.2.1; omega, by have := hk.2.1; omega, by have := hk.2.2.1; omega⟩)
  · exact ((((b1.mono (Nat.zero_le _)).trans (b2.mono (Nat.zero_le _))).setCell (Nat.zero_le _) _).trans (b3.mono (Nat.zero_le _))).setCell (Nat.zero_le _) _
theorem InR.below (h : InR gb gL gP wide wr W i part lf o2 gI v) (HB : Below w.heap.size w wr) (g1 : w.heap.size ≤ gL) : Below w.heap.size w W := by
  have e := HB.size
  exact ⟨h.low.os.trans HB.os, h.low.tape.trans HB.tape, h.low.output.trans HB.output, Nat.le_trans e h.low.size, fun k hk => (h.keep k (by omega) (by omega)).trans (HB.block k hk)⟩
structure DoneR (gb gL gP base : Nat) (wide : Int) (W : World) (u5 : Value) (out : List (List Int)) (part lf : List Int) (o2 : Nat) (v : Value) : Prop where
  bW : W.heap[gb]? = some (.cells #[.int .i64 wide] 3 (0, 0))
  bP : W.heap[gP]? = some (.cells #[v] 22 (0, 0))
  row : Kd.R (Kd.int .i64) 3 W base (fun k => some k = v.ownBlock) v part
  out_ : Kd.S (Kd.slice 3 (Kd.int .i64)) 22 W base (fun k => (k ≠ gb ∧ k ≠ gL) ∧ ¬ some k = v.ownBlock) u5 out
  apart : ∀ k, some k = v.ownBlock → (k ≠ gb ∧ k ≠ gL) ∧ some k ≠ u5.ownBlock
  left : LeftAt gL o2 W lf
theorem InR.done {W2 : World} {u5 : Value} {out : List (List Int)} {sp : List Int} (h : InR gb gL gP wide wr W i part lf o2 gI v) (HS : Kd.S (Kd.slice 3 (Kd.int .i64)) 22 wr w.heap.size (fun k => k ≠ gb ∧ k ≠ gL) u5 out) (HB : Below w.heap.size w wr)
    (hR : Kd.R (Kd.int .i64) 3 W2 w.heap.size (fun k => some k = v.ownBlock ∨ W.heap.size ≤ k) v sp) (hK : Kept W W2 (fun k => some k = v.ownBlock)) : DoneR gb gL gP w.heap.size wide W2 u5 out sp lf o2 v := by
  have hown := Kd.R_base h.row
  have e5 := h.low.size
  have e1 := h.gbr
  have e2 := h.gLr
  refine ⟨blk_kept h.bW hK (fun e => ?_), blk_kept h.bP hK (fun e => ?_), Kd.R_tight rfl hR, ?_, fun k hk => ?_, h.left.keep (hK.2 gL h.left.lt (fun e => ?_))⟩
  · have := hown _ e.symm; omega
  · exact Kd.R_ne h.row h.bP (by decide) e
  · refine Kd.S_mono (Kd.S_step (Kd.S_bound HS) (fun k hk hlt => ?_)) (fun k hk => ⟨hk.1, fun e => by have := hown _ e.symm; have := hk.2.2.1; omega⟩)
    exact (hK.2 k (by omega) (fun e => by have := hown _ e.symm; omega)).trans (h.keep k hlt hk.1.2)
  · have := hown _ hk.symm
    exact ⟨⟨by omega, by omega⟩, fun e => by have := Kd.S_lt HS k e.symm; omega⟩
  · have := hown _ e.symm; omega
theorem DoneR.after {base : Nat} {W W2 : World} {u5 : Value} {out : List (List Int)} (h : DoneR gb gL gP base wide W u5 out part lf o2 v) (hg : W.grownBy W2 u5.ownBlock) : W2.heap[gb]? = some (.cells #[.int .i64 wide] 3 (0, 0)) ∧ LeftAt gL o2 W2 lf := by
  have a1 : some gb ≠ u5.ownBlock := Kd.S_away h.out_ (fun k hk => hk.1.1)
  have a2 : some gL ≠ u5.ownBlock := Kd.S_away h.out_ (fun k hk => hk.1.2)
  exact ⟨(hg.block gb (blk_lt h.bW) a1).trans h.bW, h.left.keep (hg.block gL h.left.lt a2)⟩
end
def grP (wide : Int) : Nat → Nat → List Int → List Int → List Int × List Int
  | 0, _, p, r => (p, r)
  | k + 1, j, p, r => if j < p.length then grP wide k (j + 1) (p ++ r.filter (nrP wide (p.getD j 0))) (r.filter (fun c => !nrP wide (p.getD j 0) c)) else (p, r)
def ptP (wide : Int) (n : Nat) : Nat → List Int → List (List Int) → List (List Int)
  | 0, _, out => out
  | k + 1, r, out => match r with
    | [] => out
    | s :: r => ptP wide n k (grP wide n 0 [s] r).2 (out ++ [(grP wide n 0 [s] r).1.mergeSort fun x y => decide (x ≤ y)])
def partsP (wide : Int) (l : List Int) : List (List Int) := ptP wide (l.length + 1) (l.length + 1) l []
set_option maxHeartbeats 4000000 in
set_option maxRecDepth 100000 in
theorem regionParts_calls (wide : Int) (A1 : Option Addr) (c1 : Nat) (l : List Int) (w : World) (hr1 : Kd.C (Kd.int .i64) w A1 l.length l) (hc1 : l.length ≤ c1) (hw : wide ≠ 0) (hl : l.length ≤ 64) :
    Calls Try.prog 25 #[.int .i64 wide, .slice A1 l.length c1] w fun e w' => ∃ v0_ : Value, e = .returned (v0_) ∧ Kd.S (Kd.slice 3 (Kd.int .i64)) 22 w' w.heap.size (fun _ => True) v0_ (partsP wide l) ∧ Below w.heap.size w w' := by
  have HR2 := aK hr1
  have HC2 := aK hc1
  clear hr1 hc1
  have HB := aK (Below.refl w.heap.size w)
  have hcl : slices_Clone_int_int.f l = some l := by
    unfold slices_Clone_int_int.f
    rw [if_pos (by omega)]
  have A6 := aK hcl
  clear hcl
  go_enter Try.func25, Try.ntmps25
  go_wp2_with (first | ((with_reducible refine gate_dst (N := 2) rfl ?_); refine box_event ?hg (N := 2) ?hd (cs := #[.int .i64 wide]) (t := 3) ?hr ?_; (case hd => rfl); (case hg => rfl); (case hr => first | (go_simp; done) | (go_simp; rfl)); intro gb101 hg w7 hbox hb; have BK101 := aK (hbox); have GW101 := aK (gE hg (pS HB.out)); have GE101 := aK (gE hg (pS HB.out)); replace HB := bS HB hb; clear hb hbox hg) | ((with_reducible refine gate_callee (f := 31) rfl ?_); refine goesL_ (some 10) rfl rfl Try.func31 (by kernel_rfl) rfl #[.slice A1 l.length c1] rfl (by (try simp only [List.map_toArray, List.map_cons, List.map_nil]); first | done | rfl | (simp only [List.length_drop, List.length_take]; rfl)) ?_; (with_reducible refine (slices_Clone_int_int.calls _ _ l l _ ?side1 ?side2 A6.out).mono ?_); (case side1 => repeat (first | exact (Kd.C_below HR2.out (pS HB.out)) | (with_reducible refine Kd.C_alloc ?_ _) | (with_reducible refine Kd.C_drewN ?_ _) | (with_reducible refine Kd.C_drew ?_))); (case side2 => exact HC2.out); rintro e w9 ⟨v104, rfl, ho0, hb⟩; refine ⟨_, rfl, ?_⟩; have HO105 := aK (Kd.R_lower (Kd.R_newB ho0 (g := gb101) (o := .cells #[.int .i64 wide] 3 (0, 0)) (pB BK101.out)) (below_size (pS HB.out))); replace BK101 := bB BK101 hb; replace HB := bS HB hb; (try clear hb); (try clear ho0)))
  go_loopg [5, 6, 7, 8] (l.length + 1) (fun gg s5 s6 _ _ wr => ∃ (out : List (List Int)) (left : List Int) (A6 : Option Addr) (c6 : Nat), s6 = .slice A6 left.length c6 ∧
    Aside0 (left.length < gg ∧ left.length ≤ c6 ∧ left.length + out.length ≤ l.length ∧ ptP wide (l.length + 1) gg left out = partsP wide l) ∧
    Aside0 (left = [] ∨ ∃ gL o, A6 = some ⟨gL, o, none⟩ ∧ w.heap.size ≤ gL ∧ gL ≠ gb101 ∧ LeftAt gL o wr left ∧ Kd.S (Kd.slice 3 (Kd.int .i64)) 22 wr w.heap.size (fun k => k ≠ gb101 ∧ k ≠ gL) s5 out) ∧
    Aside0 (left = [] → Kd.S (Kd.slice 3 (Kd.int .i64)) 22 wr w.heap.size (fun k => k ≠ gb101) s5 out) ∧
    Aside0 (wr.heap[gb101]? = some (.cells #[.int .i64 wide] 3 (0, 0))) ∧ Aside0 (Below w.heap.size w wr))
  case atStart =>
    obtain ⟨A6, c6, e6⟩ := Kd.R_slice HO105.out
    subst e6
    have hR := HO105.out
    have hcap := (Kd.R_reads' hR).2.1
    refine ⟨[], l, A6, c6, rfl, ⟨by omega, hcap, by simp, rfl⟩, ⟨?_⟩, ⟨fun _ => Kd.S_nil _ _ _ _ _⟩, BK101, HB⟩
    by_cases h0 : 0 < l.length
    · obtain ⟨g, cap, eg, hgb, hgs, arr, hc⟩ := Kd.R_form hR h0
      injection eg with e1 _ e3
      subst e1
      refine .inr ⟨g, 0, rfl, hgb, Kd.R_away (g := gb101) hR (fun _ hk => hk.2) |> fun h e => h (by rw [e]; rfl), ⟨by omega, arr, hc, fun m hm => ?_⟩, Kd.S_nil _ _ _ _ _⟩
      obtain ⟨ad, e4, hx⟩ := Kd.at_int (Kd.R_reads' hR).2.2 (m : Int) (by omega) (by omega)
      cases e4
      rw [Int.toNat_natCast, add_at, blk_cell hc, rd_nat'] at hx
      exact hx
    · exact .inl (List.length_eq_zero_iff.1 (by omega))
  case round =>
    obtain ⟨out, left, A6, c6, rfl, AA, LL, EE, BK, HB⟩ := hrel
    cases left with
    | nil =>
      have c4b0 : decide ((0 : Int) < (([] : List Int).length : Int)) = false := rfl
      go_wp2
      go_ret
      have e := AA.out.2.2.2
      have e2 : ptP wide (l.length + 1) gk [] out = out := by cases gk <;> rfl
      rw [e2] at e
      rw [← e]
      exact ⟨_, rfl, Kd.S_mono (EE.out trivial) (fun _ _ => trivial), HB.out⟩
    | cons s left =>
      obtain ⟨wo, rfl⟩ : ∃ x, x = wr := ⟨_, rfl⟩
      cases gk with
      | zero => exact absurd AA.out.1 (by simp)
      | succ k1 =>
        obtain ⟨gL, o, rfl, g1, g2, hL, hS⟩ := LL.out.resolve_left (by simp)
        have c4b0 : decide ((0 : Int) < ((s :: left).length : Int)) = true := decide_eq_true (by simp)
        obtain ⟨ad, e0, hcell⟩ := Kd.at_int hL.row 0 (by omega) (by simp)
        cases e0
        rw [show ((0 : Int)).toNat = 0 from rfl, add_at, Nat.add_zero] at hcell
        have SL := aK hL
        have SS := aK hS
        have BK0 := BK
        have HB0 := HB
        have HL := aK hL
        have HS := aK hS
        have hcc := AA.out.2.1
        clear hL hS LL EE
        go_wp2_with (first | ((with_reducible refine gate_dst (N := 17) rfl ?_); refine Kd.R_lit (Kd.int .i64) _ 3 ?hg (N := 17) ?hd (xs := ([s] : List Int)) (inner := [.int .i64 s]) (ok := fun _ => True) (okp := fun _ => True) ?hr ?hp (fun _ hk => hk) trivial (Below.refl _ _) (Nat.le_refl _) (by simp) ?_; (case hd => rfl); (case hg => rfl); (case hr => first | (go_simp; done) | (go_simp; rfl)); (case hp => exact (Reps.one (show Kd.M (Kd.int .i64) _ _ _ s [.int .i64 s] from rfl) (Reps.none _ _))); intro v17 w17 hp17 hb hg_ hnew_; clear hg_ hnew_; obtain ⟨Ap, cp, ep⟩ := Kd.R_slice hp17; subst ep; have HP := aK hp17; have B1 := aK hb; have HL2 := aK (HL.out.keep (hb.block gL (LeftAt.lt HL.out))); have HS2 := aK (Kd.S_below HS.out hb); replace BK := bB BK hb; replace HB := bS HB hb; clear HL HS hp17 hb) | ((with_reducible refine gate_dst (N := 7) rfl ?_); refine box_event ?hg (N := 7) ?hd (cs := #[.slice none 0 0]) (t := 22) ?hr ?_; (case hd => rfl); (case hg => rfl); (case hr => first | (go_simp; done) | (go_simp; rfl)); intro gP hggP wgP hbox hb; have BgP := aK hbox; have GP1 : Aside0 (w17.heap.size ≤ gP) := ⟨Nat.le_of_eq hggP.symm⟩; have GP2 : Aside0 (gP < wgP.heap.size) := ⟨blk_lt hbox⟩; have B2 := aK hb; clear hggP; have HL3 := aK (HL2.out.keep (hb.block gL (LeftAt.lt HL2.out))); have HS3 := aK (Kd.S_below HS2.out hb); replace BK := bB BK hb; have cgP := (blk_cell BgP.out 0).trans rfl; have fgP := blk_frozen BgP.out 0; replace HB := bS HB hb; clear hb hbox) | ((with_reducible refine gate_dst (N := 8) rfl ?_); refine box_event ?hg (N := 8) ?hd (cs := #[.int .i64 0]) (t := 3) ?hr ?_; (case hd => rfl); (case hg => rfl); (case hr => first | (go_simp; done) | (go_simp; rfl)); intro gI hggI wgI hbox hb; have BgI := aK hbox; have GI1 := aK (Nat.le_of_eq hggI.symm); have B3 := aK hb; have cgI := (blk_cell BgI.out 0).trans rfl; have fgI := blk_frozen BgI.out 0; clear hggI hb hbox))
        all_goals
          go_loopg [6, 8] (l.length + 1) (fun gg s6 s8 wi => ∃ (i : Nat) (part lf : List Int) (o2 c7 gI : Nat) (v : Value), s6 = .slice (some ⟨gL, o2, none⟩) lf.length c7 ∧ s8 = .pointer (some ⟨gI, 0, none⟩) ∧
            Aside0 (part.length + lf.length = left.length + 1 ∧ part.length + lf.length < i + gg ∧ 0 < part.length ∧ lf.length ≤ c7 ∧ grP wide gg i part lf = grP wide (l.length + 1) 0 [s] left) ∧ Aside0 (InR gb101 gL gP wide wo wi i part lf o2 gI v))
          case atStart =>
            have hA := AA.out
            simp only [List.length_cons] at hA hcc
            refine ⟨0, [s], left, _, _, gI, _, rfl, rfl, ⟨by simp; omega, by simp; omega, by simp, by omega, rfl⟩, ⟨InR.start HP.out B1.out B2.out GP1.out BgP.out B3.out GI1.out BgI.out ?_ BK0.out g2⟩⟩
            first
            | exact SL.out.tail
            | (have hz : left = [] := List.length_eq_zero_iff.1 (by omega)
               rw [hz]
               exact SL.out.none_ _)
          case round =>
            clear HP B1 HL2 HS2 BgP GP1 GP2 B2 HL3 HS3 BK cgP fgP HB BgI GI1 B3 cgI fgI
            obtain ⟨i, part, lf, o2, c7, gI2, v, rfl, rfl, AI, HI⟩ := hrel
            obtain ⟨Av, cv, ev⟩ := Kd.R_slice HI.out.row
            subst ev
            have cP := (blk_cell HI.out.bP 0).trans rfl
            have cI := (blk_cell HI.out.bI 0).trans rfl
            have fI := blk_frozen HI.out.bI 0
            have hA := AI.out
            have hAA := AA.out
            simp only [List.length_cons] at hAA
            by_cases hlt : i < part.length
            · have c4b1 : decide ((i : Int) < (part.length : Int)) = true := decide_eq_true (by omega)
              have c4b2 : decide (i < part.length) = true := decide_eq_true hlt
              cases gk with
              | zero => omega
              | succ k2 =>
                have hcall := HI.out.call c7 hA.2.2.2.1 hlt (by omega) (by omega) hw
                have HC := aK hcall
                have LT := aK hlt
                clear hcall hlt hA hAA
                go_wp2_with (first | (go_at_call 45; (with_reducible refine HC.out.mono ?_); rintro e w' ⟨v', rfl, hi'⟩; have HI2 := aK hi'; have cI2 := (blk_cell HI2.out.bI 0).trans rfl; clear hi' cP cI fI))
                go_roundg k2
                case measure => have hA := AI.out; omega
                case rel =>
                  have hA := AI.out
                  have hLT := LT.out
                  have hAA := AA.out
                  simp only [List.length_cons] at hAA
                  have hf := filt_len (nrP wide (part.getD i 0)) lf
                  refine ⟨i + 1, part ++ lf.filter (nrP wide (part.getD i 0)), lf.filter (fun x => !nrP wide (part.getD i 0) x), o2, c7, _, v', rfl, rfl, ⟨by rw [List.length_append]; omega, by rw [List.length_append]; omega, by rw [List.length_append]; omega, by omega, ?_⟩, ⟨HI2.out.anew (by omega)⟩⟩
                  have e := hA.2.2.2.2
                  rw [grP, if_pos hLT] at e
                  exact e
            · have c4b1 : decide ((i : Int) < (part.length : Int)) = false := decide_eq_false (by omega)
              have c4b2 : decide (i < part.length) = false := decide_eq_false hlt
              have LT := aK hlt
              have hsf : slices_Sort_int_int.f part = some (srt part) := by unfold slices_Sort_int_int.f; rw [if_pos (by omega)]
              have HF := aK hsf
              have HBW := aK (HI.out.below HB0.out g1)
              have HRT := aK (Kd.R_tight rfl (Kd.R_lower HI.out.row (HB0.out.size)))
              clear hlt hA hAA hsf
              go_wp2_with (first | (go_at_call 35; (with_reducible refine (slices_Sort_int_int.calls (fun k_ => some k_ = (Value.slice Av part.length cv).ownBlock) _ part (srt part) w _ HBW.out HRT.out HF.out).mono ?_); rintro e w' ⟨rfl, hR', hB', hK'⟩; have DN := aK (HI.out.done SS.out HB0.out hR' hK'); have HB3 := aK hB'; have cP2 := (blk_cell DN.out.bP 0).trans rfl; clear hR' hB' hK' cP cI fI) | ((with_reducible refine gate_builtin (b := .append) (xs := #[.tmp 32, .tmp 34]) rfl ?_); at_builtin; refine Kd.S_append (Kd.slice 3 (Kd.int .i64)) (w0 := w) w.heap.size rfl (.tmp 32) (.tmp 34) 23 22 (.slice none 0 0) 24 rfl Try.underlying23 info22 rfl (by decide) (by omega) u5 out (srt part) [.slice Av part.length cv] (fun k_ => k_ ≠ gb101 ∧ k_ ≠ gL) (fun k_ => some k_ = (Value.slice Av part.length cv).ownBlock) rfl rfl ?aP DN.out.apart ?aF ?aO ?aB ?aS ?aL ?_; (case aP => exact Kd.M_row DN.out.row); (case aB => exact HB3.out); (case aF => exact (fun k_ hk => ⟨by have := blk_lt DN.out.bW; omega, by have := DN.out.left.lt; omega⟩)); (case aO => exact DN.out.out_); (case aS => exact HB3.out.size); (case aL => have hAA := AA.out; omega); intro v133 w41 ho hb hg hat; have HO := aK ho; have HB4 := aK hb; have AF := aK (DN.out.after hg); clear ho hb hg hat cP2))
              go_roundg k1
              case measure => omega
              case rel =>
                have hA := AI.out
                have hAA := AA.out
                have hLT := LT.out
                simp only [List.length_cons] at hAA
                refine ⟨out ++ [srt part], lf, some ⟨gL, o2, none⟩, c7, rfl, ⟨by omega, hA.2.2.2.1, by rw [List.length_append, List.length_singleton]; omega, ?_⟩, ⟨.inr ⟨gL, o2, rfl, g1, g2, AF.out.2, HO.out⟩⟩, ⟨fun _ => Kd.S_mono HO.out (fun _ hk => hk.1)⟩, ⟨AF.out.1⟩, ⟨HB4.out⟩⟩
                have e := hAA.2.2.2
                have e2 := hA.2.2.2.2
                have e3 : grP wide gk i part lf = (part, lf) := by
                  cases gk with
                  | zero => rfl
                  | succ k => rw [grP, if_neg hLT]
                rw [ptP, ← e2, e3] at e
                exact e
end Go.Proofs.Ytnpclamoabcbgaa.P
namespace Go.Proofs.Ytnpclamoabcbgaa.P
open Go.RowKit Go.Proofs.YtnpclamoabcbgaaW.PrintWords Go.Proofs.YtnpclamoabcbgaaW.PrintLast Go.Proofs.YtnpclamoabcbgaaW.PrintMore
attribute [local go_sem] max2_int min2_int max_two min_two max_three min_three max_four min_four
set_option linter.unusedVariables false
set_option linter.unusedSimpArgs false
def impl_regionParts.f (a0 : Int) (l1 : List Int) : Option (List (List Int)) := if a0 ≠ 0 ∧ l1.length ≤ 64 then some (partsP a0 l1) else none
theorem impl_regionParts.calls (a0 : Int) (A1 : Option Addr) (c1 : Nat) (l1 : List Int) (r : List (List Int)) (w : World) (hr1 : Kd.C (Kd.int .i64) w A1 l1.length l1) (hc1 : l1.length ≤ c1) (h : impl_regionParts.f a0 l1 = some r) :
    Calls Try.prog 25 #[.int .i64 a0, .slice A1 l1.length c1] w fun e w' => ∃ v0_ : Value, e = .returned (v0_) ∧ Kd.S (Kd.slice 3 (Kd.int .i64)) 22 w' w.heap.size (fun _ => True) v0_ r ∧ Below w.heap.size w w' := by
 unfold impl_regionParts.f at h
 by_cases c2 : a0 ≠ 0 ∧ l1.length ≤ 64
 case neg => rw [if_neg c2] at h; exact absurd h (by simp)
 rw [if_pos c2] at h
 obtain rfl := Option.some.inj h
 exact regionParts_calls a0 A1 c1 l1 w hr1 hc1 c2.1 c2.2
end Go.Proofs.Ytnpclamoabcbgaa.P
