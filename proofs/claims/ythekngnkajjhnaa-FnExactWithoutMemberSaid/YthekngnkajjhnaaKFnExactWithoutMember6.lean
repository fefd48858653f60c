/- Texts of the claim FnExactWithoutMember, merged: part 6 of 7: the program's and the reference's functions as Lean functions, the walks that show it, and plain lemmas; no conditions. -/
import Derived.Test.YthekngnkajjhnaaKFnExactWithoutMember3
import Derived.Test.YthekngnkajjhnaaKFnExactWithoutMember5
import Derived.Test.YthekngnkajjhnaaKFnExactWithoutMember4
import Derived.Test.YthekngnkajjhnaaKFnExactWithoutMember1
import Derived.Test.YthekngnkajjhnaaKFnExactWithoutMember2
import Derived.ProofKit
import Derived.OpenShut
import Derived.Deep.Slices
import Derived.Deep.Strs
import Derived.Deep.Fields
import Derived.Lib.SmallJoins
namespace Go.Proofs.Ythekngnkajjhnaa.P
open Go.RowKit Go.Proofs.YthekngnkajjhnaaW.PrintWords Go.Proofs.YthekngnkajjhnaaW.PrintLast Go.Proofs.YthekngnkajjhnaaW.PrintMore
attribute [local go_sem] max2_int min2_int max_two min_two max_three min_three max_four min_four
set_option linter.unusedVariables false
set_option linter.unusedSimpArgs false
def laws_eqFieldS.l0 : Nat → List (S26) → List (S26) → Int → Option (Bool)
 | 0, _, _, _ => none
 | k + 1, x0, x1, x5 => if x5 < (x0.length : Int) then (if 0 ≤ x5 then (if x5 < (x1.length : Int) then ((laws_eqField.f k ((rd_T26 x0 x5).f0) ((rd_T26 x0 x5).f1) ((rd_T26 x0 x5).f2) ((rd_T26 x1 x5).f0) ((rd_T26 x1 x5).f1) ((rd_T26 x1 x5).f2)).bind fun t103 => (if t103 = true then (laws_eqFieldS.l0 k x0 x1 (wrap64 (x5 + 1))) else (some false))) else (none)) else (none)) else (some true)
def laws_eqFieldS.f (k : Nat) (l0 : List (S26)) (l1 : List (S26)) : Option (Bool) := if (l0.length : Int) = (l1.length : Int) then (laws_eqFieldS.l0 k l0 l1 0) else (some false)
def laws_eqFieldS.T6 : Bool × List (List Nat × List Nat) := (true, [([], []), ([], []), ([0, 1], [0, 1]), ([2], [2]), ([], []), ([], []), ([4, 5], [4, 5]), ([6], [6]), ([3, 7], [3, 7]), ([8], [8])])
def laws_eqFieldS.B6 : List Nat := [0, 0, 3, 7, 0, 0, 48, 112, 255, 511]
theorem laws_eqFieldS.tab6 : rtab .any (opsOf Try.f96 6) = laws_eqFieldS.T6 := by kernel_rfl
theorem laws_eqFieldS.bits6 : waitsOk laws_eqFieldS.T6.2 laws_eqFieldS.B6 = true := by kernel_rfl
set_option maxHeartbeats 8000000 in
set_option maxRecDepth 100000 in
theorem laws_eqFieldS.calls (k : Nat) (A0 : Option Addr) (c0 : Nat) (l0 : List (S26)) (A1 : Option Addr) (c1 : Nat) (l1 : List (S26)) (r : Bool) (w : World) (hr0 : Kd.C k26 w A0 l0.length l0) (hc0 : l0.length ≤ c0) (hr1 : Kd.C k26 w A1 l1.length l1) (hc1 : l1.length ≤ c1) (h : laws_eqFieldS.f k l0 l1 = some r) :
  Calls Try.prog 96 #[.slice A0 l0.length c0, .slice A1 l1.length c1] w fun e w' => e = .returned (.bool r) ∧ Below w.heap.size w w' := by
 have hu26 := Try.underlying26
 have HR0 := Aside0.mk hr0
 have HC0 := Aside0.mk hc0
 clear hr0 hc0
 have HR1 := Aside0.mk hr1
 have HC1 := Aside0.mk hc1
 clear hr1 hc1
 have HB := aK (Below.refl w.heap.size w)
 have H : (if (l0.length : Int) = (l1.length : Int) then (laws_eqFieldS.l0 k l0 l1 0) else (some false)) = some r := h
 clear h
 by_cases c3 : (l0.length : Int) = (l1.length : Int)
 ·
  rw [if_pos c3] at H
  have c3b0 : ((l0.length : Int) == (l1.length : Int)) = true := beq_iff_eq.mpr c3
  have c3b1 : ((l0.length : Int) != (l1.length : Int)) = false := bne_eq_false_iff_eq.mpr c3
  have c3b2 : (l0.length == l1.length) = true := by first | simpa using c3 | (simp at c3 ⊢; omega)
  clear c3
  have H' := Aside0.mk H
  clear H
  go_enter Try.func96, Try.ntmps96
  go_wp2
  go_loopg [5] k (fun kq v5 w' => ∃ (x5_1 : Int), v5 = .int .i64 x5_1 ∧ Aside0 (laws_eqFieldS.l0 kq l0 l1 x5_1 = some r) ∧ Aside0 (kq ≤ k) ∧ Aside0 (Below w.heap.size w w'))
  case atStart => exact ⟨(0), (by first | rfl | (simp; done) | (simp [*]; done)), H', ⟨Nat.le_refl _⟩, ⟨pT HB.out⟩⟩
  case round =>
   clear H'
   try clear c1
   try clear p2
   try clear c3
   try clear c3b0
   try clear c3b1
   try clear c3b2
   obtain ⟨x5_1, rfl, HA, HK1, HB⟩ := hrel
   cases gk with
   | zero => exact absurd HA.out (by simp [laws_eqFieldS.l0])
   | succ k1 =>
    have H := HA.out
    clear HA
    simp only [laws_eqFieldS.l0] at H
    by_cases c4 : x5_1 < (l0.length : Int)
    ·
     rw [if_pos c4] at H
     have c4b0 : decide (x5_1 < (l0.length : Int)) = true := decide_eq_true c4
     clear c4
     by_cases c5 : 0 ≤ x5_1
     ·
      rw [if_pos c5] at H
      have c5b0 : decide (0 ≤ x5_1) = true := decide_eq_true c5
      clear c5
      by_cases c6 : x5_1 < (l1.length : Int)
      ·
       rw [if_pos c6] at H
       have c6b0 : decide (x5_1 < (l1.length : Int)) = true := decide_eq_true c6
       clear c6
       replace H := Option.bind_eq_some_iff.mp H
       obtain ⟨t103, A70, H⟩ := H
       replace H : (if t103 = true then (laws_eqFieldS.l0 k1 l0 l1 (wrap64 (x5_1 + 1))) else (some false)) = some r := H
       have A7 := Aside0.mk A70
       clear A70
       by_cases c8 : t103 = true
       ·
        subst c8
        have H1 : (laws_eqFieldS.l0 k1 l0 l1 (wrap64 (x5_1 + 1))) = some r := by rw [if_pos rfl] at H; exact H
        clear H
        have H := H1
        clear H1
        have H' := Aside0.mk H
        clear H
        try go_wp2
        have n0_ := aK (below_drew1 HB.out)
        clear HB
        have HB := n0_
        clear n0_
        have p101 : 0 ≤ (x5_1 : Int) := of_decide_eq_true (by first | (with_reducible assumption) | assumption)
        have q101 : x5_1 < (l0.length : Int) := of_decide_eq_true (by first | (with_reducible assumption) | assumption)
        obtain ⟨ad101, A101_2, c101_2, e101, hx101_0, hx101_1, hx101_2, hl101_2, hi101_2⟩ := at_T26 HR0.out x5_1 p101 q101
        have hw101_2 := hx101_2
        have hw101_1 := hx101_1
        have hw101_0 := hx101_0
        cases e101
        replace hx101_0 := (HB.out.cell (World.block_lt_of_cell? w _ hx101_0)).trans hx101_0
        replace hx101_1 := (HB.out.cell (World.block_lt_of_cell? w _ hx101_1)).trans hx101_1
        replace hx101_2 := (HB.out.cell (World.block_lt_of_cell? w _ hx101_2)).trans hx101_2
        have HR101_2 := Aside0.mk hi101_2
        have HC101_2 := Aside0.mk hl101_2
        clear hi101_2 hl101_2
        replace p101 := eq_true p101
        replace q101 := eq_true q101
        have p102 : 0 ≤ (x5_1 : Int) := of_decide_eq_true (by first | (with_reducible assumption) | assumption)
        have q102 : x5_1 < (l1.length : Int) := of_decide_eq_true (by first | (with_reducible assumption) | assumption)
        obtain ⟨ad102, A102_2, c102_2, e102, hx102_0, hx102_1, hx102_2, hl102_2, hi102_2⟩ := at_T26 HR1.out x5_1 p102 q102
        have hw102_2 := hx102_2
        have hw102_1 := hx102_1
        have hw102_0 := hx102_0
        cases e102
        replace hx102_0 := (HB.out.cell (World.block_lt_of_cell? w _ hx102_0)).trans hx102_0
        replace hx102_1 := (HB.out.cell (World.block_lt_of_cell? w _ hx102_1)).trans hx102_1
        replace hx102_2 := (HB.out.cell (World.block_lt_of_cell? w _ hx102_2)).trans hx102_2
        have HR102_2 := Aside0.mk hi102_2
        have HC102_2 := Aside0.mk hl102_2
        clear hi102_2 hl102_2
        replace p102 := eq_true p102
        replace q102 := eq_true q102
        refine start_ (n := 10) (S := fun w' => w'.cell? (ad101.add ((x5_1).toNat * 3)) = some (.int .i64 ((rd_T26 l0 x5_1).f0)) ∧ w'.cell? ⟨(ad101.add ((x5_1).toNat * 3)).block, (ad101.add ((x5_1).toNat * 3)).off + 1, none⟩ = some (.int .i64 ((rd_T26 l0 x5_1).f1)) ∧ w'.cell? ⟨(ad101.add ((x5_1).toNat * 3)).block, (ad101.add ((x5_1).toNat * 3)).off + 2, none⟩ = some (.slice A101_2 ((rd_T26 l0 x5_1).f2).length c101_2) ∧ w'.cell? (ad102.add ((x5_1).toNat * 3)) = some (.int .i64 ((rd_T26 l1 x5_1).f0)) ∧ w'.cell? ⟨(ad102.add ((x5_1).toNat * 3)).block, (ad102.add ((x5_1).toNat * 3)).off + 1, none⟩ = some (.int .i64 ((rd_T26 l1 x5_1).f1)) ∧ w'.cell? ⟨(ad102.add ((x5_1).toNat * 3)).block, (ad102.add ((x5_1).toNat * 3)).off + 2, none⟩ = some (.slice A102_2 ((rd_T26 l1 x5_1).f2).length c102_2)) (ds := []) #[false, false, false, false, false, false, false, false, false, false] (by kernel_rfl) rfl rfl ⟨((HB.out.cell (World.block_lt_of_cell? w _ hw101_0)).trans hw101_0), ((HB.out.cell (World.block_lt_of_cell? w _ hw101_1)).trans hw101_1), ((HB.out.cell (World.block_lt_of_cell? w _ hw101_2)).trans hw101_2), ((HB.out.cell (World.block_lt_of_cell? w _ hw102_0)).trans hw102_0), ((HB.out.cell (World.block_lt_of_cell? w _ hw102_1)).trans hw102_1), ((HB.out.cell (World.block_lt_of_cell? w _ hw102_2)).trans hw102_2)⟩ (fun hHeld => ?_); refine with_tabW laws_eqFieldS.tab6 laws_eqFieldS.bits6 (fun HT_ HW_ => ?_)
        generalize wr.drew = w9 at HB HR101_2 HR102_2 hx101_0 hx101_1 hx101_2 hx102_0 hx102_1 hx102_2 hHeld ⊢
        refine pure_ (i := 0) (N := some 17) (v := ?_) (a' := ?_) #[true, false, false, false, false, false, false, false, false, false] rfl rfl (any_of HT_.out (by kernel_rfl)) (fun _ _ _ h => h) (Or.inl ⟨by rfl, ?_⟩) ?_ ?_
        rotate_left
        ·
         intro w'
         go_simp
         with_reducible rfl
        rotate_left
        ·
         simp only [sP]
         rfl
        refine pure_ (i := 1) (N := some 18) (v := ?_) (a' := ?_) #[true, true, false, false, false, false, false, false, false, false] rfl rfl (any_of HT_.out (by kernel_rfl)) (fun _ _ _ h => h) (Or.inl ⟨by rfl, ?_⟩) ?_ ?_
        rotate_left
        ·
         intro w'
         go_simp
         with_reducible rfl
        rotate_left
        ·
         simp only [sP]
         rfl
        refine pure_ (i := 2) (N := some 19) (v := ?_) (a' := ?_) #[true, true, true, false, false, false, false, false, false, false] rfl rfl (any_of HT_.out (by kernel_rfl)) (fun _ _ _ h => h) (Or.inl ⟨by rfl, ?_⟩) ?_ ?_
        rotate_left
        ·
         intro w'
         go_simp
         with_reducible rfl
        rotate_left
        ·
         simp only [sP]
         rfl
        refine pure_ (i := 4) (N := some 21) (v := ?_) (a' := ?_) #[true, true, true, false, true, false, false, false, false, false] rfl rfl (any_of HT_.out (by kernel_rfl)) (fun _ _ _ h => h) (Or.inl ⟨by rfl, ?_⟩) ?_ ?_
        rotate_left
        ·
         intro w'
         go_simp
         with_reducible rfl
        rotate_left
        ·
         simp only [sP]
         rfl
        refine pure_ (i := 5) (N := some 22) (v := ?_) (a' := ?_) #[true, true, true, false, true, true, false, false, false, false] rfl rfl (any_of HT_.out (by kernel_rfl)) (fun _ _ _ h => h) (Or.inl ⟨by rfl, ?_⟩) ?_ ?_
        rotate_left
        ·
         intro w'
         go_simp
         with_reducible rfl
        rotate_left
        ·
         simp only [sP]
         rfl
        refine pure_ (i := 6) (N := some 23) (v := ?_) (a' := ?_) #[true, true, true, false, true, true, true, false, false, false] rfl rfl (any_of HT_.out (by kernel_rfl)) (fun _ _ _ h => h) (Or.inl ⟨by rfl, ?_⟩) ?_ ?_
        rotate_left
        ·
         intro w'
         go_simp
         with_reducible rfl
        rotate_left
        ·
         simp only [sP]
         rfl
        refine take_ (i := 3) (N := some 20) (v := ?_) (a' := ?_) #[true, true, true, true, true, true, true, false, false, false] rfl rfl (take_ofW HT_.out HW_.out (by kernel_rfl)) (fun _ _ _ h => h) (Or.inl ⟨by rfl, ?_⟩) hHeld ?_ ?_
        rotate_left
        ·
         rintro w' ⟨s0, s1, s2, s3, s4, s5⟩
         go_simp
         with_reducible rfl
        rotate_left
        ·
         simp only [sP]
         rfl
        refine take_ (i := 7) (N := some 24) (v := ?_) (a' := ?_) #[true, true, true, true, true, true, true, true, false, false] rfl rfl (take_ofW HT_.out HW_.out (by kernel_rfl)) (fun _ _ _ h => h) (Or.inl ⟨by rfl, ?_⟩) hHeld ?_ ?_
        rotate_left
        ·
         rintro w' ⟨s0, s1, s2, s3, s4, s5⟩
         go_simp
         with_reducible rfl
        rotate_left
        ·
         simp only [sP]
         rfl
        refine one_ (i := 8) (N := some 25) #[true, true, true, true, true, true, true, true, true, false] rfl rfl (one_of HT_.out (by kernel_rfl)) (by decide) (fun K hK => ?_)
        refine goes_ Try.func88 (by kernel_rfl) rfl #[.agg #[.int .i64 ((rd_T26 l0 x5_1).f0), .int .i64 ((rd_T26 l0 x5_1).f1), .slice A101_2 ((rd_T26 l0 x5_1).f2).length c101_2], .agg #[.int .i64 ((rd_T26 l1 x5_1).f0), .int .i64 ((rd_T26 l1 x5_1).f1), .slice A102_2 ((rd_T26 l1 x5_1).f2).length c102_2]] (by rfl) rfl rfl (by (try simp only [List.map_toArray, List.map_cons, List.map_nil]); first | done | rfl | (simp only [List.length_drop, List.length_take]; rfl)) ?_
        with_reducible refine (laws_eqField.calls k1 ((rd_T26 l0 x5_1).f0) ((rd_T26 l0 x5_1).f1) _ _ ((rd_T26 l0 x5_1).f2) ((rd_T26 l1 x5_1).f0) ((rd_T26 l1 x5_1).f1) _ _ ((rd_T26 l1 x5_1).f2) true _ ?side1 ?side2 ?side3 ?side4 A7.out).mono ?_
        (case side1 => exact pC (Kd.C_below HR101_2.out HB.out))
        (case side2 => exact HC101_2.out)
        (case side3 => exact pC (Kd.C_below HR102_2.out HB.out))
        (case side4 => exact HC102_2.out)
        rintro e w10 ⟨rfl, hb⟩
        refine ⟨_, rfl, ?_⟩
        replace HB := bS HB hb
        (try clear hb)
        (try clear hb2)
        (try clear hk)
        (try clear hi)
        refine hK.out _ _ ⟨((HB.out.cell (World.block_lt_of_cell? w _ hw101_0)).trans hw101_0), ((HB.out.cell (World.block_lt_of_cell? w _ hw101_1)).trans hw101_1), ((HB.out.cell (World.block_lt_of_cell? w _ hw101_2)).trans hw101_2), ((HB.out.cell (World.block_lt_of_cell? w _ hw102_0)).trans hw102_0), ((HB.out.cell (World.block_lt_of_cell? w _ hw102_1)).trans hw102_1), ((HB.out.cell (World.block_lt_of_cell? w _ hw102_2)).trans hw102_2)⟩ (fun hHeld => ?_)
        clear hK K
        refine norm_ (a' := ?_) ?_ ?_
        rotate_left
        ·
         show Act.put _ (some 25) _ = _
         simp only [sP]
         rfl
        refine pure_ (i := 9) (N := some 26) (v := ?_) (a' := ?_) #[true, true, true, true, true, true, true, true, true, true] rfl rfl (any_of HT_.out (by kernel_rfl)) (fun _ _ _ h => h) (Or.inl ⟨by rfl, ?_⟩) ?_ ?_
        rotate_left
        ·
         intro w'
         go_simp
         with_reducible rfl
        rotate_left
        ·
         simp only [sP]
         rfl
        refine done_ (done_of HT_.out (by kernel_rfl)) ?_
        try go_wp2
        go_roundg k1
        case measure => have := HK1.out; omega
        case rel => exact ⟨(wrap64 (x5_1 + 1)), (by first | rfl | (simp; done) | (simp [*]; done)), H', ⟨by have := HK1.out; omega⟩, ⟨pT HB.out⟩⟩
       replace c8 := Bool.eq_false_iff.mpr c8
       subst c8
       have H1 : (some false) = some r := by rw [if_neg (show ¬ (false = true) by decide)] at H; exact H
       clear H
       have H := H1
       clear H1
       obtain rfl := Option.some.inj H
       try go_wp2
       have n0_ := aK (below_drew1 HB.out)
       clear HB
       have HB := n0_
       clear n0_
       have p101 : 0 ≤ (x5_1 : Int) := of_decide_eq_true (by first | (with_reducible assumption) | assumption)
       have q101 : x5_1 < (l0.length : Int) := of_decide_eq_true (by first | (with_reducible assumption) | assumption)
       obtain ⟨ad101, A101_2, c101_2, e101, hx101_0, hx101_1, hx101_2, hl101_2, hi101_2⟩ := at_T26 HR0.out x5_1 p101 q101
       have hw101_2 := hx101_2
       have hw101_1 := hx101_1
       have hw101_0 := hx101_0
       cases e101
       replace hx101_0 := (HB.out.cell (World.block_lt_of_cell? w _ hx101_0)).trans hx101_0
       replace hx101_1 := (HB.out.cell (World.block_lt_of_cell? w _ hx101_1)).trans hx101_1
       replace hx101_2 := (HB.out.cell (World.block_lt_of_cell? w _ hx101_2)).trans hx101_2
       have HR101_2 := Aside0.mk hi101_2
       have HC101_2 := Aside0.mk hl101_2
       clear hi101_2 hl101_2
       replace p101 := eq_true p101
       replace q101 := eq_true q101
       have p102 : 0 ≤ (x5_1 : Int) := of_decide_eq_true (by first | (with_reducible assumption) | assumption)
       have q102 : x5_1 < (l1.length : Int) := of_decide_eq_true (by first | (with_reducible assumption) | assumption)
       obtain ⟨ad102, A102_2, c102_2, e102, hx102_0, hx102_1, hx102_2, hl102_2, hi102_2⟩ := at_T26 HR1.out x5_1 p102 q102
       have hw102_2 := hx102_2
       have hw102_1 := hx102_1
       have hw102_0 := hx102_0
       cases e102
       replace hx102_0 := (HB.out.cell (World.block_lt_of_cell? w _ hx102_0)).trans hx102_0
       replace hx102_1 := (HB.out.cell (World.block_lt_of_cell? w _ hx102_1)).trans hx102_1
       replace hx102_2 := (HB.out.cell (World.block_lt_of_cell? w _ hx102_2)).trans hx102_2
       have HR102_2 := Aside0.mk hi102_2
       have HC102_2 := Aside0.mk hl102_2
       clear hi102_2 hl102_2
       replace p102 := eq_true p102
       replace q102 := eq_true q102
       refine start_ (n := 10) (S := fun w' => w'.cell? (ad101.add ((x5_1).toNat * 3)) = some (.int .i64 ((rd_T26 l0 x5_1).f0)) ∧ w'.cell? ⟨(ad101.add ((x5_1).toNat * 3)).block, (ad101.add ((x5_1).toNat * 3)).off + 1, none⟩ = some (.int .i64 ((rd_T26 l0 x5_1).f1)) ∧ w'.cell? ⟨(ad101.add ((x5_1).toNat * 3)).block, (ad101.add ((x5_1).toNat * 3)).off + 2, none⟩ = some (.slice A101_2 ((rd_T26 l0 x5_1).f2).length c101_2) ∧ w'.cell? (ad102.add ((x5_1).toNat * 3)) = some (.int .i64 ((rd_T26 l1 x5_1).f0)) ∧ w'.cell? ⟨(ad102.add ((x5_1).toNat * 3)).block, (ad102.add ((x5_1).toNat * 3)).off + 1, none⟩ = some (.int .i64 ((rd_T26 l1 x5_1).f1)) ∧ w'.cell? ⟨(ad102.add ((x5_1).toNat * 3)).block, (ad102.add ((x5_1).toNat * 3)).off + 2, none⟩ = some (.slice A102_2 ((rd_T26 l1 x5_1).f2).length c102_2)) (ds := []) #[false, false, false, false, false, false, false, false, false, false] (by kernel_rfl) rfl rfl ⟨((HB.out.cell (World.block_lt_of_cell? w _ hw101_0)).trans hw101_0), ((HB.out.cell (World.block_lt_of_cell? w _ hw101_1)).trans hw101_1), ((HB.out.cell (World.block_lt_of_cell? w _ hw101_2)).trans hw101_2), ((HB.out.cell (World.block_lt_of_cell? w _ hw102_0)).trans hw102_0), ((HB.out.cell (World.block_lt_of_cell? w _ hw102_1)).trans hw102_1), ((HB.out.cell (World.block_lt_of_cell? w _ hw102_2)).trans hw102_2)⟩ (fun hHeld => ?_); refine with_tabW laws_eqFieldS.tab6 laws_eqFieldS.bits6 (fun HT_ HW_ => ?_)
       generalize wr.drew = w11 at HB HR101_2 HR102_2 hx101_0 hx101_1 hx101_2 hx102_0 hx102_1 hx102_2 hHeld ⊢
       refine pure_ (i := 0) (N := some 17) (v := ?_) (a' := ?_) #[true, false, false, false, false, false, false, false, false, false] rfl rfl (any_of HT_.out (by kernel_rfl)) (fun _ _ _ h => h) (Or.inl ⟨by rfl, ?_⟩) ?_ ?_
       rotate_left
       ·
        intro w'
        go_simp
        with_reducible rfl
       rotate_left
       ·
        simp only [sP]
        rfl
       refine pure_ (i := 1) (N := some 18) (v := ?_) (a' := ?_) #[true, true, false, false, false, false, false, false, false, false] rfl rfl (any_of HT_.out (by kernel_rfl)) (fun _ _ _ h => h) (Or.inl ⟨by rfl, ?_⟩) ?_ ?_
       rotate_left
       ·
        intro w'
        go_simp
        with_reducible rfl
       rotate_left
       ·
        simp only [sP]
        rfl
       refine pure_ (i := 2) (N := some 19) (v := ?_) (a' := ?_) #[true, true, true, false, false, false, false, false, false, false] rfl rfl (any_of HT_.out (by kernel_rfl)) (fun _ _ _ h => h) (Or.inl ⟨by rfl, ?_⟩) ?_ ?_
       rotate_left
       ·
        intro w'
        go_simp
        with_reducible rfl
       rotate_left
       ·
        simp only [sP]
        rfl
       refine pure_ (i := 4) (N := some 21) (v := ?_) (a' := ?_) #[true, true, true, false, true, false, false, false, false, false] rfl rfl (any_of HT_.out (by kernel_rfl)) (fun _ _ _ h => h) (Or.inl ⟨by rfl, ?_⟩) ?_ ?_
       rotate_left
       ·
        intro w'
        go_simp
        with_reducible rfl
       rotate_left
       ·
        simp only [sP]
        rfl
       refine pure_ (i := 5) (N := some 22) (v := ?_) (a' := ?_) #[true, true, true, false, true, true, false, false, false, false] rfl rfl (any_of HT_.out (by kernel_rfl)) (fun _ _ _ h => h) (Or.inl ⟨by rfl, ?_⟩) ?_ ?_
       rotate_left
       ·
        intro w'
        go_simp
        with_reducible rfl
       rotate_left
       ·
        simp only [sP]
        rfl
       refine pure_ (i := 6) (N := some 23) (v := ?_) (a' := ?_) #[true, true, true, false, true, true, true, false, false, false] rfl rfl (any_of HT_.out (by kernel_rfl)) (fun _ _ _ h => h) (Or.inl ⟨by rfl, ?_⟩) ?_ ?_
       rotate_left
       ·
        intro w'
        go_simp
        with_reducible rfl
       rotate_left
       ·
        simp only [sP]
        rfl
       refine take_ (i := 3) (N := some 20) (v := ?_) (a' := ?_) #[true, true, true, true, true, true, true, false, false, false] rfl rfl (take_ofW HT_.out HW_.out (by kernel_rfl)) (fun _ _ _ h => h) (Or.inl ⟨by rfl, ?_⟩) hHeld ?_ ?_
       rotate_left
       ·
        rintro w' ⟨s0, s1, s2, s3, s4, s5⟩
        go_simp
        with_reducible rfl
       rotate_left
       ·
        simp only [sP]
        rfl
       refine take_ (i := 7) (N := some 24) (v := ?_) (a' := ?_) #[true, true, true, true, true, true, true, true, false, false] rfl rfl (take_ofW HT_.out HW_.out (by kernel_rfl)) (fun _ _ _ h => h) (Or.inl ⟨by rfl, ?_⟩) hHeld ?_ ?_
       rotate_left
       ·
        rintro w' ⟨s0, s1, s2, s3, s4, s5⟩
        go_simp
        with_reducible rfl
       rotate_left
       ·
        simp only [sP]
        rfl
       refine one_ (i := 8) (N := some 25) #[true, true, true, true, true, true, true, true, true, false] rfl rfl (one_of HT_.out (by kernel_rfl)) (by decide) (fun K hK => ?_)
       refine goes_ Try.func88 (by kernel_rfl) rfl #[.agg #[.int .i64 ((rd_T26 l0 x5_1).f0), .int .i64 ((rd_T26 l0 x5_1).f1), .slice A101_2 ((rd_T26 l0 x5_1).f2).length c101_2], .agg #[.int .i64 ((rd_T26 l1 x5_1).f0), .int .i64 ((rd_T26 l1 x5_1).f1), .slice A102_2 ((rd_T26 l1 x5_1).f2).length c102_2]] (by rfl) rfl rfl (by (try simp only [List.map_toArray, List.map_cons, List.map_nil]); first | done | rfl | (simp only [List.length_drop, List.length_take]; rfl)) ?_
       with_reducible refine (laws_eqField.calls k1 ((rd_T26 l0 x5_1).f0) ((rd_T26 l0 x5_1).f1) _ _ ((rd_T26 l0 x5_1).f2) ((rd_T26 l1 x5_1).f0) ((rd_T26 l1 x5_1).f1) _ _ ((rd_T26 l1 x5_1).f2) false _ ?side1 ?side2 ?side3 ?side4 A7.out).mono ?_
       (case side1 => exact pC (Kd.C_below HR101_2.out HB.out))
       (case side2 => exact HC101_2.out)
       (case side3 => exact pC (Kd.C_below HR102_2.out HB.out))
       (case side4 => exact HC102_2.out)
       rintro e w12 ⟨rfl, hb⟩
       refine ⟨_, rfl, ?_⟩
       replace HB := bS HB hb
       (try clear hb)
       (try clear hb2)
       (try clear hk)
       (try clear hi)
       refine hK.out _ _ ⟨((HB.out.cell (World.block_lt_of_cell? w _ hw101_0)).trans hw101_0), ((HB.out.cell (World.block_lt_of_cell? w _ hw101_1)).trans hw101_1), ((HB.out.cell (World.block_lt_of_cell? w _ hw101_2)).trans hw101_2), ((HB.out.cell (World.block_lt_of_cell? w _ hw102_0)).trans hw102_0), ((HB.out.cell (World.block_lt_of_cell? w _ hw102_1)).trans hw102_1), ((HB.out.cell (World.block_lt_of_cell? w _ hw102_2)).trans hw102_2)⟩ (fun hHeld => ?_)
       clear hK K
       refine norm_ (a' := ?_) ?_ ?_
       rotate_left
       ·
        show Act.put _ (some 25) _ = _
        simp only [sP]
        rfl
       refine pure_ (i := 9) (N := some 26) (v := ?_) (a' := ?_) #[true, true, true, true, true, true, true, true, true, true] rfl rfl (any_of HT_.out (by kernel_rfl)) (fun _ _ _ h => h) (Or.inl ⟨by rfl, ?_⟩) ?_ ?_
       rotate_left
       ·
        intro w'
        go_simp
        with_reducible rfl
       rotate_left
       ·
        simp only [sP]
        rfl
       refine done_ (done_of HT_.out (by kernel_rfl)) ?_
       try go_wp2
       go_ret
       exact ⟨by first | rfl | (simp [errW_none, errW_some] <;> rfl) | (simp [*, errW_none, errW_some] <;> rfl), pT HB.out⟩
      rw [if_neg c6] at H
      exact absurd H (by simp)
     rw [if_neg c5] at H
     exact absurd H (by simp)
    rw [if_neg c4] at H
    have c4b0 : decide (x5_1 < (l0.length : Int)) = false := decide_eq_false c4
    clear c4
    obtain rfl := Option.some.inj H
    go_wp2
    go_ret
    exact ⟨by first | rfl | (simp [errW_none, errW_some] <;> rfl) | (simp [*, errW_none, errW_some] <;> rfl), pT HB.out⟩
 rw [if_neg c3] at H
 have c3b0 : ((l0.length : Int) == (l1.length : Int)) = false := beq_eq_false_iff_ne.mpr c3
 have c3b1 : ((l0.length : Int) != (l1.length : Int)) = true := bne_iff_ne.mpr c3
 have c3b2 : (l0.length == l1.length) = false := by first | simpa using c3 | (simp at c3 ⊢; omega)
 obtain rfl := Option.some.inj H
 go_enter Try.func96, Try.ntmps96
 go_wp2
 go_ret
 exact ⟨by first | rfl | (simp [errW_none, errW_some] <;> rfl) | (simp [*, errW_none, errW_some] <;> rfl), pT HB.out⟩
def laws_markIntS.l0 : Nat → List Int → Int → Int → Option (Int × List Int)
 | 0, _, _, _ => none
 | k + 1, x0, x1, x5 => if x5 < (x0.length : Int) then (if 0 ≤ x5 then (laws_markIntS.l0 k (x0.set (x5 : Int).toNat x1) (wrap64 (x1 + 1)) (wrap64 (x5 + 1))) else (none)) else (some (x1, x0))
def laws_markIntS.f (k : Nat) (l0 : List Int) (a1 : Int) : Option (Int × List Int) := laws_markIntS.l0 k l0 a1 0
set_option maxHeartbeats 8000000 in
set_option maxRecDepth 100000 in
theorem laws_markIntS.calls (k : Nat) (P0_ : Nat → Prop) (u9000_ : Value) (l0 : List Int) (a1 : Int) (r1 : Int) (r2 : List Int) (w0 w : World) (hB : Below w0.heap.size w0 w) (ho0 : Kd.R (Kd.int .i64) 3 w w0.heap.size P0_ u9000_ l0) (h : laws_markIntS.f k l0 a1 = some (r1, r2)) :
  Calls Try.prog 111 #[u9000_, .int .i64 a1] w fun e w' => e = .returned (.int .i64 r1) ∧ Kd.R (Kd.int .i64) 3 w' w0.heap.size (fun k_ => (P0_ k_ ∨ w.heap.size ≤ k_)) u9000_ r2 ∧ Below w0.heap.size w0 w' ∧ Kept w w' (fun k_ => P0_ k_) := by
 have HO0 := aK (show Kd.R (Kd.int .i64) 3 w w0.heap.size (fun k_ => (P0_ k_ ∨ w.heap.size ≤ k_)) u9000_ l0 from Kd.R_mono ho0 (fun k_ hk => (.inl hk)))
 have HK := aK (Kept.refl w (fun k_ => P0_ k_))
 have HW0 := Aside0.mk hB.size
 have HB := Aside0.mk hB
 clear hB
 have H : (laws_markIntS.l0 k l0 a1 0) = some (r1, r2) := h
 clear h
 have H' := Aside0.mk H
 clear H
 go_enter Try.func111, Try.ntmps111
 go_wp2
 go_loopg [1, 5] k (fun kq v1 v5 w' => ∃ (x0_1 : List Int) (x1_1 : Int) (x5_1 : Int), v1 = .int .i64 x1_1 ∧ v5 = .int .i64 x5_1 ∧ Aside0 (laws_markIntS.l0 kq x0_1 x1_1 x5_1 = some (r1, r2)) ∧ Aside0 (kq ≤ k) ∧ Aside0 (Kd.R (Kd.int .i64) 3 w' w0.heap.size (fun k_ => (P0_ k_ ∨ w.heap.size ≤ k_)) u9000_ x0_1) ∧ Aside0 (Kept w w' (fun k_ => P0_ k_)) ∧ Aside0 (Below w0.heap.size w0 w'))
 case atStart => exact ⟨(l0), (a1), (0), (by first | rfl | (simp; done) | (simp [*]; done)), (by first | rfl | (simp; done) | (simp [*]; done)), H', ⟨Nat.le_refl _⟩, ⟨by (with_reducible repeat (first | apply Kd.R_alloc | apply Kd.R_drewN | apply Kd.R_drew)); exact HO0.out⟩, ⟨by repeat (first | (with_reducible first | exact HK.out | apply Kept.alloc | apply Kept.drewN | apply Kept.drew) | exact HK.out)⟩, ⟨pT HB.out⟩⟩
 case round =>
  clear H'
  try clear c1
  try clear p2
  obtain ⟨x0_1, x1_1, x5_1, rfl, rfl, HA, HK1, HO_0, HK, HB⟩ := hrel
  cases gk with
  | zero => exact absurd HA.out (by simp [laws_markIntS.l0])
  | succ k1 =>
   have H := HA.out
   clear HA
   simp only [laws_markIntS.l0] at H
   by_cases c3 : x5_1 < (x0_1.length : Int)
   ·
    rw [if_pos c3] at H
    have c3b0 : decide (x5_1 < (x0_1.length : Int)) = true := decide_eq_true c3
    clear c3
    by_cases c4 : 0 ≤ x5_1
    ·
     rw [if_pos c4] at H
     have c4b0 : decide (0 ≤ x5_1) = true := decide_eq_true c4
     clear c4
     obtain ⟨y101, hy101⟩ : ∃ y_ : List Int, y_ = (x0_1.set (x5_1 : Int).toNat x1_1) := ⟨_, rfl⟩
     replace H : (laws_markIntS.l0 k1 y101 (wrap64 (x1_1 + 1)) (wrap64 (x5_1 + 1))) = some (r1, r2) := by first | (rw [hy101]; with_reducible exact H) | (have H2_ := (Option.bind_some _ _).symm.trans H; rw [hy101]; with_reducible exact H2_) | (have H2_ := (Option.bind_some _ _).symm.trans H; with_reducible exact H2_) | with_reducible exact H | (rw [hy101]; exact H) | exact H
     have Ny101 := Aside0.mk hy101
     clear hy101
     have H' := Aside0.mk H
     clear H
     obtain ⟨Ao6, co6, eo6⟩ := Kd.R_slice HO_0.out
     subst eo6
     have p5 : 0 ≤ (x5_1 : Int) := of_decide_eq_true (by first | (with_reducible assumption) | assumption)
     have q5 : (x5_1 : Int) < ((x0_1.length : Int) : Int) := of_decide_eq_true (by first | (with_reducible assumption) | assumption)
     obtain ⟨go5, co5, eo5, gb5, gl5, cl5, HG5⟩ := Kd.R_form HO_0.out (by omega)
     (first | cases eo5 | (injection eo5 with ea_ en_ ec_; (first | subst ea_ | (injection ea_ with ea_; subst ea_)); subst ec_; clear en_))
     have GB5 := Aside0.mk gb5
     have GG5 := Aside0.mk HG5
     clear gb5 gl5 HG5
     have HMgo5 := aK (show (P0_ go5 ∨ w.heap.size ≤ go5) from (HO_0.out.1 _ rfl))
     obtain ⟨hx5_0, hf5_0⟩ := Kd.R_celln 0 HO_0.out (x5_1 : Int) p5 q5
     replace p5 := eq_true p5
     replace q5 := eq_true q5
     have HP7 := Kd.R_putg HO_0.out (x5_1 : Int) x1_1
     go_wp2_with (first | ((with_reducible refine gate_store (t := 3) (p := 15) rfl ?_); refine store_event (t := 3) (p := 15) (v := ?vo_w8) (w1 := (wr.setCell ⟨go5, (x5_1 : Int).toNat, none⟩ (.int .i64 x1_1))) ?hg ?ho ?hn ?hr ?_; (case ho => rfl); (case hg => rfl); (case hn => rfl); (case hr => first | (go_simp; done) | (go_simp; rfl)); intro w8 hw; have hg : wr.grownBy w8 (some go5) := (by rw [hw]; exact HP7.2); have hp_ : Kd.R (Kd.int .i64) 3 w8 w0.heap.size (fun k_ => (P0_ k_ ∨ w.heap.size ≤ k_)) (.slice (some ⟨go5, 0, none⟩) x0_1.length co6) y101 := (by rw [hw, Ny101.out]; exact HP7.1); clear HP7; have n0_ := aK (hp_); have n1_ := aK ((by rw [hw]; exact below_set (HB.out) GB5.out : Below w0.heap.size w0 w8)); have n2_ := aK (Kept.of_grown (S := (fun k_ => P0_ k_)) hg (by repeat (first | (with_reducible first | exact HK.out | apply Kept.alloc | apply Kept.drewN | apply Kept.drew) | exact HK.out)) (fun k_ e_ => (HO_0.out.1 k_ e_))); clear HO_0 HB HK; have HO_0 := n0_; have HB := n1_; have HK := n2_; clear n0_ n1_ n2_; clear hg hw hp_))
     go_roundg k1
     case measure => have := HK1.out; omega
     case rel => exact ⟨(y101), (wrap64 (x1_1 + 1)), (wrap64 (x5_1 + 1)), (by first | rfl | (simp; done) | (simp [*]; done)), (by first | rfl | (simp; done) | (simp [*]; done)), H', ⟨by have := HK1.out; omega⟩, ⟨by (with_reducible repeat (first | apply Kd.R_alloc | apply Kd.R_drewN | apply Kd.R_drew)); exact HO_0.out⟩, ⟨by repeat (first | (with_reducible first | exact HK.out | apply Kept.alloc | apply Kept.drewN | apply Kept.drew) | exact HK.out)⟩, ⟨pT HB.out⟩⟩
    rw [if_neg c4] at H
    exact absurd H (by simp)
   rw [if_neg c3] at H
   have c3b0 : decide (x5_1 < (x0_1.length : Int)) = false := decide_eq_false c3
   clear c3
   simp only [Option.some.injEq, Prod.mk.injEq] at H
   obtain ⟨rfl, rfl⟩ := H
   obtain ⟨Ao9, co9, eo9⟩ := Kd.R_slice HO_0.out
   subst eo9
   go_wp2
   go_ret
   exact ⟨by first | rfl | (simp [errW_none, errW_some] <;> rfl) | (simp [*, errW_none, errW_some] <;> rfl), by (with_reducible repeat (first | apply Kd.R_alloc | apply Kd.R_drewN | apply Kd.R_drew)); exact HO_0.out, pT HB.out, by repeat (first | (with_reducible first | exact HK.out | apply Kept.alloc | apply Kept.drewN | apply Kept.drew) | exact HK.out)⟩
def laws_markFieldS.l0 : Nat → List S26 → Int → Int → Option (Int × List S26)
  | 0, _, _, _ => none
  | k + 1, x0, x1, x5 => if x5 < (x0.length : Int) then (if 0 ≤ x5 then ((laws_markIntS.f k (rd_T26 x0 x5).f2 (wrap64 ((wrap64 (x1 + 1)) + 1))).bind fun bt => laws_markFieldS.l0 k (x0.set x5.toNat ⟨x1, wrap64 (x1 + 1), bt.2⟩) bt.1 (wrap64 (x5 + 1))) else none) else some (x1, x0)
def laws_markFieldS.f (k : Nat) (l0 : List S26) (a1 : Int) : Option (Int × List S26) := laws_markFieldS.l0 k l0 a1 0
theorem markFieldS_put0 {W : World} {base g n cap : Nat} {ok : Nat → Prop} {xs : List S26} (h : Kd.S k26 26 W base ok (.slice (some ⟨g, 0, none⟩) n cap) xs) (i : Int) (h0 : 0 ≤ i) (h1 : i < n) (a : Int) :
    Kd.S k26 26 (W.setCell ⟨g, i.toNat * 3, none⟩ (.int .i64 a)) base ok (.slice (some ⟨g, 0, none⟩) n cap) (xs.set i.toNat ⟨a, (rd_T26 xs i).f1, (rd_T26 xs i).f2⟩) ∧ W.grownBy (W.setCell ⟨g, i.toNat * 3, none⟩ (.int .i64 a)) (some g) ∧
      (∃ u, W.cell? ⟨g, i.toNat * 3, none⟩ = some (.int .i64 u)) ∧ W.frozen? ⟨g, i.toNat * 3, none⟩ = false := by
  obtain ⟨oki, c, hcl, hM, hcc, hfr, hoki, hH⟩ := Kd.S_elem h z26 i h0 h1
  obtain ⟨v2, rfl, hR⟩ := k26_openM hM
  obtain ⟨h2, h3⟩ := Kd.H_seg hH h0 h1 (seg := [.int .i64 a]) (j := 0) (show 0 + 1 ≤ 3 from by decide) (fun q hq => by rw [List.mem_singleton.1 hq]; rfl)
  exact ⟨Kd.H_back h2 (Kd.M_step (k26_mkM W base oki ⟨a, (rd_T26 xs i).f1, (rd_T26 xs i).f2⟩ hR) (fun k hk hlt => h3.block k hlt (fun he => (hoki k hk).2 (by injection he)))) (fun _ hk => hk), h3, ⟨_, hcc 0 _ rfl⟩, hfr 0⟩
theorem markFieldS_put1 {W : World} {base g n cap : Nat} {ok : Nat → Prop} {xs : List S26} (h : Kd.S k26 26 W base ok (.slice (some ⟨g, 0, none⟩) n cap) xs) (i : Int) (h0 : 0 ≤ i) (h1 : i < n) (a : Int) :
    Kd.S k26 26 (W.setCell ⟨g, i.toNat * 3 + 1, none⟩ (.int .i64 a)) base ok (.slice (some ⟨g, 0, none⟩) n cap) (xs.set i.toNat ⟨(rd_T26 xs i).f0, a, (rd_T26 xs i).f2⟩) ∧ W.grownBy (W.setCell ⟨g, i.toNat * 3 + 1, none⟩ (.int .i64 a)) (some g) ∧
      (∃ u, W.cell? ⟨g, i.toNat * 3 + 1, none⟩ = some (.int .i64 u)) ∧ W.frozen? ⟨g, i.toNat * 3 + 1, none⟩ = false := by
  obtain ⟨oki, c, hcl, hM, hcc, hfr, hoki, hH⟩ := Kd.S_elem h z26 i h0 h1
  obtain ⟨v2, rfl, hR⟩ := k26_openM hM
  obtain ⟨h2, h3⟩ := Kd.H_seg hH h0 h1 (seg := [.int .i64 a]) (j := 1) (show 1 + 1 ≤ 3 from by decide) (fun q hq => by rw [List.mem_singleton.1 hq]; rfl)
  exact ⟨Kd.H_back h2 (Kd.M_step (k26_mkM W base oki ⟨(rd_T26 xs i).f0, a, (rd_T26 xs i).f2⟩ hR) (fun k hk hlt => h3.block k hlt (fun he => (hoki k hk).2 (by injection he)))) (fun _ hk => hk), h3, ⟨_, hcc 1 _ rfl⟩, hfr 1⟩
theorem markFieldS_lend {W : World} {base g n cap : Nat} {ok : Nat → Prop} {xs : List S26} (h : Kd.S k26 26 W base ok (.slice (some ⟨g, 0, none⟩) n cap) xs) (i : Int) (h0 : 0 ≤ i) (h1 : i < n) (hw : ∀ k, W.heap.size ≤ k → ok k) :
    ∃ (oki : Nat → Prop) (A : Option Addr) (c : Nat), W.cell? ⟨g, i.toNat * 3 + 2, none⟩ = some (.slice A (rd_T26 xs i).f2.length c) ∧ (Kd.int .i64).R 3 W base oki (.slice A (rd_T26 xs i).f2.length c) (rd_T26 xs i).f2 ∧ (∀ k, oki k → ok k) ∧
      ∀ (W' : World) (l' : List Int), Kept W W' oki → (Kd.int .i64).R 3 W' base (fun k => oki k ∨ W.heap.size ≤ k) (.slice A (rd_T26 xs i).f2.length c) l' →
        Kd.S k26 26 W' base ok (.slice (some ⟨g, 0, none⟩) n cap) (xs.set i.toNat ⟨(rd_T26 xs i).f0, (rd_T26 xs i).f1, l'⟩) := by
  obtain ⟨oki, c, hcl, hM, hcc, hoki, hH⟩ := Kd.S_lend h z26 i h0 h1
  obtain ⟨v2, rfl, hR⟩ := k26_openM hM
  obtain ⟨A, cc, rfl⟩ := Kd.R_slice hR
  refine ⟨oki, A, cc, hcc 2 _ rfl, hR, fun k hk => (hoki k hk).1, fun W' l' hk hR' => ?_⟩
  exact Kd.H_back (Kd.H_kept (Kd.H_widen hH) hk (fun k _ hn hs => hn (.inl hs))) (k26_mkM W' base _ ⟨(rd_T26 xs i).f0, (rd_T26 xs i).f1, l'⟩ hR') (fun k hk => hk.elim .inl (fun hle => .inr ⟨hw k hle, hle⟩))
theorem markFieldS_rd {xs : List S26} {i : Int} (h0 : 0 ≤ i) (h1 : i < xs.length) (x : S26) : rd_T26 (xs.set i.toNat x) i = x := by
 unfold rd_T26
 rw [List.getD_eq_getElem?_getD, List.getElem?_set_self (by omega)]
 rfl
set_option maxHeartbeats 8000000 in
set_option maxRecDepth 100000 in
theorem laws_markFieldS.calls (k : Nat) (P0_ : Nat → Prop) (u9000_ : Value) (l0 : List S26) (a1 : Int) (r1 : Int) (r2 : List S26) (w0 w : World) (hB : Below w0.heap.size w0 w) (ho0 : Kd.S k26 26 w w0.heap.size P0_ u9000_ l0) (h : laws_markFieldS.f k l0 a1 = some (r1, r2)) :
  Calls Try.prog 97 #[u9000_, .int .i64 a1] w fun e w' => e = .returned (.int .i64 r1) ∧ Kd.S k26 26 w' w0.heap.size (fun k_ => (P0_ k_ ∨ w.heap.size ≤ k_)) u9000_ r2 ∧ Below w0.heap.size w0 w' ∧ Kept w w' (fun k_ => P0_ k_) := by
 have HO0 := aK (show Kd.S k26 26 w w0.heap.size (fun k_ => (P0_ k_ ∨ w.heap.size ≤ k_)) u9000_ l0 from Kd.S_mono ho0 (fun k_ hk => (.inl hk)))
 have HK := aK (Kept.refl w (fun k_ => P0_ k_))
 have HW0 := Aside0.mk hB.size
 have HB := Aside0.mk hB
 clear hB
 have H : (laws_markFieldS.l0 k l0 a1 0) = some (r1, r2) := h
 clear h
 have H' := Aside0.mk H
 clear H
 go_enter Try.func97, Try.ntmps97
 go_wp2
 go_loopg [1, 5] k (fun kq v1 v5 w' => ∃ (x0_1 : List S26) (x1_1 : Int) (x5_1 : Int), v1 = .int .i64 x1_1 ∧ v5 = .int .i64 x5_1 ∧ Aside0 (laws_markFieldS.l0 kq x0_1 x1_1 x5_1 = some (r1, r2)) ∧ Aside0 (kq ≤ k) ∧ Aside0 (Kd.S k26 26 w' w0.heap.size (fun k_ => (P0_ k_ ∨ w.heap.size ≤ k_)) u9000_ x0_1) ∧ Aside0 (Kept w w' (fun k_ => P0_ k_)) ∧ Aside0 (Below w0.heap.size w0 w'))
 case atStart => exact ⟨(l0), (a1), (0), (by first | rfl | (simp; done) | (simp [*]; done)), (by first | rfl | (simp; done) | (simp [*]; done)), H', ⟨Nat.le_refl _⟩, ⟨by (with_reducible repeat (first | apply Kd.S_alloc | apply Kd.S_drewN | apply Kd.S_drew)); exact HO0.out⟩, ⟨by repeat (first | (with_reducible first | exact HK.out | apply Kept.alloc | apply Kept.drewN | apply Kept.drew) | exact HK.out)⟩, ⟨pT HB.out⟩⟩
 case round =>
  clear H'
  try clear c1
  try clear p2
  obtain ⟨x0_1, x1_1, x5_1, rfl, rfl, HA, HK1, HO_0, HK, HB⟩ := hrel
  cases gk with
  | zero => exact absurd HA.out (by simp [laws_markFieldS.l0])
  | succ k1 =>
   have H := HA.out
   clear HA
   simp only [laws_markFieldS.l0] at H
   by_cases c3 : x5_1 < (x0_1.length : Int)
   ·
    rw [if_pos c3] at H
    have c3b0 : decide (x5_1 < (x0_1.length : Int)) = true := decide_eq_true c3
    clear c3
    by_cases c4 : 0 ≤ x5_1
    ·
     rw [if_pos c4] at H
     have c4b0 : decide (0 ≤ x5_1) = true := decide_eq_true c4
     clear c4
     replace H := Option.bind_eq_some_iff.mp H
     obtain ⟨⟨t102, t103⟩, A30, H⟩ := H
     replace H : laws_markFieldS.l0 k1 (x0_1.set x5_1.toNat ⟨x1_1, wrap64 (x1_1 + 1), t103⟩) t102 (wrap64 (x5_1 + 1)) = some (r1, r2) := H
     have A3 := Aside0.mk A30
     clear A30
     have H' := Aside0.mk H
     clear H
     obtain ⟨Ao6, co6, eo6⟩ := Kd.R_slice (Kd.S_R HO_0.out)
     subst eo6
     have p5 : 0 ≤ (x5_1 : Int) := of_decide_eq_true (by first | (with_reducible assumption) | assumption)
     have q5 : (x5_1 : Int) < ((x0_1.length : Int) : Int) := of_decide_eq_true (by first | (with_reducible assumption) | assumption)
     obtain ⟨go5, co5, eo5, gb5, gl5, cl5, HG5⟩ := Kd.R_form (Kd.S_R HO_0.out) (by omega)
     (first | cases eo5 | (injection eo5 with ea_ en_ ec_; (first | subst ea_ | (injection ea_ with ea_; subst ea_)); subst ec_; clear en_))
     have GB5 := Aside0.mk gb5
     clear gb5 gl5 HG5
     have HMgo5 := aK (show (P0_ go5 ∨ w.heap.size ≤ go5) from ((Kd.S_R HO_0.out).1 _ rfl))
     have HP7 := markFieldS_put0 HO_0.out x5_1 p5 q5 x1_1
     obtain ⟨ux0, hx0⟩ := HP7.2.2.1
     have hf0 := HP7.2.2.2
     have P5 := Aside0.mk p5
     have Q5 := Aside0.mk q5
     replace p5 := eq_true p5
     replace q5 := eq_true q5
     go_wp2_with (first | ((with_reducible refine gate_store (t := 3) (p := 16) rfl ?_); refine store_event (t := 3) (p := 16) (v := ?vo_w8) (w1 := (wr.setCell ⟨go5, (x5_1 : Int).toNat * 3, none⟩ (.int .i64 x1_1))) ?hg ?ho ?hn ?hr ?_; (case ho => rfl); (case hg => rfl); (case hn => rfl); (case hr => first | (go_simp; done) | (go_simp; rfl)); intro w8 hw; have hg : wr.grownBy w8 (some go5) := (by rw [hw]; exact HP7.2.1); have n0_ := aK (show Kd.S k26 26 w8 w0.heap.size (fun k_ => (P0_ k_ ∨ w.heap.size ≤ k_)) (.slice (some ⟨go5, 0, none⟩) x0_1.length co6) (x0_1.set x5_1.toNat ⟨x1_1, (rd_T26 x0_1 x5_1).f1, (rd_T26 x0_1 x5_1).f2⟩) from (by rw [hw]; exact HP7.1)); have n1_ := aK ((by rw [hw]; exact below_set (HB.out) GB5.out : Below w0.heap.size w0 w8)); have n2_ := aK (Kept.of_grown (S := (fun k_ => P0_ k_)) hg HK.out (fun k_ e_ => (by injection e_ with e_; subst e_; exact HMgo5.out))); clear HO_0 HB HK HP7 hx0 hf0; have HO_0 := n0_; have HB := n1_; have HK := n2_; clear n0_ n1_ n2_; clear hg hw; have HP9 := markFieldS_put1 HO_0.out x5_1 P5.out Q5.out (wrap64 (x1_1 + 1)); simp only [markFieldS_rd P5.out Q5.out, List.set_set] at HP9; obtain ⟨ux1, hx1⟩ := HP9.2.2.1; have hf1 := HP9.2.2.2) | ((with_reducible refine gate_store (t := 3) (p := 23) rfl ?_); refine store_event (t := 3) (p := 23) (v := ?vo_w9) (w1 := (w8.setCell ⟨go5, (x5_1 : Int).toNat * 3 + 1, none⟩ (.int .i64 (wrap64 (x1_1 + 1))))) ?hg ?ho ?hn ?hr ?_; (case ho => rfl); (case hg => rfl); (case hn => rfl); (case hr => first | (go_simp; done) | (go_simp; rfl)); intro w9 hw; have hg : w8.grownBy w9 (some go5) := (by rw [hw]; exact HP9.2.1); have n0_ := aK (show Kd.S k26 26 w9 w0.heap.size (fun k_ => (P0_ k_ ∨ w.heap.size ≤ k_)) (.slice (some ⟨go5, 0, none⟩) x0_1.length co6) (x0_1.set x5_1.toNat ⟨x1_1, wrap64 (x1_1 + 1), (rd_T26 x0_1 x5_1).f2⟩) from (by rw [hw]; exact HP9.1)); have n1_ := aK ((by rw [hw]; exact below_set (HB.out) GB5.out : Below w0.heap.size w0 w9)); have n2_ := aK (Kept.of_grown (S := (fun k_ => P0_ k_)) hg HK.out (fun k_ e_ => (by injection e_ with e_; subst e_; exact HMgo5.out))); clear HO_0 HB HK HP9 hx1 hf1; have HO_0 := n0_; have HB := n1_; have HK := n2_; clear n0_ n1_ n2_; clear hg hw; have HL := markFieldS_lend HO_0.out x5_1 P5.out Q5.out (fun k_ hk_ => .inr (Nat.le_trans HK.out.1 hk_)); simp only [markFieldS_rd P5.out Q5.out, List.set_set] at HL; obtain ⟨oki, A2, c2, hx2, hR2, hok2, hbk2⟩ := HL; have HR2 := aK hR2; have HBK2 := aK hbk2; have HOK2 := aK hok2; clear hR2 hbk2 hok2) | ((with_reducible refine gate_callee (f := 111) rfl ?_); refine goesL_ (some 32) rfl rfl Try.func111 (by kernel_rfl) rfl #[.slice A2 (rd_T26 x0_1 x5_1).f2.length c2, .int .i64 (wrap64 ((wrap64 (x1_1 + 1)) + 1))] rfl (by (try simp only [List.map_toArray, List.map_cons, List.map_nil]); first | done | rfl) ?_; (with_reducible refine (laws_markIntS.calls k1 oki (.slice A2 (rd_T26 x0_1 x5_1).f2.length c2) (rd_T26 x0_1 x5_1).f2 (wrap64 ((wrap64 (x1_1 + 1)) + 1)) t102 t103 w0 _ ?side1 ?side2 A3.out).mono ?_); (case side1 => exact pT HB.out); (case side2 => (with_reducible repeat (first | apply Kd.R_alloc | apply Kd.R_drewN | apply Kd.R_drew)); exact HR2.out); rintro e w10 ⟨rfl, hy0, hb, hkp⟩; refine ⟨_, rfl, ?_⟩; have n0_ := aK (HBK2.out w10 t103 hkp hy0); have n2_ := aK (Kept.then_ (S := (fun k_ => P0_ k_)) HK.out hkp (fun k_ hs_ => HOK2.out k_ hs_)); have n3_ := aK (hb); clear HO_0 HK HB HR2 HBK2 HOK2 hx2; have HO_0 := n0_; have HK := n2_; have HB := n3_; clear n0_ n2_ n3_; (try clear hb); (try clear hkp); (try clear hy0)))
     go_roundg k1
     case measure => have := HK1.out; omega
     case rel => exact ⟨_, t102, (wrap64 (x5_1 + 1)), (by first | rfl | (simp; done) | (simp [*]; done)), (by first | rfl | (simp; done) | (simp [*]; done)), H', ⟨by have := HK1.out; omega⟩, ⟨by (with_reducible repeat (first | apply Kd.S_alloc | apply Kd.S_drewN | apply Kd.S_drew)); exact HO_0.out⟩, ⟨by repeat (first | (with_reducible first | exact HK.out | apply Kept.alloc | apply Kept.drewN | apply Kept.drew) | exact HK.out)⟩, ⟨pT HB.out⟩⟩
    rw [if_neg c4] at H
    exact absurd H (by simp)
   rw [if_neg c3] at H
   have c3b0 : decide (x5_1 < (x0_1.length : Int)) = false := decide_eq_false c3
   clear c3
   simp only [Option.some.injEq, Prod.mk.injEq] at H
   obtain ⟨rfl, rfl⟩ := H
   obtain ⟨Ao9, co9, eo9⟩ := Kd.R_slice (Kd.S_R HO_0.out)
   subst eo9
   go_wp2
   go_ret
   exact ⟨by first | rfl | (simp [errW_none, errW_some] <;> rfl) | (simp [*, errW_none, errW_some] <;> rfl), by (with_reducible repeat (first | apply Kd.S_alloc | apply Kd.S_drewN | apply Kd.S_drew)); exact HO_0.out, pT HB.out, by repeat (first | (with_reducible first | exact HK.out | apply Kept.alloc | apply Kept.drewN | apply Kept.drew) | exact HK.out)⟩
def laws_heldIntS.l0 : Nat → List Int → Int → Int → Option (Int)
 | 0, _, _, _ => none
 | k + 1, x0, x1, x5 => if x5 < (x0.length : Int) then (if 0 ≤ x5 then (if (rd x0 x5) = x1 then (laws_heldIntS.l0 k x0 (wrap64 (x1 + 1)) (wrap64 (x5 + 1))) else (some (-1))) else (none)) else (some x1)
def laws_heldIntS.f (k : Nat) (l0 : List Int) (a1 : Int) : Option (Int) := laws_heldIntS.l0 k l0 a1 0
set_option maxHeartbeats 8000000 in
set_option maxRecDepth 100000 in
theorem laws_heldIntS.calls (k : Nat) (A0 : Option Addr) (c0 : Nat) (l0 : List Int) (a1 : Int) (r : Int) (w : World) (hr0 : Kd.C (Kd.int .i64) w A0 l0.length l0) (hc0 : l0.length ≤ c0) (h : laws_heldIntS.f k l0 a1 = some r) :
  Calls Try.prog 146 #[.slice A0 l0.length c0, .int .i64 a1] w fun e w' => e = .returned (.int .i64 r) ∧ Drawn0 w w' := by
 have HR0 := Aside0.mk hr0
 have HC0 := Aside0.mk hc0
 clear hr0 hc0
 have H : (laws_heldIntS.l0 k l0 a1 0) = some r := h
 clear h
 have H' := Aside0.mk H
 clear H
 go_enter Try.func146, Try.ntmps146
 go_wp2
 go_loopg [1, 5] k (fun kq v1 v5 w' => ∃ (x1_1 : Int) (x5_1 : Int), v1 = .int .i64 x1_1 ∧ v5 = .int .i64 x5_1 ∧ Aside0 (laws_heldIntS.l0 kq l0 x1_1 x5_1 = some r) ∧ Aside0 (kq ≤ k) ∧ Drawn0 w w')
 case atStart => exact ⟨(a1), (0), (by first | rfl | (simp; done) | (simp [*]; done)), (by first | rfl | (simp; done) | (simp [*]; done)), H', ⟨Nat.le_refl _⟩, by repeat (first | exact Drawn0.refl _ | apply Drawn0.step)⟩
 case round =>
  clear H'
  try clear c1
  try clear p2
  obtain ⟨x1_1, x5_1, rfl, rfl, HA, HK1, ⟨m1, rfl⟩⟩ := hrel
  cases gk with
  | zero => exact absurd HA.out (by simp [laws_heldIntS.l0])
  | succ k1 =>
   have H := HA.out
   clear HA
   simp only [laws_heldIntS.l0] at H
   by_cases c3 : x5_1 < (l0.length : Int)
   ·
    rw [if_pos c3] at H
    have c3b0 : decide (x5_1 < (l0.length : Int)) = true := decide_eq_true c3
    clear c3
    by_cases c4 : 0 ≤ x5_1
    ·
     rw [if_pos c4] at H
     have c4b0 : decide (0 ≤ x5_1) = true := decide_eq_true c4
     clear c4
     by_cases c5 : (rd l0 x5_1) = x1_1
     ·
      rw [if_pos c5] at H
      have c5b0 : ((rd l0 x5_1) == x1_1) = true := beq_iff_eq.mpr c5
      have c5b1 : ((rd l0 x5_1) != x1_1) = false := bne_eq_false_iff_eq.mpr c5
      clear c5
      have H' := Aside0.mk H
      clear H
      have p101 : 0 ≤ (x5_1 : Int) := of_decide_eq_true (by first | (with_reducible assumption) | assumption)
      have q101 : x5_1 < (l0.length : Int) := of_decide_eq_true (by first | (with_reducible assumption) | assumption)
      obtain ⟨ad101, e101, hx101_0⟩ := Kd.at_int HR0.out x5_1 p101 q101
      cases e101
      replace p101 := eq_true p101
      replace q101 := eq_true q101
      go_wp2
      go_roundg k1
      case measure => have := HK1.out; omega
      case rel => exact ⟨(wrap64 (x1_1 + 1)), (wrap64 (x5_1 + 1)), (by first | rfl | (simp; done) | (simp [*]; done)), (by first | rfl | (simp; done) | (simp [*]; done)), H', ⟨by have := HK1.out; omega⟩, by repeat (first | exact Drawn0.refl _ | apply Drawn0.step)⟩
     rw [if_neg c5] at H
     have c5b0 : ((rd l0 x5_1) == x1_1) = false := beq_eq_false_iff_ne.mpr c5
     have c5b1 : ((rd l0 x5_1) != x1_1) = true := bne_iff_ne.mpr c5
     obtain rfl := Option.some.inj H
     have p101 : 0 ≤ (x5_1 : Int) := of_decide_eq_true (by first | (with_reducible assumption) | assumption)
     have q101 : x5_1 < (l0.length : Int) := of_decide_eq_true (by first | (with_reducible assumption) | assumption)
     obtain ⟨ad101, e101, hx101_0⟩ := Kd.at_int HR0.out x5_1 p101 q101
     cases e101
     replace p101 := eq_true p101
     replace q101 := eq_true q101
     go_wp2
     go_ret
     exact ⟨by first | rfl | (simp; done) | (simp [*]; done), by repeat (first | exact Drawn0.refl _ | apply Drawn0.step)⟩
    rw [if_neg c4] at H
    exact absurd H (by simp)
   rw [if_neg c3] at H
   have c3b0 : decide (x5_1 < (l0.length : Int)) = false := decide_eq_false c3
   clear c3
   obtain rfl := Option.some.inj H
   go_wp2
   go_ret
   exact ⟨by first | rfl | (simp; done) | (simp [*]; done), by repeat (first | exact Drawn0.refl _ | apply Drawn0.step)⟩
def laws_heldFieldS.l0 : Nat → List (S26) → Int → Int → Option (Int)
 | 0, _, _, _ => none
 | k + 1, x0, x1, x5 => if x5 < (x0.length : Int) then (if 0 ≤ x5 then (if ((rd_T26 x0 x5).f0) = x1 then (if ((rd_T26 x0 x5).f1) = (wrap64 (x1 + 1)) then ((laws_heldIntS.f k ((rd_T26 x0 x5).f2) (wrap64 ((wrap64 (x1 + 1)) + 1))).bind fun t104 => (if t104 < 0 then (some (-1)) else (laws_heldFieldS.l0 k x0 t104 (wrap64 (x5 + 1))))) else (some (-1))) else (some (-1))) else (none)) else (some x1)
def laws_heldFieldS.f (k : Nat) (l0 : List (S26)) (a1 : Int) : Option (Int) := laws_heldFieldS.l0 k l0 a1 0
set_option maxHeartbeats 8000000 in
set_option maxRecDepth 100000 in
theorem laws_heldFieldS.calls (k : Nat) (A0 : Option Addr) (c0 : Nat) (l0 : List (S26)) (a1 : Int) (r : Int) (w : World) (hr0 : Kd.C k26 w A0 l0.length l0) (hc0 : l0.length ≤ c0) (h : laws_heldFieldS.f k l0 a1 = some r) :
  Calls Try.prog 98 #[.slice A0 l0.length c0, .int .i64 a1] w fun e w' => e = .returned (.int .i64 r) ∧ Drawn0 w w' := by
 have HR0 := Aside0.mk hr0
 have HC0 := Aside0.mk hc0
 clear hr0 hc0
 have H : (laws_heldFieldS.l0 k l0 a1 0) = some r := h
 clear h
 have H' := Aside0.mk H
 clear H
 go_enter Try.func98, Try.ntmps98
 go_wp2
 go_loopg [1, 5] k (fun kq v1 v5 w' => ∃ (x1_1 : Int) (x5_1 : Int), v1 = .int .i64 x1_1 ∧ v5 = .int .i64 x5_1 ∧ Aside0 (laws_heldFieldS.l0 kq l0 x1_1 x5_1 = some r) ∧ Aside0 (kq ≤ k) ∧ Drawn0 w w')
 case atStart => exact ⟨(a1), (0), (by first | rfl | (simp; done) | (simp [*]; done)), (by first | rfl | (simp; done) | (simp [*]; done)), H', ⟨Nat.le_refl _⟩, by repeat (first | exact Drawn0.refl _ | apply Drawn0.step)⟩
 case round =>
  clear H'
  try clear p2
  obtain ⟨x1_1, x5_1, rfl, rfl, HA, HK1, ⟨m1, rfl⟩⟩ := hrel
  cases gk with
  | zero => exact absurd HA.out (by simp [laws_heldFieldS.l0])
  | succ k1 =>
   have H := HA.out
   clear HA
   simp only [laws_heldFieldS.l0] at H
   by_cases c3 : x5_1 < (l0.length : Int)
   ·
    rw [if_pos c3] at H
    have c3b0 : decide (x5_1 < (l0.length : Int)) = true := decide_eq_true c3
    clear c3
    by_cases c4 : 0 ≤ x5_1
    ·
     rw [if_pos c4] at H
     have c4b0 : decide (0 ≤ x5_1) = true := decide_eq_true c4
     clear c4
     by_cases c5 : ((rd_T26 l0 x5_1).f0) = x1_1
     ·
      rw [if_pos c5] at H
      have c5b0 : (((rd_T26 l0 x5_1).f0) == x1_1) = true := beq_iff_eq.mpr c5
      have c5b1 : (((rd_T26 l0 x5_1).f0) != x1_1) = false := bne_eq_false_iff_eq.mpr c5
      clear c5
      by_cases c6 : ((rd_T26 l0 x5_1).f1) = (wrap64 (x1_1 + 1))
      ·
       rw [if_pos c6] at H
       have c6b0 : (((rd_T26 l0 x5_1).f1) == (wrap64 (x1_1 + 1))) = true := beq_iff_eq.mpr c6
       have c6b1 : (((rd_T26 l0 x5_1).f1) != (wrap64 (x1_1 + 1))) = false := bne_eq_false_iff_eq.mpr c6
       clear c6
       replace H := Option.bind_eq_some_iff.mp H
       obtain ⟨t104, A70, H⟩ := H
       replace H : (if t104 < 0 then (some (-1)) else (laws_heldFieldS.l0 k1 l0 t104 (wrap64 (x5_1 + 1)))) = some r := H
       have A7 := Aside0.mk A70
       clear A70
       by_cases c8 : t104 < 0
       ·
        rw [if_pos c8] at H
        have c8b0 : decide (t104 < 0) = true := decide_eq_true c8
        clear c8
        obtain rfl := Option.some.inj H
        have p101 : 0 ≤ (x5_1 : Int) := of_decide_eq_true (by first | (with_reducible assumption) | assumption)
        have q101 : x5_1 < (l0.length : Int) := of_decide_eq_true (by first | (with_reducible assumption) | assumption)
        obtain ⟨ad101, A101_2, c101_2, e101, hx101_0, hx101_1, hx101_2, hl101_2, hi101_2⟩ := at_T26 HR0.out x5_1 p101 q101
        cases e101
        have HR101_2 := Aside0.mk hi101_2
        have HC101_2 := Aside0.mk hl101_2
        clear hi101_2 hl101_2
        replace p101 := eq_true p101
        replace q101 := eq_true q101
        have p102 : 0 ≤ (x5_1 : Int) := of_decide_eq_true (by first | (with_reducible assumption) | assumption)
        have q102 : x5_1 < (l0.length : Int) := of_decide_eq_true (by first | (with_reducible assumption) | assumption)
        obtain ⟨ad102, A102_2, c102_2, e102, hx102_0, hx102_1, hx102_2, hl102_2, hi102_2⟩ := at_T26 HR0.out x5_1 p102 q102
        obtain rfl : ad101 = ad102 := (by injection e102)
        have HR102_2 := Aside0.mk hi102_2
        have HC102_2 := Aside0.mk hl102_2
        clear hi102_2 hl102_2
        replace p102 := eq_true p102
        replace q102 := eq_true q102
        have ea_ := Option.some.inj (hx101_2.symm.trans hx102_2)
        injection ea_ with ea_ en_ ec_
        subst ea_
        subst ec_
        clear en_
        have p103 : 0 ≤ (x5_1 : Int) := of_decide_eq_true (by first | (with_reducible assumption) | assumption)
        have q103 : x5_1 < (l0.length : Int) := of_decide_eq_true (by first | (with_reducible assumption) | assumption)
        obtain ⟨ad103, A103_2, c103_2, e103, hx103_0, hx103_1, hx103_2, hl103_2, hi103_2⟩ := at_T26 HR0.out x5_1 p103 q103
        obtain rfl : ad101 = ad103 := (by injection e103)
        have HR103_2 := Aside0.mk hi103_2
        have HC103_2 := Aside0.mk hl103_2
        clear hi103_2 hl103_2
        replace p103 := eq_true p103
        replace q103 := eq_true q103
        have ea_ := Option.some.inj (hx101_2.symm.trans hx103_2)
        injection ea_ with ea_ en_ ec_
        subst ea_
        subst ec_
        clear en_
        go_wp2_with (first | ((with_reducible refine gate_callee (f := 146) rfl ?_); refine gl (some 36) Try.func146 #[.slice A101_2 ((rd_T26 l0 x5_1).f2).length c101_2, .int .i64 (wrap64 ((wrap64 (x1_1 + 1)) + 1))] ?_; (with_reducible refine (laws_heldIntS.calls k1 _ _ ((rd_T26 l0 x5_1).f2) (wrap64 ((wrap64 (x1_1 + 1)) + 1)) t104 _ ?side1 ?side2 A7.out).mono ?_); (case side1 => exact pC HR103_2.out); (case side2 => exact HC103_2.out); rintro e w' ⟨rfl, ⟨nd, rfl⟩⟩; refine ⟨_, rfl, ?_⟩))
        go_ret
        exact ⟨by first | rfl | (simp; done) | (simp [*]; done), by repeat (first | exact Drawn0.refl _ | apply Drawn0.step)⟩
       rw [if_neg c8] at H
       have c8b0 : decide (t104 < 0) = false := decide_eq_false c8
       clear c8
       have H' := Aside0.mk H
       clear H
       have p101 : 0 ≤ (x5_1 : Int) := of_decide_eq_true (by first | (with_reducible assumption) | assumption)
       have q101 : x5_1 < (l0.length : Int) := of_decide_eq_true (by first | (with_reducible assumption) | assumption)
       obtain ⟨ad101, A101_2, c101_2, e101, hx101_0, hx101_1, hx101_2, hl101_2, hi101_2⟩ := at_T26 HR0.out x5_1 p101 q101
       cases e101
       have HR101_2 := Aside0.mk hi101_2
       have HC101_2 := Aside0.mk hl101_2
       clear hi101_2 hl101_2
       replace p101 := eq_true p101
       replace q101 := eq_true q101
       have p102 : 0 ≤ (x5_1 : Int) := of_decide_eq_true (by first | (with_reducible assumption) | assumption)
       have q102 : x5_1 < (l0.length : Int) := of_decide_eq_true (by first | (with_reducible assumption) | assumption)
       obtain ⟨ad102, A102_2, c102_2, e102, hx102_0, hx102_1, hx102_2, hl102_2, hi102_2⟩ := at_T26 HR0.out x5_1 p102 q102
       obtain rfl : ad101 = ad102 := (by injection e102)
       have HR102_2 := Aside0.mk hi102_2
       have HC102_2 := Aside0.mk hl102_2
       clear hi102_2 hl102_2
       replace p102 := eq_true p102
       replace q102 := eq_true q102
       have ea_ := Option.some.inj (hx101_2.symm.trans hx102_2)
       injection ea_ with ea_ en_ ec_
       subst ea_
       subst ec_
       clear en_
       have p103 : 0 ≤ (x5_1 : Int) := of_decide_eq_true (by first | (with_reducible assumption) | assumption)
       have q103 : x5_1 < (l0.length : Int) := of_decide_eq_true (by first | (with_reducible assumption) | assumption)
       obtain ⟨ad103, A103_2, c103_2, e103, hx103_0, hx103_1, hx103_2, hl103_2, hi103_2⟩ := at_T26 HR0.out x5_1 p103 q103
       obtain rfl : ad101 = ad103 := (by injection e103)
       have HR103_2 := Aside0.mk hi103_2
       have HC103_2 := Aside0.mk hl103_2
       clear hi103_2 hl103_2
       replace p103 := eq_true p103
       replace q103 := eq_true q103
       have ea_ := Option.some.inj (hx101_2.symm.trans hx103_2)
       injection ea_ with ea_ en_ ec_
       subst ea_
       subst ec_
       clear en_
       go_wp2_with (first | ((with_reducible refine gate_callee (f := 146) rfl ?_); refine gl (some 36) Try.func146 #[.slice A101_2 ((rd_T26 l0 x5_1).f2).length c101_2, .int .i64 (wrap64 ((wrap64 (x1_1 + 1)) + 1))] ?_; (with_reducible refine (laws_heldIntS.calls k1 _ _ ((rd_T26 l0 x5_1).f2) (wrap64 ((wrap64 (x1_1 + 1)) + 1)) t104 _ ?side1 ?side2 A7.out).mono ?_); (case side1 => exact pC HR103_2.out); (case side2 => exact HC103_2.out); rintro e w' ⟨rfl, ⟨nd, rfl⟩⟩; refine ⟨_, rfl, ?_⟩))
       go_roundg k1
       case measure => have := HK1.out; omega
       case rel => exact ⟨(t104), (wrap64 (x5_1 + 1)), (by first | rfl | (simp; done) | (simp [*]; done)), (by first | rfl | (simp; done) | (simp [*]; done)), H', ⟨by have := HK1.out; omega⟩, by repeat (first | exact Drawn0.refl _ | apply Drawn0.step)⟩
      rw [if_neg c6] at H
      have c6b0 : (((rd_T26 l0 x5_1).f1) == (wrap64 (x1_1 + 1))) = false := beq_eq_false_iff_ne.mpr c6
      have c6b1 : (((rd_T26 l0 x5_1).f1) != (wrap64 (x1_1 + 1))) = true := bne_iff_ne.mpr c6
      obtain rfl := Option.some.inj H
      have p101 : 0 ≤ (x5_1 : Int) := of_decide_eq_true (by first | (with_reducible assumption) | assumption)
      have q101 : x5_1 < (l0.length : Int) := of_decide_eq_true (by first | (with_reducible assumption) | assumption)
      obtain ⟨ad101, A101_2, c101_2, e101, hx101_0, hx101_1, hx101_2, hl101_2, hi101_2⟩ := at_T26 HR0.out x5_1 p101 q101
      cases e101
      have HR101_2 := Aside0.mk hi101_2
      have HC101_2 := Aside0.mk hl101_2
      clear hi101_2 hl101_2
      replace p101 := eq_true p101
      replace q101 := eq_true q101
      have p102 : 0 ≤ (x5_1 : Int) := of_decide_eq_true (by first | (with_reducible assumption) | assumption)
      have q102 : x5_1 < (l0.length : Int) := of_decide_eq_true (by first | (with_reducible assumption) | assumption)
      obtain ⟨ad102, A102_2, c102_2, e102, hx102_0, hx102_1, hx102_2, hl102_2, hi102_2⟩ := at_T26 HR0.out x5_1 p102 q102
      obtain rfl : ad101 = ad102 := (by injection e102)
      have HR102_2 := Aside0.mk hi102_2
      have HC102_2 := Aside0.mk hl102_2
      clear hi102_2 hl102_2
      replace p102 := eq_true p102
      replace q102 := eq_true q102
      have ea_ := Option.some.inj (hx101_2.symm.trans hx102_2)
      injection ea_ with ea_ en_ ec_
      subst ea_
      subst ec_
      clear en_
      go_wp2
      go_ret
      exact ⟨by first | rfl | (simp; done) | (simp [*]; done), by repeat (first | exact Drawn0.refl _ | apply Drawn0.step)⟩
     rw [if_neg c5] at H
     have c5b0 : (((rd_T26 l0 x5_1).f0) == x1_1) = false := beq_eq_false_iff_ne.mpr c5
     have c5b1 : (((rd_T26 l0 x5_1).f0) != x1_1) = true := bne_iff_ne.mpr c5
     obtain rfl := Option.some.inj H
     have p101 : 0 ≤ (x5_1 : Int) := of_decide_eq_true (by first | (with_reducible assumption) | assumption)
     have q101 : x5_1 < (l0.length : Int) := of_decide_eq_true (by first | (with_reducible assumption) | assumption)
     obtain ⟨ad101, A101_2, c101_2, e101, hx101_0, hx101_1, hx101_2, hl101_2, hi101_2⟩ := at_T26 HR0.out x5_1 p101 q101
     cases e101
     have HR101_2 := Aside0.mk hi101_2
     have HC101_2 := Aside0.mk hl101_2
     clear hi101_2 hl101_2
     replace p101 := eq_true p101
     replace q101 := eq_true q101
     go_wp2
     go_ret
     exact ⟨by first | rfl | (simp; done) | (simp [*]; done), by repeat (first | exact Drawn0.refl _ | apply Drawn0.step)⟩
    rw [if_neg c4] at H
    exact absurd H (by simp)
   rw [if_neg c3] at H
   have c3b0 : decide (x5_1 < (l0.length : Int)) = false := decide_eq_false c3
   clear c3
   obtain rfl := Option.some.inj H
   go_wp2
   go_ret
   exact ⟨by first | rfl | (simp; done) | (simp [*]; done), by repeat (first | exact Drawn0.refl _ | apply Drawn0.step)⟩
mutual
def laws_FnExactWithoutMember.j0 : Nat → List (S79) → Int → List (S26) → Bool → List (S26) → List (S26) → Bool → Bool → Option (Bool)
 | 0, _, _, _, _, _, _, _, _ => none
 | k + 1, x0, x1, x6, x7, x8, x9, x10, x44 => if x44 = true then (some false) else ((laws_toFieldS.f k x0).bind fun t117 => ((laws_eqFieldS.f k x8 t117).bind fun t120 => (if t120 = true then ((laws_markFieldS.f k x8 1).bind fun bt121 => (if bt121.1 < 0 then (laws_FnExactWithoutMember.j1 k x0 x1 x6 x7 x9 true) else ((laws_eqFieldS.f k x9 x6).bind fun t123 => (if t123 = true then (laws_FnExactWithoutMember.j1 k x0 x1 x6 x7 x9 (x10 != x7)) else (laws_FnExactWithoutMember.j1 k x0 x1 x6 x7 x9 true))))) else (some false))))
def laws_FnExactWithoutMember.j1 : Nat → List (S79) → Int → List (S26) → Bool → List (S26) → Bool → Option (Bool)
 | 0, _, _, _, _, _, _ => none
 | k + 1, x0, x1, x6, x7, x9, x65 => if x65 = true then (some false) else ((laws_markFieldS.f k x9 1).bind fun bt124 => ((laws_heldFieldS.f k bt124.2 1).bind fun t126 => (if t126 < 0 then (some false) else (if t126 = bt124.1 then ((laws_toFieldS.f k x0).bind fun t127 => ((impl_WithoutMember.f k t127 x1).bind fun bt130 => ((laws_eqFieldS.f k bt130.1 x6).bind fun t134 => (if t134 = true then (laws_FnExactWithoutMember.j2 k bt124.2 bt124.1 (bt130.2 != x7)) else (laws_FnExactWithoutMember.j2 k bt124.2 bt124.1 true))))) else (some false)))))
def laws_FnExactWithoutMember.j2 : Nat → List (S26) → Int → Bool → Option (Bool)
 | 0, _, _, _ => none
 | k + 1, x9, x12, x92 => if x92 = true then (some false) else ((laws_heldFieldS.f k x9 1).bind fun t135 => (if t135 < 0 then (some false) else (if t135 = x12 then (some true) else (some false))))
end
def laws_FnExactWithoutMember.f (k : Nat) (l0 : List (S79)) (a1 : Int) : Option (Bool) := (laws_szFieldS.f k l0 1048576).bind fun t101 => (if t101 < 0 then (some true) else ((laws_toFieldS.f k l0).bind fun t102 => ((spec_WithoutMember.f k t102 a1).bind fun bt105 => ((laws_toFieldS.f k l0).bind fun t109 => ((impl_WithoutMember.f k t109 a1).bind fun bt112 => ((laws_eqFieldS.f k bt112.1 bt105.1).bind fun t116 => (if t116 = true then (laws_FnExactWithoutMember.j0 k l0 a1 bt105.1 bt105.2 t109 bt112.1 bt112.2 (bt112.2 != bt105.2)) else (laws_FnExactWithoutMember.j0 k l0 a1 bt105.1 bt105.2 t109 bt112.1 bt112.2 true))))))))
set_option maxHeartbeats 8000000 in
set_option maxRecDepth 100000 in
theorem laws_FnExactWithoutMember.calls (k : Nat) (A0 : Option Addr) (c0 : Nat) (l0 : List (S79)) (a1 : Int) (r : Bool) (w : World) (hr0 : Kd.C k79 w A0 l0.length l0) (hc0 : l0.length ≤ c0) (h : laws_FnExactWithoutMember.f k l0 a1 = some r) :
  Calls Try.prog 12 #[.slice A0 l0.length c0, .int .i64 a1] w fun e w' => e = .returned (.bool r) ∧ Below w.heap.size w w' := by
 have HR0 := Aside0.mk hr0
 have HC0 := Aside0.mk hc0
 clear hr0 hc0
 have HB := aK (Below.refl w.heap.size w)
 have H : ((laws_szFieldS.f k l0 1048576).bind fun t101 => (if t101 < 0 then (some true) else ((laws_toFieldS.f k l0).bind fun t102 => ((spec_WithoutMember.f k t102 a1).bind fun bt105 => ((laws_toFieldS.f k l0).bind fun t109 => ((impl_WithoutMember.f k t109 a1).bind fun bt112 => ((laws_eqFieldS.f k bt112.1 bt105.1).bind fun t116 => (if t116 = true then (laws_FnExactWithoutMember.j0 k l0 a1 bt105.1 bt105.2 t109 bt112.1 bt112.2 (bt112.2 != bt105.2)) else (laws_FnExactWithoutMember.j0 k l0 a1 bt105.1 bt105.2 t109 bt112.1 bt112.2 true))))))))) = some r := h
 clear h
 replace H := Option.bind_eq_some_iff.mp H
 obtain ⟨t101, A30, H⟩ := H
 replace H : (if t101 < 0 then (some true) else ((laws_toFieldS.f k l0).bind fun t102 => ((spec_WithoutMember.f k t102 a1).bind fun bt105 => ((laws_toFieldS.f k l0).bind fun t109 => ((impl_WithoutMember.f k t109 a1).bind fun bt112 => ((laws_eqFieldS.f k bt112.1 bt105.1).bind fun t116 => (if t116 = true then (laws_FnExactWithoutMember.j0 k l0 a1 bt105.1 bt105.2 t109 bt112.1 bt112.2 (bt112.2 != bt105.2)) else (laws_FnExactWithoutMember.j0 k l0 a1 bt105.1 bt105.2 t109 bt112.1 bt112.2 true)))))))) = some r := H
 have A3 := Aside0.mk A30
 clear A30
 by_cases c4 : t101 < 0
 ·
  rw [if_pos c4] at H
  have c4b0 : decide (t101 < 0) = true := decide_eq_true c4
  clear c4
  obtain rfl := Option.some.inj H
  go_enter Try.func12, Try.ntmps12
  go_wp2_with (first | ((with_reducible refine gate_callee (f := 92) rfl ?_); refine gl (some 18) Try.func92 #[.slice A0 l0.length c0, .int .i64 1048576] ?_; (with_reducible refine (laws_szFieldS.calls k _ _ l0 1048576 t101 _ ?side1 ?side2 A3.out).mono ?_); (case side1 => exact pC HR0.out); (case side2 => exact HC0.out); rintro e w5 ⟨rfl, hb⟩; refine ⟨_, rfl, ?_⟩; replace HB := bS HB hb; (try clear hb); (try clear hb2); (try clear hk); (try clear hi)))
  go_ret
  exact ⟨by first | rfl | (simp [errW_none, errW_some] <;> rfl) | (simp [*, errW_none, errW_some] <;> rfl), pT HB.out⟩
 rw [if_neg c4] at H
 have c4b0 : decide (t101 < 0) = false := decide_eq_false c4
 clear c4
 replace H := Option.bind_eq_some_iff.mp H
 obtain ⟨t102, A60, H⟩ := H
 replace H : ((spec_WithoutMember.f k t102 a1).bind fun bt105 => ((laws_toFieldS.f k l0).bind fun t109 => ((impl_WithoutMember.f k t109 a1).bind fun bt112 => ((laws_eqFieldS.f k bt112.1 bt105.1).bind fun t116 => (if t116 = true then (laws_FnExactWithoutMember.j0 k l0 a1 bt105.1 bt105.2 t109 bt112.1 bt112.2 (bt112.2 != bt105.2)) else (laws_FnExactWithoutMember.j0 k l0 a1 bt105.1 bt105.2 t109 bt112.1 bt112.2 true)))))) = some r := H
 have A6 := Aside0.mk A60
 clear A60
 replace H := Option.bind_eq_some_iff.mp H
 obtain ⟨⟨t105, t106⟩, A70, H⟩ := H
 replace H : ((laws_toFieldS.f k l0).bind fun t109 => ((impl_WithoutMember.f k t109 a1).bind fun bt112 => ((laws_eqFieldS.f k bt112.1 t105).bind fun t116 => (if t116 = true then (laws_FnExactWithoutMember.j0 k l0 a1 t105 t106 t109 bt112.1 bt112.2 (bt112.2 != t106)) else (laws_FnExactWithoutMember.j0 k l0 a1 t105 t106 t109 bt112.1 bt112.2 true))))) = some r := H
 have A7 := Aside0.mk A70
 clear A70
 replace H := Option.bind_eq_some_iff.mp H
 obtain ⟨t109, A80, H⟩ := H
 replace H : ((impl_WithoutMember.f k t109 a1).bind fun bt112 => ((laws_eqFieldS.f k bt112.1 t105).bind fun t116 => (if t116 = true then (laws_FnExactWithoutMember.j0 k l0 a1 t105 t106 t109 bt112.1 bt112.2 (bt112.2 != t106)) else (laws_FnExactWithoutMember.j0 k l0 a1 t105 t106 t109 bt112.1 bt112.2 true)))) = some r := H
 have A8 := Aside0.mk A80
 clear A80
 replace H := Option.bind_eq_some_iff.mp H
 obtain ⟨⟨t112, t113⟩, A90, H⟩ := H
 replace H : ((laws_eqFieldS.f k t112 t105).bind fun t116 => (if t116 = true then (laws_FnExactWithoutMember.j0 k l0 a1 t105 t106 t109 t112 t113 (t113 != t106)) else (laws_FnExactWithoutMember.j0 k l0 a1 t105 t106 t109 t112 t113 true))) = some r := H
 have A9 := Aside0.mk A90
 clear A90
 have HC10 := Aside0.mk H
 clear H
 go_enter Try.func12, Try.ntmps12
 go_upto_region 8 with (first | ((with_reducible refine gate_callee (f := 92) rfl ?_); refine gl (some 18) Try.func92 #[.slice A0 l0.length c0, .int .i64 1048576] ?_; (with_reducible refine (laws_szFieldS.calls k _ _ l0 1048576 t101 _ ?side1 ?side2 A3.out).mono ?_); (case side1 => exact pC HR0.out); (case side2 => exact HC0.out); rintro e w11 ⟨rfl, hb⟩; refine ⟨_, rfl, ?_⟩; replace HB := bS HB hb; (try clear hb); (try clear hb2); (try clear hk); (try clear hi)) | ((with_reducible refine gate_callee (f := 94) rfl ?_); refine gl (some 23) Try.func94 #[.slice A0 l0.length c0] ?_; (with_reducible refine (laws_toFieldS.calls k _ _ l0 t102 _ ?side1 ?side2 A6.out).mono ?_); (case side1 => exact pC (Kd.C_below HR0.out HB.out)); (case side2 => exact HC0.out); rintro e w12 ⟨v103, rfl, ho0, hb⟩; refine ⟨_, rfl, ?_⟩; obtain ⟨sz1, hsz1⟩ := mpM hb; have HO104 := aK (Kd.S_lower (mpN ho0 hsz1) (below_size (pS HB.out))); replace HB := bS HB hb; (try clear hb); (try clear hb2); (try clear hk); (try clear hi); (try clear ho0); obtain ⟨Ao13, co13, eo13⟩ := Kd.S_slice HO104.out; subst eo13) | ((with_reducible refine gate_callee (f := 93) rfl ?_); refine gl (some 25) Try.func93 #[.slice Ao13 t102.length co13, .int .i64 a1] ?_; (with_reducible refine (spec_WithoutMember.calls k _ _ t102 a1 t105 t106 _ ?side1 ?side2 A7.out).mono ?_); (case side1 => repeat (first | exact (Kd.S_reads' HO104.out).2.2 | (with_reducible refine Kd.C_alloc ?_ _) | (with_reducible refine Kd.C_drewN ?_ _) | (with_reducible refine Kd.C_drew ?_))); (case side2 => exact (Kd.S_reads' HO104.out).2.1); rintro e w14 ⟨v107, rfl, ho0, hb⟩; refine ⟨_, rfl, ?_⟩; obtain ⟨sz2, hsz2⟩ := mpM hb; have n0_ := aK (mpE2 (by (with_reducible repeat (first | apply Kd.S_alloc | apply Kd.S_drewN | apply Kd.S_drew)); exact HO104.out) hb hsz2 (Kd.S_base ho0)); have HO108 := aK (Kd.S_lower (Kd.S_new' (mpN ho0 hsz2) (Kd.S_lt (by (with_reducible repeat (first | apply Kd.S_alloc | apply Kd.S_drewN | apply Kd.S_drew)); exact HO104.out))) (below_size (pS HB.out))); replace HB := bS HB hb; clear HO104; have HO104 := n0_; clear n0_; (try clear hb); (try clear hb2); (try clear hk); (try clear hi); (try clear ho0)) | ((with_reducible refine gate_callee (f := 94) rfl ?_); refine gl (some 29) Try.func94 #[.slice A0 l0.length c0] ?_; (with_reducible refine (laws_toFieldS.calls k _ _ l0 t109 _ ?side1 ?side2 A8.out).mono ?_); (case side1 => exact pC (Kd.C_below HR0.out HB.out)); (case side2 => exact HC0.out); rintro e w15 ⟨v110, rfl, ho0, hb⟩; refine ⟨_, rfl, ?_⟩; obtain ⟨sz3, hsz3⟩ := mpM hb; have n0_ := aK (mpE2 (by (with_reducible repeat (first | apply Kd.S_alloc | apply Kd.S_drewN | apply Kd.S_drew)); exact HO104.out) hb hsz3 (Kd.S_base ho0)); have n1_ := aK (mpE2 (by (with_reducible repeat (first | apply Kd.S_alloc | apply Kd.S_drewN | apply Kd.S_drew)); exact HO108.out) hb hsz3 (Kd.S_base ho0)); have HO111 := aK (Kd.S_lower (Kd.S_new' (Kd.S_new' (mpN ho0 hsz3) (Kd.S_lt (by (with_reducible repeat (first | apply Kd.S_alloc | apply Kd.S_drewN | apply Kd.S_drew)); exact HO104.out))) (Kd.S_lt (by (with_reducible repeat (first | apply Kd.S_alloc | apply Kd.S_drewN | apply Kd.S_drew)); exact HO108.out))) (below_size (pS HB.out))); replace HB := bS HB hb; clear HO104 HO108; have HO104 := n0_; have HO108 := n1_; clear n0_ n1_; (try clear hb); (try clear hb2); (try clear hk); (try clear hi); (try clear ho0); obtain ⟨Ao16, co16, eo16⟩ := Kd.S_slice HO111.out; subst eo16) | ((with_reducible refine gate_callee (f := 95) rfl ?_); refine gl (some 33) Try.func95 #[.slice Ao16 t109.length co16, .int .i64 a1] ?_; (with_reducible refine (impl_WithoutMember.calls k _ _ t109 a1 t112 t113 _ ?side1 ?side2 A9.out).mono ?_); (case side1 => repeat (first | exact (Kd.S_reads' HO111.out).2.2 | (with_reducible refine Kd.C_alloc ?_ _) | (with_reducible refine Kd.C_drewN ?_ _) | (with_reducible refine Kd.C_drew ?_))); (case side2 => exact (Kd.S_reads' HO111.out).2.1); rintro e w17 ⟨v114, rfl, ho0, hb⟩; refine ⟨_, rfl, ?_⟩; obtain ⟨sz4, hsz4⟩ := mpM hb; have n0_ := aK (mpE2 (by (with_reducible repeat (first | apply Kd.S_alloc | apply Kd.S_drewN | apply Kd.S_drew)); exact HO104.out) hb hsz4 (Kd.S_base ho0)); have n1_ := aK (mpE2 (by (with_reducible repeat (first | apply Kd.S_alloc | apply Kd.S_drewN | apply Kd.S_drew)); exact HO108.out) hb hsz4 (Kd.S_base ho0)); have n2_ := aK (mpE2 (by (with_reducible repeat (first | apply Kd.S_alloc | apply Kd.S_drewN | apply Kd.S_drew)); exact HO111.out) hb hsz4 (Kd.S_base ho0)); have HO115 := aK (Kd.S_lower (Kd.S_new' (Kd.S_new' (Kd.S_new' (mpN ho0 hsz4) (Kd.S_lt (by (with_reducible repeat (first | apply Kd.S_alloc | apply Kd.S_drewN | apply Kd.S_drew)); exact HO104.out))) (Kd.S_lt (by (with_reducible repeat (first | apply Kd.S_alloc | apply Kd.S_drewN | apply Kd.S_drew)); exact HO108.out))) (Kd.S_lt (by (with_reducible repeat (first | apply Kd.S_alloc | apply Kd.S_drewN | apply Kd.S_drew)); exact HO111.out))) (below_size (pS HB.out))); replace HB := bS HB hb; clear HO104 HO108 HO111; have HO104 := n0_; have HO108 := n1_; have HO111 := n2_; clear n0_ n1_ n2_; (try clear hb); (try clear hb2); (try clear hk); (try clear hi); (try clear ho0)))
 (try simp only [Act.put, List.setIfInBounds_toArray, List.set_cons_zero, List.set_cons_succ])
 go_cut [44] (fun v44 wc => ∃ (kq : Nat) (x44_9 : Bool), v44 = .bool x44_9 ∧ Aside0 (laws_FnExactWithoutMember.j0 kq l0 a1 t105 t106 t109 t112 t113 x44_9 = some r) ∧ Aside0 (kq ≤ k) ∧ Aside0 (Kd.S k26 26 wc w.heap.size (fun k_ => some k_ ≠ ((.slice Ao16 t109.length co16) : Value).ownBlock ∧ some k_ ≠ (v114 : Value).ownBlock ∧ k_ < sz3 ∧ k_ < sz4 ∧ sz2 ≤ k_) v107 t105) ∧ Aside0 (Kd.S k26 26 wc w.heap.size (fun k_ => some k_ ≠ (v107 : Value).ownBlock ∧ some k_ ≠ (v114 : Value).ownBlock ∧ k_ < sz4 ∧ sz3 ≤ k_) (.slice Ao16 t109.length co16) t109) ∧ Aside0 (Kd.S k26 26 wc w.heap.size (fun k_ => some k_ ≠ (v107 : Value).ownBlock ∧ some k_ ≠ ((.slice Ao16 t109.length co16) : Value).ownBlock ∧ sz4 ≤ k_) v114 t112) ∧ Aside0 (Below w.heap.size w wc))
 case first =>
  have H := HC10.out
  clear HC10
  replace H := Option.bind_eq_some_iff.mp H
  obtain ⟨t116, A180, H⟩ := H
  replace H : (if t116 = true then (laws_FnExactWithoutMember.j0 k l0 a1 t105 t106 t109 t112 t113 (t113 != t106)) else (laws_FnExactWithoutMember.j0 k l0 a1 t105 t106 t109 t112 t113 true)) = some r := H
  have A18 := Aside0.mk A180
  clear A180
  by_cases c19 : t116 = true
  ·
   subst c19
   have H1 : (laws_FnExactWithoutMember.j0 k l0 a1 t105 t106 t109 t112 t113 (t113 != t106)) = some r := by rw [if_pos rfl] at H; exact H
   clear H
   have H := H1
   clear H1
   have H' := Aside0.mk H
   clear H
   obtain ⟨Ao20, co20, eo20⟩ := Kd.S_slice HO115.out
   subst eo20
   obtain ⟨Ao21, co21, eo21⟩ := Kd.S_slice HO108.out
   subst eo21
   go_wp2_with (first | ((with_reducible refine gate_callee (f := 96) rfl ?_); refine gl (some 38) Try.func96 #[.slice Ao20 t112.length co20, .slice Ao21 t105.length co21] ?_; (with_reducible refine (laws_eqFieldS.calls k _ _ t112 _ _ t105 true _ ?side1 ?side2 ?side3 ?side4 A18.out).mono ?_); (case side1 => repeat (first | exact (Kd.S_reads' HO115.out).2.2 | (with_reducible refine Kd.C_alloc ?_ _) | (with_reducible refine Kd.C_drewN ?_ _) | (with_reducible refine Kd.C_drew ?_))); (case side2 => exact (Kd.S_reads' HO115.out).2.1); (case side3 => repeat (first | exact (Kd.S_reads' HO108.out).2.2 | (with_reducible refine Kd.C_alloc ?_ _) | (with_reducible refine Kd.C_drewN ?_ _) | (with_reducible refine Kd.C_drew ?_))); (case side4 => exact (Kd.S_reads' HO108.out).2.1); rintro e w22 ⟨rfl, hb⟩; refine ⟨_, rfl, ?_⟩; have n0_ := aK (Kd.S_below (by (with_reducible repeat (first | apply Kd.S_alloc | apply Kd.S_drewN | apply Kd.S_drew)); exact HO104.out) hb); have n1_ := aK (Kd.S_below (by (with_reducible repeat (first | apply Kd.S_alloc | apply Kd.S_drewN | apply Kd.S_drew)); exact HO108.out) hb); have n2_ := aK (Kd.S_below (by (with_reducible repeat (first | apply Kd.S_alloc | apply Kd.S_drewN | apply Kd.S_drew)); exact HO111.out) hb); have n3_ := aK (Kd.S_below (by (with_reducible repeat (first | apply Kd.S_alloc | apply Kd.S_drewN | apply Kd.S_drew)); exact HO115.out) hb); replace HB := bS HB hb; clear HO104 HO108 HO111 HO115; have HO104 := n0_; have HO108 := n1_; have HO111 := n2_; have HO115 := n3_; clear n0_ n1_ n2_ n3_; (try clear hb); (try clear hb2); (try clear hk); (try clear hi)))
   go_meet
   case rel => exact ⟨_, ((t113 != t106)), (by first | rfl | (simp; done) | (simp [*]; done)), H', ⟨by first | omega | exact Nat.le_refl _⟩, ⟨by (with_reducible repeat (first | apply Kd.S_alloc | apply Kd.S_drewN | apply Kd.S_drew)); exact Kd.S_mono HO108.out (fun _ hk => ⟨hk.1.1.2, ⟨hk.2, ⟨hk.1.1.1.2, ⟨hk.1.2, hk.1.1.1.1.1⟩⟩⟩⟩)⟩, ⟨by (with_reducible repeat (first | apply Kd.S_alloc | apply Kd.S_drewN | apply Kd.S_drew)); exact Kd.S_mono HO111.out (fun _ hk => ⟨hk.1.1.2, ⟨hk.2, ⟨hk.1.2, hk.1.1.1.1⟩⟩⟩)⟩, ⟨by (with_reducible repeat (first | apply Kd.S_alloc | apply Kd.S_drewN | apply Kd.S_drew)); exact Kd.S_mono HO115.out (fun _ hk => ⟨hk.1.2, ⟨hk.2, hk.1.1.1⟩⟩)⟩, ⟨pT HB.out⟩⟩
  replace c19 := Bool.eq_false_iff.mpr c19
  subst c19
  have H1 : (laws_FnExactWithoutMember.j0 k l0 a1 t105 t106 t109 t112 t113 true) = some r := by rw [if_neg (show ¬ (false = true) by decide)] at H; exact H
  clear H
  have H := H1
  clear H1
  have H' := Aside0.mk H
  clear H
  obtain ⟨Ao23, co23, eo23⟩ := Kd.S_slice HO115.out
  subst eo23
  obtain ⟨Ao24, co24, eo24⟩ := Kd.S_slice HO108.out
  subst eo24
  go_wp2_with (first | ((with_reducible refine gate_callee (f := 96) rfl ?_); refine gl (some 38) Try.func96 #[.slice Ao23 t112.length co23, .slice Ao24 t105.length co24] ?_; (with_reducible refine (laws_eqFieldS.calls k _ _ t112 _ _ t105 false _ ?side1 ?side2 ?side3 ?side4 A18.out).mono ?_); (case side1 => repeat (first | exact (Kd.S_reads' HO115.out).2.2 | (with_reducible refine Kd.C_alloc ?_ _) | (with_reducible refine Kd.C_drewN ?_ _) | (with_reducible refine Kd.C_drew ?_))); (case side2 => exact (Kd.S_reads' HO115.out).2.1); (case side3 => repeat (first | exact (Kd.S_reads' HO108.out).2.2 | (with_reducible refine Kd.C_alloc ?_ _) | (with_reducible refine Kd.C_drewN ?_ _) | (with_reducible refine Kd.C_drew ?_))); (case side4 => exact (Kd.S_reads' HO108.out).2.1); rintro e w25 ⟨rfl, hb⟩; refine ⟨_, rfl, ?_⟩; have n0_ := aK (Kd.S_below (by (with_reducible repeat (first | apply Kd.S_alloc | apply Kd.S_drewN | apply Kd.S_drew)); exact HO104.out) hb); have n1_ := aK (Kd.S_below (by (with_reducible repeat (first | apply Kd.S_alloc | apply Kd.S_drewN | apply Kd.S_drew)); exact HO108.out) hb); have n2_ := aK (Kd.S_below (by (with_reducible repeat (first | apply Kd.S_alloc | apply Kd.S_drewN | apply Kd.S_drew)); exact HO111.out) hb); have n3_ := aK (Kd.S_below (by (with_reducible repeat (first | apply Kd.S_alloc | apply Kd.S_drewN | apply Kd.S_drew)); exact HO115.out) hb); replace HB := bS HB hb; clear HO104 HO108 HO111 HO115; have HO104 := n0_; have HO108 := n1_; have HO111 := n2_; have HO115 := n3_; clear n0_ n1_ n2_ n3_; (try clear hb); (try clear hb2); (try clear hk); (try clear hi)))
  go_meet
  case rel => exact ⟨_, (true), (by first | rfl | (simp; done) | (simp [*]; done)), H', ⟨by first | omega | exact Nat.le_refl _⟩, ⟨by (with_reducible repeat (first | apply Kd.S_alloc | apply Kd.S_drewN | apply Kd.S_drew)); exact Kd.S_mono HO108.out (fun _ hk => ⟨hk.1.1.2, ⟨hk.2, ⟨hk.1.1.1.2, ⟨hk.1.2, hk.1.1.1.1.1⟩⟩⟩⟩)⟩, ⟨by (with_reducible repeat (first | apply Kd.S_alloc | apply Kd.S_drewN | apply Kd.S_drew)); exact Kd.S_mono HO111.out (fun _ hk => ⟨hk.1.1.2, ⟨hk.2, ⟨hk.1.2, hk.1.1.1.1⟩⟩⟩)⟩, ⟨by (with_reducible repeat (first | apply Kd.S_alloc | apply Kd.S_drewN | apply Kd.S_drew)); exact Kd.S_mono HO115.out (fun _ hk => ⟨hk.1.2, ⟨hk.2, hk.1.1.1⟩⟩)⟩, ⟨pT HB.out⟩⟩
 case rest =>
  clear HC10
  try clear c1
  try clear p2
  try clear c4
  try clear c4b0
  try clear c9
  try clear c12
  try clear c19
  obtain ⟨kq, x44_9, rfl, HA, HJ9, HO_6, HO_8, HO_9, HB⟩ := hcut
  cases kq with
  | zero => exact absurd HA.out (by simp [laws_FnExactWithoutMember.j0])
  | succ kj9 =>
   have H := HA.out
   clear HA
   simp only [laws_FnExactWithoutMember.j0] at H
   by_cases c26 : x44_9 = true
   ·
    subst c26
    have H1 : (some false) = some r := by rw [if_pos rfl] at H; exact H
    clear H
    have H := H1
    clear H1
    obtain rfl := Option.some.inj H
    go_wp2
    go_ret
    exact ⟨by first | rfl | (simp [errW_none, errW_some] <;> rfl) | (simp [*, errW_none, errW_some] <;> rfl), pT HB.out⟩
   replace c26 := Bool.eq_false_iff.mpr c26
   subst c26
   have H1 : ((laws_toFieldS.f kj9 l0).bind fun t117 => ((laws_eqFieldS.f kj9 t109 t117).bind fun t120 => (if t120 = true then ((laws_markFieldS.f kj9 t109 1).bind fun bt121 => (if bt121.1 < 0 then (laws_FnExactWithoutMember.j1 kj9 l0 a1 t105 t106 t112 true) else ((laws_eqFieldS.f kj9 t112 t105).bind fun t123 => (if t123 = true then (laws_FnExactWithoutMember.j1 kj9 l0 a1 t105 t106 t112 (t113 != t106)) else (laws_FnExactWithoutMember.j1 kj9 l0 a1 t105 t106 t112 true))))) else (some false)))) = some r := by rw [if_neg (show ¬ (false = true) by decide)] at H; exact H
   clear H
   have H := H1
   clear H1
   replace H := Option.bind_eq_some_iff.mp H
   obtain ⟨t117, A270, H⟩ := H
   replace H : ((laws_eqFieldS.f kj9 t109 t117).bind fun t120 => (if t120 = true then ((laws_markFieldS.f kj9 t109 1).bind fun bt121 => (if bt121.1 < 0 then (laws_FnExactWithoutMember.j1 kj9 l0 a1 t105 t106 t112 true) else ((laws_eqFieldS.f kj9 t112 t105).bind fun t123 => (if t123 = true then (laws_FnExactWithoutMember.j1 kj9 l0 a1 t105 t106 t112 (t113 != t106)) else (laws_FnExactWithoutMember.j1 kj9 l0 a1 t105 t106 t112 true))))) else (some false))) = some r := H
   have A27 := Aside0.mk A270
   clear A270
   replace H := Option.bind_eq_some_iff.mp H
   obtain ⟨t120, A280, H⟩ := H
   replace H : (if t120 = true then ((laws_markFieldS.f kj9 t109 1).bind fun bt121 => (if bt121.1 < 0 then (laws_FnExactWithoutMember.j1 kj9 l0 a1 t105 t106 t112 true) else ((laws_eqFieldS.f kj9 t112 t105).bind fun t123 => (if t123 = true then (laws_FnExactWithoutMember.j1 kj9 l0 a1 t105 t106 t112 (t113 != t106)) else (laws_FnExactWithoutMember.j1 kj9 l0 a1 t105 t106 t112 true))))) else (some false)) = some r := H
   have A28 := Aside0.mk A280
   clear A280
   by_cases c29 : t120 = true
   ·
    subst c29
    have H1 : ((laws_markFieldS.f kj9 t109 1).bind fun bt121 => (if bt121.1 < 0 then (laws_FnExactWithoutMember.j1 kj9 l0 a1 t105 t106 t112 true) else ((laws_eqFieldS.f kj9 t112 t105).bind fun t123 => (if t123 = true then (laws_FnExactWithoutMember.j1 kj9 l0 a1 t105 t106 t112 (t113 != t106)) else (laws_FnExactWithoutMember.j1 kj9 l0 a1 t105 t106 t112 true))))) = some r := by rw [if_pos rfl] at H; exact H
    clear H
    have H := H1
    clear H1
    replace H := Option.bind_eq_some_iff.mp H
    obtain ⟨⟨t121, t122⟩, A300, H⟩ := H
    replace H : (if t121 < 0 then (laws_FnExactWithoutMember.j1 kj9 l0 a1 t105 t106 t112 true) else ((laws_eqFieldS.f kj9 t112 t105).bind fun t123 => (if t123 = true then (laws_FnExactWithoutMember.j1 kj9 l0 a1 t105 t106 t112 (t113 != t106)) else (laws_FnExactWithoutMember.j1 kj9 l0 a1 t105 t106 t112 true)))) = some r := H
    have A30 := Aside0.mk A300
    clear A300
    have HC31 := Aside0.mk H
    clear H
    go_upto_region 14 with (first | ((with_reducible refine gate_callee (f := 94) rfl ?_); refine gl (some 47) Try.func94 #[.slice A0 l0.length c0] ?_; (with_reducible refine (laws_toFieldS.calls kj9 _ _ l0 t117 _ ?side1 ?side2 A27.out).mono ?_); (case side1 => exact pC (Kd.C_below HR0.out HB.out)); (case side2 => exact HC0.out); rintro e w32 ⟨v118, rfl, ho0, hb⟩; refine ⟨_, rfl, ?_⟩; obtain ⟨sz5, hsz5⟩ := mpM hb; have n0_ := aK (mpE2 (by (with_reducible repeat (first | apply Kd.S_alloc | apply Kd.S_drewN | apply Kd.S_drew)); exact HO_6.out) hb hsz5 (Kd.S_base ho0)); have n1_ := aK (mpE2 (by (with_reducible repeat (first | apply Kd.S_alloc | apply Kd.S_drewN | apply Kd.S_drew)); exact HO_8.out) hb hsz5 (Kd.S_base ho0)); have n2_ := aK (mpE2 (by (with_reducible repeat (first | apply Kd.S_alloc | apply Kd.S_drewN | apply Kd.S_drew)); exact HO_9.out) hb hsz5 (Kd.S_base ho0)); have HO119 := aK (Kd.S_lower (Kd.S_new' (Kd.S_new' (Kd.S_new' (mpN ho0 hsz5) (Kd.S_lt (by (with_reducible repeat (first | apply Kd.S_alloc | apply Kd.S_drewN | apply Kd.S_drew)); exact HO_6.out))) (Kd.S_lt (by (with_reducible repeat (first | apply Kd.S_alloc | apply Kd.S_drewN | apply Kd.S_drew)); exact HO_8.out))) (Kd.S_lt (by (with_reducible repeat (first | apply Kd.S_alloc | apply Kd.S_drewN | apply Kd.S_drew)); exact HO_9.out))) (below_size (pS HB.out))); replace HB := bS HB hb; clear HO_6 HO_8 HO_9; have HO_6 := n0_; have HO_8 := n1_; have HO_9 := n2_; clear n0_ n1_ n2_; (try clear hb); (try clear hb2); (try clear hk); (try clear hi); (try clear ho0); obtain ⟨Ao33, co33, eo33⟩ := Kd.S_slice HO119.out; subst eo33) | ((with_reducible refine gate_callee (f := 96) rfl ?_); refine gl (some 48) Try.func96 #[.slice Ao16 t109.length co16, .slice Ao33 t117.length co33] ?_; (with_reducible refine (laws_eqFieldS.calls kj9 _ _ t109 _ _ t117 true _ ?side1 ?side2 ?side3 ?side4 A28.out).mono ?_); (case side1 => repeat (first | exact (Kd.S_reads' HO_8.out).2.2 | (with_reducible refine Kd.C_alloc ?_ _) | (with_reducible refine Kd.C_drewN ?_ _) | (with_reducible refine Kd.C_drew ?_))); (case side2 => exact (Kd.S_reads' HO_8.out).2.1); (case side3 => repeat (first | exact (Kd.S_reads' HO119.out).2.2 | (with_reducible refine Kd.C_alloc ?_ _) | (with_reducible refine Kd.C_drewN ?_ _) | (with_reducible refine Kd.C_drew ?_))); (case side4 => exact (Kd.S_reads' HO119.out).2.1); rintro e w34 ⟨rfl, hb⟩; refine ⟨_, rfl, ?_⟩; have n0_ := aK (Kd.S_below (by (with_reducible repeat (first | apply Kd.S_alloc | apply Kd.S_drewN | apply Kd.S_drew)); exact HO_6.out) hb); have n1_ := aK (Kd.S_below (by (with_reducible repeat (first | apply Kd.S_alloc | apply Kd.S_drewN | apply Kd.S_drew)); exact HO_8.out) hb); have n2_ := aK (Kd.S_below (by (with_reducible repeat (first | apply Kd.S_alloc | apply Kd.S_drewN | apply Kd.S_drew)); exact HO_9.out) hb); have n3_ := aK (Kd.S_below (by (with_reducible repeat (first | apply Kd.S_alloc | apply Kd.S_drewN | apply Kd.S_drew)); exact HO119.out) hb); replace HB := bS HB hb; clear HO_6 HO_8 HO_9 HO119; have HO_6 := n0_; have HO_8 := n1_; have HO_9 := n2_; have HO119 := n3_; clear n0_ n1_ n2_ n3_; (try clear hb); (try clear hb2); (try clear hk); (try clear hi)) | ((with_reducible refine gate_callee (f := 97) rfl ?_); refine gl (some 52) Try.func97 #[.slice Ao16 t109.length co16, .int .i64 1] ?_; (with_reducible refine (laws_markFieldS.calls kj9 (fun k_ => ((((some k_ ≠ (v107 : Value).ownBlock ∧ (some k_ ≠ (v114 : Value).ownBlock ∧ (k_ < sz4 ∧ sz3 ≤ k_))) ∧ k_ < sz5) ∧ some k_ ≠ (.slice Ao33 t117.length co33 : Value).ownBlock) ∧ w.heap.size ≤ k_)) (.slice Ao16 t109.length co16) t109 1 t121 t122 w _ ?side1 ?side2 A30.out).mono ?_); (case side1 => exact pT HB.out); (case side2 => exact Kd.S_mono (Kd.S_bound (HO_8.out)) (fun k_ hk_ => ⟨hk_.1, hk_.2.1⟩)); rintro e w35 ⟨rfl, hy0, hb, hkp⟩; refine ⟨_, rfl, ?_⟩; have n0_ := aK (Kd.S_mono (ok' := fun k_ => some k_ ≠ (.slice Ao16 t109.length co16 : Value).ownBlock ∧ some k_ ≠ (v114 : Value).ownBlock ∧ some k_ ≠ (.slice Ao33 t117.length co33 : Value).ownBlock ∧ k_ < sz3 ∧ k_ < sz4 ∧ sz2 ≤ k_ ∧ k_ < sz5) (Kd.S_keptB ((Kd.S_mono (ok' := fun k_ => (((some k_ ≠ (.slice Ao16 t109.length co16 : Value).ownBlock ∧ (some k_ ≠ (v114 : Value).ownBlock ∧ (k_ < sz3 ∧ (k_ < sz4 ∧ sz2 ≤ k_)))) ∧ k_ < sz5) ∧ some k_ ≠ (.slice Ao33 t117.length co33 : Value).ownBlock) ∧ ¬ ((((some k_ ≠ (v107 : Value).ownBlock ∧ (some k_ ≠ (v114 : Value).ownBlock ∧ (k_ < sz4 ∧ sz3 ≤ k_))) ∧ k_ < sz5) ∧ some k_ ≠ (.slice Ao33 t117.length co33 : Value).ownBlock) ∧ w.heap.size ≤ k_)) HO_6.out (fun k_ hk => ⟨hk, fun hs_ => Nat.lt_irrefl _ (Nat.lt_of_lt_of_le (hk.1.1.2.2.1) (hs_.1.1.1.2.2.2))⟩))) hkp (fun k_ hk_ hs_ => (hk_.2) hs_)) (fun k_ hk_ => ⟨hk_.1.1.1.1.1, hk_.1.1.1.1.2.1, hk_.1.1.2, hk_.1.1.1.1.2.2.1, hk_.1.1.1.1.2.2.2.1, hk_.1.1.1.1.2.2.2.2, hk_.1.1.1.2⟩)); have n1_ := aK (Kd.S_mono (ok' := fun k_ => (some k_ ≠ (v107 : Value).ownBlock ∧ (some k_ ≠ (v114 : Value).ownBlock ∧ some k_ ≠ (.slice Ao33 t117.length co33 : Value).ownBlock))) hy0 (fun k_ hk_ => Or.elim hk_ (fun h_ => ⟨h_.1.1.1.1, ⟨h_.1.1.1.2.1, h_.1.2⟩⟩) (fun h_ => ⟨(fun e_ => Nat.not_le.2 (Kd.S_lt HO_6.out k_ e_.symm) h_), ⟨(fun e_ => Nat.not_le.2 (Kd.S_lt HO_9.out k_ e_.symm) h_), (fun e_ => Nat.not_le.2 (Kd.S_lt HO119.out k_ e_.symm) h_)⟩⟩))); have n2_ := aK (Kd.S_mono (ok' := fun k_ => some k_ ≠ (v107 : Value).ownBlock ∧ some k_ ≠ (.slice Ao16 t109.length co16 : Value).ownBlock ∧ some k_ ≠ (.slice Ao33 t117.length co33 : Value).ownBlock ∧ sz4 ≤ k_ ∧ k_ < sz5) (Kd.S_keptB ((Kd.S_mono (ok' := fun k_ => (((some k_ ≠ (v107 : Value).ownBlock ∧ (some k_ ≠ (.slice Ao16 t109.length co16 : Value).ownBlock ∧ sz4 ≤ k_)) ∧ k_ < sz5) ∧ some k_ ≠ (.slice Ao33 t117.length co33 : Value).ownBlock) ∧ ¬ ((((some k_ ≠ (v107 : Value).ownBlock ∧ (some k_ ≠ (v114 : Value).ownBlock ∧ (k_ < sz4 ∧ sz3 ≤ k_))) ∧ k_ < sz5) ∧ some k_ ≠ (.slice Ao33 t117.length co33 : Value).ownBlock) ∧ w.heap.size ≤ k_)) HO_9.out (fun k_ hk => ⟨hk, fun hs_ => Nat.lt_irrefl _ (Nat.lt_of_lt_of_le (hs_.1.1.1.2.2.1) (hk.1.1.2.2))⟩))) hkp (fun k_ hk_ hs_ => (hk_.2) hs_)) (fun k_ hk_ => ⟨hk_.1.1.1.1.1, hk_.1.1.1.1.2.1, hk_.1.1.2, hk_.1.1.1.1.2.2, hk_.1.1.1.2⟩)); have n3_ := aK (Kd.S_mono (ok' := fun k_ => some k_ ≠ (v107 : Value).ownBlock ∧ some k_ ≠ (.slice Ao16 t109.length co16 : Value).ownBlock ∧ some k_ ≠ (v114 : Value).ownBlock ∧ sz5 ≤ k_) (Kd.S_keptB ((Kd.S_mono (ok' := fun k_ => (((sz5 ≤ k_ ∧ some k_ ≠ (v107 : Value).ownBlock) ∧ some k_ ≠ (.slice Ao16 t109.length co16 : Value).ownBlock) ∧ some k_ ≠ (v114 : Value).ownBlock) ∧ ¬ ((((some k_ ≠ (v107 : Value).ownBlock ∧ (some k_ ≠ (v114 : Value).ownBlock ∧ (k_ < sz4 ∧ sz3 ≤ k_))) ∧ k_ < sz5) ∧ some k_ ≠ (.slice Ao33 t117.length co33 : Value).ownBlock) ∧ w.heap.size ≤ k_)) HO119.out (fun k_ hk => ⟨hk, fun hs_ => Nat.lt_irrefl _ (Nat.lt_of_lt_of_le (hs_.1.1.2) (hk.1.1.1))⟩))) hkp (fun k_ hk_ hs_ => (hk_.2) hs_)) (fun k_ hk_ => ⟨hk_.1.1.1.1.2, hk_.1.1.1.2, hk_.1.1.2, hk_.1.1.1.1.1⟩)); have n4_ := aK (hb); clear HO_6 HO_8 HO_9 HO119 HB; have HO_6 := n0_; have HO_8 := n1_; have HO_9 := n2_; have HO119 := n3_; have HB := n4_; clear n0_ n1_ n2_ n3_ n4_; (try clear hb); (try clear hkp); (try clear hy0)))
    (try simp only [Act.put, List.setIfInBounds_toArray, List.set_cons_zero, List.set_cons_succ])
    go_cut [65] (fun v65 wc => ∃ (kq : Nat) (x65_30 : Bool), v65 = .bool x65_30 ∧ Aside0 (laws_FnExactWithoutMember.j1 kq l0 a1 t105 t106 t112 x65_30 = some r) ∧ Aside0 (kq ≤ kj9) ∧ Aside0 (Kd.S k26 26 wc w.heap.size (fun k_ => some k_ ≠ (v114 : Value).ownBlock ∧ k_ < sz3 ∧ k_ < sz4 ∧ k_ < sz5 ∧ sz2 ≤ k_) v107 t105) ∧ Aside0 (Kd.S k26 26 wc w.heap.size (fun k_ => some k_ ≠ (v107 : Value).ownBlock ∧ k_ < sz5 ∧ sz4 ≤ k_) v114 t112) ∧ Aside0 (Below w.heap.size w wc))
    case first =>
     have H := HC31.out
     clear HC31
     by_cases c36 : t121 < 0
     ·
      rw [if_pos c36] at H
      have c36b0 : decide (t121 < 0) = true := decide_eq_true c36
      clear c36
      (first | rw [c36b0] | (simp only [i64_w, i32_w]; rw [c36b0]) | skip)
      have H' := Aside0.mk H
      clear H
      go_wp2
      go_meet
      case rel => exact ⟨_, (true), (by first | rfl | (simp; done) | (simp [*]; done)), H', ⟨by have := HJ9.out; first | omega | exact Nat.le_refl _⟩, ⟨by (with_reducible repeat (first | apply Kd.S_alloc | apply Kd.S_drewN | apply Kd.S_drew)); exact Kd.S_mono HO_6.out (fun _ hk => ⟨hk.2.1, ⟨hk.2.2.2.1, ⟨hk.2.2.2.2.1, ⟨hk.2.2.2.2.2.2, hk.2.2.2.2.2.1⟩⟩⟩⟩)⟩, ⟨by (with_reducible repeat (first | apply Kd.S_alloc | apply Kd.S_drewN | apply Kd.S_drew)); exact Kd.S_mono HO_9.out (fun _ hk => ⟨hk.1, ⟨hk.2.2.2.2, hk.2.2.2.1⟩⟩)⟩, ⟨pT HB.out⟩⟩
     rw [if_neg c36] at H
     have c36b0 : decide (t121 < 0) = false := decide_eq_false c36
     clear c36
     (first | rw [c36b0] | (simp only [i64_w, i32_w]; rw [c36b0]) | skip)
     replace H := Option.bind_eq_some_iff.mp H
     obtain ⟨t123, A370, H⟩ := H
     replace H : (if t123 = true then (laws_FnExactWithoutMember.j1 kj9 l0 a1 t105 t106 t112 (t113 != t106)) else (laws_FnExactWithoutMember.j1 kj9 l0 a1 t105 t106 t112 true)) = some r := H
     have A37 := Aside0.mk A370
     clear A370
     by_cases c38 : t123 = true
     ·
      subst c38
      have H1 : (laws_FnExactWithoutMember.j1 kj9 l0 a1 t105 t106 t112 (t113 != t106)) = some r := by rw [if_pos rfl] at H; exact H
      clear H
      have H := H1
      clear H1
      have H' := Aside0.mk H
      clear H
      obtain ⟨Ao39, co39, eo39⟩ := Kd.S_slice HO_9.out
      subst eo39
      obtain ⟨Ao40, co40, eo40⟩ := Kd.S_slice HO_6.out
      subst eo40
      go_wp2_with (first | (go_at_call 96; (with_reducible refine (laws_eqFieldS.calls kj9 _ _ t112 _ _ t105 true _ ?side1 ?side2 ?side3 ?side4 A37.out).mono ?_); (case side1 => repeat (first | exact (Kd.S_reads' HO_9.out).2.2 | (with_reducible refine Kd.C_alloc ?_ _) | (with_reducible refine Kd.C_drewN ?_ _) | (with_reducible refine Kd.C_drew ?_))); (case side2 => exact (Kd.S_reads' HO_9.out).2.1); (case side3 => repeat (first | exact (Kd.S_reads' HO_6.out).2.2 | (with_reducible refine Kd.C_alloc ?_ _) | (with_reducible refine Kd.C_drewN ?_ _) | (with_reducible refine Kd.C_drew ?_))); (case side4 => exact (Kd.S_reads' HO_6.out).2.1); rintro e w41 ⟨rfl, hb⟩; have n0_ := aK (Kd.S_below (by (with_reducible repeat (first | apply Kd.S_alloc | apply Kd.S_drewN | apply Kd.S_drew)); exact HO_6.out) hb); have n1_ := aK (Kd.S_below (by (with_reducible repeat (first | apply Kd.S_alloc | apply Kd.S_drewN | apply Kd.S_drew)); exact HO_8.out) hb); have n2_ := aK (Kd.S_below (by (with_reducible repeat (first | apply Kd.S_alloc | apply Kd.S_drewN | apply Kd.S_drew)); exact HO_9.out) hb); have n3_ := aK (Kd.S_below (by (with_reducible repeat (first | apply Kd.S_alloc | apply Kd.S_drewN | apply Kd.S_drew)); exact HO119.out) hb); replace HB := bS HB hb; clear HO_6 HO_8 HO_9 HO119; have HO_6 := n0_; have HO_8 := n1_; have HO_9 := n2_; have HO119 := n3_; clear n0_ n1_ n2_ n3_; (try clear hb); (try clear hb2); (try clear hk); (try clear hi)))
      go_meet
      case rel => exact ⟨_, ((t113 != t106)), (by first | rfl | (simp; done) | (simp [*]; done)), H', ⟨by have := HJ9.out; first | omega | exact Nat.le_refl _⟩, ⟨by (with_reducible repeat (first | apply Kd.S_alloc | apply Kd.S_drewN | apply Kd.S_drew)); exact Kd.S_mono HO_6.out (fun _ hk => ⟨hk.2.1, ⟨hk.2.2.2.1, ⟨hk.2.2.2.2.1, ⟨hk.2.2.2.2.2.2, hk.2.2.2.2.2.1⟩⟩⟩⟩)⟩, ⟨by (with_reducible repeat (first | apply Kd.S_alloc | apply Kd.S_drewN | apply Kd.S_drew)); exact Kd.S_mono HO_9.out (fun _ hk => ⟨hk.1, ⟨hk.2.2.2.2, hk.2.2.2.1⟩⟩)⟩, ⟨pT HB.out⟩⟩
     replace c38 := Bool.eq_false_iff.mpr c38
     subst c38
     have H1 : (laws_FnExactWithoutMember.j1 kj9 l0 a1 t105 t106 t112 true) = some r := by rw [if_neg (show ¬ (false = true) by decide)] at H; exact H
     clear H
     have H := H1
     clear H1
     have H' := Aside0.mk H
     clear H
     obtain ⟨Ao42, co42, eo42⟩ := Kd.S_slice HO_9.out
     subst eo42
     obtain ⟨Ao43, co43, eo43⟩ := Kd.S_slice HO_6.out
     subst eo43
     go_wp2_with (first | (go_at_call 96; (with_reducible refine (laws_eqFieldS.calls kj9 _ _ t112 _ _ t105 false _ ?side1 ?side2 ?side3 ?side4 A37.out).mono ?_); (case side1 => repeat (first | exact (Kd.S_reads' HO_9.out).2.2 | (with_reducible refine Kd.C_alloc ?_ _) | (with_reducible refine Kd.C_drewN ?_ _) | (with_reducible refine Kd.C_drew ?_))); (case side2 => exact (Kd.S_reads' HO_9.out).2.1); (case side3 => repeat (first | exact (Kd.S_reads' HO_6.out).2.2 | (with_reducible refine Kd.C_alloc ?_ _) | (with_reducible refine Kd.C_drewN ?_ _) | (with_reducible refine Kd.C_drew ?_))); (case side4 => exact (Kd.S_reads' HO_6.out).2.1); rintro e w44 ⟨rfl, hb⟩; have n0_ := aK (Kd.S_below (by (with_reducible repeat (first | apply Kd.S_alloc | apply Kd.S_drewN | apply Kd.S_drew)); exact HO_6.out) hb); have n1_ := aK (Kd.S_below (by (with_reducible repeat (first | apply Kd.S_alloc | apply Kd.S_drewN | apply Kd.S_drew)); exact HO_8.out) hb); have n2_ := aK (Kd.S_below (by (with_reducible repeat (first | apply Kd.S_alloc | apply Kd.S_drewN | apply Kd.S_drew)); exact HO_9.out) hb); have n3_ := aK (Kd.S_below (by (with_reducible repeat (first | apply Kd.S_alloc | apply Kd.S_drewN | apply Kd.S_drew)); exact HO119.out) hb); replace HB := bS HB hb; clear HO_6 HO_8 HO_9 HO119; have HO_6 := n0_; have HO_8 := n1_; have HO_9 := n2_; have HO119 := n3_; clear n0_ n1_ n2_ n3_; (try clear hb); (try clear hb2); (try clear hk); (try clear hi)))
     go_meet
     case rel => exact ⟨_, (true), (by first | rfl | (simp; done) | (simp [*]; done)), H', ⟨by have := HJ9.out; first | omega | exact Nat.le_refl _⟩, ⟨by (with_reducible repeat (first | apply Kd.S_alloc | apply Kd.S_drewN | apply Kd.S_drew)); exact Kd.S_mono HO_6.out (fun _ hk => ⟨hk.2.1, ⟨hk.2.2.2.1, ⟨hk.2.2.2.2.1, ⟨hk.2.2.2.2.2.2, hk.2.2.2.2.2.1⟩⟩⟩⟩)⟩, ⟨by (with_reducible repeat (first | apply Kd.S_alloc | apply Kd.S_drewN | apply Kd.S_drew)); exact Kd.S_mono HO_9.out (fun _ hk => ⟨hk.1, ⟨hk.2.2.2.2, hk.2.2.2.1⟩⟩)⟩, ⟨pT HB.out⟩⟩
    case rest =>
     clear HC31
     try clear c1
     try clear c2
     try clear p2
     try clear c3
     try clear c4
     try clear c4b0
     try clear c9
     try clear c12
     try clear c19
     try clear c26
     try clear c29
     try clear c36
     try clear c36b0
     try clear c38
     try clear p2
     obtain ⟨kq, x65_30, rfl, HA, HJ30, HO_6, HO_9, HB⟩ := hcut
     cases kq with
     | zero => exact absurd HA.out (by simp [laws_FnExactWithoutMember.j1])
     | succ kj30 =>
      have H := HA.out
      clear HA
      simp only [laws_FnExactWithoutMember.j1] at H
      by_cases c45 : x65_30 = true
      ·
       subst c45
       have H1 : (some false) = some r := by rw [if_pos rfl] at H; exact H
       clear H
       have H := H1
       clear H1
       obtain rfl := Option.some.inj H
       go_wp2
       go_ret
       exact ⟨by first | rfl | (simp [errW_none, errW_some] <;> rfl) | (simp [*, errW_none, errW_some] <;> rfl), pT HB.out⟩
      replace c45 := Bool.eq_false_iff.mpr c45
      subst c45
      have H1 : ((laws_markFieldS.f kj30 t112 1).bind fun bt124 => ((laws_heldFieldS.f kj30 bt124.2 1).bind fun t126 => (if t126 < 0 then (some false) else (if t126 = bt124.1 then ((laws_toFieldS.f kj30 l0).bind fun t127 => ((impl_WithoutMember.f kj30 t127 a1).bind fun bt130 => ((laws_eqFieldS.f kj30 bt130.1 t105).bind fun t134 => (if t134 = true then (laws_FnExactWithoutMember.j2 kj30 bt124.2 bt124.1 (bt130.2 != t106)) else (laws_FnExactWithoutMember.j2 kj30 bt124.2 bt124.1 true))))) else (some false))))) = some r := by rw [if_neg (show ¬ (false = true) by decide)] at H; exact H
      clear H
      have H := H1
      clear H1
      replace H := Option.bind_eq_some_iff.mp H
      obtain ⟨⟨t124, t125⟩, A460, H⟩ := H
      replace H : ((laws_heldFieldS.f kj30 t125 1).bind fun t126 => (if t126 < 0 then (some false) else (if t126 = t124 then ((laws_toFieldS.f kj30 l0).bind fun t127 => ((impl_WithoutMember.f kj30 t127 a1).bind fun bt130 => ((laws_eqFieldS.f kj30 bt130.1 t105).bind fun t134 => (if t134 = true then (laws_FnExactWithoutMember.j2 kj30 t125 t124 (bt130.2 != t106)) else (laws_FnExactWithoutMember.j2 kj30 t125 t124 true))))) else (some false)))) = some r := H
      have A46 := Aside0.mk A460
      clear A460
      replace H := Option.bind_eq_some_iff.mp H
      obtain ⟨t126, A470, H⟩ := H
      replace H : (if t126 < 0 then (some false) else (if t126 = t124 then ((laws_toFieldS.f kj30 l0).bind fun t127 => ((impl_WithoutMember.f kj30 t127 a1).bind fun bt130 => ((laws_eqFieldS.f kj30 bt130.1 t105).bind fun t134 => (if t134 = true then (laws_FnExactWithoutMember.j2 kj30 t125 t124 (bt130.2 != t106)) else (laws_FnExactWithoutMember.j2 kj30 t125 t124 true))))) else (some false))) = some r := H
      have A47 := Aside0.mk A470
      clear A470
      by_cases c48 : t126 < 0
      ·
       rw [if_pos c48] at H
       have c48b0 : decide (t126 < 0) = true := decide_eq_true c48
       clear c48
       obtain rfl := Option.some.inj H
       obtain ⟨Ao49, co49, eo49⟩ := Kd.S_slice HO_9.out
       subst eo49
       go_wp2_with (first | ((with_reducible refine gate_callee (f := 97) rfl ?_); refine gl (some 68) Try.func97 #[.slice Ao49 t112.length co49, .int .i64 1] ?_; (with_reducible refine (laws_markFieldS.calls kj30 (fun k_ => ((some k_ ≠ (v107 : Value).ownBlock ∧ (k_ < sz5 ∧ sz4 ≤ k_)) ∧ w.heap.size ≤ k_)) (.slice Ao49 t112.length co49) t112 1 t124 t125 w _ ?side1 ?side2 A46.out).mono ?_); (case side1 => exact pT HB.out); (case side2 => exact Kd.S_mono (Kd.S_bound (HO_9.out)) (fun k_ hk_ => ⟨hk_.1, hk_.2.1⟩)); rintro e w50 ⟨rfl, hy0, hb, hkp⟩; refine ⟨_, rfl, ?_⟩; have n0_ := aK (Kd.S_mono (ok' := fun k_ => some k_ ≠ (.slice Ao49 t112.length co49 : Value).ownBlock ∧ k_ < sz3 ∧ k_ < sz4 ∧ k_ < sz5 ∧ sz2 ≤ k_) (Kd.S_keptB ((Kd.S_mono (ok' := fun k_ => (some k_ ≠ (.slice Ao49 t112.length co49 : Value).ownBlock ∧ (k_ < sz3 ∧ (k_ < sz4 ∧ (k_ < sz5 ∧ sz2 ≤ k_)))) ∧ ¬ ((some k_ ≠ (v107 : Value).ownBlock ∧ (k_ < sz5 ∧ sz4 ≤ k_)) ∧ w.heap.size ≤ k_)) HO_6.out (fun k_ hk => ⟨hk, fun hs_ => Nat.lt_irrefl _ (Nat.lt_of_lt_of_le (hk.2.2.1) (hs_.1.2.2))⟩))) hkp (fun k_ hk_ hs_ => (hk_.2) hs_)) (fun k_ hk_ => ⟨hk_.1.1.1, hk_.1.1.2.1, hk_.1.1.2.2.1, hk_.1.1.2.2.2.1, hk_.1.1.2.2.2.2⟩)); have n1_ := aK (Kd.S_mono (ok' := fun k_ => some k_ ≠ (v107 : Value).ownBlock) hy0 (fun k_ hk_ => Or.elim hk_ (fun h_ => h_.1.1) (fun h_ => (fun e_ => Nat.not_le.2 (Kd.S_lt HO_6.out k_ e_.symm) h_)))); have n2_ := aK (hb); clear HO_6 HO_9 HB; have HO_6 := n0_; have HO_9 := n1_; have HB := n2_; clear n0_ n1_ n2_; (try clear hb); (try clear hkp); (try clear hy0)) | ((with_reducible refine gate_callee (f := 98) rfl ?_); refine goesL_ (some 71) rfl rfl Try.func98 (by kernel_rfl) rfl #[.slice Ao49 t125.length co49, .int .i64 1] rfl (by (try simp only [List.map_toArray, List.map_cons, List.map_nil]); first | done | (rw [show t125.length = t112.length from (Kd.S_reads' HO_9.out).1.symm] <;> rfl) | rfl | (simp only [List.length_drop, List.length_take]; rfl)) ?_; (with_reducible refine (laws_heldFieldS.calls kj30 _ _ t125 1 t126 _ ?side1 ?side2 A47.out).mono ?_); (case side1 => repeat (first | exact (Kd.S_reads' HO_9.out).2.2 | (with_reducible refine Kd.C_alloc ?_ _) | (with_reducible refine Kd.C_drewN ?_ _) | (with_reducible refine Kd.C_drew ?_))); (case side2 => rw [show t125.length = t112.length from (Kd.S_reads' HO_9.out).1.symm]; exact (Kd.S_reads' HO_9.out).2.1); rintro e w' ⟨rfl, ⟨nd, rfl⟩⟩; refine ⟨_, rfl, ?_⟩))
       go_ret
       exact ⟨by first | rfl | (simp [errW_none, errW_some] <;> rfl) | (simp [*, errW_none, errW_some] <;> rfl), pT HB.out⟩
      rw [if_neg c48] at H
      have c48b0 : decide (t126 < 0) = false := decide_eq_false c48
      clear c48
      by_cases c51 : t126 = t124
      ·
       rw [if_pos c51] at H
       have c51b0 : (t126 == t124) = true := beq_iff_eq.mpr c51
       have c51b1 : (t126 != t124) = false := bne_eq_false_iff_eq.mpr c51
       clear c51
       replace H := Option.bind_eq_some_iff.mp H
       obtain ⟨t127, A520, H⟩ := H
       replace H : ((impl_WithoutMember.f kj30 t127 a1).bind fun bt130 => ((laws_eqFieldS.f kj30 bt130.1 t105).bind fun t134 => (if t134 = true then (laws_FnExactWithoutMember.j2 kj30 t125 t124 (bt130.2 != t106)) else (laws_FnExactWithoutMember.j2 kj30 t125 t124 true)))) = some r := H
       have A52 := Aside0.mk A520
       clear A520
       replace H := Option.bind_eq_some_iff.mp H
       obtain ⟨⟨t130, t131⟩, A530, H⟩ := H
       replace H : ((laws_eqFieldS.f kj30 t130 t105).bind fun t134 => (if t134 = true then (laws_FnExactWithoutMember.j2 kj30 t125 t124 (t131 != t106)) else (laws_FnExactWithoutMember.j2 kj30 t125 t124 true))) = some r := H
       have A53 := Aside0.mk A530
       clear A530
       have HC54 := Aside0.mk H
       clear H
       obtain ⟨Ao55, co55, eo55⟩ := Kd.S_slice HO_9.out
       subst eo55
       go_upto_region 25 with (first | ((with_reducible refine gate_callee (f := 97) rfl ?_); refine gl (some 68) Try.func97 #[.slice Ao55 t112.length co55, .int .i64 1] ?_; (with_reducible refine (laws_markFieldS.calls kj30 (fun k_ => ((some k_ ≠ (v107 : Value).ownBlock ∧ (k_ < sz5 ∧ sz4 ≤ k_)) ∧ w.heap.size ≤ k_)) (.slice Ao55 t112.length co55) t112 1 t124 t125 w _ ?side1 ?side2 A46.out).mono ?_); (case side1 => exact pT HB.out); (case side2 => exact Kd.S_mono (Kd.S_bound (HO_9.out)) (fun k_ hk_ => ⟨hk_.1, hk_.2.1⟩)); rintro e w56 ⟨rfl, hy0, hb, hkp⟩; refine ⟨_, rfl, ?_⟩; have n0_ := aK (Kd.S_mono (ok' := fun k_ => some k_ ≠ (.slice Ao55 t112.length co55 : Value).ownBlock ∧ k_ < sz3 ∧ k_ < sz4 ∧ k_ < sz5 ∧ sz2 ≤ k_) (Kd.S_keptB ((Kd.S_mono (ok' := fun k_ => (some k_ ≠ (.slice Ao55 t112.length co55 : Value).ownBlock ∧ (k_ < sz3 ∧ (k_ < sz4 ∧ (k_ < sz5 ∧ sz2 ≤ k_)))) ∧ ¬ ((some k_ ≠ (v107 : Value).ownBlock ∧ (k_ < sz5 ∧ sz4 ≤ k_)) ∧ w.heap.size ≤ k_)) HO_6.out (fun k_ hk => ⟨hk, fun hs_ => Nat.lt_irrefl _ (Nat.lt_of_lt_of_le (hk.2.2.1) (hs_.1.2.2))⟩))) hkp (fun k_ hk_ hs_ => (hk_.2) hs_)) (fun k_ hk_ => ⟨hk_.1.1.1, hk_.1.1.2.1, hk_.1.1.2.2.1, hk_.1.1.2.2.2.1, hk_.1.1.2.2.2.2⟩)); have n1_ := aK (Kd.S_mono (ok' := fun k_ => some k_ ≠ (v107 : Value).ownBlock) hy0 (fun k_ hk_ => Or.elim hk_ (fun h_ => h_.1.1) (fun h_ => (fun e_ => Nat.not_le.2 (Kd.S_lt HO_6.out k_ e_.symm) h_)))); have n2_ := aK (hb); clear HO_6 HO_9 HB; have HO_6 := n0_; have HO_9 := n1_; have HB := n2_; clear n0_ n1_ n2_; (try clear hb); (try clear hkp); (try clear hy0)) | ((with_reducible refine gate_callee (f := 98) rfl ?_); refine goesL_ (some 71) rfl rfl Try.func98 (by kernel_rfl) rfl #[.slice Ao55 t125.length co55, .int .i64 1] rfl (by (try simp only [List.map_toArray, List.map_cons, List.map_nil]); first | done | (rw [show t125.length = t112.length from (Kd.S_reads' HO_9.out).1.symm] <;> rfl) | rfl | (simp only [List.length_drop, List.length_take]; rfl)) ?_; (with_reducible refine (laws_heldFieldS.calls kj30 _ _ t125 1 t126 _ ?side1 ?side2 A47.out).mono ?_); (case side1 => repeat (first | exact (Kd.S_reads' HO_9.out).2.2 | (with_reducible refine Kd.C_alloc ?_ _) | (with_reducible refine Kd.C_drewN ?_ _) | (with_reducible refine Kd.C_drew ?_))); (case side2 => rw [show t125.length = t112.length from (Kd.S_reads' HO_9.out).1.symm]; exact (Kd.S_reads' HO_9.out).2.1); rintro e w' ⟨rfl, ⟨nd, rfl⟩⟩; refine ⟨_, rfl, ?_⟩) | ((with_reducible refine gate_callee (f := 94) rfl ?_); refine gl (some 79) Try.func94 #[.slice A0 l0.length c0] ?_; (with_reducible refine (laws_toFieldS.calls kj30 _ _ l0 t127 _ ?side1 ?side2 A52.out).mono ?_); (case side1 => exact pC (Kd.C_below HR0.out (pS HB.out))); (case side2 => exact HC0.out); rintro e w57 ⟨v128, rfl, ho0, hb⟩; refine ⟨_, rfl, ?_⟩; obtain ⟨sz6, hsz6⟩ := mpM hb; have n0_ := aK (mpE2 (by (with_reducible repeat (first | apply Kd.S_alloc | apply Kd.S_drewN | apply Kd.S_drew)); exact HO_6.out) hb hsz6 (Kd.S_base ho0)); have n1_ := aK (mpE2 (by (with_reducible repeat (first | apply Kd.S_alloc | apply Kd.S_drewN | apply Kd.S_drew)); exact HO_9.out) hb hsz6 (Kd.S_base ho0)); have HO129 := aK (Kd.S_lower (Kd.S_new' (Kd.S_new' (mpN ho0 hsz6) (Kd.S_lt (by (with_reducible repeat (first | apply Kd.S_alloc | apply Kd.S_drewN | apply Kd.S_drew)); exact HO_6.out))) (Kd.S_lt (by (with_reducible repeat (first | apply Kd.S_alloc | apply Kd.S_drewN | apply Kd.S_drew)); exact HO_9.out))) (below_size (pS HB.out))); replace HB := bS HB hb; clear HO_6 HO_9; have HO_6 := n0_; have HO_9 := n1_; clear n0_ n1_; (try clear hb); (try clear hb2); (try clear hk); (try clear hi); (try clear ho0); obtain ⟨Ao58, co58, eo58⟩ := Kd.S_slice HO129.out; subst eo58) | ((with_reducible refine gate_callee (f := 95) rfl ?_); refine gl (some 81) Try.func95 #[.slice Ao58 t127.length co58, .int .i64 a1] ?_; (with_reducible refine (impl_WithoutMember.calls kj30 _ _ t127 a1 t130 t131 _ ?side1 ?side2 A53.out).mono ?_); (case side1 => repeat (first | exact (Kd.S_reads' HO129.out).2.2 | (with_reducible refine Kd.C_alloc ?_ _) | (with_reducible refine Kd.C_drewN ?_ _) | (with_reducible refine Kd.C_drew ?_))); (case side2 => exact (Kd.S_reads' HO129.out).2.1); rintro e w59 ⟨v132, rfl, ho0, hb⟩; refine ⟨_, rfl, ?_⟩; obtain ⟨sz7, hsz7⟩ := mpM hb; have n0_ := aK (mpE2 (by (with_reducible repeat (first | apply Kd.S_alloc | apply Kd.S_drewN | apply Kd.S_drew)); exact HO_6.out) hb hsz7 (Kd.S_base ho0)); have n1_ := aK (mpE2 (by (with_reducible repeat (first | apply Kd.S_alloc | apply Kd.S_drewN | apply Kd.S_drew)); exact HO_9.out) hb hsz7 (Kd.S_base ho0)); have n2_ := aK (mpE2 (by (with_reducible repeat (first | apply Kd.S_alloc | apply Kd.S_drewN | apply Kd.S_drew)); exact HO129.out) hb hsz7 (Kd.S_base ho0)); have HO133 := aK (Kd.S_lower (Kd.S_new' (Kd.S_new' (Kd.S_new' (mpN ho0 hsz7) (Kd.S_lt (by (with_reducible repeat (first | apply Kd.S_alloc | apply Kd.S_drewN | apply Kd.S_drew)); exact HO_6.out))) (Kd.S_lt (by (with_reducible repeat (first | apply Kd.S_alloc | apply Kd.S_drewN | apply Kd.S_drew)); exact HO_9.out))) (Kd.S_lt (by (with_reducible repeat (first | apply Kd.S_alloc | apply Kd.S_drewN | apply Kd.S_drew)); exact HO129.out))) (below_size (pS HB.out))); replace HB := bS HB hb; clear HO_6 HO_9 HO129; have HO_6 := n0_; have HO_9 := n1_; have HO129 := n2_; clear n0_ n1_ n2_; (try clear hb); (try clear hb2); (try clear hk); (try clear hi); (try clear ho0)))
       (try simp only [Act.put, List.setIfInBounds_toArray, List.set_cons_zero, List.set_cons_succ])
       go_cut [92] (fun v92 wc => ∃ (kq : Nat) (x92_53 : Bool), v92 = .bool x92_53 ∧ Aside0 (laws_FnExactWithoutMember.j2 kq t125 t124 x92_53 = some r) ∧ Aside0 (kq ≤ kj30) ∧ Aside0 (Kd.S k26 26 wc w.heap.size (fun k_ => k_ < sz6 ∧ k_ < sz7) (.slice Ao55 t112.length co55) t125) ∧ Aside0 (Below w.heap.size w wc))
       case first =>
        have H := HC54.out
        clear HC54
        replace H := Option.bind_eq_some_iff.mp H
        obtain ⟨t134, A600, H⟩ := H
        replace H : (if t134 = true then (laws_FnExactWithoutMember.j2 kj30 t125 t124 (t131 != t106)) else (laws_FnExactWithoutMember.j2 kj30 t125 t124 true)) = some r := H
        have A60 := Aside0.mk A600
        clear A600
        by_cases c61 : t134 = true
        ·
         subst c61
         have H1 : (laws_FnExactWithoutMember.j2 kj30 t125 t124 (t131 != t106)) = some r := by rw [if_pos rfl] at H; exact H
         clear H
         have H := H1
         clear H1
         have H' := Aside0.mk H
         clear H
         obtain ⟨Ao62, co62, eo62⟩ := Kd.S_slice HO133.out
         subst eo62
         obtain ⟨Ao63, co63, eo63⟩ := Kd.S_slice HO_6.out
         subst eo63
         go_wp2_with (first | ((with_reducible refine gate_callee (f := 96) rfl ?_); refine gl (some 86) Try.func96 #[.slice Ao62 t130.length co62, .slice Ao63 t105.length co63] ?_; (with_reducible refine (laws_eqFieldS.calls kj30 _ _ t130 _ _ t105 true _ ?side1 ?side2 ?side3 ?side4 A60.out).mono ?_); (case side1 => repeat (first | exact (Kd.S_reads' HO133.out).2.2 | (with_reducible refine Kd.C_alloc ?_ _) | (with_reducible refine Kd.C_drewN ?_ _) | (with_reducible refine Kd.C_drew ?_))); (case side2 => exact (Kd.S_reads' HO133.out).2.1); (case side3 => repeat (first | exact (Kd.S_reads' HO_6.out).2.2 | (with_reducible refine Kd.C_alloc ?_ _) | (with_reducible refine Kd.C_drewN ?_ _) | (with_reducible refine Kd.C_drew ?_))); (case side4 => exact (Kd.S_reads' HO_6.out).2.1); rintro e w64 ⟨rfl, hb⟩; refine ⟨_, rfl, ?_⟩; have n0_ := aK (Kd.S_below (by (with_reducible repeat (first | apply Kd.S_alloc | apply Kd.S_drewN | apply Kd.S_drew)); exact HO_6.out) hb); have n1_ := aK (Kd.S_below (by (with_reducible repeat (first | apply Kd.S_alloc | apply Kd.S_drewN | apply Kd.S_drew)); exact HO_9.out) hb); have n2_ := aK (Kd.S_below (by (with_reducible repeat (first | apply Kd.S_alloc | apply Kd.S_drewN | apply Kd.S_drew)); exact HO129.out) hb); have n3_ := aK (Kd.S_below (by (with_reducible repeat (first | apply Kd.S_alloc | apply Kd.S_drewN | apply Kd.S_drew)); exact HO133.out) hb); replace HB := bS HB hb; clear HO_6 HO_9 HO129 HO133; have HO_6 := n0_; have HO_9 := n1_; have HO129 := n2_; have HO133 := n3_; clear n0_ n1_ n2_ n3_; (try clear hb); (try clear hb2); (try clear hk); (try clear hi)))
         go_meet
         case rel => exact ⟨_, ((t131 != t106)), (by first | rfl | (simp; done) | (simp [*]; done)), H', ⟨by have := HJ9.out; have := HJ30.out; first | omega | exact Nat.le_refl _⟩, ⟨by (with_reducible repeat (first | apply Kd.S_alloc | apply Kd.S_drewN | apply Kd.S_drew)); exact Kd.S_mono HO_9.out (fun _ hk => ⟨hk.1.1.1.2, hk.1.2⟩)⟩, ⟨pT HB.out⟩⟩
        replace c61 := Bool.eq_false_iff.mpr c61
        subst c61
        have H1 : (laws_FnExactWithoutMember.j2 kj30 t125 t124 true) = some r := by rw [if_neg (show ¬ (false = true) by decide)] at H; exact H
        clear H
        have H := H1
        clear H1
        have H' := Aside0.mk H
        clear H
        obtain ⟨Ao65, co65, eo65⟩ := Kd.S_slice HO133.out
        subst eo65
        obtain ⟨Ao66, co66, eo66⟩ := Kd.S_slice HO_6.out
        subst eo66
        go_wp2_with (first | ((with_reducible refine gate_callee (f := 96) rfl ?_); refine gl (some 86) Try.func96 #[.slice Ao65 t130.length co65, .slice Ao66 t105.length co66] ?_; (with_reducible refine (laws_eqFieldS.calls kj30 _ _ t130 _ _ t105 false _ ?side1 ?side2 ?side3 ?side4 A60.out).mono ?_); (case side1 => repeat (first | exact (Kd.S_reads' HO133.out).2.2 | (with_reducible refine Kd.C_alloc ?_ _) | (with_reducible refine Kd.C_drewN ?_ _) | (with_reducible refine Kd.C_drew ?_))); (case side2 => exact (Kd.S_reads' HO133.out).2.1); (case side3 => repeat (first | exact (Kd.S_reads' HO_6.out).2.2 | (with_reducible refine Kd.C_alloc ?_ _) | (with_reducible refine Kd.C_drewN ?_ _) | (with_reducible refine Kd.C_drew ?_))); (case side4 => exact (Kd.S_reads' HO_6.out).2.1); rintro e w67 ⟨rfl, hb⟩; refine ⟨_, rfl, ?_⟩; have n0_ := aK (Kd.S_below (by (with_reducible repeat (first | apply Kd.S_alloc | apply Kd.S_drewN | apply Kd.S_drew)); exact HO_6.out) hb); have n1_ := aK (Kd.S_below (by (with_reducible repeat (first | apply Kd.S_alloc | apply Kd.S_drewN | apply Kd.S_drew)); exact HO_9.out) hb); have n2_ := aK (Kd.S_below (by (with_reducible repeat (first | apply Kd.S_alloc | apply Kd.S_drewN | apply Kd.S_drew)); exact HO129.out) hb); have n3_ := aK (Kd.S_below (by (with_reducible repeat (first | apply Kd.S_alloc | apply Kd.S_drewN | apply Kd.S_drew)); exact HO133.out) hb); replace HB := bS HB hb; clear HO_6 HO_9 HO129 HO133; have HO_6 := n0_; have HO_9 := n1_; have HO129 := n2_; have HO133 := n3_; clear n0_ n1_ n2_ n3_; (try clear hb); (try clear hb2); (try clear hk); (try clear hi)))
        go_meet
        case rel => exact ⟨_, (true), (by first | rfl | (simp; done) | (simp [*]; done)), H', ⟨by have := HJ9.out; have := HJ30.out; first | omega | exact Nat.le_refl _⟩, ⟨by (with_reducible repeat (first | apply Kd.S_alloc | apply Kd.S_drewN | apply Kd.S_drew)); exact Kd.S_mono HO_9.out (fun _ hk => ⟨hk.1.1.1.2, hk.1.2⟩)⟩, ⟨pT HB.out⟩⟩
       case rest =>
        clear HC54
        try clear c1
        try clear c2
        try clear p2
        try clear c3
        try clear c4
        try clear c4b0
        try clear c5
        try clear c6
        try clear c9
        try clear c12
        try clear c19
        try clear c26
        try clear c29
        try clear c36
        try clear c36b0
        try clear c38
        try clear c45
        try clear c48
        try clear c48b0
        try clear c51
        try clear c51b0
        try clear c51b1
        try clear c61
        try clear p2
        obtain ⟨kq, x92_53, rfl, HA, HJ53, HO_9, HB⟩ := hcut
        have hl9_53 := (Kd.S_reads' HO_9.out).1
        rw [hl9_53] at HO_9
        (try simp only [hl9_53])
        cases kq with
        | zero => exact absurd HA.out (by simp [laws_FnExactWithoutMember.j2])
        | succ kj53 =>
         have H := HA.out
         clear HA
         simp only [laws_FnExactWithoutMember.j2] at H
         by_cases c68 : x92_53 = true
         ·
          subst c68
          have H1 : (some false) = some r := by rw [if_pos rfl] at H; exact H
          clear H
          have H := H1
          clear H1
          obtain rfl := Option.some.inj H
          go_wp2
          go_ret
          exact ⟨by first | rfl | (simp [errW_none, errW_some] <;> rfl) | (simp [*, errW_none, errW_some] <;> rfl), pT HB.out⟩
         replace c68 := Bool.eq_false_iff.mpr c68
         subst c68
         have H1 : ((laws_heldFieldS.f kj53 t125 1).bind fun t135 => (if t135 < 0 then (some false) else (if t135 = t124 then (some true) else (some false)))) = some r := by rw [if_neg (show ¬ (false = true) by decide)] at H; exact H
         clear H
         have H := H1
         clear H1
         replace H := Option.bind_eq_some_iff.mp H
         obtain ⟨t135, A690, H⟩ := H
         replace H : (if t135 < 0 then (some false) else (if t135 = t124 then (some true) else (some false))) = some r := H
         have A69 := Aside0.mk A690
         clear A690
         by_cases c70 : t135 < 0
         ·
          rw [if_pos c70] at H
          have c70b0 : decide (t135 < 0) = true := decide_eq_true c70
          clear c70
          obtain rfl := Option.some.inj H
          go_wp2_with (first | ((with_reducible refine gate_callee (f := 98) rfl ?_); refine gl (some 95) Try.func98 #[.slice Ao55 t125.length co55, .int .i64 1] ?_; (with_reducible refine (laws_heldFieldS.calls kj53 _ _ t125 1 t135 _ ?side1 ?side2 A69.out).mono ?_); (case side1 => repeat (first | exact (Kd.S_reads' HO_9.out).2.2 | (with_reducible refine Kd.C_alloc ?_ _) | (with_reducible refine Kd.C_drewN ?_ _) | (with_reducible refine Kd.C_drew ?_))); (case side2 => exact (Kd.S_reads' HO_9.out).2.1); rintro e w' ⟨rfl, ⟨nd, rfl⟩⟩; refine ⟨_, rfl, ?_⟩))
          go_ret
          exact ⟨by first | rfl | (simp [errW_none, errW_some] <;> rfl) | (simp [*, errW_none, errW_some] <;> rfl), pT HB.out⟩
         rw [if_neg c70] at H
         have c70b0 : decide (t135 < 0) = false := decide_eq_false c70
         clear c70
         by_cases c71 : t135 = t124
         ·
          rw [if_pos c71] at H
          have c71b0 : (t135 == t124) = true := beq_iff_eq.mpr c71
          have c71b1 : (t135 != t124) = false := bne_eq_false_iff_eq.mpr c71
          clear c71
          obtain rfl := Option.some.inj H
          go_wp2_with (first | ((with_reducible refine gate_callee (f := 98) rfl ?_); refine gl (some 95) Try.func98 #[.slice Ao55 t125.length co55, .int .i64 1] ?_; (with_reducible refine (laws_heldFieldS.calls kj53 _ _ t125 1 t135 _ ?side1 ?side2 A69.out).mono ?_); (case side1 => repeat (first | exact (Kd.S_reads' HO_9.out).2.2 | (with_reducible refine Kd.C_alloc ?_ _) | (with_reducible refine Kd.C_drewN ?_ _) | (with_reducible refine Kd.C_drew ?_))); (case side2 => exact (Kd.S_reads' HO_9.out).2.1); rintro e w' ⟨rfl, ⟨nd, rfl⟩⟩; refine ⟨_, rfl, ?_⟩))
          go_ret
          exact ⟨by first | rfl | (simp [errW_none, errW_some] <;> rfl) | (simp [*, errW_none, errW_some] <;> rfl), pT HB.out⟩
         rw [if_neg c71] at H
         have c71b0 : (t135 == t124) = false := beq_eq_false_iff_ne.mpr c71
         have c71b1 : (t135 != t124) = true := bne_iff_ne.mpr c71
         obtain rfl := Option.some.inj H
         go_wp2_with (first | ((with_reducible refine gate_callee (f := 98) rfl ?_); refine gl (some 95) Try.func98 #[.slice Ao55 t125.length co55, .int .i64 1] ?_; (with_reducible refine (laws_heldFieldS.calls kj53 _ _ t125 1 t135 _ ?side1 ?side2 A69.out).mono ?_); (case side1 => repeat (first | exact (Kd.S_reads' HO_9.out).2.2 | (with_reducible refine Kd.C_alloc ?_ _) | (with_reducible refine Kd.C_drewN ?_ _) | (with_reducible refine Kd.C_drew ?_))); (case side2 => exact (Kd.S_reads' HO_9.out).2.1); rintro e w' ⟨rfl, ⟨nd, rfl⟩⟩; refine ⟨_, rfl, ?_⟩))
         go_ret
         exact ⟨by first | rfl | (simp [errW_none, errW_some] <;> rfl) | (simp [*, errW_none, errW_some] <;> rfl), pT HB.out⟩
      rw [if_neg c51] at H
      have c51b0 : (t126 == t124) = false := beq_eq_false_iff_ne.mpr c51
      have c51b1 : (t126 != t124) = true := bne_iff_ne.mpr c51
      obtain rfl := Option.some.inj H
      obtain ⟨Ao72, co72, eo72⟩ := Kd.S_slice HO_9.out
      subst eo72
      go_wp2_with (first | ((with_reducible refine gate_callee (f := 97) rfl ?_); refine gl (some 68) Try.func97 #[.slice Ao72 t112.length co72, .int .i64 1] ?_; (with_reducible refine (laws_markFieldS.calls kj30 (fun k_ => ((some k_ ≠ (v107 : Value).ownBlock ∧ (k_ < sz5 ∧ sz4 ≤ k_)) ∧ w.heap.size ≤ k_)) (.slice Ao72 t112.length co72) t112 1 t124 t125 w _ ?side1 ?side2 A46.out).mono ?_); (case side1 => exact pT HB.out); (case side2 => exact Kd.S_mono (Kd.S_bound (HO_9.out)) (fun k_ hk_ => ⟨hk_.1, hk_.2.1⟩)); rintro e w73 ⟨rfl, hy0, hb, hkp⟩; refine ⟨_, rfl, ?_⟩; have n0_ := aK (Kd.S_mono (ok' := fun k_ => some k_ ≠ (.slice Ao72 t112.length co72 : Value).ownBlock ∧ k_ < sz3 ∧ k_ < sz4 ∧ k_ < sz5 ∧ sz2 ≤ k_) (Kd.S_keptB ((Kd.S_mono (ok' := fun k_ => (some k_ ≠ (.slice Ao72 t112.length co72 : Value).ownBlock ∧ (k_ < sz3 ∧ (k_ < sz4 ∧ (k_ < sz5 ∧ sz2 ≤ k_)))) ∧ ¬ ((some k_ ≠ (v107 : Value).ownBlock ∧ (k_ < sz5 ∧ sz4 ≤ k_)) ∧ w.heap.size ≤ k_)) HO_6.out (fun k_ hk => ⟨hk, fun hs_ => Nat.lt_irrefl _ (Nat.lt_of_lt_of_le (hk.2.2.1) (hs_.1.2.2))⟩))) hkp (fun k_ hk_ hs_ => (hk_.2) hs_)) (fun k_ hk_ => ⟨hk_.1.1.1, hk_.1.1.2.1, hk_.1.1.2.2.1, hk_.1.1.2.2.2.1, hk_.1.1.2.2.2.2⟩)); have n1_ := aK (Kd.S_mono (ok' := fun k_ => some k_ ≠ (v107 : Value).ownBlock) hy0 (fun k_ hk_ => Or.elim hk_ (fun h_ => h_.1.1) (fun h_ => (fun e_ => Nat.not_le.2 (Kd.S_lt HO_6.out k_ e_.symm) h_)))); have n2_ := aK (hb); clear HO_6 HO_9 HB; have HO_6 := n0_; have HO_9 := n1_; have HB := n2_; clear n0_ n1_ n2_; (try clear hb); (try clear hkp); (try clear hy0)) | ((with_reducible refine gate_callee (f := 98) rfl ?_); refine goesL_ (some 71) rfl rfl Try.func98 (by kernel_rfl) rfl #[.slice Ao72 t125.length co72, .int .i64 1] rfl (by (try simp only [List.map_toArray, List.map_cons, List.map_nil]); first | done | (rw [show t125.length = t112.length from (Kd.S_reads' HO_9.out).1.symm] <;> rfl) | rfl | (simp only [List.length_drop, List.length_take]; rfl)) ?_; (with_reducible refine (laws_heldFieldS.calls kj30 _ _ t125 1 t126 _ ?side1 ?side2 A47.out).mono ?_); (case side1 => repeat (first | exact (Kd.S_reads' HO_9.out).2.2 | (with_reducible refine Kd.C_alloc ?_ _) | (with_reducible refine Kd.C_drewN ?_ _) | (with_reducible refine Kd.C_drew ?_))); (case side2 => rw [show t125.length = t112.length from (Kd.S_reads' HO_9.out).1.symm]; exact (Kd.S_reads' HO_9.out).2.1); rintro e w' ⟨rfl, ⟨nd, rfl⟩⟩; refine ⟨_, rfl, ?_⟩))
      go_ret
      exact ⟨by first | rfl | (simp [errW_none, errW_some] <;> rfl) | (simp [*, errW_none, errW_some] <;> rfl), pT HB.out⟩
   replace c29 := Bool.eq_false_iff.mpr c29
   subst c29
   have H1 : (some false) = some r := by rw [if_neg (show ¬ (false = true) by decide)] at H; exact H
   clear H
   have H := H1
   clear H1
   obtain rfl := Option.some.inj H
   go_wp2_with (first | ((with_reducible refine gate_callee (f := 94) rfl ?_); refine gl (some 47) Try.func94 #[.slice A0 l0.length c0] ?_; (with_reducible refine (laws_toFieldS.calls kj9 _ _ l0 t117 _ ?side1 ?side2 A27.out).mono ?_); (case side1 => exact pC (Kd.C_below HR0.out HB.out)); (case side2 => exact HC0.out); rintro e w74 ⟨v118, rfl, ho0, hb⟩; refine ⟨_, rfl, ?_⟩; obtain ⟨sz8, hsz8⟩ := mpM hb; have n0_ := aK (mpE2 (by (with_reducible repeat (first | apply Kd.S_alloc | apply Kd.S_drewN | apply Kd.S_drew)); exact HO_6.out) hb hsz8 (Kd.S_base ho0)); have n1_ := aK (mpE2 (by (with_reducible repeat (first | apply Kd.S_alloc | apply Kd.S_drewN | apply Kd.S_drew)); exact HO_8.out) hb hsz8 (Kd.S_base ho0)); have n2_ := aK (mpE2 (by (with_reducible repeat (first | apply Kd.S_alloc | apply Kd.S_drewN | apply Kd.S_drew)); exact HO_9.out) hb hsz8 (Kd.S_base ho0)); have HO119 := aK (Kd.S_lower (Kd.S_new' (Kd.S_new' (Kd.S_new' (mpN ho0 hsz8) (Kd.S_lt (by (with_reducible repeat (first | apply Kd.S_alloc | apply Kd.S_drewN | apply Kd.S_drew)); exact HO_6.out))) (Kd.S_lt (by (with_reducible repeat (first | apply Kd.S_alloc | apply Kd.S_drewN | apply Kd.S_drew)); exact HO_8.out))) (Kd.S_lt (by (with_reducible repeat (first | apply Kd.S_alloc | apply Kd.S_drewN | apply Kd.S_drew)); exact HO_9.out))) (below_size (pS HB.out))); replace HB := bS HB hb; clear HO_6 HO_8 HO_9; have HO_6 := n0_; have HO_8 := n1_; have HO_9 := n2_; clear n0_ n1_ n2_; (try clear hb); (try clear hb2); (try clear hk); (try clear hi); (try clear ho0); obtain ⟨Ao75, co75, eo75⟩ := Kd.S_slice HO119.out; subst eo75) | ((with_reducible refine gate_callee (f := 96) rfl ?_); refine gl (some 48) Try.func96 #[.slice Ao16 t109.length co16, .slice Ao75 t117.length co75] ?_; (with_reducible refine (laws_eqFieldS.calls kj9 _ _ t109 _ _ t117 false _ ?side1 ?side2 ?side3 ?side4 A28.out).mono ?_); (case side1 => repeat (first | exact (Kd.S_reads' HO_8.out).2.2 | (with_reducible refine Kd.C_alloc ?_ _) | (with_reducible refine Kd.C_drewN ?_ _) | (with_reducible refine Kd.C_drew ?_))); (case side2 => exact (Kd.S_reads' HO_8.out).2.1); (case side3 => repeat (first | exact (Kd.S_reads' HO119.out).2.2 | (with_reducible refine Kd.C_alloc ?_ _) | (with_reducible refine Kd.C_drewN ?_ _) | (with_reducible refine Kd.C_drew ?_))); (case side4 => exact (Kd.S_reads' HO119.out).2.1); rintro e w76 ⟨rfl, hb⟩; refine ⟨_, rfl, ?_⟩; have n0_ := aK (Kd.S_below (by (with_reducible repeat (first | apply Kd.S_alloc | apply Kd.S_drewN | apply Kd.S_drew)); exact HO_6.out) hb); have n1_ := aK (Kd.S_below (by (with_reducible repeat (first | apply Kd.S_alloc | apply Kd.S_drewN | apply Kd.S_drew)); exact HO_8.out) hb); have n2_ := aK (Kd.S_below (by (with_reducible repeat (first | apply Kd.S_alloc | apply Kd.S_drewN | apply Kd.S_drew)); exact HO_9.out) hb); have n3_ := aK (Kd.S_below (by (with_reducible repeat (first | apply Kd.S_alloc | apply Kd.S_drewN | apply Kd.S_drew)); exact HO119.out) hb); replace HB := bS HB hb; clear HO_6 HO_8 HO_9 HO119; have HO_6 := n0_; have HO_8 := n1_; have HO_9 := n2_; have HO119 := n3_; clear n0_ n1_ n2_ n3_; (try clear hb); (try clear hb2); (try clear hk); (try clear hi)))
   go_ret
   exact ⟨by first | rfl | (simp [errW_none, errW_some] <;> rfl) | (simp [*, errW_none, errW_some] <;> rfl), pT HB.out⟩
def laws_FnExactWithoutMember.Pure : Prop := ∀ (l0 : List (S79)) (a1 : Int), (l0.length ≤ 9223372036854775807 ∧ ∀ z0 ∈ l0, (Lit.int .i64 z0.f0).wf = true ∧ (Lit.int .i64 z0.f1).wf = true ∧ (z0.f2.length ≤ 9223372036854775807 ∧ ∀ z1 ∈ z0.f2, (Lit.int .i64 z1).wf = true)) → l0.length * 40 ≤ 140737488351232 → (Lit.int .i64 a1).wf = true → ∃ k, laws_FnExactWithoutMember.f k l0 a1 = some true
end Go.Proofs.Ythekngnkajjhnaa.P
namespace Go.Proofs.Ythekngnkajjhnaa.Open
open Go.ChangeShapes Go.WideShapes Go.RowKit Go.Deep Go.Joins Go.Proofs.YthekngnkajjhnaaW.PrintWords
def Opens {α : Type} (P : Program) (t : TypeId) (d : Kd α) (wf : α → Prop) : Prop :=
  ∀ {H : Type} {enc : TypeId × Value → H} {W : World} {fuel : Nat} {cs : List Value} {x : DataW H × List MemPlace},
    DataW.trod enc P W 0 (fun _ => true) true fuel t cs = some x → ∃ y, d.K W y cs ∧ wf y
theorem opens_int {P : Program} {t : TypeId} {k : IntKind} (h : P.underlying t = some (.int k)) : Opens P t (Kd.int k) (fun n => (Lit.int k n).wf = true) := by
  intro H enc W fuel cs x hx
  obtain ⟨n, rfl, _, hw⟩ := DataW.trod_int h hx
  exact ⟨n, rfl, hw⟩
theorem list_of {α : Type} {p : Nat → α → Prop} : ∀ (n : Nat), (∀ i, i < n → ∃ y, p i y) → ∃ ys : List α, ys.length = n ∧ ∀ (i : Nat) (y : α), ys[i]? = some y → p i y
  | 0, _ => ⟨[], rfl, fun i y h => by simp at h⟩
  | n + 1, h => by
    obtain ⟨ys, hl, hy⟩ := list_of n (fun i hi => h i (by omega))
    obtain ⟨y, hp⟩ := h n (by omega)
    refine ⟨ys ++ [y], by simp [hl], fun i z hz => ?_⟩
    by_cases hi : i < n
    · rw [List.getElem?_append_left (by omega)] at hz
      exact hy i z hz
    · have hi2 : i = n := by
        have := (List.getElem?_eq_some_iff.1 hz).1
        simp [hl] at this
        omega
      subst hi2
      rw [List.getElem?_append_right (by omega), hl] at hz
      simp at hz
      subst hz
      exact hp
theorem opens_slice {α : Type} {P : Program} {t e : TypeId} {d : Kd α} {wf : α → Prop} (h : P.underlying t = some (.slice e)) (hc : P.cellsOf e = d.sz) (he : Opens P e d wf) :
    Opens P t (Kd.slice e d) (fun l => l.length ≤ 9223372036854775807 ∧ ∀ x ∈ l, wf x) := by
  intro H enc W fuel cs x hx
  rcases open_slice h hx with ⟨rfl, _⟩ | ⟨a, len, cap, m, n, D, Pl, rfl, _, hl, hm, hmm, _, hx⟩
  · exact ⟨[], ⟨none, 0, rfl, by simp, Kd.C_nil d W⟩, by simp, by simp⟩
  · obtain ⟨ys, hlen, hy⟩ := list_of (p := fun i y => ∃ cs', W.cells? 0 (a.add (i * P.cellsOf e)) (P.cellsOf e) = some cs' ∧ d.K W y cs' ∧ wf y) len (fun i hi => by
      obtain ⟨cs', h1, h2⟩ := hx i (by rw [hmm]; split <;> omega)
      obtain ⟨y, hK, hw⟩ := he h2
      exact ⟨y, cs', h1, hK, hw⟩)
    have hm' : cap ≤ 9223372036854775807 := by simpa [maxLen] using hm
    refine ⟨ys, ⟨some a, cap, by rw [hlen], by omega, ⟨rfl, by omega, fun _ => ⟨a, rfl, fun j y hj => ?_⟩⟩⟩, by omega, fun y hmem => ?_⟩
    · obtain ⟨cs', h1, hK, _⟩ := hy j y hj
      obtain ⟨_, hl2, hcell⟩ := World.cells?_some h1
      refine ⟨cs', d.K_len hK, hK, fun i u hu => ?_⟩
      have hi : i < P.cellsOf e := by
        have := (List.getElem?_eq_some_iff.1 hu).1
        omega
      rw [← hc, ← Go.Deep.add_add, hcell i hi]
      exact hu
    · obtain ⟨j, hj⟩ := List.getElem?_of_mem hmem
      obtain ⟨_, _, _, hw⟩ := hy j y hj
      exact hw
theorem opens3 {α0 α1 α2 : Type} {P : Program} {t : TypeId} {f0 f1 f2 : Field} {d0 : Kd α0} {d1 : Kd α1} {d2 : Kd α2} {w0 : α0 → Prop} {w1 : α1 → Prop} {w2 : α2 → Prop}
    (hs : P.underlying t = some (.struct #[f0, f1, f2])) (hone : oneCellFields P #[f0, f1, f2] = true) (hC : P.cellsOf t = 3) (h0 : Opens P f0.type d0 w0) (h1 : Opens P f1.type d1 w1) (h2 : Opens P f2.type d2 w2) :
    Opens P t (Kd.pair d0 (Kd.pair d1 d2)) (fun y => w0 y.1 ∧ w1 y.2.1 ∧ w2 y.2.2) := by
  intro H enc W fuel cs x hx
  obtain ⟨y0, y1, y2, n, _, hlen, e0, e1, e2⟩ := trod_struct3 hs hx
  rw [hC] at hlen
  match cs, hlen with
  | [c0, c1, c2], _ =>
    obtain ⟨o0, k0⟩ := hone_of hone 0 f0 rfl
    obtain ⟨o1, k1⟩ := hone_of hone 1 f1 rfl
    obtain ⟨o2, k2⟩ := hone_of hone 2 f2 rfl
    obtain ⟨z0, K0, W0⟩ := h0 (show DataW.trod enc P W 0 (fun _ => true) true n f0.type [c0] = some y0 by simpa [o0, k0] using e0)
    obtain ⟨z1, K1, W1⟩ := h1 (show DataW.trod enc P W 0 (fun _ => true) true n f1.type [c1] = some y1 by simpa [o1, k1] using e1)
    obtain ⟨z2, K2, W2⟩ := h2 (show DataW.trod enc P W 0 (fun _ => true) true n f2.type [c2] = some y2 by simpa [o2, k2] using e2)
    exact ⟨(z0, z1, z2), ⟨[c0], [c1, c2], rfl, K0, [c1], [c2], rfl, K1, K2⟩, W0, W1, W2⟩
theorem opens_iso {α β : Type} {P : Program} {t : TypeId} {d : Kd α} {wf : α → Prop} (h : Opens P t d wf) (f : β → α) (g : α → β) (hg : ∀ y, f (g y) = y) : Opens P t (Kd.iso d f) (fun s => wf (f s)) := by
  intro H enc W fuel cs x hx
  obtain ⟨y, hK, hw⟩ := h hx
  exact ⟨g y, show d.K W (f (g y)) cs by rw [hg]; exact hK, show wf (f (g y)) by rw [hg]; exact hw⟩
theorem sized_any {H : Type} {enc : TypeId × Value → H} {P : Program} {W : World} {base : Nat} {spare : Nat → Bool} {held : Bool} {t e : TypeId} {a : Option Addr} {len cap : Nat} {d : DataW H} {ps : List MemPlace} {ts : List TypeId} {ds : List (DataW H)} {j : Nat}
    (hsz : (DataW.weightsEach P ts ds).all (· ≤ reachBytes) = true) (ht : ts[j]? = some t) (hd : ds[j]? = some d) (hu : P.underlying t = some (.slice e)) {B : Nat} (hB : P.bytesOf e = B)
    (h : DataW.Trod enc P W base spare held t (.slice a len cap) d ps) : len * B ≤ 140737488351232 := by
  obtain ⟨fuel, hf⟩ := h
  rcases open_slice hu hf with ⟨hcs, _⟩ | ⟨x, l, c, m, n, D, Pl, hcs, _, hl, _, _, hx, _⟩
  · simp [Value.cells] at hcs
    obtain ⟨rfl, rfl, rfl⟩ := hcs
    simp
  · simp [Value.cells] at hcs
    obtain ⟨rfl, rfl, rfl⟩ := hcs
    obtain ⟨hx, _⟩ := Prod.mk.inj hx
    subst hx
    have z := sized_slice hsz ht hd hu
    rw [hB] at z
    refine Nat.le_trans (Nat.mul_le_mul_right _ ?_) z
    simp
theorem slice_at {α : Type} {P : Program} {W : World} {t e : TypeId} {d : Kd α} {wf : List α → Prop} {H : Type} {enc : TypeId × Value → H} {a : Option Addr} {len cap : Nat} {dd : DataW H} {ps : List MemPlace} (ho : Opens P t (Kd.slice e d) wf)
    (h : DataW.Trod enc P W 0 (fun _ => true) true t (.slice a len cap) dd ps) : ∃ l : List α, len = l.length ∧ l.length ≤ cap ∧ d.C W a l.length l ∧ wf l := by
  obtain ⟨fuel, hf⟩ := h
  obtain ⟨l, ⟨A, c, hcs, hl, hC⟩, hw⟩ := ho hf
  simp [Value.cells] at hcs
  obtain ⟨rfl, rfl, rfl⟩ := hcs
  exact ⟨l, rfl, hl, hC, hw⟩
section
variable {P : Program} {t : TypeId} {W : World} {H : Type} {enc : TypeId × Value → H} {r : Reach} {b0 : Nat} {v : Value} {d : DataW H} {p : List MemPlace}
end
end Go.Proofs.Ythekngnkajjhnaa.Open
namespace Go.Proofs.Ythekngnkajjhnaa.P
open Go.RowKit Go.Proofs.YthekngnkajjhnaaW.PrintWords Go.Proofs.YthekngnkajjhnaaW.PrintLast Go.Proofs.YthekngnkajjhnaaW.PrintMore
attribute [local go_sem] max2_int min2_int max_two min_two max_three min_three max_four min_four
set_option linter.unusedVariables false
set_option linter.unusedSimpArgs false
open Go.Proofs.Ythekngnkajjhnaa.Open
theorem opens79 : Opens Try.prog 79 k79 (fun x : S79 => (Lit.int .i64 x.f0).wf = true ∧ (Lit.int .i64 x.f1).wf = true ∧ (x.f2.length ≤ 9223372036854775807 ∧ ∀ z0 ∈ x.f2, (Lit.int .i64 z0).wf = true)) :=
  opens_iso (opens3 Try.underlying79 (by kernel_rfl) (by kernel_rfl) (opens_int Try.underlying3) (opens_int Try.underlying3) (opens_slice Try.underlying24 (by kernel_rfl) (opens_int Try.underlying3))) (fun x : S79 => (x.f0, x.f1, x.f2)) (fun y => (⟨y.1, y.2.1, y.2.2⟩ : S79)) (fun _ => rfl)
end Go.Proofs.Ythekngnkajjhnaa.P
namespace Go.Proofs.Ythekngnkajjhnaa.Pure
set_option linter.unusedVariables false
set_option linter.unusedSimpArgs false
open Go.RowKit Go.Proofs.YthekngnkajjhnaaW.PrintWords Go.Proofs.YthekngnkajjhnaaW.PrintLast Go.Proofs.YthekngnkajjhnaaW.PrintMore
theorem w64 {x : Int} (h0 : -9223372036854775808 ≤ x) (h1 : x ≤ 9223372036854775807) : wrap64 x = x := by
  unfold wrap64
  omega
theorem rd_nat (xs : List Int) (i : Nat) : rd xs (i : Int) = xs.getD i 0 := by simp [rd]
section
variable {α β : Type} {f g : Nat → Option α} {r : α}
theorem ev_some (r : α) : Ev (fun _ => some r) r := ⟨0, fun _ _ => rfl⟩
theorem ev_ifp {c : Prop} [Decidable c] (h : c) (k : Ev f r) : Ev (fun n => if c then f n else g n) r := Ev.congr (fun _ => if_pos h) k
theorem ev_ifn {c : Prop} [Decidable c] (h : ¬ c) (k : Ev g r) : Ev (fun n => if c then f n else g n) r := Ev.congr (fun _ => if_neg h) k
theorem ev_bind {F : Nat → α → Option β} {q : β} (h : Ev g r) (k : Ev (fun n => F n r) q) : Ev (fun n => (g n).bind (fun x => F n x)) q := by
  obtain ⟨K1, h1⟩ := h
  obtain ⟨K2, h2⟩ := k
  exact ⟨K1 + K2, fun n hn => by show (g n).bind (fun x => F n x) = some q; rw [h1 n (by omega)]; exact h2 n (by omega)⟩
theorem ev_const {a : Option α} (h : a = some r) : Ev (fun _ => a) r := ⟨0, fun _ _ => h⟩
theorem ev_step (h : ∀ k, g (k + 1) = f k) (k : Ev f r) : Ev g r := by
  obtain ⟨K, h1⟩ := k
  refine ⟨K + 1, fun n hn => ?_⟩
  obtain ⟨m, rfl⟩ : ∃ m, n = m + 1 := ⟨n - 1, by omega⟩
  rw [h m]
  exact h1 m (by omega)
end
def iter {σ : Type} (g : Nat → σ → σ) : Nat → Nat → σ → σ
  | _, 0, s => s
  | i, d + 1, s => iter g (i + 1) d (g i s)
theorem loop_ev {σ ρ : Type} (F : Nat → σ → Nat → Option ρ) (n : Nat) (g : Nat → σ → σ) (fin : σ → ρ) (I : Nat → σ → Prop)
    (hs : ∀ i s r, I i s → i < n → Ev (fun k => F k (g i s) (i + 1)) r → Ev (fun k => F k s i) r) (hI : ∀ i s, I i s → i < n → I (i + 1) (g i s))
    (he : ∀ s, I n s → Ev (fun k => F k s n) (fin s)) : ∀ i s, i ≤ n → I i s → Ev (fun k => F k s i) (fin (iter g i (n - i) s)) := by
  have key : ∀ d i s, n - i = d → i ≤ n → I i s → Ev (fun k => F k s i) (fin (iter g i d s)) := by
    intro d
    induction d with
    | zero =>
      intro i s h0 h1 h2
      obtain rfl : i = n := by omega
      exact he s h2
    | succ d ih =>
      intro i s h0 h1 h2
      exact hs i s _ h2 (by omega) (ih (i + 1) (g i s) (by omega) (by omega) (hI i s h2 (by omega)))
  exact fun i s h1 h2 => key (n - i) i s rfl h1 h2
theorem iter_inv {σ : Type} (g : Nat → σ → σ) (I : Nat → σ → Prop) (n : Nat) (hI : ∀ i s, I i s → i < n → I (i + 1) (g i s)) : ∀ d i s, i + d = n → I i s → I n (iter g i d s) := by
  intro d
  induction d with
  | zero => intro i s h0 h1; obtain rfl : i = n := by omega
            exact h1
  | succ d ih => intro i s h0 h1; exact ih (i + 1) _ (by omega) (hI i s h1 (by omega))
def rall (p : Nat → Bool) : Nat → Nat → Bool
  | _, 0 => true
  | i, d + 1 => p i && rall p (i + 1) d
theorem rall_iff (p : Nat → Bool) : ∀ d i, rall p i d = true ↔ ∀ j, i ≤ j → j < i + d → p j = true
  | 0, i => ⟨fun _ j h1 h2 => by omega, fun _ => rfl⟩
  | d + 1, i => by
    show (p i && rall p (i + 1) d) = true ↔ _
    rw [Bool.and_eq_true, rall_iff p d (i + 1)]
    constructor
    · rintro ⟨h0, h1⟩ j h2 h3
      by_cases e : j = i
      · rw [e]; exact h0
      · exact h1 j (by omega) (by omega)
    · intro h
      exact ⟨h i (Nat.le_refl _) (by omega), fun j h2 h3 => h j (by omega) (by omega)⟩
theorem all_ev {ρ : Type} (F : Nat → Nat → Option ρ) (n : Nat) (p : Nat → Bool) (no yes : ρ) (hs : ∀ i r, i < n → p i = true → Ev (fun k => F k (i + 1)) r → Ev (fun k => F k i) r)
    (hn : ∀ i, i < n → p i = false → Ev (fun k => F k i) no) (he : Ev (fun k => F k n) yes) :
    ∀ i, i ≤ n → Ev (fun k => F k i) (if rall p i (n - i) = true then yes else no) := by
  have key : ∀ d i, n - i = d → i ≤ n → Ev (fun k => F k i) (if rall p i d = true then yes else no) := by
    intro d
    induction d with
    | zero =>
      intro i h0 h1
      obtain rfl : i = n := by omega
      rw [show rall p i 0 = true from rfl, if_pos rfl]
      exact he
    | succ d ih =>
      intro i h0 h1
      have h := ih (i + 1) (by omega) (by omega)
      have e : rall p i (d + 1) = (p i && rall p (i + 1) d) := rfl
      cases hp : p i with
      | true =>
        rw [e, hp, Bool.true_and]
        exact hs i _ (by omega) hp h
      | false =>
        rw [e, hp, Bool.false_and, if_neg (by simp)]
        exact hn i (by omega) hp
  exact fun i h1 => key (n - i) i rfl h1
theorem allb_ev (F : Nat → Nat → Option Bool) (n : Nat) (p : Nat → Bool) (hs : ∀ i r, i < n → p i = true → Ev (fun k => F k (i + 1)) r → Ev (fun k => F k i) r)
    (hn : ∀ i, i < n → p i = false → Ev (fun k => F k i) false) (he : Ev (fun k => F k n) true) : Ev (fun k => F k 0) (rall p 0 n) := by
  have h := all_ev F n p false true hs hn he 0 (Nat.zero_le _)
  rw [Nat.sub_zero] at h
  cases e : rall p 0 n <;> simpa [e] using h
theorem getD_eq_get {α : Type} {xs : List α} {i : Nat} (z : α) (h : i < xs.length) : xs.getD i z = xs[i] := by simp [List.getD, List.getElem?_eq_getElem h]
theorem rall_list {α : Type} (xs : List α) (z : α) (p : α → Bool) : rall (fun j => p (xs.getD j z)) 0 xs.length = xs.all p := by
  rw [Bool.eq_iff_iff, rall_iff, List.all_eq_true]
  constructor
  · intro h x hx
    obtain ⟨i, hi, rfl⟩ := List.getElem_of_mem hx
    rw [← getD_eq_get z hi]
    exact h i (Nat.zero_le _) (by omega)
  · intro h j _ hj
    rw [getD_eq_get z (by omega)]
    exact h _ (List.getElem_mem (by omega))
theorem eq_index {α : Type} {xs ys : List α} (z : α) (h : xs.length = ys.length) (hh : ∀ j, j < xs.length → xs.getD j z = ys.getD j z) : xs = ys := by
  refine List.ext_getElem h (fun i h1 h2 => ?_)
  rw [← getD_eq_get z h1, ← getD_eq_get z h2]
  exact hh i h1
theorem rall_eq {α : Type} [DecidableEq α] {xs ys : List α} (z : α) (h : xs.length = ys.length) : rall (fun j => decide (xs.getD j z = ys.getD j z)) 0 xs.length = decide (xs = ys) := by
  rw [Bool.eq_iff_iff, rall_iff, decide_eq_true_eq]
  constructor
  · exact fun hh => eq_index z h (fun j hj => by simpa using hh j (Nat.zero_le _) (by omega))
  · rintro rfl j _ _
    simp
theorem copy_ev {α β : Type} (F : Nat → List β → Nat → Option (List β)) (xs : List α) (c : α → β) (z : α) (zb : β)
    (hs : ∀ i ys r, ys.length = xs.length → i < xs.length → Ev (fun k => F k (ys.set i (c (xs.getD i z))) (i + 1)) r → Ev (fun k => F k ys i) r)
    (he : ∀ ys, ys.length = xs.length → Ev (fun k => F k ys xs.length) ys) (ys0 : List β) (h0 : ys0.length = xs.length) : Ev (fun k => F k ys0 0) (xs.map c) := by
  have inv : ∀ i (s : List β), (s.length = xs.length ∧ ∀ j, j < i → s.getD j zb = (xs.map c).getD j zb) → i < xs.length → ((s.set i (c (xs.getD i z))).length = xs.length ∧ ∀ j, j < i + 1 → (s.set i (c (xs.getD i z))).getD j zb = (xs.map c).getD j zb) := by
    intro i s hI hi
    refine ⟨by simp [hI.1], fun j hj => ?_⟩
    by_cases e : j = i
    · subst e
      have := hI.1
      simp [List.getD, List.getElem?_set_self (show j < s.length by omega), List.getElem?_eq_getElem hi]
    · rw [← hI.2 j (by omega)]
      simp [List.getD, List.getElem?_set_ne (Ne.symm e)]
  have h := loop_ev F xs.length (fun i ys => ys.set i (c (xs.getD i z))) (fun ys => ys) (fun i s => s.length = xs.length ∧ ∀ j, j < i → s.getD j zb = (xs.map c).getD j zb)
    (fun i ys r hI hi h => hs i ys r hI.1 hi h) inv (fun ys hI => he ys hI.1) 0 ys0 (Nat.zero_le _) ⟨h0, fun j hj => by omega⟩
  have hi := iter_inv (fun i (ys : List β) => ys.set i (c (xs.getD i z))) (fun i s => s.length = xs.length ∧ ∀ j, j < i → s.getD j zb = (xs.map c).getD j zb) xs.length inv (xs.length - 0) 0 ys0 (by omega) ⟨h0, fun j hj => by omega⟩
  rw [eq_index zb (by rw [hi.1, List.length_map]) (fun j hj => hi.2 j (by have := hi.1; omega))] at h
  exact h
end Go.Proofs.Ythekngnkajjhnaa.Pure
namespace Go.Proofs.Ythekngnkajjhnaa.Pure
set_option linter.unusedVariables false
set_option linter.unusedSimpArgs false
open Go.RowKit Go.Proofs.Ythekngnkajjhnaa.P Go.Proofs.YthekngnkajjhnaaW.PrintWords Go.Proofs.YthekngnkajjhnaaW.PrintLast
def inb (x a b : Int) : Bool := decide (a ≤ x) && decide (x ≤ b)
theorem inb_iff {x a b : Int} : inb x a b = true ↔ a ≤ x ∧ x ≤ b := by simp [inb]
theorem l1In_is (x a b : Int) : spec_l1In.f x a b = some (inb x a b) := by
  unfold spec_l1In.f inb
  split
  · rename_i h; simp [show a ≤ x from h]
  · rename_i h; simp [show ¬ a ≤ x from h]
theorem within_is (x a b : Int) : impl_within.f x a b = some (inb x a b) := l1In_is x a b
end Go.Proofs.Ythekngnkajjhnaa.Pure
