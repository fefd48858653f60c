/- Texts of the claim FnExactRegionBorder, merged: part 4 of 4: the program's and the reference's functions as Lean functions, the walks that show it, and plain lemmas; no conditions. -/
import Derived.Test.YtehjhcnimfhdnaaKFnExactRegionBorder3
import Derived.Test.YtehjhcnimfhdnaaKFnExactRegionBorder2
import Derived.Test.YtehjhcnimfhdnaaRows
import Derived.WalkKit
import Derived.ProofKit
import Derived.OpenShut
import Derived.ShutString
import Derived.ChangeOld
import Derived.Below
import Derived.SizedLaws
namespace Go.Proofs.Ytehjhcnimfhdnaa.Pure
set_option linter.unusedVariables false
set_option linter.unusedSimpArgs false
open Go.RowKit Go.Proofs.Ytehjhcnimfhdnaa.P Go.Proofs.YtehjhcnimfhdnaaW.PrintWords Go.Proofs.YtehjhcnimfhdnaaW.PrintLast
theorem l1Has_ev (l : List Int) (x : Int) (hl : l.length ≤ 9223372036854775806) : Ev (fun k => spec_l1Has.f k l x) (decide (x ∈ l)) := by
  rw [mem_rall]
  have h := all_ev (fun k i => spec_l1Has.l0 k l x (i : Int)) l.length (fun i => decide (l.getD i 0 ≠ x)) true false
    (fun i r hi hp h => ev_step (fun k => by
      simp only [spec_l1Has.l0, rd_nat]
      rw [if_pos (by omega), if_pos (by omega), if_neg (by simpa using hp), w64 (by omega) (by omega)]
      rfl) h)
    (fun i hi hp => ev_step (f := fun _ => some true) (fun k => by
      simp only [spec_l1Has.l0, rd_nat]
      rw [if_pos (by omega), if_pos (by omega), if_pos (by simpa using hp)]) (ev_some _))
    (ev_step (f := fun _ => some false) (fun k => by
      simp only [spec_l1Has.l0]
      rw [if_neg (by omega)]) (ev_some _)) 0 (Nat.zero_le _)
  rw [Nat.sub_zero] at h
  cases e : rall (fun i => decide (l.getD i 0 ≠ x)) 0 l.length with
  | true => rw [e] at h; exact h
  | false => rw [e] at h; exact h
theorem contains_is (l : List Int) (x : Int) (hl : l.length ≤ 9223372036854775806) : Ev (fun k => slices_Contains_int_int.f k l x) (decide (x ∈ l)) := by
  have h := find_ev (fun k i => slices_Index_int_int.l0 k l x (l.length : Int) (i : Int)) l.length (fun i => decide (l.getD i 0 = x))
    (fun i r hi hp h => ev_step (fun k => by
      simp only [slices_Index_int_int.l0, rd_nat]
      rw [if_pos (by omega), if_pos (by omega), if_pos (by omega), if_neg (by intro e; rw [← e] at hp; simp at hp), w64 (by omega) (by omega)]
      rfl) h)
    (fun i hi hp => ev_step (f := fun _ => some (i : Int)) (fun k => by
      simp only [slices_Index_int_int.l0, rd_nat]
      rw [if_pos (by omega), if_pos (by omega), if_pos (by omega), if_pos (by have := of_decide_eq_true hp; exact this.symm)]) (ev_some _))
    (ev_step (f := fun _ => some (-1)) (fun k => by
      simp only [slices_Index_int_int.l0]
      rw [if_neg (by omega)]) (ev_some _))
  have e : decide (x ∈ l) = decide (fidx (fun i => decide (l.getD i 0 = x)) 0 l.length ≥ 0) := by
    rw [fidx_nonneg, mem_rall]
    congr 1
    exact rall_congr _ _ (fun j _ _ => by simp)
  rw [e]
  exact ev_bind h (ev_some _)
def inR (W : Int) (l : List Int) (x y : Int) : Bool := decide (0 ≤ x) && (decide (x < W) && (decide (0 ≤ y) && decide (y * W + x ∈ l)))
def one0 (b : Bool) : Nat := if b then 0 else 1
section
variable {W H : Int} {l : List Int} (a1 : 1 ≤ W) (a8 : W ≤ 8) (b1 : 1 ≤ H) (b8 : H ≤ 8) (hl : l.length ≤ 1048576) (hr : ∀ x ∈ l, 0 ≤ x ∧ x < W * H)
include a1 a8 hl
omit hl in
theorem prodW {y : Int} (h0 : -100 ≤ y) (h1 : y ≤ 100) : -1000 ≤ y * W ∧ y * W ≤ 1000 := by
  obtain h | h | h | h | h | h | h | h : W = 1 ∨ W = 2 ∨ W = 3 ∨ W = 4 ∨ W = 5 ∨ W = 6 ∨ W = 7 ∨ W = 8 := by omega
  all_goals subst h; omega
theorem in_ev (x y : Int) (x0 : -100 ≤ x) (x1 : x ≤ 100) (y0 : -100 ≤ y) (y1 : y ≤ 100) : Ev (fun k => impl_sidesOf_1.f k x y W l) (inR W l x y) := by
  have p := prodW a1 a8 y0 y1
  unfold impl_sidesOf_1.f inR
  by_cases h1 : x ≥ 0
  · by_cases h2 : x < W
    · by_cases h3 : y ≥ 0
      · rw [decide_eq_true (show 0 ≤ x from h1), decide_eq_true h2, decide_eq_true (show 0 ≤ y from h3), Bool.true_and, Bool.true_and, Bool.true_and]
        refine ev_ifp h1 (ev_ifp h2 (ev_ifp h3 ?_))
        rw [w64 (x := y * W) (by omega) (by omega), w64 (by omega) (by omega)]
        exact ev_bind (contains_is l _ (by omega)) (ev_some _)
      · rw [decide_eq_false (show ¬ 0 ≤ y from h3), Bool.false_and, Bool.and_false, Bool.and_false]
        exact ev_ifp h1 (ev_ifp h2 (ev_ifn h3 (ev_some _)))
    · rw [decide_eq_false h2, Bool.false_and, Bool.and_false]
      exact ev_ifp h1 (ev_ifn h2 (ev_some _))
  · rw [decide_eq_false (show ¬ 0 ≤ x from h1), Bool.false_and]
    exact ev_ifn h1 (ev_some _)
include b1 b8 hr
theorem has_ev (x y : Int) (x0 : -100 ≤ x) (x1 : x ≤ 100) (y0 : -100 ≤ y) (y1 : y ≤ 100) : Ev (fun k => spec_l8Has.f k W H l x y) (inR W l x y) := by
  have p := prodW a1 a8 y0 y1
  unfold spec_l8Has.f
  rw [w64 (x := W - 1) (by omega) (by omega), w64 (x := H - 1) (by omega) (by omega), l1In_is, l1In_is]
  by_cases hx : inb x 0 (W - 1) = true
  · have hx2 := inb_iff.1 hx
    have ei : inR W l x y = (decide (0 ≤ y) && decide (y * W + x ∈ l)) := by
      unfold inR
      rw [decide_eq_true (show 0 ≤ x by omega), decide_eq_true (show x < W by omega), Bool.true_and, Bool.true_and]
    rw [ei]
    refine ev_bind (ev_some _) (ev_ifp hx (ev_bind (ev_some _) ?_))
    by_cases hy : inb y 0 (H - 1) = true
    · have hy2 := inb_iff.1 hy
      rw [decide_eq_true (show 0 ≤ y by omega), Bool.true_and]
      refine ev_ifp hy ?_
      rw [w64 (x := y * W) (by omega) (by omega), w64 (by omega) (by omega)]
      exact ev_bind (l1Has_ev l _ (by omega)) (ev_some _)
    · have no : (decide (0 ≤ y) && decide (y * W + x ∈ l)) = false := by
        by_cases h0 : 0 ≤ y
        · have hyH : H ≤ y := by
            rcases Int.lt_or_le y H with h | h
            · exact absurd (inb_iff.2 ⟨h0, by omega⟩) hy
            · exact h
          have hm : W * H ≤ y * W := by rw [Int.mul_comm W H]; exact Int.mul_le_mul_of_nonneg_right hyH (by omega)
          rw [decide_eq_false (p := y * W + x ∈ l) (fun hmem => by have := hr _ hmem; omega), Bool.and_false]
        · rw [decide_eq_false h0, Bool.false_and]
      rw [no]
      exact ev_ifn hy (ev_some _)
  · have no : inR W l x y = false := by
      unfold inR
      by_cases h0 : 0 ≤ x
      · rw [decide_eq_false (p := x < W) (fun h => hx (inb_iff.2 ⟨h0, by omega⟩)), Bool.false_and, Bool.and_false]
      · rw [decide_eq_false h0, Bool.false_and]
    rw [no]
    exact ev_bind (ev_some _) (ev_ifn hx (ev_some _))
omit b1 b8 hr in
def sidesAt (W : Int) (l : List Int) (x y : Int) : Nat := one0 (inR W l x (y - 1)) + (one0 (inR W l (x + 1) y) + (one0 (inR W l x (y + 1)) + one0 (inR W l (x - 1) y)))
omit b1 b8 hr in
def sidesFrom (W : Int) (l : List Int) : Nat → Nat → Nat
  | _, 0 => 0
  | i, d + 1 => sidesAt W l (Int.tmod (l.getD i 0) W) (Int.tdiv (l.getD i 0) W) + sidesFrom W l (i + 1) d
omit hl in
theorem cell_bd {i : Nat} (hi : i < l.length) : 0 ≤ Int.tmod (l.getD i 0) W ∧ Int.tmod (l.getD i 0) W < 8 ∧ 0 ≤ Int.tdiv (l.getD i 0) W ∧ Int.tdiv (l.getD i 0) W ≤ 64 := by
  have hm := hr (l.getD i 0) (by rw [getD_eq_get _ hi]; exact List.getElem_mem hi)
  have hp := mul_bd a1 a8 b1 b8
  have e1 := Int.emod_nonneg (l.getD i 0) (show W ≠ 0 by omega)
  have e2 := Int.emod_lt_of_pos (l.getD i 0) (show 0 < W by omega)
  have e3 := Int.ediv_nonneg hm.1 (show 0 ≤ W by omega)
  have e4 := Int.ediv_le_self W hm.1
  rw [Int.tmod_eq_emod_of_nonneg hm.1, Int.tdiv_eq_ediv_of_nonneg hm.1]
  omega
theorem sides_impl : ∀ (d i : Nat) (T : List S44), i + d = l.length → T.length ≤ 4 * i → ∃ r, Ev (fun k => impl_sidesOf.l0 k T l (l.length : Int) (i : Int) W l) r ∧ r.length = T.length + sidesFrom W l i d
  | 0, i, T, h0, hT => ⟨T, ev_step (fun k => impl_sidesOf.l0.eq_2 _ _ _ _ _ _ k) (ev_ifn (by omega) (ev_some _)), rfl⟩
  | d + 1, i, T, h0, hT => by
    have hi : i < l.length := by omega
    obtain ⟨c1, c2, c3, c4⟩ := cell_bd a1 a8 b1 b8 hr hi
    have e3 := Aside0.mk (show wrap64 ((i : Int) + 1) = ((i + 1 : Nat) : Int) by rw [w64 (by omega) (by omega)]; rfl)
    have es : sidesFrom W l i (d + 1) = sidesAt W l (Int.tmod (l.getD i 0) W) (Int.tdiv (l.getD i 0) W) + sidesFrom W l (i + 1) d := rfl
    rw [es]
    generalize ex : Int.tmod (l.getD i 0) W = x at *
    generalize ey : Int.tdiv (l.getD i 0) W = y at *
    have g0 := in_ev a1 a8 hl x (y - 1) (by omega) (by omega) (by omega) (by omega)
    have g1 := in_ev a1 a8 hl (x + 1) y (by omega) (by omega) (by omega) (by omega)
    have g2 := in_ev a1 a8 hl x (y + 1) (by omega) (by omega) (by omega) (by omega)
    have g3 := in_ev a1 a8 hl (x - 1) y (by omega) (by omega) (by omega) (by omega)
    have w1 := Aside0.mk (show wrap64 y = y from w64 (by omega) (by omega))
    have w2 := Aside0.mk (show wrap64 (y - 1) = y - 1 from w64 (by omega) (by omega))
    have w3 := Aside0.mk (show wrap64 (x + 1) = x + 1 from w64 (by omega) (by omega))
    have w4 := Aside0.mk (show wrap64 (y + 1) = y + 1 from w64 (by omega) (by omega))
    have w5 := Aside0.mk (show wrap64 (x - 1) = x - 1 from w64 (by omega) (by omega))
    unfold sidesAt
    generalize inR W l x (y - 1) = p0 at *
    generalize inR W l (x + 1) y = p1 at *
    generalize inR W l x (y + 1) = p2 at *
    generalize inR W l (x - 1) y = p3 at *
    have s4 : ∀ U : List S44, U.length ≤ 4 * (i + 1) → ∃ r, Ev (fun k => impl_sidesOf.l1 k U (l.getD i 0) l (l.length : Int) (i : Int) 4 W l x y (x + 1) y (x + 1) (y + 1) x (y + 1) p0 p1 p2 p3) r ∧ r.length = U.length + sidesFrom W l (i + 1) d := fun U hU => by
      obtain ⟨r, hr1, hr2⟩ := sides_impl d (i + 1) U (by omega) hU
      refine ⟨r, ev_step (fun k => impl_sidesOf.l1.eq_2 _ _ _ _ _ _ _ _ _ _ _ _ _ _ _ _ _ _ _ _ k) (ev_ifn (by omega) ?_), hr2⟩
      rw [e3.out]
      exact hr1
    have s3 : ∀ U : List S44, U.length ≤ 4 * i + 3 → ∃ r, Ev (fun k => impl_sidesOf.l1 k U (l.getD i 0) l (l.length : Int) (i : Int) 3 W l x y (x + 1) y (x + 1) (y + 1) x (y + 1) p0 p1 p2 p3) r ∧ r.length = U.length + (one0 p3 + sidesFrom W l (i + 1) d) := fun U hU => by
      cases hp : p3 with
      | true =>
        rw [hp] at s4
        obtain ⟨r, hr1, hr2⟩ := s4 U (by omega)
        exact ⟨r, ev_step (fun k => impl_sidesOf.l1.eq_2 _ _ _ _ _ _ _ _ _ _ _ _ _ _ _ _ _ _ _ _ k) (ev_ifp (by omega) (ev_ifn (by omega) (ev_ifn (by omega) (ev_ifn (by omega) (ev_ifp rfl (ev_ifp rfl hr1)))))), by rw [hr2]; unfold one0; simp⟩
      | false =>
        rw [hp] at s4
        obtain ⟨r, hr1, hr2⟩ := s4 (U ++ [(⟨l.getD i 0, ⟨x, y + 1⟩, ⟨x, y⟩⟩ : S44)]) (by rw [List.length_append, List.length_singleton]; omega)
        exact ⟨r, ev_step (fun k => impl_sidesOf.l1.eq_2 _ _ _ _ _ _ _ _ _ _ _ _ _ _ _ _ _ _ _ _ k) (ev_ifp (by omega) (ev_ifn (by omega) (ev_ifn (by omega) (ev_ifn (by omega) (ev_ifp rfl (ev_ifn (by simp) (ev_ifp (by omega) hr1))))))), by rw [hr2, List.length_append, List.length_singleton]; unfold one0; simp; omega⟩
    have s2 : ∀ U : List S44, U.length ≤ 4 * i + 2 → ∃ r, Ev (fun k => impl_sidesOf.l1 k U (l.getD i 0) l (l.length : Int) (i : Int) 2 W l x y (x + 1) y (x + 1) (y + 1) x (y + 1) p0 p1 p2 p3) r ∧ r.length = U.length + (one0 p2 + (one0 p3 + sidesFrom W l (i + 1) d)) := fun U hU => by
      cases hp : p2 with
      | true =>
        rw [hp] at s3
        obtain ⟨r, hr1, hr2⟩ := s3 U (by omega)
        exact ⟨r, ev_step (fun k => impl_sidesOf.l1.eq_2 _ _ _ _ _ _ _ _ _ _ _ _ _ _ _ _ _ _ _ _ k) (ev_ifp (by omega) (ev_ifn (by omega) (ev_ifn (by omega) (ev_ifp rfl (ev_ifp rfl hr1))))), by rw [hr2]; simp [one0]⟩
      | false =>
        rw [hp] at s3
        obtain ⟨r, hr1, hr2⟩ := s3 (U ++ [(⟨l.getD i 0, ⟨x + 1, y + 1⟩, ⟨x, y + 1⟩⟩ : S44)]) (by rw [List.length_append, List.length_singleton]; omega)
        exact ⟨r, ev_step (fun k => impl_sidesOf.l1.eq_2 _ _ _ _ _ _ _ _ _ _ _ _ _ _ _ _ _ _ _ _ k) (ev_ifp (by omega) (ev_ifn (by omega) (ev_ifn (by omega) (ev_ifp rfl (ev_ifn (by simp) (ev_ifp (by omega) hr1)))))), by rw [hr2, List.length_append, List.length_singleton]; simp [one0]; omega⟩
    have s1 : ∀ U : List S44, U.length ≤ 4 * i + 1 → ∃ r, Ev (fun k => impl_sidesOf.l1 k U (l.getD i 0) l (l.length : Int) (i : Int) 1 W l x y (x + 1) y (x + 1) (y + 1) x (y + 1) p0 p1 p2 p3) r ∧ r.length = U.length + (one0 p1 + (one0 p2 + (one0 p3 + sidesFrom W l (i + 1) d))) := fun U hU => by
      cases hp : p1 with
      | true =>
        rw [hp] at s2
        obtain ⟨r, hr1, hr2⟩ := s2 U (by omega)
        exact ⟨r, ev_step (fun k => impl_sidesOf.l1.eq_2 _ _ _ _ _ _ _ _ _ _ _ _ _ _ _ _ _ _ _ _ k) (ev_ifp (by omega) (ev_ifn (by omega) (ev_ifp rfl (ev_ifp rfl hr1)))), by rw [hr2]; simp [one0]⟩
      | false =>
        rw [hp] at s2
        obtain ⟨r, hr1, hr2⟩ := s2 (U ++ [(⟨l.getD i 0, ⟨x + 1, y⟩, ⟨x + 1, y + 1⟩⟩ : S44)]) (by rw [List.length_append, List.length_singleton]; omega)
        exact ⟨r, ev_step (fun k => impl_sidesOf.l1.eq_2 _ _ _ _ _ _ _ _ _ _ _ _ _ _ _ _ _ _ _ _ k) (ev_ifp (by omega) (ev_ifn (by omega) (ev_ifp rfl (ev_ifn (by simp) (ev_ifp (by omega) hr1))))), by rw [hr2, List.length_append, List.length_singleton]; simp [one0]; omega⟩
    have s0 : ∃ r, Ev (fun k => impl_sidesOf.l1 k T (l.getD i 0) l (l.length : Int) (i : Int) 0 W l x y (x + 1) y (x + 1) (y + 1) x (y + 1) p0 p1 p2 p3) r ∧ r.length = T.length + (one0 p0 + (one0 p1 + (one0 p2 + (one0 p3 + sidesFrom W l (i + 1) d)))) := by
      cases hp : p0 with
      | true =>
        rw [hp] at s1
        obtain ⟨r, hr1, hr2⟩ := s1 T (by omega)
        exact ⟨r, ev_step (fun k => impl_sidesOf.l1.eq_2 _ _ _ _ _ _ _ _ _ _ _ _ _ _ _ _ _ _ _ _ k) (ev_ifp (by omega) (ev_ifp rfl (ev_ifp rfl hr1))), by rw [hr2]; simp [one0]⟩
      | false =>
        rw [hp] at s1
        obtain ⟨r, hr1, hr2⟩ := s1 (T ++ [(⟨l.getD i 0, ⟨x, y⟩, ⟨x + 1, y⟩⟩ : S44)]) (by rw [List.length_append, List.length_singleton]; omega)
        exact ⟨r, ev_step (fun k => impl_sidesOf.l1.eq_2 _ _ _ _ _ _ _ _ _ _ _ _ _ _ _ _ _ _ _ _ k) (ev_ifp (by omega) (ev_ifp rfl (ev_ifn (by simp) (ev_ifp (by omega) hr1)))), by rw [hr2, List.length_append, List.length_singleton]; simp [one0]; omega⟩
    obtain ⟨r, hr1, hr2⟩ := s0
    refine ⟨r, ev_step (fun k => impl_sidesOf.l0.eq_2 _ _ _ _ _ _ k) (ev_ifp (by omega) (ev_ifp (by omega) (ev_ifp (by omega) (ev_ifn (by omega) ?_)))), by rw [hr2]; omega⟩
    rw [rd_nat, ex, ey, w1.out, w2.out, w3.out, w4.out, w5.out]
    exact ev_bind g0 (ev_bind g1 (ev_bind g2 (ev_bind g3 hr1)))
theorem sides_spec : ∀ (d i : Nat) (T : List S36), i + d = l.length → T.length ≤ 4 * i → ∃ r, Ev (fun k => spec_l8Sides.l0 k W H l T (i : Int)) r ∧ r.length = T.length + sidesFrom W l i d
  | 0, i, T, h0, hT => ⟨T, ev_step (fun k => spec_l8Sides.l0.eq_2 _ _ _ _ _ k) (ev_ifn (by omega) (ev_some _)), rfl⟩
  | d + 1, i, T, h0, hT => by
    have hi : i < l.length := by omega
    obtain ⟨c1, c2, c3, c4⟩ := cell_bd a1 a8 b1 b8 hr hi
    have e3 := Aside0.mk (show wrap64 ((i : Int) + 1) = ((i + 1 : Nat) : Int) by rw [w64 (by omega) (by omega)]; rfl)
    have es : sidesFrom W l i (d + 1) = sidesAt W l (Int.tmod (l.getD i 0) W) (Int.tdiv (l.getD i 0) W) + sidesFrom W l (i + 1) d := rfl
    rw [es]
    generalize ex : Int.tmod (l.getD i 0) W = x at *
    generalize ey : Int.tdiv (l.getD i 0) W = y at *
    have g0 := has_ev a1 a8 b1 b8 hl hr x (y - 1) (by omega) (by omega) (by omega) (by omega)
    have g1 := has_ev a1 a8 b1 b8 hl hr (x + 1) y (by omega) (by omega) (by omega) (by omega)
    have g2 := has_ev a1 a8 b1 b8 hl hr x (y + 1) (by omega) (by omega) (by omega) (by omega)
    have g3 := has_ev a1 a8 b1 b8 hl hr (x - 1) y (by omega) (by omega) (by omega) (by omega)
    have w1 := Aside0.mk (show wrap64 y = y from w64 (by omega) (by omega))
    have w2 := Aside0.mk (show wrap64 (y - 1) = y - 1 from w64 (by omega) (by omega))
    have w3 := Aside0.mk (show wrap64 (x + 1) = x + 1 from w64 (by omega) (by omega))
    have w4 := Aside0.mk (show wrap64 (y + 1) = y + 1 from w64 (by omega) (by omega))
    have w5 := Aside0.mk (show wrap64 (x - 1) = x - 1 from w64 (by omega) (by omega))
    unfold sidesAt
    generalize inR W l x (y - 1) = p0 at *
    generalize inR W l (x + 1) y = p1 at *
    generalize inR W l x (y + 1) = p2 at *
    generalize inR W l (x - 1) y = p3 at *
    have s2 : ∀ U : List S36, U.length ≤ 4 * i + 2 → ∃ r, Ev (fun k => spec_l8Sides.j2 k W H l U (i : Int) x y) r ∧ r.length = U.length + (one0 p2 + (one0 p3 + sidesFrom W l (i + 1) d)) := fun U hU => by
      have s3 : ∀ V : List S36, V.length ≤ 4 * i + 3 → ∃ r, Ev (fun k => (spec_l8Has.f k W H l (x - 1) y).bind fun t => if t = true then spec_l8Sides.l0 k W H l V ((i + 1 : Nat) : Int) else if V.length < 5864062014805 then spec_l8Sides.l0 k W H l (V ++ [(⟨x, y + 1, 3⟩ : S36)]) ((i + 1 : Nat) : Int) else none) r ∧ r.length = V.length + (one0 p3 + sidesFrom W l (i + 1) d) := fun V hV => by
        cases hp : p3 with
        | true =>
          rw [hp] at g3
          obtain ⟨r, hr1, hr2⟩ := sides_spec d (i + 1) V (by omega) (by omega)
          exact ⟨r, ev_bind g3 (ev_ifp rfl hr1), by rw [hr2]; simp [one0]⟩
        | false =>
          rw [hp] at g3
          obtain ⟨r, hr1, hr2⟩ := sides_spec d (i + 1) (V ++ [(⟨x, y + 1, 3⟩ : S36)]) (by omega) (by rw [List.length_append, List.length_singleton]; omega)
          exact ⟨r, ev_bind g3 (ev_ifn (by simp) (ev_ifp (by omega) hr1)), by rw [hr2, List.length_append, List.length_singleton]; simp [one0]; omega⟩
      cases hp : p2 with
      | true =>
        rw [hp] at g2
        obtain ⟨r, hr1, hr2⟩ := s3 U (by omega)
        refine ⟨r, ev_step (fun k => spec_l8Sides.j2.eq_2 _ _ _ _ _ _ _ k) ?_, by rw [hr2]; simp [one0]⟩
        rw [w3.out, w4.out, w5.out, e3.out]
        exact ev_bind g2 (ev_ifp rfl hr1)
      | false =>
        rw [hp] at g2
        obtain ⟨r, hr1, hr2⟩ := s3 (U ++ [(⟨x + 1, y + 1, 2⟩ : S36)]) (by rw [List.length_append, List.length_singleton]; omega)
        refine ⟨r, ev_step (fun k => spec_l8Sides.j2.eq_2 _ _ _ _ _ _ _ k) ?_, by rw [hr2, List.length_append, List.length_singleton]; simp [one0]; omega⟩
        rw [w3.out, w4.out, w5.out, e3.out]
        exact ev_bind g2 (ev_ifn (by simp) (ev_ifp (by omega) (ev_bind (ev_some _) hr1)))
    have s1 : ∀ U : List S36, U.length ≤ 4 * i + 1 → ∃ r, Ev (fun k => spec_l8Sides.j1 k W H l U (i : Int) x y) r ∧ r.length = U.length + (one0 p1 + (one0 p2 + (one0 p3 + sidesFrom W l (i + 1) d))) := fun U hU => by
      cases hp : p1 with
      | true =>
        rw [hp] at g1
        obtain ⟨r, hr1, hr2⟩ := s2 U (by omega)
        refine ⟨r, ev_step (fun k => spec_l8Sides.j1.eq_2 _ _ _ _ _ _ _ k) ?_, by rw [hr2]; simp [one0]⟩
        rw [w3.out]
        exact ev_bind g1 (ev_ifp rfl hr1)
      | false =>
        rw [hp] at g1
        obtain ⟨r, hr1, hr2⟩ := s2 (U ++ [(⟨x + 1, y, 1⟩ : S36)]) (by rw [List.length_append, List.length_singleton]; omega)
        refine ⟨r, ev_step (fun k => spec_l8Sides.j1.eq_2 _ _ _ _ _ _ _ k) ?_, by rw [hr2, List.length_append, List.length_singleton]; simp [one0]; omega⟩
        rw [w3.out]
        exact ev_bind g1 (ev_ifn (by simp) (ev_ifp (by omega) hr1))
    cases hp : p0 with
    | true =>
      rw [hp] at g0
      obtain ⟨r, hr1, hr2⟩ := s1 T (by omega)
      refine ⟨r, ev_step (fun k => spec_l8Sides.l0.eq_2 _ _ _ _ _ k) (ev_ifp (by omega) (ev_ifp (by omega) (ev_ifn (by omega) ?_))), by rw [hr2]; simp [one0]; omega⟩
      rw [rd_nat, ex, ey, w1.out, w2.out]
      exact ev_bind g0 (ev_ifp rfl hr1)
    | false =>
      rw [hp] at g0
      obtain ⟨r, hr1, hr2⟩ := s1 (T ++ [(⟨x, y, 0⟩ : S36)]) (by rw [List.length_append, List.length_singleton]; omega)
      refine ⟨r, ev_step (fun k => spec_l8Sides.l0.eq_2 _ _ _ _ _ k) (ev_ifp (by omega) (ev_ifp (by omega) (ev_ifn (by omega) ?_))), by rw [hr2, List.length_append, List.length_singleton]; simp [one0]; omega⟩
      rw [rd_nat, ex, ey, w1.out, w2.out]
      exact ev_bind g0 (ev_ifn (by simp) (ev_ifp (by omega) hr1))
end
theorem regionBorder_both (a b : Int) (l : List Int) (hl : l.length ≤ 1048576) : ∃ r : Int × Bool, Ev (fun k => spec_RegionBorder.f k a b l) r ∧ Ev (fun k => impl_RegionBorder.f k a b l) r := by
  have g1 := l8Region_ev a b l (by omega)
  have g2 := isRegion_ev a b l (by omega)
  unfold spec_RegionBorder.f impl_RegionBorder.f
  cases ok : regionOk a b l with
  | false =>
    rw [ok] at g1 g2
    exact ⟨(0, false), ev_bind g1 (ev_ifn (by simp) (ev_some _)), ev_bind g2 (ev_ifn (by simp) (ev_some _))⟩
  | true =>
    rw [ok] at g1 g2
    unfold regionOk at ok
    obtain ⟨hs, hok⟩ := Bool.and_eq_true_iff.1 ok
    obtain ⟨_, hin⟩ := Bool.and_eq_true_iff.1 hok
    rw [rall_iff] at hin
    obtain ⟨⟨a1, a8⟩, b1, b8⟩ := shape_iff.1 hs
    have hr : ∀ x ∈ l, 0 ≤ x ∧ x < a * b := fun x hx => by
      obtain ⟨i, hi, rfl⟩ := List.getElem_of_mem hx
      have := inb_iff.1 (hin i (Nat.zero_le _) (by omega))
      rw [getD_eq_get _ hi] at this
      omega
    obtain ⟨r1, h1, e1⟩ := sides_spec a1 a8 b1 b8 hl hr l.length 0 [] (by omega) (by simp)
    obtain ⟨r2, h2, e2⟩ := sides_impl a1 a8 b1 b8 hl hr l.length 0 [] (by omega) (by simp)
    have el : r1.length = r2.length := by rw [e1, e2]; rfl
    refine ⟨((r1.length : Int), true), ev_bind g1 (ev_ifp rfl (ev_bind ?_ (ev_some _))), ev_bind g2 (ev_ifp rfl (ev_bind (r := r2) ?_ ?_))⟩
    · unfold spec_l8Sides.f
      exact h1
    · unfold impl_sidesOf.f
      exact h2
    · rw [el]
      exact ev_some _
theorem toIntS_ev (xs : List Int) (hm : xs.length ≤ 35184372088832) : Ev (fun k => laws_toIntS.f k xs) xs := by
  have h := loop_ev (fun k ys i => laws_toIntS.l0 k xs ys (i : Int)) xs.length (fun i ys => ys.set i (xs.getD i 0)) (fun ys => ys)
    (fun i ys => ys.length = xs.length ∧ ∀ j, j < i → ys.getD j 0 = xs.getD j 0)
    (fun i ys r hI hi h => ev_step (fun k => by
      show laws_toIntS.l0 (k + 1) xs ys (i : Int) = laws_toIntS.l0 k xs (ys.set i (xs.getD i 0)) ((i + 1 : Nat) : Int)
      have hl := hI.1
      simp only [laws_toIntS.l0]
      rw [if_pos (by omega), if_pos (by omega), if_pos (by omega), w64 (by omega) (by omega), rd_nat]
      simp) h)
    (fun i ys hI hi => ⟨by simp [hI.1], fun j hj => by
      by_cases e : j = i
      · subst e
        have := hI.1
        simp [List.getD, List.getElem?_set_self (show j < ys.length by omega)]
      · have := hI.2 j (by omega)
        rw [← this]
        simp [List.getD, List.getElem?_set_ne (Ne.symm e)]⟩)
    (fun ys hI => ev_step (f := fun _ => some ys) (fun k => by
      simp only [laws_toIntS.l0]
      rw [if_neg (by omega)]) (ev_some _)) 0 (List.replicate xs.length 0) (Nat.zero_le _) ⟨by simp, fun j hj => by omega⟩
  have e : iter (fun i (ys : List Int) => ys.set i (xs.getD i 0)) 0 (xs.length - 0) (List.replicate xs.length 0) = xs := by
    have hi := iter_inv (fun i (ys : List Int) => ys.set i (xs.getD i 0)) (fun i ys => ys.length = xs.length ∧ ∀ j, j < i → ys.getD j 0 = xs.getD j 0) xs.length
      (fun i ys hI hi => ⟨by simp [hI.1], fun j hj => by
        by_cases e : j = i
        · subst e
          have := hI.1
          simp [List.getD, List.getElem?_set_self (show j < ys.length by omega)]
        · have := hI.2 j (by omega)
          rw [← this]
          simp [List.getD, List.getElem?_set_ne (Ne.symm e)]⟩) (xs.length - 0) 0 (List.replicate xs.length 0) (by omega) ⟨by simp, fun j hj => by omega⟩
    exact eq_index 0 hi.1 (fun j hj => hi.2 j (by have := hi.1; omega))
  rw [e] at h
  refine Ev.congr (fun k => ?_) h
  unfold laws_toIntS.f
  rw [if_pos (by omega), if_pos (by omega)]
  simp
theorem eqIntS_ev (xs ys : List Int) (hm : xs.length ≤ 9223372036854775806) : Ev (fun k => laws_eqIntS.f k xs ys) (decide (xs = ys)) := by
  by_cases hl : xs.length = ys.length
  · have h := allb_ev (fun k i => laws_eqIntS.l0 k xs ys (i : Int)) xs.length (fun i => decide (xs.getD i 0 = ys.getD i 0))
      (fun i r hi hp h => ev_step (fun k => by
        simp only [laws_eqIntS.l0]
        rw [if_pos (by omega), if_pos (by omega), if_pos (by omega), rd_nat, rd_nat, if_pos (by simpa using hp), w64 (by omega) (by omega)]
        rfl) h)
      (fun i hi hp => ev_step (f := fun _ => some false) (fun k => by
        simp only [laws_eqIntS.l0]
        rw [if_pos (by omega), if_pos (by omega), if_pos (by omega), rd_nat, rd_nat, if_neg (by simpa using hp)]) (ev_some _))
      (ev_step (f := fun _ => some true) (fun k => by
        simp only [laws_eqIntS.l0]
        rw [if_neg (by omega)]) (ev_some _))
    rw [rall_eq 0 hl] at h
    refine Ev.congr (fun k => ?_) h
    unfold laws_eqIntS.f
    rw [if_pos (by omega)]
    rfl
  · refine Ev.congr (f := fun _ => some false) (fun k => ?_) (by rw [decide_eq_false (fun e => hl (by rw [e]))]; exact ev_some _)
    unfold laws_eqIntS.f
    rw [if_neg (by omega)]
theorem eqIntS_self (xs : List Int) (hm : xs.length ≤ 9223372036854775806) : Ev (fun k => laws_eqIntS.f k xs xs) true := by
  have := eqIntS_ev xs xs hm
  simpa using this
theorem FnExactRegionBorder : laws_FnExactRegionBorder.Pure := by
  intro a b l ha hb hl hy
  refine Ev.rounds ?_
  unfold laws_FnExactRegionBorder.f
  by_cases hlen0 : (l.length : Int) > 1048576
  · exact ev_ifp hlen0 (ev_some _)
  refine ev_ifn hlen0 ?_
  obtain ⟨⟨r, g⟩, hs, hi⟩ := regionBorder_both a b l (by omega)
  refine ev_bind (toIntS_ev _ (by omega)) (ev_bind hs (ev_bind (toIntS_ev _ (by omega)) (ev_bind hi (ev_ifp rfl ?_))))
  refine ev_step (fun k => laws_FnExactRegionBorder.j0.eq_2 _ _ _ k) (ev_ifn (by simp) ?_)
  exact ev_bind (toIntS_ev _ (by omega)) (ev_bind (eqIntS_self _ (by omega)) (ev_ifp rfl (ev_some _)))
end Go.Proofs.Ytehjhcnimfhdnaa.Pure
namespace Go.Proofs.Ytehjhcnimfhdnaa.fnExactRegionBorder
open Go.ChangeShapes Go.WideShapes Go.ChangeAt Go.RowKit Go.Proofs.Ytehjhcnimfhdnaa.Open Go.Proofs.Ytehjhcnimfhdnaa.P Go.Proofs.YtehjhcnimfhdnaaW.PrintWords
open Go.ChangeMaps (open_string shut_string)
set_option linter.unusedVariables false
theorem own : ownKnob Try.prog.godebug = none := by kernel_rfl
theorem laidOut : laidOutB Try.prog = true := by kernel_rfl
set_option maxRecDepth 100000 in
theorem lifted (os : Os) (started : os.Started) (H : Type) (enc : TypeId × Value → H) :
    ReturnsInHanded {} Try.checked os 3 .any (Rows.fnExactRegionBorderSpec.pre6 enc Try.prog Try.f3 Rows.fnExactRegionBorderRow.domain false) (Rows.fnExactRegionBorderSpec.post enc Try.prog Try.f3 false true false false) := by
  refine returnsInHanded_of_change_sized (C := Try.checked) own started (by kernel_rfl) Try.func3
    (ChangeSpec.witness6 (enc := enc) (C := Try.checked) false ⟨#[], #[.int .i64 0, .int .i64 0, .slice none 0 0], []⟩ 8 (by kernel_rfl) (by kernel_rfl) (by kernel_rfl) (by kernel_rfl)) ?_
  intro W base args ds gs before hval0 hW hcnd hsz0 _
  have hsz : (DataW.weightsEach Try.prog (Try.f3.params.toList ++ Rows.fnExactRegionBorderSpec.plain.varTypes Try.prog) (ds ++ gs)).all (· ≤ reachBytes) = true := hsz0
  have hval : ∀ (j : Nat) t v, Try.f3.params[j]? = some t → args[j]? = some v → Value.okWide Try.prog W .any base t v := hval0
  have hW' := hW
  obtain ⟨p, q, hA0, hV, rfl, hfz, hnd⟩ := hW
  have hA : DataW.TrodAll enc Try.prog W 0 (fun _ => true) true Try.f3.params.toList args.toList ds p := hA0
  rw [Try.params3] at hA hval hsz
  obtain ⟨v0, vs0, d0, ds0, p0, q0, hargs, rfl, rfl, h0, r0⟩ := trodAll_cons hA
  obtain ⟨v1, vs1, d1, ds1, p1, q1, rfl, rfl, rfl, h1, r1⟩ := trodAll_cons r0
  obtain ⟨v2, vs2, d2, ds2, p2, q2, rfl, rfl, rfl, h2, r2⟩ := trodAll_cons r1
  obtain ⟨rfl, rfl, rfl⟩ := trodAll_nil r2
  obtain rfl : args = #[v0, v1, v2] := by cases args; simp_all
  obtain ⟨rfl, rfl⟩ := trodVars_none hV
  obtain ⟨a0, rfl, rfl, rfl, w0⟩ := open_int Try.underlying3 (hval 0 3 v0 rfl rfl) h0
  obtain ⟨a1, rfl, rfl, rfl, w1⟩ := open_int Try.underlying3 (hval 1 3 v1 rfl rfl) h1
  obtain ⟨A2, len2, c2, rfl⟩ := okWide_slice Try.underlying22 (hval 2 22 v2 rfl rfl)
  have k2 := h2
  have lt2 : ∀ x ∈ p2, x.block < W.heap.size := by obtain ⟨m, hm⟩ := k2; exact DataW.trod_lt m _ _ _ hm
  have y2 : len2 * 8 ≤ 140737488351232 := sized_any hsz (j := 2) (t := 22) rfl rfl Try.underlying22 (by kernel_rfl) h2
  obtain ⟨l2, rfl, hc2, hr2, w2⟩ := slice_at (opens_slice Try.underlying22 (by kernel_rfl) (opens_int Try.underlying3)) h2
  clear hA0 hval0 hsz0 hsz
  obtain ⟨k, hp⟩ := Pure.FnExactRegionBorder a0 a1 l2 w0 w1 w2 y2
  refine (laws_FnExactRegionBorder.calls k a0 a1 A2 c2 l2 true W hr2 hc2 hp).mono fun e W' ⟨he, bel0⟩ => ?_
  have bel : Below W.heap.size W W' := bel0
  subst he
  exact ⟨_, rfl, _, _, _, [], _, [], hW', trodAll_mk1 (shut_bool Try.underlying4 _), (trodAll_cons_mk (shut_int Try.underlying3 w0) (trodAll_cons_mk (shut_int Try.underlying3 w1) (trodAll_cons_mk (Below.trod laidOut (by kernel_rfl) (of_decide_eq_true (by kernel_rfl)) k2 bel lt2) trodAll_mk0))), rfl, bel.frame _, fun h => by cases h⟩
theorem over : Rows.fnExactRegionBorderRow.holds Try.pinned (OpenSpec.ofChange Rows.fnExactRegionBorderSpec) :=
  OpenClaim.holds_of_wide 3 Try.f3 rfl rfl rfl rfl rfl rfl rfl ⟨rfl, rfl, rfl, rfl, rfl⟩ rfl rfl rfl rfl rfl (by kernel_rfl) Try.func3 (by kernel_rfl)
    (of_decide_eq_true (by kernel_rfl)) (by unfold Func.isWrapper; first | (rw [if_pos (by decide +kernel)]; kernel_rfl) | (rw [if_neg (by decide +kernel)]; exact ⟨rfl, rfl⟩))
    (fun os started H enc _ => lifted os started H enc)
theorem proved : Rows.FnExactRegionBorderSaid := over
#print axioms proved
end Go.Proofs.Ytehjhcnimfhdnaa.fnExactRegionBorder
namespace Go.Proofs.Ytehjhcnimfhdnaa
theorem fnExactRegionBorder_holds : Rows.FnExactRegionBorderSaid := fnExactRegionBorder.proved
end Go.Proofs.Ytehjhcnimfhdnaa
