/- A value divided among places in proportion to weights: the same parts in the program and in the reference. No conditions but that the list is no longer than a machine allows. -/
import Derived.Test.YtfiijdiccjapiaaPureFloor
import Derived.Test.YtfiijdiccjapiaaPureAllWithin
import Derived.Test.YtfiijdiccjapiaaPf74
import Derived.Test.YtfiijdiccjapiaaPf70
namespace Go.Proofs.Ytfiijdiccjapiaa.Pure
set_option linter.unusedVariables false
set_option linter.unusedSimpArgs false
open Go.RowKit Go.Proofs.Ytfiijdiccjapiaa.P Go.Proofs.YtfiijdiccjapiaaW.PrintWords Go.Proofs.YtfiijdiccjapiaaW.PrintLast
/-- The first place of the greatest number. -/
def amStep (l : List Int) (i : Nat) (b : Nat) : Nat := if l.getD i 0 > l.getD b 0 then i else b
def amax (l : List Int) : Nat := iter (amStep l) 1 (l.length - 1) 0
theorem amax_inv (l : List Int) (h : 1 ≤ l.length) : amax l < l.length ∧ (∀ j, j < l.length → l.getD j 0 ≤ l.getD (amax l) 0) ∧ ∀ j, j < amax l → l.getD j 0 < l.getD (amax l) 0 := by
  have := iter_inv (amStep l) (fun i b => b < i ∧ (∀ j, j < i → l.getD j 0 ≤ l.getD b 0) ∧ ∀ j, j < b → l.getD j 0 < l.getD b 0) l.length
    (fun i b hI hi => by
      obtain ⟨h1, h2, h3⟩ := hI
      unfold amStep
      by_cases e : l.getD i 0 > l.getD b 0
      · rw [if_pos e]
        refine ⟨by omega, fun j hj => ?_, fun j hj => ?_⟩
        · by_cases ej : j = i
          · rw [ej]; exact Int.le_refl _
          · have := h2 j (by omega); omega
        · have := h2 j (by omega); omega
      · rw [if_neg e]
        refine ⟨by omega, fun j hj => ?_, h3⟩
        by_cases ej : j = i
        · rw [ej]; omega
        · exact h2 j (by omega)) (l.length - 1) 1 0 (by omega) ⟨by omega, fun j hj => by rw [show j = 0 by omega]; exact Int.le_refl _, fun j hj => by omega⟩
  exact ⟨this.1, this.2.1, this.2.2⟩
theorem max_ev (l : List Int) (h : 1 ≤ l.length) (hl : l.length ≤ 9223372036854775806) : Ev (fun k => slices_Max_int_int.f k l) (l.getD (amax l) 0) := by
  have key : Ev (fun k => slices_Max_int_int.l0 k l (l.getD 0 0) ((1 : Nat) : Int)) ((fun b : Nat => l.getD b 0) (iter (amStep l) 1 (l.length - 1) 0)) :=
    loop_ev (fun k b i => slices_Max_int_int.l0 k l (l.getD b 0) (i : Int)) l.length (amStep l) (fun b => l.getD b 0) (fun _ _ => True)
      (fun i b r _ hi h => ev_step (fun k => by
        simp only [slices_Max_int_int.l0, rd_nat]
        rw [if_pos (by omega), if_pos (by omega), w64 (by omega) (by omega)]
        have e : mx (l.getD b 0) (l.getD i 0) = l.getD (amStep l i b) 0 := by
          unfold amStep mx
          split <;> rfl
        rw [e]
        rfl) h) (fun _ _ _ _ => trivial)
      (fun b _ => ev_step (fun k => slices_Max_int_int.l0.eq_2 _ _ _ k) (ev_ifn (by omega) (ev_some _))) 1 0 (by omega) trivial
  unfold slices_Max_int_int.f
  refine ev_ifn (by omega) (ev_ifp (by omega) ?_)
  exact key
theorem index_ev (l : List Int) (h : 1 ≤ l.length) (hl : l.length ≤ 9223372036854775806) : Ev (fun k => slices_Index_int_int.f k l (l.getD (amax l) 0)) (amax l : Int) := by
  obtain ⟨h1, h2, h3⟩ := amax_inv l h
  have hh := find_ev (fun k i => slices_Index_int_int.l0 k l (l.getD (amax l) 0) (l.length : Int) (i : Int)) l.length (fun i => decide (l.getD i 0 = l.getD (amax l) 0))
    (fun i r hi hp h => ev_step (fun k => by
      simp only [slices_Index_int_int.l0, rd_nat]
      rw [if_pos (by omega), if_pos (by omega), if_pos (by omega), if_neg (by intro e; rw [← e] at hp; simp at hp), w64 (by omega) (by omega)]
      rfl) h)
    (fun i hi hp => ev_step (f := fun _ => some (i : Int)) (fun k => by
      simp only [slices_Index_int_int.l0, rd_nat]
      rw [if_pos (by omega), if_pos (by omega), if_pos (by omega), if_pos (by have := of_decide_eq_true hp; exact this.symm)]) (ev_some _))
    (ev_step (f := fun _ => some (-1)) (fun k => by
      simp only [slices_Index_int_int.l0]
      rw [if_neg (by omega)]) (ev_some _))
  have e : fidx (fun i => decide (l.getD i 0 = l.getD (amax l) 0)) 0 l.length = (amax l : Int) := by
    have gen : ∀ d i, i ≤ amax l → amax l < i + d → fidx (fun i => decide (l.getD i 0 = l.getD (amax l) 0)) i d = (amax l : Int) := by
      intro d
      induction d with
      | zero => intro i h4 h5; omega
      | succ d ih =>
        intro i h4 h5
        show (if decide (l.getD i 0 = l.getD (amax l) 0) = true then (i : Int) else _) = _
        by_cases ei : i = amax l
        · subst ei; simp
        · have := h3 i (by omega)
          rw [if_neg (by rw [decide_eq_true_eq]; omega)]
          exact ih (i + 1) (by omega) (by omega)
    exact gen l.length 0 (Nat.zero_le _) (by omega)
  rw [e] at hh
  exact hh
/-- What is left is handed out, one each. -/
def hand : Nat → List Int → List Int → List Int
  | 0, ps, _ => ps
  | n + 1, ps, rs => hand n (ps.set (amax rs) (wrap64 (rd ps (amax rs : Int) + 1))) (rs.set (amax rs) (-1))
theorem hand_len : ∀ n ps rs, (hand n ps rs).length = ps.length
  | 0, ps, rs => rfl
  | n + 1, ps, rs => by rw [hand, hand_len n]; simp
theorem impl_hand (L : Int) (hL : L ≤ 9223372036854775807) : ∀ (n : Nat) (ps rs : List Int), ps.length = rs.length → 1 ≤ rs.length → rs.length ≤ 9223372036854775806 → n ≤ 9223372036854775807 → Ev (fun k => impl_splitValue.l1 k ps rs (n : Int)) (hand n ps rs)
  | 0, ps, rs, h, h1, h2, _ => ev_step (fun k => impl_splitValue.l1.eq_2 _ _ _ k) (ev_ifn (by omega) (ev_some _))
  | n + 1, ps, rs, h, h1, h2, hn => by
    obtain ⟨a1, _, _⟩ := amax_inv rs h1
    refine ev_step (fun k => impl_splitValue.l1.eq_2 _ _ _ k) (ev_ifp (by omega) (ev_bind (max_ev rs h1 h2) (ev_bind (index_ev rs h1 h2) (ev_ifp (by omega) (ev_ifp (by omega) (ev_ifp (by omega) ?_))))))
    rw [show wrap64 (((n + 1 : Nat) : Int) - 1) = (n : Int) by rw [w64 (by omega) (by omega)]; omega, Int.toNat_natCast]
    exact impl_hand L hL n _ _ (by simp [h]) (by simpa using h1) (by simpa using h2) (by omega)
theorem spec_best (ps rs : List Int) (n : Int) (r : List Int) (h1 : 1 ≤ rs.length) (h2 : rs.length ≤ 9223372036854775806)
    (h : Ev (fun k => if 0 ≤ (amax rs : Int) then (if (amax rs : Int) < (ps.length : Int) then (if (amax rs : Int) < (rs.length : Int) then (spec_l7Split.l2 k (ps.set ((amax rs : Int)).toNat (wrap64 ((rd ps (amax rs : Int)) + 1))) (rs.set ((amax rs : Int)).toNat (-1)) (wrap64 (n - 1))) else (none)) else (none)) else (none)) r) :
    Ev (fun k => spec_l7Split.l3 k ps rs n 0 1) r := by
  have key : ∀ d i b, i + d = rs.length → b < i → 1 ≤ i → iter (amStep rs) i d b = amax rs → Ev (fun k => spec_l7Split.l3 k ps rs n (b : Int) (i : Int)) r := by
    intro d
    induction d with
    | zero =>
      intro i b hi hb h1i he
      obtain rfl : b = amax rs := he
      exact ev_step (fun k => spec_l7Split.l3.eq_2 _ _ _ _ _ k) (ev_ifn (by omega) h)
    | succ d ih =>
      intro i b hi hb h1i he
      have := ih (i + 1) (amStep rs i b) (by omega) (by unfold amStep; split <;> omega) (by omega) he
      refine ev_step (fun k => spec_l7Split.l3.eq_2 _ _ _ _ _ k) (ev_ifp (by omega) (ev_ifp (by omega) (ev_ifp (by omega) (ev_ifp (by omega) ?_))))
      rw [rd_nat, rd_nat, show wrap64 ((i : Int) + 1) = ((i + 1 : Nat) : Int) by rw [w64 (by omega) (by omega)]; rfl]
      unfold amStep at this
      by_cases e : rs.getD i 0 > rs.getD b 0
      · rw [if_pos e] at this; exact ev_ifp e this
      · rw [if_neg e] at this; exact ev_ifn e this
  exact key (rs.length - 1) 1 0 (by omega) (by omega) (by omega) rfl
theorem spec_hand : ∀ (n : Nat) (ps rs : List Int), ps.length = rs.length → 1 ≤ rs.length → rs.length ≤ 9223372036854775806 → n ≤ 9223372036854775807 → Ev (fun k => spec_l7Split.l2 k ps rs (n : Int)) (hand n ps rs)
  | 0, ps, rs, h, h1, h2, _ => ev_step (fun k => spec_l7Split.l2.eq_2 _ _ _ k) (ev_ifn (by omega) (ev_some _))
  | n + 1, ps, rs, h, h1, h2, hn => by
    obtain ⟨a1, _, _⟩ := amax_inv rs h1
    refine ev_step (fun k => spec_l7Split.l2.eq_2 _ _ _ k) (ev_ifp (by omega) (spec_best ps rs _ _ h1 h2 (ev_ifp (by omega) (ev_ifp (by omega) (ev_ifp (by omega) ?_)))))
    rw [show wrap64 (((n + 1 : Nat) : Int) - 1) = (n : Int) by rw [w64 (by omega) (by omega)]; omega, Int.toNat_natCast]
    exact spec_hand n _ _ (by simp [h]) (by simpa using h1) (by simpa using h2) (by omega)
end Go.Proofs.Ytfiijdiccjapiaa.Pure
