/- Division, rounded down: in the program by a test of the remainder, in the reference by the sign: the floor. No conditions but on the numbers' sizes. -/
import Derived.Test.YtfiijdiccjapiaaPureBase
import Derived.Test.YtfiijdiccjapiaaPf129
import Derived.Test.YtfiijdiccjapiaaPf128
namespace Go.Proofs.Ytfiijdiccjapiaa.Pure
set_option linter.unusedVariables false
set_option linter.unusedSimpArgs false
open Go.RowKit Go.Proofs.Ytfiijdiccjapiaa.P Go.Proofs.YtfiijdiccjapiaaW.PrintWords Go.Proofs.YtfiijdiccjapiaaW.PrintLast
theorem ediv_of {a b t : Int} (hb : 0 < b) (h1 : b * t ≤ a) (h2 : a < b * t + b) : a / b = t :=
  ((Int.ediv_emod_unique (r := a - b * t) hb).2 ⟨by omega, by omega, by omega⟩).1
theorem ediv_bd {a b : Int} (hb : 0 < b) : b * (a / b) ≤ a ∧ a < b * (a / b) + b := by
  have h1 := Int.mul_ediv_add_emod a b
  have h2 := Int.emod_nonneg a (show b ≠ 0 by omega)
  have h3 := Int.emod_lt_of_pos a hb
  omega
theorem tdiv_pos {n b : Int} (hn : 0 ≤ n) : Int.tdiv n b = n / b := Int.tdiv_eq_ediv_of_nonneg hn
theorem div_small {n b : Int} (hn : 0 ≤ n) (hb : 0 < b) (h : n ≤ 1000000000) : 0 ≤ n / b ∧ n / b ≤ 1000000000 := by
  refine ⟨Int.ediv_nonneg hn (by omega), Int.le_trans (Int.ediv_le_self b hn) h⟩
theorem floorDiv_is {a b : Int} (hb : 0 < b) (hb2 : b ≤ 1000000000) (h0 : -1000000000 ≤ a) (h1 : a ≤ 1000000000) : impl_floorDiv.f a b = some (a / b) := by
  unfold impl_floorDiv.f
  rw [if_neg (by omega)]
  by_cases ha : 0 ≤ a
  · have hs := div_small ha hb h1
    rw [tdiv_pos ha, Int.tmod_eq_emod_of_nonneg ha, if_neg (by have := Int.emod_nonneg a (show b ≠ 0 by omega); omega), w64 (by omega) (by omega)]
  · obtain ⟨n, rfl⟩ : ∃ n, a = -n := ⟨-a, by omega⟩
    have hn : 0 ≤ n := by omega
    have hs := div_small hn hb (by omega)
    have hd := ediv_bd (a := n) hb
    have he := Int.mul_ediv_add_emod n b
    have h3 := Int.emod_nonneg n (show b ≠ 0 by omega)
    have h4 := Int.emod_lt_of_pos n hb
    rw [Int.neg_tdiv, Int.neg_tmod, tdiv_pos hn, Int.tmod_eq_emod_of_nonneg hn, w64 (x := -(n / b)) (by omega) (by omega)]
    by_cases hr : -(n % b) < 0
    · rw [if_pos hr, w64 (by omega) (by omega)]
      congr 1
      refine (ediv_of hb ?_ ?_).symm
      · rw [Int.mul_sub, Int.mul_neg, Int.mul_one]; omega
      · rw [Int.mul_sub, Int.mul_neg, Int.mul_one]; omega
    · rw [if_neg hr]
      congr 1
      refine (ediv_of hb ?_ ?_).symm
      · rw [Int.mul_neg]; omega
      · rw [Int.mul_neg]; omega
theorem l4Floor_is {a b : Int} (hb : 0 < b) (hb2 : b ≤ 1000000000) (h0 : -1000000000 ≤ a) (h1 : a ≤ 1000000000) : spec_l4Floor.f a b = some (a / b) := by
  unfold spec_l4Floor.f
  by_cases ha : a < 0
  · rw [if_pos ha, if_neg (by omega), w64 (x := -a) (by omega) (by omega), w64 (x := -a + b) (by omega) (by omega), w64 (x := -a + b - 1) (by omega) (by omega)]
    have hn : 0 ≤ -a + b - 1 := by omega
    rw [tdiv_pos hn]
    have hs : 0 ≤ (-a + b - 1) / b ∧ (-a + b - 1) / b ≤ -a + b - 1 := ⟨Int.ediv_nonneg hn (by omega), Int.ediv_le_self b hn⟩
    have hd := ediv_bd (a := -a + b - 1) hb
    rw [w64 (x := (-a + b - 1) / b) (by omega) (by omega), w64 (by omega) (by omega)]
    congr 1
    refine (ediv_of hb ?_ ?_).symm
    · rw [Int.mul_neg]; omega
    · rw [Int.mul_neg]; omega
  · have hs := div_small (show 0 ≤ a by omega) hb h1
    rw [if_neg ha, if_neg (by omega), tdiv_pos (by omega), w64 (by omega) (by omega)]
end Go.Proofs.Ytfiijdiccjapiaa.Pure
