/- The program's OverlapUnits returns what the reference's OverlapUnits returns, for all arguments; no conditions. -/
import Derived.Test.YtlneoigiodneeaaPFnExactOverlapUnitsx1
namespace Go.Proofs.Ytlneoigiodneeaa.Pure
open Go.RowKit Go.Proofs.Ytlneoigiodneeaa.PFnExactOverlapUnits Go.Proofs.YtlneoigiodneeaaW.PrintWords Go.Proofs.YtlneoigiodneeaaW.PrintLast

theorem overlap_within (a b c : Int) : impl_within.f a b c = spec_l1In.f a b c := rfl
theorem most_mx (a b : Int) : spec_l1Most.f a b = some (mx a b) := by
  unfold spec_l1Most.f mx
  split <;> split <;> first | rfl | (congr 1; omega)
theorem least_mn (a b : Int) : spec_l1Least.f a b = some (mn a b) := by
  unfold spec_l1Least.f mn
  split <;> split <;> first | rfl | (congr 1; omega)
theorem overlap_units (a b c d : Int) : impl_overlapUnits.f a b c d = spec_l7Overlap.f a b c d := by
  unfold impl_overlapUnits.f spec_l7Overlap.f
  simp only [most_mx, least_mn, Option.bind_some]
theorem overlap_same (a b c d : Int) : impl_OverlapUnits.f a b c d = spec_OverlapUnits.f a b c d := by
  unfold impl_OverlapUnits.f spec_OverlapUnits.f spec_l2Shape.f
  simp only [overlap_within, overlap_units, Option.bind_assoc]
  cases spec_l1In.f a 1 8 with
  | none => rfl
  | some x => cases x <;> simp

theorem overlap_some (a b c d : Int) : ∃ r, spec_OverlapUnits.f a b c d = some r := by
  have hin : ∀ x y z, ∃ r, spec_l1In.f x y z = some r := by
    intro x y z; unfold spec_l1In.f; split <;> exact ⟨_, rfl⟩
  have hl : ∃ r, spec_l7Overlap.f a b c d = some r := ⟨_, (overlap_units a b c d).symm⟩
  obtain ⟨r0, e0⟩ := hl
  unfold spec_OverlapUnits.f spec_l2Shape.f
  obtain ⟨r1, e1⟩ := hin a 1 8
  obtain ⟨r2, e2⟩ := hin b 1 8
  obtain ⟨r3, e3⟩ := hin c 0 (wrap64 (a - 1))
  obtain ⟨r4, e4⟩ := hin d 0 (wrap64 (b - 1))
  simp only [e0, e1, e2, e3, e4, Option.bind_some]
  cases r1 <;> cases r2 <;> cases r3 <;> cases r4 <;> exact ⟨_, rfl⟩

theorem FnExactOverlapUnits : laws_FnExactOverlapUnits.Pure := by
  intro a b c d _ _ _ _
  obtain ⟨r, e⟩ := overlap_some a b c d
  unfold laws_FnExactOverlapUnits.f
  rw [overlap_same, e]
  simp

end Go.Proofs.Ytlneoigiodneeaa.Pure
