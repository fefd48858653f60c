/- The program's ReverseMotion returns what the reference's ReverseMotion returns, for all arguments; no conditions. -/
import Derived.Test.YtlneoigiodneeaaPureBase
import Derived.Test.YtlneoigiodneeaaPf4
namespace Go.Proofs.Ytlneoigiodneeaa.Pure
open Go.RowKit Go.Proofs.Ytlneoigiodneeaa.P Go.Proofs.YtlneoigiodneeaaW.PrintWords Go.Proofs.YtlneoigiodneeaaW.PrintLast
theorem reverse_in (x a b : Int) : impl_within.f x a b = spec_l1In.f x a b := rfl
theorem reverse_some (x a b : Int) : ∃ r, spec_l1In.f x a b = some r := by
  unfold spec_l1In.f
  split <;> exact ⟨_, rfl⟩
theorem FnExactReverseMotion : laws_FnExactReverseMotion.Pure := by
  intro x y _ _
  obtain ⟨r1, e1⟩ := reverse_some x (-2) 2
  obtain ⟨r2, e2⟩ := reverse_some y (-2) 2
  unfold laws_FnExactReverseMotion.f laws_toMotion.f impl_ReverseMotion.f spec_ReverseMotion.f laws_eqMotion.f impl_isMotion.f spec_l11Good.f
  simp only [reverse_in, e1, e2, Option.bind_some]
  cases r1 <;> cases r2 <;> simp
end Go.Proofs.Ytlneoigiodneeaa.Pure
