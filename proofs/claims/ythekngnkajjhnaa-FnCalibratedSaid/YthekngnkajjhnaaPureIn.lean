/- 'Within' of the program and of the reference: the same test. No conditions. -/
import Derived.Test.YthekngnkajjhnaaPureBase
import Derived.Test.YthekngnkajjhnaaPf130
import Derived.Test.YthekngnkajjhnaaPf127
namespace Go.Proofs.Ythekngnkajjhnaa.Pure
set_option linter.unusedVariables false
set_option linter.unusedSimpArgs false
open Go.RowKit Go.Proofs.Ythekngnkajjhnaa.P Go.Proofs.YthekngnkajjhnaaW.PrintWords Go.Proofs.YthekngnkajjhnaaW.PrintLast
def inb (x a b : Int) : Bool := decide (a ≤ x) && decide (x ≤ b)
theorem inb_iff {x a b : Int} : inb x a b = true ↔ a ≤ x ∧ x ≤ b := by simp [inb]
theorem l1In_is (x a b : Int) : spec_l1In.f x a b = some (inb x a b) := by
  unfold spec_l1In.f inb
  split
  · rename_i h; simp [show a ≤ x from h]
  · rename_i h; simp [show ¬ a ≤ x from h]
theorem within_is (x a b : Int) : impl_within.f x a b = some (inb x a b) := l1In_is x a b
end Go.Proofs.Ythekngnkajjhnaa.Pure
