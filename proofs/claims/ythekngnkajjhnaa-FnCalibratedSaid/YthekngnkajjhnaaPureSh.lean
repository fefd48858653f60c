/- Shares in a list. No conditions. -/
import Derived.Test.YthekngnkajjhnaaPureBase
import Derived.Test.YthekngnkajjhnaaPt
namespace Go.Proofs.Ythekngnkajjhnaa.Pure
set_option linter.unusedVariables false
set_option linter.unusedSimpArgs false
open Go.RowKit Go.Proofs.Ythekngnkajjhnaa.P Go.Proofs.YthekngnkajjhnaaW.PrintWords Go.Proofs.YthekngnkajjhnaaW.PrintLast
abbrev SH := S55
theorem rdsh (xs : List SH) (i : Nat) : rd_T55 xs (i : Int) = xs.getD i z55 := by simp [rd_T55]
end Go.Proofs.Ythekngnkajjhnaa.Pure
