/- Are all numbers of a list within bounds? The program's answer. No conditions but that the list is no longer than a machine allows. -/
import Derived.Test.YtfiijdiccjapiaaPureIn
import Derived.Test.YtfiijdiccjapiaaPf72
namespace Go.Proofs.Ytfiijdiccjapiaa.Pure
set_option linter.unusedVariables false
set_option linter.unusedSimpArgs false
open Go.RowKit Go.Proofs.Ytfiijdiccjapiaa.P Go.Proofs.YtfiijdiccjapiaaW.PrintWords Go.Proofs.YtfiijdiccjapiaaW.PrintLast
theorem allWithin_ev (l : List Int) (a b : Int) (hl : l.length ≤ 9223372036854775806) : Ev (fun k => impl_allWithin.f k l a b) (rall (fun i => inb (l.getD i 0) a b) 0 l.length) :=
  allb_ev (fun k i => impl_allWithin.l0 k a b l (l.length : Int) (i : Int)) l.length (fun i => inb (l.getD i 0) a b)
    (fun i r hi hp h => ev_step (fun k => by
      simp only [impl_allWithin.l0, within_is, Option.bind_some, rd_nat]
      rw [if_pos (by omega), if_pos (by omega), if_pos (by omega), if_pos hp, w64 (by omega) (by omega)]
      rfl) h)
    (fun i hi hp => ev_step (f := fun _ => some false) (fun k => by
      simp only [impl_allWithin.l0, within_is, Option.bind_some, rd_nat]
      rw [if_pos (by omega), if_pos (by omega), if_pos (by omega), if_neg (by rw [hp]; decide)]) (ev_some _))
    (ev_step (f := fun _ => some true) (fun k => by
      simp only [impl_allWithin.l0]
      rw [if_neg (by omega)]) (ev_some _))
theorem rall_and (p q : Nat → Bool) : ∀ d i, rall (fun j => p j && q j) i d = (rall p i d && rall q i d)
  | 0, i => rfl
  | d + 1, i => by
    show ((p i && q i) && rall (fun j => p j && q j) (i + 1) d) = ((p i && rall p (i + 1) d) && (q i && rall q (i + 1) d))
    rw [rall_and p q d (i + 1)]
    cases p i <;> cases q i <;> cases rall p (i + 1) d <;> rfl
end Go.Proofs.Ytfiijdiccjapiaa.Pure
