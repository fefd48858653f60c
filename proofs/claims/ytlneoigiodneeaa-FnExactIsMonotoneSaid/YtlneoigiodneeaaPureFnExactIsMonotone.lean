/- The program's IsMonotone returns what the reference's IsMonotone returns, for all arguments; no conditions. -/
import Derived.Test.YtlneoigiodneeaaPureShare
import Derived.Test.YtlneoigiodneeaaPf12
namespace Go.Proofs.Ytlneoigiodneeaa.Pure
set_option linter.unusedVariables false
set_option linter.unusedSimpArgs false
open Go.RowKit Go.Proofs.Ytlneoigiodneeaa.P Go.Proofs.YtlneoigiodneeaaW.PrintWords Go.Proofs.YtlneoigiodneeaaW.PrintLast
theorem FnExactIsMonotone : laws_FnExactIsMonotone.Pure := by
  intro l hl hb
  refine Ev.rounds ?_
  unfold laws_FnExactIsMonotone.f
  rcases szShareS_go l 1048576 (by first | omega | (dsimp only; omega) | (simp; omega)) (by first | omega | (dsimp only; omega) | (simp; omega)) (hl.1) with ⟨rz1, ez1, hz1⟩ | ⟨rz1, ez1, hz1, hza1, hzb1, hlz1⟩
  · exact ev_bind (ev_const ez1) (ev_ifp hz1 (ev_some _))
  refine ev_bind (ev_const ez1) ?_
  refine ev_ifn hz1 ?_
  obtain ⟨⟨x, y⟩, hs, hi⟩ : ∃ r, Ev (fun k => spec_IsMonotone.f k (l.map ofS)) r ∧ Ev (fun k => impl_IsMonotone.f k (l.map ofS)) r := ⟨_, isMonotoneS_ev _, isMonotoneI_ev _⟩
  refine ev_bind (toShareS_ev _ (by first | omega | (dsimp only; omega) | (simp; omega))) ?_
  refine ev_bind hs ?_
  refine ev_bind (toShareS_ev _ (by first | omega | (dsimp only; omega) | (simp; omega))) ?_
  refine ev_bind hi ?_
  refine ev_ifn (by simp) ?_
  refine ev_step (fun k => laws_FnExactIsMonotone.j0.eq_2 _ _ _ k) ?_
  refine ev_ifn (by simp) ?_
  refine ev_bind (toShareS_ev _ (by first | omega | (dsimp only; omega) | (simp; omega))) ?_
  refine ev_bind (eqShareS_self _ (by first | omega | (dsimp only; omega) | (simp; omega))) ?_
  refine ev_ifp rfl ?_
  exact ev_some _
end Go.Proofs.Ytlneoigiodneeaa.Pure
