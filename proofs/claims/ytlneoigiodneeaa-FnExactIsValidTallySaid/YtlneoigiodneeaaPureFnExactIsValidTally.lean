/- The program's IsValidTally returns what the reference's IsValidTally returns, for all arguments; no conditions. -/
import Derived.Test.YtlneoigiodneeaaPureTally
import Derived.Test.YtlneoigiodneeaaPf6
namespace Go.Proofs.Ytlneoigiodneeaa.Pure
set_option linter.unusedVariables false
set_option linter.unusedSimpArgs false
open Go.RowKit Go.Proofs.Ytlneoigiodneeaa.P Go.Proofs.YtlneoigiodneeaaW.PrintWords Go.Proofs.YtlneoigiodneeaaW.PrintLast
theorem FnExactIsValidTally : laws_FnExactIsValidTally.Pure := by
  intro c h hc hh
  refine Ev.rounds ?_
  unfold laws_FnExactIsValidTally.f
  rcases szTally_is c h hc.1 hh.1 with ⟨r, e, hr⟩ | ⟨r, e, hr, hc2, hh2⟩
  · exact ev_bind (ev_const e) (ev_ifp hr (ev_some _))
  · refine ev_bind (ev_const e) (ev_ifn hr (ev_bind (toTally_ev c h (by omega) (by omega)) (ev_bind (g := fun k => spec_IsValidTally.f k c h) (ev_bind (l10Good_ev c h) (ev_some _))
      (ev_bind (toTally_ev c h (by omega) (by omega)) (ev_bind (isValidTally_ev c h) (ev_ifn (by simp) (ev_bind (toTally_ev c h (by omega) (by omega)) (ev_bind (eqTally_self c h (by omega) (by omega)) (ev_ifp rfl (ev_some _))))))))))
end Go.Proofs.Ytlneoigiodneeaa.Pure
