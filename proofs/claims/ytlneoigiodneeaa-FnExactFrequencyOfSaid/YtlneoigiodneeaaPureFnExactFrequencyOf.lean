/- The program's FrequencyOf returns what the reference's FrequencyOf returns, for all arguments; no conditions. -/
import Derived.Test.YtlneoigiodneeaaPureFrequency
import Derived.Test.YtlneoigiodneeaaPf8
namespace Go.Proofs.Ytlneoigiodneeaa.Pure
set_option linter.unusedVariables false
set_option linter.unusedSimpArgs false
open Go.RowKit Go.Proofs.Ytlneoigiodneeaa.P Go.Proofs.YtlneoigiodneeaaW.PrintWords Go.Proofs.YtlneoigiodneeaaW.PrintLast
theorem FnExactFrequencyOf : laws_FnExactFrequencyOf.Pure := by
  intro c h x hc hh _
  refine Ev.rounds ?_
  unfold laws_FnExactFrequencyOf.f
  rcases szTally_is c h hc.1 hh.1 with ⟨r, e, hr⟩ | ⟨r, e, hr, hc2, hh2⟩
  · exact ev_bind (ev_const e) (ev_ifp hr (ev_some _))
  · obtain ⟨⟨a, b, g⟩, hs, hi⟩ := frequency_both c h x
    have ht := toTally_ev c h (by omega) (by omega)
    refine ev_bind (ev_const e) (ev_ifn hr (ev_bind ht (ev_bind hs (ev_bind ht (ev_bind hi (ev_bind (r := true) (ev_const (by simp [laws_eqShare.f])) (ev_ifp rfl ?_)))))))
    refine ev_step (f := fun k => (laws_toTally.f k c h).bind fun bt => ((laws_eqTally.f k c h bt.1 bt.2).bind fun u => (if u = true then (some true) else (some false)))) (fun k => by
      show laws_FnExactFrequencyOf.j0 (k + 1) (g != g) c h c h = _
      simp only [laws_FnExactFrequencyOf.j0]
      rw [if_neg (by simp)]) (ev_bind ht (ev_bind (eqTally_self c h (by omega) (by omega)) (ev_ifp rfl (ev_some _))))
end Go.Proofs.Ytlneoigiodneeaa.Pure
