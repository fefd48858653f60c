/- The program's StormDistance returns what the reference's StormDistance returns, for all arguments; no conditions. -/
import Derived.Test.YtlneoigiodneeaaPureStorm
import Derived.Test.YtlneoigiodneeaaPf5
namespace Go.Proofs.Ytlneoigiodneeaa.Pure
set_option linter.unusedVariables false
set_option linter.unusedSimpArgs false
open Go.RowKit Go.Proofs.Ytlneoigiodneeaa.P Go.Proofs.YtlneoigiodneeaaW.PrintWords Go.Proofs.YtlneoigiodneeaaW.PrintLast
theorem stormDistance_both (a b : SS) : ∃ r, spec_StormDistance.f a.f0 a.f1 a.f2 a.f3 b.f0 b.f1 b.f2 b.f3 = some r ∧ Ev (fun k => impl_StormDistance.f k a.f0 a.f1 a.f2 a.f3 b.f0 b.f1 b.f2 b.f3) r := by
  have h := areStorms_ev [a, b]
  have e : stormsOk [a, b] = (stormOk a && stormOk b) := by simp [stormsOk]
  rw [e] at h
  unfold spec_StormDistance.f impl_StormDistance.f
  rw [l12Good_is, l12Good_is]
  simp only [Option.bind_some]
  cases ha : stormOk a with
  | false =>
    rw [ha, Bool.false_and] at h
    exact ⟨_, rfl, ev_bind h (ev_ifn (by simp) (ev_some _))⟩
  | true =>
    cases hb : stormOk b with
    | false =>
      rw [ha, hb] at h
      exact ⟨_, rfl, ev_bind h (ev_ifn (by simp) (ev_some _))⟩
    | true =>
      rw [ha, hb] at h
      rw [l12Distance_is a b ha hb]
      exact ⟨(distS a b, true), rfl, ev_bind h (ev_ifp rfl (ev_bind (ev_const (stormDistance_is a b ha hb)) (ev_some _)))⟩
theorem FnExactStormDistance : laws_FnExactStormDistance.Pure := by
  intro a0 a1 a2 a3 b0 b1 b2 b3 _ _ _ _ _ _ _ _
  obtain ⟨⟨x, y⟩, hs, hi⟩ := stormDistance_both ⟨a0, a1, a2, a3⟩ ⟨b0, b1, b2, b3⟩
  refine Ev.rounds ?_
  unfold laws_FnExactStormDistance.f laws_toStorm.f
  refine ev_bind (ev_some _) (ev_bind (ev_some _) (ev_bind (ev_const hs) (ev_bind (ev_some _) (ev_bind (ev_some _) (ev_bind hi (ev_ifp rfl (ev_ifn (by simp) (ev_some _))))))))
end Go.Proofs.Ytlneoigiodneeaa.Pure
