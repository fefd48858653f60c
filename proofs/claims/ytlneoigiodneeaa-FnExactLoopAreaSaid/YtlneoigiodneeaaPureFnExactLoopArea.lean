/- The program's LoopArea returns what the reference's LoopArea returns, for all arguments; no conditions. -/
import Derived.Test.YtlneoigiodneeaaPureLoopArea
import Derived.Test.YtlneoigiodneeaaPf7
namespace Go.Proofs.Ytlneoigiodneeaa.Pure
set_option linter.unusedVariables false
set_option linter.unusedSimpArgs false
open Go.RowKit Go.Proofs.Ytlneoigiodneeaa.P Go.Proofs.YtlneoigiodneeaaW.PrintWords Go.Proofs.YtlneoigiodneeaaW.PrintLast
theorem FnExactLoopArea : laws_FnExactLoopArea.Pure := by
  intro l hl _
  refine Ev.rounds ?_
  unfold laws_FnExactLoopArea.f
  rcases szPointS_is l hl.1 with ⟨r, e, hr⟩ | ⟨r, e, hr, hl2⟩
  · exact ev_bind (ev_const e) (ev_ifp hr (ev_some _))
  · have ho := toPointS_ev l (by omega)
    have hlen : (l.map ofP).length ≤ 9223372036854775806 := by rw [List.length_map]; omega
    obtain ⟨⟨a, b⟩, ha⟩ := loop_ends (l.map ofP) hlen
    have hi : Ev (fun k => impl_LoopArea.f k (l.map ofP)) (a, b) := Ev.congr (fun k => loopAreaF_same _ k) ha
    refine ev_bind (ev_const e) (ev_ifn hr (ev_bind ho (ev_bind ha (ev_bind ho (ev_bind hi (ev_ifp rfl ?_))))))
    refine ev_step (f := fun k => (laws_toPointS.f k l).bind fun t => ((laws_eqPointS.f k (l.map ofP) t).bind fun u => (if u = true then (some true) else (some false)))) (fun k => by
      show laws_FnExactLoopArea.j0 (k + 1) l (l.map ofP) (b != b) = _
      simp only [laws_FnExactLoopArea.j0]
      rw [if_neg (by simp)]) (ev_bind ho (ev_bind (eqPointS_self _ hlen) (ev_ifp rfl (ev_some _))))
end Go.Proofs.Ytlneoigiodneeaa.Pure
