/- The shares of a calibration: one list in the program and in the reference. No conditions. -/
import Derived.Test.YthekngnkajjhnaaPureCalib
import Derived.Test.YthekngnkajjhnaaPf50
import Derived.Test.YthekngnkajjhnaaPf49
namespace Go.Proofs.Ythekngnkajjhnaa.Pure
set_option linter.unusedVariables false
set_option linter.unusedSimpArgs false
open Go.RowKit Go.Proofs.Ythekngnkajjhnaa.P Go.Proofs.YthekngnkajjhnaaW.PrintWords Go.Proofs.YthekngnkajjhnaaW.PrintLast
theorem calibrationOf_both (c h : List Int) : ∃ r : List SHR × Bool, Ev (fun k => spec_CalibrationOf.f k c h) r ∧ Ev (fun k => impl_CalibrationOf.f k c h) r ∧ r.1.length ≤ 64 := by
  have g1 := l10Good_ev c h
  have g2 := isValidTally_ev c h
  unfold spec_CalibrationOf.f impl_CalibrationOf.f
  cases ok : tallyOk c h with
  | false =>
    rw [ok] at g1 g2
    exact ⟨([], false), ev_bind g1 (ev_ifn (by simp) (ev_some _)), ev_bind g2 (ev_ifn (by simp) (ev_some _)), by simp⟩
  | true =>
    rw [ok] at g1 g2
    obtain ⟨G, _, _, ⟨_, h1, h2⟩ | ⟨_, h1, h2⟩⟩ := calib_both ok
    · exact ⟨([], false), ev_bind g1 (ev_ifp rfl (ev_bind h1 (ev_ifp rfl (ev_some _)))), ev_bind g2 (ev_ifp rfl (ev_bind h2 (ev_some _))), by simp⟩
    · refine ⟨(tab 11 (fun c => shG G (c : Int)), true), ev_bind g1 (ev_ifp rfl (ev_bind h1 (ev_ifn (by rw [tab_length]; decide) (ev_bind h1 (ev_some _))))), ev_bind g2 (ev_ifp rfl (ev_bind h2 (ev_some _))), ?_⟩
      show (tab 11 (fun c : Nat => shG G (c : Int))).length ≤ 64
      rw [tab_length]
      decide
end Go.Proofs.Ythekngnkajjhnaa.Pure
