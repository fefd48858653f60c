/- The frequency of a class: one answer in the program and in the reference. No conditions. -/
import Derived.Test.YtlneoigiodneeaaPureTally
import Derived.Test.YtlneoigiodneeaaPureGcd
import Derived.Test.YtlneoigiodneeaaPf34
import Derived.Test.YtlneoigiodneeaaPf35
namespace Go.Proofs.Ytlneoigiodneeaa.Pure
set_option linter.unusedVariables false
set_option linter.unusedSimpArgs false
open Go.RowKit Go.Proofs.Ytlneoigiodneeaa.P Go.Proofs.YtlneoigiodneeaaW.PrintWords Go.Proofs.YtlneoigiodneeaaW.PrintLast
theorem frequency_both (c h : List Int) (x : Int) : ∃ r, Ev (fun k => spec_FrequencyOf.f k c h x) r ∧ Ev (fun k => impl_FrequencyOf.f k c h x) r := by
  unfold spec_FrequencyOf.f impl_FrequencyOf.f spec_l10Class.f
  simp only [l1In_is, within_is, Option.bind_some]
  cases hg : tallyOk c h with
  | false => exact ⟨_, ev_bind (l10Good_ev c h) (by rw [hg]; exact ev_ifn (by simp) (ev_some (0, 0, false))), ev_bind (isValidTally_ev c h) (by rw [hg]; exact ev_ifn (by simp) (ev_some (0, 0, false)))⟩
  | true =>
    cases hx : inb x 0 10 with
    | false => exact ⟨_, ev_bind (l10Good_ev c h) (by rw [hg]; exact ev_ifp rfl (ev_ifn (by simp) (ev_some (0, 0, false)))), ev_bind (isValidTally_ev c h) (by rw [hg]; exact ev_ifp rfl (ev_ifn (by simp) (ev_some (0, 0, false))))⟩
    | true =>
      obtain ⟨h1, h2, h3⟩ := tallyOk_iff.1 hg
      obtain ⟨i, rfl⟩ := Int.eq_ofNat_of_zero_le (inb_iff.1 hx).1
      have hi : i < 11 := by have := (inb_iff.1 hx).2; omega
      obtain ⟨b1, b2, b3, b4⟩ := h3 i hi
      by_cases hz : c.getD i 0 = 0
      · exact ⟨_, ev_bind (l10Good_ev c h) (by rw [hg]; exact ev_ifp rfl (ev_ifp rfl (ev_ifp (by omega) (ev_ifp (by omega) (ev_ifp (by rw [rd_nat]; exact hz) (ev_some (0, 0, false))))))),
          ev_bind (isValidTally_ev c h) (by rw [hg]; exact ev_ifp rfl (ev_ifp rfl (ev_ifp (by omega) (ev_ifp (by omega) (ev_ifp (by rw [rd_nat]; exact hz) (ev_some (0, 0, false)))))))⟩
      · obtain ⟨p, hp⟩ := Int.eq_ofNat_of_zero_le b1
        obtain ⟨q, hq⟩ := Int.eq_ofNat_of_zero_le b3
        have e1 := l10Share_ev q p (by omega) (by omega) (by omega)
        have e2 := shareOf_ev q p (by omega) (by omega) (by omega)
        refine ⟨((shareN q p).1, (shareN q p).2, true), ev_bind (l10Good_ev c h) ?_, ev_bind (isValidTally_ev c h) ?_⟩
        · rw [hg]
          refine ev_ifp rfl (ev_ifp rfl (ev_ifp (by omega) (ev_ifp (by omega) (ev_ifn (by rw [rd_nat]; exact hz) (ev_ifp (by omega) (ev_bind (r := shareN q p) ?_ (ev_some _)))))))
          rw [rd_nat, rd_nat, hp, hq]
          exact e1
        · rw [hg]
          refine ev_ifp rfl (ev_ifp rfl (ev_ifp (by omega) (ev_ifp (by omega) (ev_ifn (by rw [rd_nat]; exact hz) (ev_ifp (by omega) (ev_bind (r := shareN q p) ?_ (ev_some _)))))))
          rw [rd_nat, rd_nat, hp, hq]
          exact e2
end Go.Proofs.Ytlneoigiodneeaa.Pure
