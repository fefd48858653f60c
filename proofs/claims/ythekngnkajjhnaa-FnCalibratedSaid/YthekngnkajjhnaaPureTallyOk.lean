/- What a valid tally is. No conditions. -/
import Derived.Test.YthekngnkajjhnaaPureIn
import Derived.Test.YthekngnkajjhnaaPf142
import Derived.Test.YthekngnkajjhnaaPf54
namespace Go.Proofs.Ythekngnkajjhnaa.Pure
set_option linter.unusedVariables false
set_option linter.unusedSimpArgs false
open Go.RowKit Go.Proofs.Ythekngnkajjhnaa.P Go.Proofs.YthekngnkajjhnaaW.PrintWords Go.Proofs.YthekngnkajjhnaaW.PrintLast

def tallyOk (c h : List Int) : Bool := decide (c.length = 11) && (decide (h.length = 11) && rall (fun i => inb (c.getD i 0) 0 1000 && inb (h.getD i 0) 0 (c.getD i 0)) 0 11)

theorem tallyOk_iff {c h : List Int} : tallyOk c h = true ↔ c.length = 11 ∧ h.length = 11 ∧ ∀ i, i < 11 → 0 ≤ c.getD i 0 ∧ c.getD i 0 ≤ 1000 ∧ 0 ≤ h.getD i 0 ∧ h.getD i 0 ≤ c.getD i 0 := by
  unfold tallyOk
  rw [Bool.and_eq_true, Bool.and_eq_true, rall_iff, decide_eq_true_eq, decide_eq_true_eq]
  constructor
  · rintro ⟨h1, h2, h3⟩
    refine ⟨h1, h2, fun i hi => ?_⟩
    have := h3 i (Nat.zero_le _) (by omega)
    rw [Bool.and_eq_true, inb_iff, inb_iff] at this
    omega
  · rintro ⟨h1, h2, h3⟩
    refine ⟨h1, h2, fun i _ hi => ?_⟩
    rw [Bool.and_eq_true, inb_iff, inb_iff]
    have := h3 i (by omega)
    omega

theorem l10Good_ev (c h : List Int) : Ev (fun k => spec_l10Good.f k c h) (tallyOk c h) := by
  by_cases h1 : c.length = 11
  · by_cases h2 : h.length = 11
    · have := allb_ev (fun k i => spec_l10Good.l0 k (i : Int) c h) 11 (fun i => inb (c.getD i 0) 0 1000 && inb (h.getD i 0) 0 (c.getD i 0))
        (fun i r hi hp hh => ev_step (fun k => by
          rw [Bool.and_eq_true] at hp
          simp only [spec_l10Good.l0, l1In_is, Option.bind_some, rd_nat]
          rw [if_pos (by omega), if_pos (by omega), if_pos hp.1, if_pos (by omega), if_pos hp.2, w64 (by omega) (by omega)]
          rfl) hh)
        (fun i hi hp => ev_step (f := fun _ => some false) (fun k => by
          simp only [spec_l10Good.l0, l1In_is, Option.bind_some, rd_nat]
          rw [if_pos (by omega), if_pos (by omega)]
          cases e : inb (c.getD i 0) 0 1000 with
          | false => simp
          | true =>
            rw [e, Bool.true_and] at hp
            simp only [hp, if_true]
            rw [if_pos (by omega)]
            simp) (ev_some _))
        (ev_step (f := fun _ => some true) (fun k => by
          simp only [spec_l10Good.l0]
          rw [if_neg (by omega)]) (ev_some _))
      have e : tallyOk c h = rall (fun i => inb (c.getD i 0) 0 1000 && inb (h.getD i 0) 0 (c.getD i 0)) 0 11 := by simp [tallyOk, h1, h2]
      rw [e]
      refine Ev.congr (f := fun k => spec_l10Good.j0 k false c h) (fun k => ?_) (ev_step (f := fun k => spec_l10Good.l0 k 0 c h) (fun k => by simp [spec_l10Good.j0]) this)
      unfold spec_l10Good.f
      rw [if_pos (by omega)]
      simp [h2]
    · have e : tallyOk c h = false := by simp [tallyOk, h2]
      rw [e]
      refine Ev.congr (f := fun k => spec_l10Good.j0 k true c h) (fun k => ?_) (ev_step (f := fun k => some false) (fun k => by simp [spec_l10Good.j0]) (ev_some _))
      unfold spec_l10Good.f
      rw [if_pos (by omega), show ((h.length : Int) != 11) = true by rw [bne_iff_ne]; omega]
  · have e : tallyOk c h = false := by simp [tallyOk, h1]
    rw [e]
    refine Ev.congr (f := fun k => spec_l10Good.j0 k true c h) (fun k => ?_) (ev_step (f := fun k => some false) (fun k => by simp [spec_l10Good.j0]) (ev_some _))
    unfold spec_l10Good.f
    rw [if_neg (by omega)]

theorem isValidTally_ev (c h : List Int) : Ev (fun k => impl_IsValidTally.f k c h) (tallyOk c h) := by
  by_cases h1 : c.length = 11
  · by_cases h2 : h.length = 11
    · have := allb_ev (fun k i => impl_IsValidTally.l0 k c (c.length : Int) (i : Int) c h) 11 (fun i => inb (c.getD i 0) 0 1000 && inb (h.getD i 0) 0 (c.getD i 0))
        (fun i r hi hp hh => ev_step (fun k => by
          rw [Bool.and_eq_true] at hp
          simp only [impl_IsValidTally.l0, within_is, Option.bind_some, rd_nat]
          rw [if_pos (by omega), if_pos (by omega), if_pos (by omega), if_pos hp.1, if_pos (by omega), if_pos hp.2, w64 (by omega) (by omega)]
          rfl) hh)
        (fun i hi hp => ev_step (f := fun _ => some false) (fun k => by
          simp only [impl_IsValidTally.l0, within_is, Option.bind_some, rd_nat]
          rw [if_pos (by omega), if_pos (by omega), if_pos (by omega)]
          cases e : inb (c.getD i 0) 0 1000 with
          | false => simp
          | true =>
            rw [e, Bool.true_and] at hp
            simp only [hp, if_true]
            rw [if_pos (by omega)]
            simp) (ev_some _))
        (ev_step (f := fun _ => some true) (fun k => by
          simp only [impl_IsValidTally.l0]
          rw [if_neg (by omega)]) (ev_some _))
      have e : tallyOk c h = rall (fun i => inb (c.getD i 0) 0 1000 && inb (h.getD i 0) 0 (c.getD i 0)) 0 11 := by simp [tallyOk, h1, h2]
      rw [e]
      refine Ev.congr (f := fun k => impl_IsValidTally.j0 k false c h) (fun k => ?_) (ev_step (f := fun k => impl_IsValidTally.l0 k c (c.length : Int) 0 c h) (fun k => by simp [impl_IsValidTally.j0]) this)
      unfold impl_IsValidTally.f
      rw [if_pos (by omega)]
      simp [h2]
    · have e : tallyOk c h = false := by simp [tallyOk, h2]
      rw [e]
      refine Ev.congr (f := fun k => impl_IsValidTally.j0 k true c h) (fun k => ?_) (ev_step (f := fun k => some false) (fun k => by simp [impl_IsValidTally.j0]) (ev_some _))
      unfold impl_IsValidTally.f
      rw [if_pos (by omega), show ((h.length : Int) != 11) = true by rw [bne_iff_ne]; omega]
  · have e : tallyOk c h = false := by simp [tallyOk, h1]
    rw [e]
    refine Ev.congr (f := fun k => impl_IsValidTally.j0 k true c h) (fun k => ?_) (ev_step (f := fun k => some false) (fun k => by simp [impl_IsValidTally.j0]) (ev_some _))
    unfold impl_IsValidTally.f
    rw [if_neg (by omega)]

end Go.Proofs.Ythekngnkajjhnaa.Pure
