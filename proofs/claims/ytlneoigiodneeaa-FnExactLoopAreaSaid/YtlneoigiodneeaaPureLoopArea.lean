/- The area of a loop: the program's and the reference's are one, round for round, and they end. No conditions. -/
import Derived.Test.YtlneoigiodneeaaPureIn
import Derived.Test.YtlneoigiodneeaaPurePoint
import Derived.Test.YtlneoigiodneeaaPf30
import Derived.Test.YtlneoigiodneeaaPf32
namespace Go.Proofs.Ytlneoigiodneeaa.Pure
set_option linter.unusedVariables false
set_option linter.unusedSimpArgs false
open Go.RowKit Go.Proofs.Ytlneoigiodneeaa.P Go.Proofs.YtlneoigiodneeaaW.PrintWords Go.Proofs.YtlneoigiodneeaaW.PrintLast
theorem wrap_order (x a b : Int) : wrap64 (x + wrap64 (wrap64 a - wrap64 b)) = wrap64 (wrap64 (x + wrap64 a) - wrap64 b) := by
  unfold wrap64
  omega
theorem loopArea_same (xs : List S108) : ∀ k s i, impl_loopArea.l0 k xs s xs (xs.length : Int) i = spec_l8Area.l0 k xs s i := by
  intro k
  induction k with
  | zero => intro s i; rfl
  | succ k ih =>
    intro s i
    simp only [impl_loopArea.l0, spec_l8Area.l0, ih, wrap_order]
    by_cases h0 : i < (xs.length : Int)
    · simp only [h0, if_true]
    · simp only [h0, if_false]
theorem area_same (xs : List S108) (k : Nat) : impl_loopArea.f k xs = spec_l8Area.f k xs := loopArea_same xs k 0 0
theorem loop_same (xs : List S108) : ∀ k i, impl_LoopArea.l0 k xs xs (xs.length : Int) i = spec_LoopArea.l0 k xs (xs.length : Int) i := by
  intro k
  induction k with
  | zero => intro i; rfl
  | succ k ih =>
    intro i
    simp only [impl_LoopArea.l0, spec_LoopArea.l0, ih, area_same, within_is, l1In_is]
theorem loopAreaF_same (xs : List S108) (k : Nat) : impl_LoopArea.f k xs = spec_LoopArea.f k xs := by
  unfold impl_LoopArea.f spec_LoopArea.f
  rw [within_is, l1In_is]
  simp only [Option.bind_some, loop_same]
theorem area_ends (xs : List S108) (hn : xs.length ≤ 9223372036854775806) : ∃ r, Ev (fun k => spec_l8Area.f k xs) r := by
  have h := ends_ev (fun k (s : Int) i => spec_l8Area.l0 k xs s (i : Int)) xs.length (fun i s hi => .inl ⟨_, fun r h => ev_step (fun k => by
      simp only [spec_l8Area.l0]
      rw [if_pos (by omega), if_pos (by omega), if_neg (by omega), w64 (by omega) (by omega), tmod_next hi, if_pos (by omega), if_pos (by have := Nat.mod_lt (i + 1) (show 0 < xs.length by omega); omega)]
      rfl) h⟩)
    (fun s => ⟨wrap64 (Int.tdiv s 2), ev_step (f := fun _ => some (wrap64 (Int.tdiv s 2))) (fun k => by
      simp only [spec_l8Area.l0]
      rw [if_neg (by omega)]) (ev_some _)⟩) 0 0 (Nat.zero_le _)
  exact h
theorem loop_ends (xs : List S108) (hn : xs.length ≤ 9223372036854775806) : ∃ r, Ev (fun k => spec_LoopArea.f k xs) r := by
  have h := ends_ev (fun k (_ : Unit) i => spec_LoopArea.l0 k xs (xs.length : Int) (i : Int)) xs.length (fun i s hi => by
      have hm := Nat.mod_lt (i + 1) (show 0 < xs.length by omega)
      have go : ∀ (P : Prop), (∀ k, spec_LoopArea.l0 (k + 1) xs (xs.length : Int) (i : Int) = spec_LoopArea.l0 k xs (xs.length : Int) ((i + 1 : Nat) : Int)) ∨ (∀ k, spec_LoopArea.l0 (k + 1) xs (xs.length : Int) (i : Int) = some (0, false)) := by
        intro P
        have h1 : (i : Int) < (xs.length : Int) := by omega
        have h2 : (0 : Int) ≤ (i : Int) := by omega
        have h3 : ¬ (xs.length : Int) = 0 := by omega
        have h4 : wrap64 ((i : Int) + 1) = (i : Int) + 1 := w64 (by omega) (by omega)
        have h5 : (0 : Int) ≤ (((i + 1) % xs.length : Nat) : Int) := by omega
        have h6 : (((i + 1) % xs.length : Nat) : Int) < (xs.length : Int) := by omega
        simp only [spec_LoopArea.l0, l1In_is, Option.bind_some, h1, h2, h3, h4, tmod_next hi, h5, h6, if_true, if_false]
        cases inb (rd_T108 xs (i : Int)).f0 0 8 with
        | false => exact .inr (fun k => by simp)
        | true =>
          cases inb (rd_T108 xs (i : Int)).f1 0 8 with
          | false => exact .inr (fun k => by simp)
          | true =>
            simp only [if_true]
            split
            · exact .inr (fun k => rfl)
            · exact .inl (fun k => by simp)
      rcases go True with h | h
      · exact .inl ⟨(), fun r hr => ev_step h hr⟩
      · exact .inr ⟨_, ev_step h (ev_some _)⟩)
    (fun s => by
      obtain ⟨r, hr⟩ := area_ends xs hn
      exact ⟨(r, true), ev_step (f := fun k => (spec_l8Area.f k xs).bind fun t => some (t, true)) (fun k => by
        simp only [spec_LoopArea.l0]
        rw [if_neg (by omega)]) (ev_bind hr (ev_some _))⟩) 0 () (Nat.zero_le _)
  unfold spec_LoopArea.f
  rw [l1In_is]
  simp only [Option.bind_some]
  cases inb (xs.length : Int) 4 100 with
  | false => exact ⟨_, ev_ifn (by simp) (ev_some (0, false))⟩
  | true =>
    obtain ⟨r, hr⟩ := h
    exact ⟨r, ev_ifp rfl hr⟩
end Go.Proofs.Ytlneoigiodneeaa.Pure
