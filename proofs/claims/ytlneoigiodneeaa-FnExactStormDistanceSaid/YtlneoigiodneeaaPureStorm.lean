/- Storms: one test of their ranges in the program and in the reference; one distance. No conditions. -/
import Derived.Test.YtlneoigiodneeaaPureIn
import Derived.Test.YtlneoigiodneeaaPf74
import Derived.Test.YtlneoigiodneeaaPf75
import Derived.Test.YtlneoigiodneeaaPf76
import Derived.Test.YtlneoigiodneeaaPf77
namespace Go.Proofs.Ytlneoigiodneeaa.Pure
set_option linter.unusedVariables false
set_option linter.unusedSimpArgs false
open Go.RowKit Go.Proofs.Ytlneoigiodneeaa.P Go.Proofs.YtlneoigiodneeaaW.PrintWords Go.Proofs.YtlneoigiodneeaaW.PrintLast
abbrev SS := S36
def stormOk (s : SS) : Bool := inb s.f0 0 7 && (inb s.f1 0 7 && (inb s.f2 1 64 && inb s.f3 (-9000) 9000))
theorem stormOk_iff {s : SS} : stormOk s = true ↔ (0 ≤ s.f0 ∧ s.f0 ≤ 7) ∧ (0 ≤ s.f1 ∧ s.f1 ≤ 7) ∧ (1 ≤ s.f2 ∧ s.f2 ≤ 64) ∧ (-9000 ≤ s.f3 ∧ s.f3 ≤ 9000) := by
  unfold stormOk
  rw [Bool.and_eq_true, Bool.and_eq_true, Bool.and_eq_true, inb_iff, inb_iff, inb_iff, inb_iff]
theorem l12Good_is (s : SS) : spec_l12Good.f s.f0 s.f1 s.f2 s.f3 = some (stormOk s) := by
  unfold spec_l12Good.f stormOk
  simp only [l1In_is, Option.bind_some]
  cases inb s.f0 0 7 <;> cases inb s.f1 0 7 <;> cases inb s.f2 1 64 <;> simp
theorem areStorms1_is (s : SS) : impl_areStorms_1.f s.f0 s.f1 s.f2 s.f3 = some (!stormOk s) := by
  unfold impl_areStorms_1.f stormOk
  simp only [within_is, Option.bind_some]
  cases inb s.f0 0 7 <;> cases inb s.f1 0 7 <;> cases inb s.f2 1 64 <;> simp
theorem rdst (xs : List SS) (i : Nat) : rd_T36 xs (i : Int) = xs.getD i z36 := by simp [rd_T36]
def stormsOk (l : List SS) : Bool := decide (l.length ≤ 5) && l.all stormOk
theorem areStorms_ev (l : List SS) : Ev (fun k => impl_areStorms.f k l) (stormsOk l) := by
  unfold impl_areStorms.f stormsOk
  by_cases hl : l.length ≤ 5
  · have h := find_ev (fun k i => slices_IndexFunc_Storm_at_impl_areStorms_1.l0 k l (l.length : Int) (i : Int)) l.length (fun i => !stormOk (l.getD i z36))
      (fun i r hi hp h => ev_step (fun k => by
        simp only [slices_IndexFunc_Storm_at_impl_areStorms_1.l0, rdst, areStorms1_is, Option.bind_some]
        rw [if_pos (by omega), if_pos (by omega), if_pos (by omega), if_neg (by rw [hp]; decide), w64 (by omega) (by omega)]
        rfl) h)
      (fun i hi hp => ev_step (f := fun _ => some (i : Int)) (fun k => by
        simp only [slices_IndexFunc_Storm_at_impl_areStorms_1.l0, rdst, areStorms1_is, Option.bind_some]
        rw [if_pos (by omega), if_pos (by omega), if_pos (by omega), if_pos hp]) (ev_some _))
      (ev_step (f := fun _ => some (-1)) (fun k => by
        simp only [slices_IndexFunc_Storm_at_impl_areStorms_1.l0]
        rw [if_neg (by omega)]) (ev_some _))
    have e : (decide (l.length ≤ 5) && l.all stormOk) = !decide (fidx (fun i => !stormOk (l.getD i z36)) 0 l.length ≥ 0) := by
      rw [fidx_nonneg, Bool.not_not, decide_eq_true hl, Bool.true_and, ← rall_list l z36 stormOk]
      simp only [Bool.not_not]
    rw [e]
    refine ev_ifp (by omega) (ev_bind (r := decide (fidx (fun i => !stormOk (l.getD i z36)) 0 l.length ≥ 0)) ?_ (ev_some _))
    exact ev_bind h (ev_some _)
  · rw [decide_eq_false hl, Bool.false_and]
    exact ev_ifn (by omega) (ev_some _)
theorem abs_is (x : Int) (h0 : -9223372036854775807 ≤ x) (h1 : x ≤ 9223372036854775807) : spec_l11Abs.f x = some (if x < 0 then -x else x) := by
  unfold spec_l11Abs.f spec_l1Most.f
  rw [w64 (by omega) (by omega)]
  by_cases h : x < 0
  · rw [if_neg (by omega), if_pos h]; rfl
  · by_cases h2 : x = 0
    · subst h2; simp
    · rw [if_pos (by omega), if_neg h]; rfl
theorem absOf_is (x : Int) (h0 : -9223372036854775807 ≤ x) (h1 : x ≤ 9223372036854775807) : impl_absOf.f x = some (if x < 0 then -x else x) := by
  unfold impl_absOf.f
  rw [w64 (by omega) (by omega)]
  split <;> rfl
def absI (x : Int) : Int := if x < 0 then -x else x
def distS (a b : SS) : Int := absI (a.f0 - b.f0) + absI (a.f1 - b.f1)
theorem l12Distance_is (a b : SS) (ha : stormOk a = true) (hb : stormOk b = true) : spec_l12Distance.f a.f0 a.f1 a.f2 a.f3 b.f0 b.f1 b.f2 b.f3 = some (distS a b) := by
  obtain ⟨a0, a1, _⟩ := stormOk_iff.1 ha
  obtain ⟨b0, b1, _⟩ := stormOk_iff.1 hb
  unfold spec_l12Distance.f distS absI
  rw [w64 (by omega) (by omega), w64 (by omega) (by omega), abs_is _ (by omega) (by omega), abs_is _ (by omega) (by omega)]
  simp only [Option.bind_some]
  rw [w64 (by split <;> split <;> omega) (by split <;> split <;> omega)]
theorem stormDistance_is (a b : SS) (ha : stormOk a = true) (hb : stormOk b = true) : impl_stormDistance.f a.f0 a.f1 a.f2 a.f3 b.f0 b.f1 b.f2 b.f3 = some (distS a b) := by
  obtain ⟨a0, a1, _⟩ := stormOk_iff.1 ha
  obtain ⟨b0, b1, _⟩ := stormOk_iff.1 hb
  unfold impl_stormDistance.f distS absI
  rw [w64 (by omega) (by omega), w64 (by omega) (by omega), absOf_is _ (by omega) (by omega), absOf_is _ (by omega) (by omega)]
  simp only [Option.bind_some]
  rw [w64 (by split <;> split <;> omega) (by split <;> split <;> omega)]
theorem distS_bd (a b : SS) (ha : stormOk a = true) (hb : stormOk b = true) : 0 ≤ distS a b ∧ distS a b ≤ 14 := by
  obtain ⟨a0, a1, _⟩ := stormOk_iff.1 ha
  obtain ⟨b0, b1, _⟩ := stormOk_iff.1 hb
  unfold distS absI
  split <;> split <;> omega
end Go.Proofs.Ytlneoigiodneeaa.Pure
