/- The divisor of a share: the program's and the reference's rounds both end with the greatest common divisor. Conditions: the numbers are not negative. -/
import Derived.Test.YthekngnkajjhnaaPureBase
import Derived.Test.YthekngnkajjhnaaPf160
import Derived.Test.YthekngnkajjhnaaPf159
namespace Go.Proofs.Ythekngnkajjhnaa.Pure
set_option linter.unusedVariables false
set_option linter.unusedSimpArgs false
open Go.RowKit Go.Proofs.Ythekngnkajjhnaa.P Go.Proofs.YthekngnkajjhnaaW.PrintWords Go.Proofs.YthekngnkajjhnaaW.PrintLast
theorem tmod_nat (a b : Nat) : Int.tmod (a : Int) (b : Int) = ((a % b : Nat) : Int) := by
  rw [Int.tmod_eq_emod_of_nonneg (by omega)]
  rfl
theorem tdiv_nat (a b : Nat) : Int.tdiv (a : Int) (b : Int) = ((a / b : Nat) : Int) := by
  rw [Int.tdiv_eq_ediv_of_nonneg (by omega)]
  rfl
theorem common_ev (b : Nat) : ∀ a : Nat, Ev (fun k => spec_l10Common.l0 k (a : Int) (b : Int)) ((Nat.gcd b a : Nat) : Int) := by
  induction b using Nat.strongRecOn with
  | _ b ih =>
    intro a
    by_cases h : b = 0
    · subst h
      rw [Nat.gcd_zero_left]
      exact ev_step (f := fun _ => some (a : Int)) (fun k => by simp [spec_l10Common.l0]) (ev_some _)
    · have hm := Nat.mod_lt a (Nat.pos_of_ne_zero h)
      rw [Nat.gcd_rec]
      exact ev_step (fun k => by
        simp only [spec_l10Common.l0]
        rw [if_pos (by omega), if_neg (by omega), tmod_nat]) (ih (a % b) hm b)
theorem divisor_same : ∀ k a b, impl_divisorOf.l0 k a b = spec_l10Common.l0 k a b := by
  intro k
  induction k with
  | zero => intro a b; rfl
  | succ k ih => intro a b; simp only [impl_divisorOf.l0, spec_l10Common.l0, ih]
theorem l10Common_ev (a b : Nat) : Ev (fun k => spec_l10Common.f k (a : Int) (b : Int)) ((Nat.gcd a b : Nat) : Int) := by
  rw [Nat.gcd_comm]
  exact common_ev b a
theorem divisorOf_ev (a b : Nat) : Ev (fun k => impl_divisorOf.f k (a : Int) (b : Int)) ((Nat.gcd a b : Nat) : Int) := by
  rw [Nat.gcd_comm]
  exact Ev.congr (fun k => divisor_same k _ _) (common_ev b a)
/-- A share in lowest terms. -/
def shareN (a b : Nat) : Int × Int := (((a / Nat.gcd a b : Nat) : Int), ((b / Nat.gcd a b : Nat) : Int))
theorem l10Share_ev (a b : Nat) (hb : 0 < b) (ha2 : a ≤ 9223372036854775807) (hb2 : b ≤ 9223372036854775807) : Ev (fun k => spec_l10Share.f k (a : Int) (b : Int)) (shareN a b) := by
  have hg : 0 < Nat.gcd a b := Nat.gcd_pos_of_pos_right a hb
  have h1 := Nat.div_le_self a (Nat.gcd a b)
  have h2 := Nat.div_le_self b (Nat.gcd a b)
  refine ev_bind (l10Common_ev a b) (ev_ifn (by omega) (ev_const ?_))
  rw [tdiv_nat, tdiv_nat, w64n (Nat.le_trans h1 ha2), w64n (Nat.le_trans h2 hb2)]
  rfl
theorem shareOf_ev (a b : Nat) (hb : 0 < b) (ha2 : a ≤ 9223372036854775807) (hb2 : b ≤ 9223372036854775807) : Ev (fun k => impl_shareOf.f k (a : Int) (b : Int)) (shareN a b) := by
  have hg : 0 < Nat.gcd a b := Nat.gcd_pos_of_pos_right a hb
  have h1 := Nat.div_le_self a (Nat.gcd a b)
  have h2 := Nat.div_le_self b (Nat.gcd a b)
  have hd := divisorOf_ev b a
  rw [Nat.gcd_comm] at hd
  refine ev_bind hd (ev_ifn (by omega) (ev_const ?_))
  rw [tdiv_nat, tdiv_nat, w64n (Nat.le_trans h1 ha2), w64n (Nat.le_trans h2 hb2)]
  rfl
end Go.Proofs.Ythekngnkajjhnaa.Pure
