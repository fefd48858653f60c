/- The shares of a calibration do not decrease, and over classes of one share the hits are the share of the cases. Condition: the tally is valid. -/
import Derived.Test.YthekngnkajjhnaaPureCalibInv
namespace Go.Proofs.Ythekngnkajjhnaa.Pure
set_option linter.unusedVariables false
set_option linter.unusedSimpArgs false
open Go.RowKit Go.Proofs.Ythekngnkajjhnaa.P Go.Proofs.YthekngnkajjhnaaW.PrintWords Go.Proofs.YthekngnkajjhnaaW.PrintLast
theorem shareN_mul (a b : Nat) : (shareN a b).1 * (b : Int) = (a : Int) * (shareN a b).2 := by
  have h1 : a / Nat.gcd a b * Nat.gcd a b = a := Nat.div_mul_cancel (Nat.gcd_dvd_left a b)
  have h2 : b / Nat.gcd a b * Nat.gcd a b = b := Nat.div_mul_cancel (Nat.gcd_dvd_right a b)
  have h3 : a / Nat.gcd a b * b = a * (b / Nat.gcd a b) := by
    generalize a / Nat.gcd a b = x at *
    generalize b / Nat.gcd a b = y at *
    generalize Nat.gcd a b = g at *
    subst h1 h2
    rw [Nat.mul_comm y g, Nat.mul_assoc]
  show ((a / Nat.gcd a b : Nat) : Int) * (b : Int) = (a : Int) * ((b / Nat.gcd a b : Nat) : Int)
  rw [← Int.natCast_mul, ← Int.natCast_mul, h3]
theorem shareN_bd (a b : Nat) (hb : 0 < b) : 0 ≤ (shareN a b).1 ∧ (shareN a b).1 ≤ (a : Int) ∧ 1 ≤ (shareN a b).2 ∧ (shareN a b).2 ≤ (b : Int) := by
  have h1 := Nat.div_le_self a (Nat.gcd a b)
  have h2 := Nat.div_le_self b (Nat.gcd a b)
  have h3 : 0 < b / Nat.gcd a b := Nat.div_pos (Nat.le_of_dvd hb (Nat.gcd_dvd_right a b)) (Nat.gcd_pos_of_pos_right a hb)
  unfold shareN
  dsimp only
  generalize a / Nat.gcd a b = x at *
  generalize b / Nat.gcd a b = y at *
  omega
section
variable {cs hs : List Int} {G : List SG} (hG : GInv 11 G) (I : PI cs hs 11 G) (h1 : 1 ≤ G.length)
include hG h1
theorem shG_mul (c : Int) : (shG G c).f0 * (grp G c).f1 = (grp G c).f2 * (shG G c).f1 := by
  have o := grp_ok hG h1 c
  have oa := o.a
  have ob := o.b
  have h := shareN_mul (grp G c).f2.toNat (grp G c).f1.toNat
  rw [Int.toNat_of_nonneg ob, Int.toNat_of_nonneg (show 0 ≤ (grp G c).f1 by omega)] at h
  exact h
theorem shG_bd (c : Int) : 0 ≤ (shG G c).f0 ∧ (shG G c).f0 ≤ 11000 ∧ 1 ≤ (shG G c).f1 ∧ (shG G c).f1 ≤ 11000 := by
  have o := grp_ok hG h1 c
  have oa := o.a
  have ob := o.b
  have oc := o.c
  have b := grp_bd hG h1 c
  have h := shareN_bd (grp G c).f2.toNat (grp G c).f1.toNat (by omega)
  unfold shG
  dsimp only
  omega
include I
theorem shG_le {c d : Nat} (h : c ≤ d) (hd : d < 11) : (shG G c).f0 * (shG G d).f1 ≤ (shG G d).f0 * (shG G c).f1 := by
  have hc := chain I (pk_mono I h1 h hd) (pk_lt h1 d)
  have ec : G.getD (pk G c) z135 = grp G c := rfl
  have ed : G.getD (pk G d) z135 = grp G d := rfl
  rw [ec, ed] at hc
  have mc := shG_mul hG h1 (c : Int)
  have md := shG_mul hG h1 (d : Int)
  have bc := shG_bd hG h1 (c : Int)
  have bd := shG_bd hG h1 (d : Int)
  have oc := (grp_ok hG h1 (c : Int)).a
  have od := (grp_ok hG h1 (d : Int)).a
  generalize (grp G c).f1 = c1 at *
  generalize (grp G c).f2 = c2 at *
  generalize (grp G d).f1 = d1 at *
  generalize (grp G d).f2 = d2 at *
  generalize (shG G c).f0 = x at *
  generalize (shG G c).f1 = y at *
  generalize (shG G d).f0 = u at *
  generalize (shG G d).f1 = v at *
  have m1 : c2 * d1 * (y * v) ≤ d2 * c1 * (y * v) := Int.mul_le_mul_of_nonneg_right hc (Int.mul_nonneg (by omega) (by omega))
  have e1 : c2 * d1 * (y * v) = (x * v) * (c1 * d1) := by
    calc c2 * d1 * (y * v) = (c2 * y) * (d1 * v) := by ac_rfl
      _ = (x * c1) * (d1 * v) := by rw [mc]
      _ = (x * v) * (c1 * d1) := by ac_rfl
  have e2 : d2 * c1 * (y * v) = (u * y) * (c1 * d1) := by
    calc d2 * c1 * (y * v) = (d2 * v) * (c1 * y) := by ac_rfl
      _ = (u * d1) * (c1 * y) := by rw [md]
      _ = (u * y) * (c1 * d1) := by ac_rfl
  rw [e1, e2] at m1
  exact Int.le_of_mul_le_mul_right m1 (Int.mul_pos (by omega) (by omega))
omit hG in
/-- A class where the share turns is the first of its group. -/
theorem turn_at (c : Nat) (hc : c + 1 < 11) (hne : shG G (c : Int) ≠ shG G ((c + 1 : Nat) : Int)) : Fk G 11 (pk G (c + 1)) = c + 1 ∧ Fk G 11 (pk G c + 1) = c + 1 := by
  have hm := pk_mono I h1 (c := c) (d := c + 1) (by omega) hc
  have hne2 : pk G c ≠ pk G (c + 1) := fun e => hne (by unfold shG grp; unfold pk at e; rw [e])
  have a1 := pk_lo I (c + 1) (by omega)
  have a2 := pk_hi I h1 c (by omega)
  have a3 := Fk_le I (j := pk G c + 1) (k := pk G (c + 1)) (by omega) (Nat.le_of_lt (pk_lt h1 _))
  omega
theorem run_sum {a c : Nat} (hac : a ≤ c) (hc : c < 11) (ha : a = 0 ∨ shG G ((a - 1 : Nat) : Int) ≠ shG G (a : Int)) (hall : ∀ j : Nat, a ≤ j → j ≤ c → shG G (j : Int) = shG G (c : Int))
    (he : c + 1 = 11 ∨ shG G (c : Int) ≠ shG G ((c + 1 : Nat) : Int)) : (pre hs (c + 1) - pre hs a) * (shG G (c : Int)).f1 = (shG G (c : Int)).f0 * (pre cs (c + 1) - pre cs a) := by
  have pa : pre hs a = pre hs (Fk G 11 (pk G a)) ∧ pre cs a = pre cs (Fk G 11 (pk G a)) := by
    by_cases h : a = 0
    · subst h
      have p0 : pk G 0 = 0 := by
        by_cases hp : pk G 0 = 0
        · exact hp
        · have b1 := pk_lo I 0 (by omega)
          have b2 := Fk_lt I (j := 0) (k := pk G 0) (by omega) (Nat.le_of_lt (pk_lt h1 _))
          omega
      rw [p0, I.c0, I.h0]
      exact ⟨rfl, rfl⟩
    · obtain ⟨b, rfl⟩ : ∃ b, a = b + 1 := ⟨a - 1, by omega⟩
      have ht := (turn_at I h1 b (by omega) (by rcases ha with h2 | h2; (· omega); exact h2)).1
      rw [ht]
      exact ⟨rfl, rfl⟩
  have pe : Fk G 11 (pk G c + 1) = c + 1 := by
    rcases he with h | h
    · have b1 := pk_hi I h1 c (by omega)
      have b2 := Fk_le I (j := pk G c + 1) (k := G.length) (pk_lt h1 c) (Nat.le_refl _)
      rw [Fk_end] at b2
      omega
    · by_cases h11 : c + 1 < 11
      · exact (turn_at I h1 c h11 h).2
      · have b1 := pk_hi I h1 c (by omega)
        have b2 := Fk_le I (j := pk G c + 1) (k := G.length) (pk_lt h1 c) (Nat.le_refl _)
        rw [Fk_end] at b2
        omega
  have hm := pk_mono I h1 hac hc
  have hpc := pk_lt h1 c
  have sum : ∀ K, pk G a ≤ K → K ≤ pk G c → (pre hs (Fk G 11 (K + 1)) - pre hs (Fk G 11 (pk G a))) * (shG G (c : Int)).f1 = (shG G (c : Int)).f0 * (pre cs (Fk G 11 (K + 1)) - pre cs (Fk G 11 (pk G a))) := by
    have one : ∀ K, pk G a ≤ K → K ≤ pk G c → (pre hs (Fk G 11 (K + 1)) - pre hs (Fk G 11 K)) * (shG G (c : Int)).f1 = (shG G (c : Int)).f0 * (pre cs (Fk G 11 (K + 1)) - pre cs (Fk G 11 K)) := by
      intro K k1 k2
      rw [← I.hits K (by omega), ← I.cases K (by omega)]
      by_cases hk : K = pk G a
      · subst hk
        have := shG_mul hG h1 (a : Int)
        rw [hall a (Nat.le_refl _) hac] at this
        have eg : grp G (a : Int) = G.getD (pk G a) z135 := rfl
        rw [eg] at this
        exact this.symm
      · have b1 := pk_hi I h1 a (by omega)
        have b2 := Fk_le I (j := pk G a + 1) (k := K) (by omega) (by omega)
        have b3 := pk_lo I c (by omega)
        have b4 := Fk_le I (j := K) (k := pk G c) k2 (by omega)
        have b5 := I.up K (by omega)
        have b6 := pk_eq I h1 (Fk G 11 K) K (by omega) (Nat.le_refl _) b5
        have := shG_mul hG h1 ((Fk G 11 K : Nat) : Int)
        rw [hall (Fk G 11 K) (by omega) (by omega)] at this
        have eg : grp G ((Fk G 11 K : Nat) : Int) = G.getD (pk G (Fk G 11 K)) z135 := rfl
        rw [eg, b6] at this
        exact this.symm
    intro K
    induction K with
    | zero =>
      intro k1 k2
      have := one 0 k1 k2
      rw [show pk G a = 0 by omega] 
      exact this
    | succ K ih =>
      intro k1 k2
      have o := one (K + 1) k1 k2
      by_cases hk : pk G a = K + 1
      · rw [hk]; exact o
      · have i := ih (by omega) (by omega)
        rw [Int.sub_mul, Int.mul_sub] at o i ⊢
        omega
  have := sum (pk G c) hm (Nat.le_refl _)
  rw [pe, ← pa.1, ← pa.2] at this
  exact this
end
end Go.Proofs.Ythekngnkajjhnaa.Pure
