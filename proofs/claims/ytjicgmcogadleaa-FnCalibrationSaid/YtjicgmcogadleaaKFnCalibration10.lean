/- Texts of the claim FnCalibration, merged: part 10 of 10: the program's and the reference's functions as Lean functions, the walks that show it, and plain lemmas; no conditions. -/
import Derived.Test.YtjicgmcogadleaaKFnCalibration2
import Derived.Test.YtjicgmcogadleaaKFnCalibration4
import Derived.Test.YtjicgmcogadleaaKFnCalibration3
import Derived.Test.YtjicgmcogadleaaKFnCalibration8
import Derived.Test.YtjicgmcogadleaaKFnCalibration5
import Derived.Test.YtjicgmcogadleaaKFnCalibration6
import Derived.Test.YtjicgmcogadleaaKFnCalibration7
import Derived.Laws.BitsLemmas
import Derived.Laws.Bits64
import Derived.Test.YtjicgmcogadleaaKFnCalibration9
import Derived.Test.YtjicgmcogadleaaRows
import Derived.WalkKit
import Derived.ProofKit
import Derived.OpenShut
import Derived.ShutString
import Derived.ChangeOld
import Derived.Below
import Derived.SizedLaws
namespace Go.Proofs.Ytjicgmcogadleaa.Pure
set_option linter.unusedVariables false
set_option linter.unusedSimpArgs false
open Go.RowKit Go.Proofs.YtjicgmcogadleaaW.PrintWords Go.Proofs.YtjicgmcogadleaaW.PrintLast Go.Proofs.YtjicgmcogadleaaW.PrintMore
theorem w64 {x : Int} (h0 : -9223372036854775808 ≤ x) (h1 : x ≤ 9223372036854775807) : wrap64 x = x := by
  unfold wrap64
  omega
theorem w64n {n : Nat} (h : n ≤ 9223372036854775807) : wrap64 (n : Int) = (n : Int) := w64 (by omega) (by omega)
theorem rd_nat (xs : List Int) (i : Nat) : rd xs (i : Int) = xs.getD i 0 := by simp [rd]
section
variable {α β : Type} {f g : Nat → Option α} {r : α}
theorem ev_some (r : α) : Ev (fun _ => some r) r := ⟨0, fun _ _ => rfl⟩
theorem ev_ifp {c : Prop} [Decidable c] (h : c) (k : Ev f r) : Ev (fun n => if c then f n else g n) r := Ev.congr (fun _ => if_pos h) k
theorem ev_ifn {c : Prop} [Decidable c] (h : ¬ c) (k : Ev g r) : Ev (fun n => if c then f n else g n) r := Ev.congr (fun _ => if_neg h) k
theorem ev_bind {F : Nat → α → Option β} {q : β} (h : Ev g r) (k : Ev (fun n => F n r) q) : Ev (fun n => (g n).bind (fun x => F n x)) q := by
  obtain ⟨K1, h1⟩ := h
  obtain ⟨K2, h2⟩ := k
  exact ⟨K1 + K2, fun n hn => by show (g n).bind (fun x => F n x) = some q; rw [h1 n (by omega)]; exact h2 n (by omega)⟩
theorem ev_const {a : Option α} (h : a = some r) : Ev (fun _ => a) r := ⟨0, fun _ _ => h⟩
theorem ev_step (h : ∀ k, g (k + 1) = f k) (k : Ev f r) : Ev g r := by
  obtain ⟨K, h1⟩ := k
  refine ⟨K + 1, fun n hn => ?_⟩
  obtain ⟨m, rfl⟩ : ∃ m, n = m + 1 := ⟨n - 1, by omega⟩
  rw [h m]
  exact h1 m (by omega)
theorem ev_two {f : Nat → Option α} {g : Nat → Option β} {a : α} {b : β} (h : Ev f a) (k : Ev g b) : ∃ K, ∀ n, K ≤ n → f n = some a ∧ g n = some b := by
  obtain ⟨K1, h1⟩ := h
  obtain ⟨K2, h2⟩ := k
  exact ⟨K1 + K2, fun n hn => ⟨h1 n (by omega), h2 n (by omega)⟩⟩
end
def iter {σ : Type} (g : Nat → σ → σ) : Nat → Nat → σ → σ
  | _, 0, s => s
  | i, d + 1, s => iter g (i + 1) d (g i s)
theorem loop_ev {σ ρ : Type} (F : Nat → σ → Nat → Option ρ) (n : Nat) (g : Nat → σ → σ) (fin : σ → ρ) (I : Nat → σ → Prop)
    (hs : ∀ i s r, I i s → i < n → Ev (fun k => F k (g i s) (i + 1)) r → Ev (fun k => F k s i) r) (hI : ∀ i s, I i s → i < n → I (i + 1) (g i s))
    (he : ∀ s, I n s → Ev (fun k => F k s n) (fin s)) : ∀ i s, i ≤ n → I i s → Ev (fun k => F k s i) (fin (iter g i (n - i) s)) := by
  have key : ∀ d i s, n - i = d → i ≤ n → I i s → Ev (fun k => F k s i) (fin (iter g i d s)) := by
    intro d
    induction d with
    | zero =>
      intro i s h0 h1 h2
      obtain rfl : i = n := by omega
      exact he s h2
    | succ d ih =>
      intro i s h0 h1 h2
      exact hs i s _ h2 (by omega) (ih (i + 1) (g i s) (by omega) (by omega) (hI i s h2 (by omega)))
  exact fun i s h1 h2 => key (n - i) i s rfl h1 h2
theorem iter_inv {σ : Type} (g : Nat → σ → σ) (I : Nat → σ → Prop) (n : Nat) (hI : ∀ i s, I i s → i < n → I (i + 1) (g i s)) : ∀ d i s, i + d = n → I i s → I n (iter g i d s) := by
  intro d
  induction d with
  | zero => intro i s h0 h1; obtain rfl : i = n := by omega
            exact h1
  | succ d ih => intro i s h0 h1; exact ih (i + 1) _ (by omega) (hI i s h1 (by omega))
def rall (p : Nat → Bool) : Nat → Nat → Bool
  | _, 0 => true
  | i, d + 1 => p i && rall p (i + 1) d
theorem rall_iff (p : Nat → Bool) : ∀ d i, rall p i d = true ↔ ∀ j, i ≤ j → j < i + d → p j = true
  | 0, i => ⟨fun _ j h1 h2 => by omega, fun _ => rfl⟩
  | d + 1, i => by
    show (p i && rall p (i + 1) d) = true ↔ _
    rw [Bool.and_eq_true, rall_iff p d (i + 1)]
    constructor
    · rintro ⟨h0, h1⟩ j h2 h3
      by_cases e : j = i
      · rw [e]; exact h0
      · exact h1 j (by omega) (by omega)
    · intro h
      exact ⟨h i (Nat.le_refl _) (by omega), fun j h2 h3 => h j (by omega) (by omega)⟩
theorem all_ev {ρ : Type} (F : Nat → Nat → Option ρ) (n : Nat) (p : Nat → Bool) (no yes : ρ) (hs : ∀ i r, i < n → p i = true → Ev (fun k => F k (i + 1)) r → Ev (fun k => F k i) r)
    (hn : ∀ i, i < n → p i = false → Ev (fun k => F k i) no) (he : Ev (fun k => F k n) yes) :
    ∀ i, i ≤ n → Ev (fun k => F k i) (if rall p i (n - i) = true then yes else no) := by
  have key : ∀ d i, n - i = d → i ≤ n → Ev (fun k => F k i) (if rall p i d = true then yes else no) := by
    intro d
    induction d with
    | zero =>
      intro i h0 h1
      obtain rfl : i = n := by omega
      rw [show rall p i 0 = true from rfl, if_pos rfl]
      exact he
    | succ d ih =>
      intro i h0 h1
      have h := ih (i + 1) (by omega) (by omega)
      have e : rall p i (d + 1) = (p i && rall p (i + 1) d) := rfl
      cases hp : p i with
      | true =>
        rw [e, hp, Bool.true_and]
        exact hs i _ (by omega) hp h
      | false =>
        rw [e, hp, Bool.false_and, if_neg (by simp)]
        exact hn i (by omega) hp
  exact fun i h1 => key (n - i) i rfl h1
theorem allb_ev (F : Nat → Nat → Option Bool) (n : Nat) (p : Nat → Bool) (hs : ∀ i r, i < n → p i = true → Ev (fun k => F k (i + 1)) r → Ev (fun k => F k i) r)
    (hn : ∀ i, i < n → p i = false → Ev (fun k => F k i) false) (he : Ev (fun k => F k n) true) : Ev (fun k => F k 0) (rall p 0 n) := by
  have h := all_ev F n p false true hs hn he 0 (Nat.zero_le _)
  rw [Nat.sub_zero] at h
  cases e : rall p 0 n <;> simpa [e] using h
theorem getD_eq_get {α : Type} {xs : List α} {i : Nat} (z : α) (h : i < xs.length) : xs.getD i z = xs[i] := by simp [List.getD, List.getElem?_eq_getElem h]
theorem rall_list {α : Type} (xs : List α) (z : α) (p : α → Bool) : rall (fun j => p (xs.getD j z)) 0 xs.length = xs.all p := by
  rw [Bool.eq_iff_iff, rall_iff, List.all_eq_true]
  constructor
  · intro h x hx
    obtain ⟨i, hi, rfl⟩ := List.getElem_of_mem hx
    rw [← getD_eq_get z hi]
    exact h i (Nat.zero_le _) (by omega)
  · intro h j _ hj
    rw [getD_eq_get z (by omega)]
    exact h _ (List.getElem_mem (by omega))
theorem eq_index {α : Type} {xs ys : List α} (z : α) (h : xs.length = ys.length) (hh : ∀ j, j < xs.length → xs.getD j z = ys.getD j z) : xs = ys := by
  refine List.ext_getElem h (fun i h1 h2 => ?_)
  rw [← getD_eq_get z h1, ← getD_eq_get z h2]
  exact hh i h1
def fidx (p : Nat → Bool) : Nat → Nat → Int
  | _, 0 => -1
  | i, d + 1 => if p i = true then (i : Int) else fidx p (i + 1) d
theorem fidx_nonneg (p : Nat → Bool) : ∀ d i, decide (fidx p i d ≥ 0) = !rall (fun j => !p j) i d
  | 0, i => rfl
  | d + 1, i => by
    have h := fidx_nonneg p d (i + 1)
    show decide ((if p i = true then (i : Int) else fidx p (i + 1) d) ≥ 0) = !((!p i) && rall (fun j => !p j) (i + 1) d)
    cases e : p i with
    | true => simp
    | false => simpa using h
theorem find_ev (F : Nat → Nat → Option Int) (n : Nat) (p : Nat → Bool) (hs : ∀ i r, i < n → p i = false → Ev (fun k => F k (i + 1)) r → Ev (fun k => F k i) r) (hx : ∀ i, i < n → p i = true → Ev (fun k => F k i) (i : Int))
    (he : Ev (fun k => F k n) (-1)) : Ev (fun k => F k 0) (fidx p 0 n) := by
  have key : ∀ d i, n - i = d → i ≤ n → Ev (fun k => F k i) (fidx p i d) := by
    intro d
    induction d with
    | zero =>
      intro i h0 h1
      obtain rfl : i = n := by omega
      exact he
    | succ d ih =>
      intro i h0 h1
      show Ev (fun k => F k i) (if p i = true then (i : Int) else fidx p (i + 1) d)
      cases e : p i with
      | true => rw [if_pos rfl]; exact hx i (by omega) e
      | false => rw [if_neg (by simp)]; exact hs i _ (by omega) e (ih (i + 1) (by omega) (by omega))
  exact key n 0 (by omega) (Nat.zero_le _)
end Go.Proofs.Ytjicgmcogadleaa.Pure
namespace Go.Proofs.Ytjicgmcogadleaa.Pure
set_option linter.unusedVariables false
set_option linter.unusedSimpArgs false
open Go.RowKit Go.Proofs.Ytjicgmcogadleaa.P Go.Proofs.YtjicgmcogadleaaW.PrintWords Go.Proofs.YtjicgmcogadleaaW.PrintLast
def inb (x a b : Int) : Bool := decide (a ≤ x) && decide (x ≤ b)
theorem inb_iff {x a b : Int} : inb x a b = true ↔ a ≤ x ∧ x ≤ b := by simp [inb]
theorem l1In_is (x a b : Int) : spec_l1In.f x a b = some (inb x a b) := by
  unfold spec_l1In.f inb
  split
  · rename_i h; simp [show a ≤ x from h]
  · rename_i h; simp [show ¬ a ≤ x from h]
theorem within_is (x a b : Int) : impl_within.f x a b = some (inb x a b) := l1In_is x a b
def tallyOk (c h : List Int) : Bool := decide (c.length = 11) && (decide (h.length = 11) && rall (fun i => inb (c.getD i 0) 0 1000 && inb (h.getD i 0) 0 (c.getD i 0)) 0 11)
theorem tallyOk_iff {c h : List Int} : tallyOk c h = true ↔ c.length = 11 ∧ h.length = 11 ∧ ∀ i, i < 11 → 0 ≤ c.getD i 0 ∧ c.getD i 0 ≤ 1000 ∧ 0 ≤ h.getD i 0 ∧ h.getD i 0 ≤ c.getD i 0 := by
  unfold tallyOk
  rw [Bool.and_eq_true, Bool.and_eq_true, rall_iff, decide_eq_true_eq, decide_eq_true_eq]
  constructor
  · rintro ⟨h1, h2, h3⟩
    refine ⟨h1, h2, fun i hi => ?_⟩
    have := h3 i (Nat.zero_le _) (by omega)
    rw [Bool.and_eq_true, inb_iff, inb_iff] at this
    omega
  · rintro ⟨h1, h2, h3⟩
    refine ⟨h1, h2, fun i _ hi => ?_⟩
    rw [Bool.and_eq_true, inb_iff, inb_iff]
    have := h3 i (by omega)
    omega
theorem l10Good_ev (c h : List Int) : Ev (fun k => spec_l10Good.f k c h) (tallyOk c h) := by
  by_cases h1 : c.length = 11
  · by_cases h2 : h.length = 11
    · have := allb_ev (fun k i => spec_l10Good.l0 k (i : Int) c h) 11 (fun i => inb (c.getD i 0) 0 1000 && inb (h.getD i 0) 0 (c.getD i 0))
        (fun i r hi hp hh => ev_step (fun k => by
          rw [Bool.and_eq_true] at hp
          simp only [spec_l10Good.l0, l1In_is, Option.bind_some, rd_nat]
          rw [if_pos (by omega), if_pos (by omega), if_pos hp.1, if_pos (by omega), if_pos hp.2, w64 (by omega) (by omega)]
          rfl) hh)
        (fun i hi hp => ev_step (f := fun _ => some false) (fun k => by
          simp only [spec_l10Good.l0, l1In_is, Option.bind_some, rd_nat]
          rw [if_pos (by omega), if_pos (by omega)]
          cases e : inb (c.getD i 0) 0 1000 with
          | false => simp
          | true =>
            rw [e, Bool.true_and] at hp
            simp only [hp, if_true]
            rw [if_pos (by omega)]
            simp) (ev_some _))
        (ev_step (f := fun _ => some true) (fun k => by
          simp only [spec_l10Good.l0]
          rw [if_neg (by omega)]) (ev_some _))
      have e : tallyOk c h = rall (fun i => inb (c.getD i 0) 0 1000 && inb (h.getD i 0) 0 (c.getD i 0)) 0 11 := by simp [tallyOk, h1, h2]
      rw [e]
      refine Ev.congr (f := fun k => spec_l10Good.j0 k false c h) (fun k => ?_) (ev_step (f := fun k => spec_l10Good.l0 k 0 c h) (fun k => by simp [spec_l10Good.j0]) this)
      unfold spec_l10Good.f
      rw [if_pos (by omega)]
      simp [h2]
    · have e : tallyOk c h = false := by simp [tallyOk, h2]
      rw [e]
      refine Ev.congr (f := fun k => spec_l10Good.j0 k true c h) (fun k => ?_) (ev_step (f := fun k => some false) (fun k => by simp [spec_l10Good.j0]) (ev_some _))
      unfold spec_l10Good.f
      rw [if_pos (by omega), show ((h.length : Int) != 11) = true by rw [bne_iff_ne]; omega]
  · have e : tallyOk c h = false := by simp [tallyOk, h1]
    rw [e]
    refine Ev.congr (f := fun k => spec_l10Good.j0 k true c h) (fun k => ?_) (ev_step (f := fun k => some false) (fun k => by simp [spec_l10Good.j0]) (ev_some _))
    unfold spec_l10Good.f
    rw [if_neg (by omega)]
theorem isValidTally_ev (c h : List Int) : Ev (fun k => impl_IsValidTally.f k c h) (tallyOk c h) := by
  by_cases h1 : c.length = 11
  · by_cases h2 : h.length = 11
    · have := allb_ev (fun k i => impl_IsValidTally.l0 k c (c.length : Int) (i : Int) c h) 11 (fun i => inb (c.getD i 0) 0 1000 && inb (h.getD i 0) 0 (c.getD i 0))
        (fun i r hi hp hh => ev_step (fun k => by
          rw [Bool.and_eq_true] at hp
          simp only [impl_IsValidTally.l0, within_is, Option.bind_some, rd_nat]
          rw [if_pos (by omega), if_pos (by omega), if_pos (by omega), if_pos hp.1, if_pos (by omega), if_pos hp.2, w64 (by omega) (by omega)]
          rfl) hh)
        (fun i hi hp => ev_step (f := fun _ => some false) (fun k => by
          simp only [impl_IsValidTally.l0, within_is, Option.bind_some, rd_nat]
          rw [if_pos (by omega), if_pos (by omega), if_pos (by omega)]
          cases e : inb (c.getD i 0) 0 1000 with
          | false => simp
          | true =>
            rw [e, Bool.true_and] at hp
            simp only [hp, if_true]
            rw [if_pos (by omega)]
            simp) (ev_some _))
        (ev_step (f := fun _ => some true) (fun k => by
          simp only [impl_IsValidTally.l0]
          rw [if_neg (by omega)]) (ev_some _))
      have e : tallyOk c h = rall (fun i => inb (c.getD i 0) 0 1000 && inb (h.getD i 0) 0 (c.getD i 0)) 0 11 := by simp [tallyOk, h1, h2]
      rw [e]
      refine Ev.congr (f := fun k => impl_IsValidTally.j0 k false c h) (fun k => ?_) (ev_step (f := fun k => impl_IsValidTally.l0 k c (c.length : Int) 0 c h) (fun k => by simp [impl_IsValidTally.j0]) this)
      unfold impl_IsValidTally.f
      rw [if_pos (by omega)]
      simp [h2]
    · have e : tallyOk c h = false := by simp [tallyOk, h2]
      rw [e]
      refine Ev.congr (f := fun k => impl_IsValidTally.j0 k true c h) (fun k => ?_) (ev_step (f := fun k => some false) (fun k => by simp [impl_IsValidTally.j0]) (ev_some _))
      unfold impl_IsValidTally.f
      rw [if_pos (by omega), show ((h.length : Int) != 11) = true by rw [bne_iff_ne]; omega]
  · have e : tallyOk c h = false := by simp [tallyOk, h1]
    rw [e]
    refine Ev.congr (f := fun k => impl_IsValidTally.j0 k true c h) (fun k => ?_) (ev_step (f := fun k => some false) (fun k => by simp [impl_IsValidTally.j0]) (ev_some _))
    unfold impl_IsValidTally.f
    rw [if_neg (by omega)]
theorem tmod_nat (a b : Nat) : Int.tmod (a : Int) (b : Int) = ((a % b : Nat) : Int) := by
  rw [Int.tmod_eq_emod_of_nonneg (by omega)]
  rfl
theorem tdiv_nat (a b : Nat) : Int.tdiv (a : Int) (b : Int) = ((a / b : Nat) : Int) := by
  rw [Int.tdiv_eq_ediv_of_nonneg (by omega)]
  rfl
theorem common_ev (b : Nat) : ∀ a : Nat, Ev (fun k => spec_l10Common.l0 k (a : Int) (b : Int)) ((Nat.gcd b a : Nat) : Int) := by
  induction b using Nat.strongRecOn with
  | _ b ih =>
    intro a
    by_cases h : b = 0
    · subst h
      rw [Nat.gcd_zero_left]
      exact ev_step (f := fun _ => some (a : Int)) (fun k => by simp [spec_l10Common.l0]) (ev_some _)
    · have hm := Nat.mod_lt a (Nat.pos_of_ne_zero h)
      rw [Nat.gcd_rec]
      exact ev_step (fun k => by
        simp only [spec_l10Common.l0]
        rw [if_pos (by omega), if_neg (by omega), tmod_nat]) (ih (a % b) hm b)
theorem divisor_same : ∀ k a b, impl_divisorOf.l0 k a b = spec_l10Common.l0 k a b := by
  intro k
  induction k with
  | zero => intro a b; rfl
  | succ k ih => intro a b; simp only [impl_divisorOf.l0, spec_l10Common.l0, ih]
theorem l10Common_ev (a b : Nat) : Ev (fun k => spec_l10Common.f k (a : Int) (b : Int)) ((Nat.gcd a b : Nat) : Int) := by
  rw [Nat.gcd_comm]
  exact common_ev b a
theorem divisorOf_ev (a b : Nat) : Ev (fun k => impl_divisorOf.f k (a : Int) (b : Int)) ((Nat.gcd a b : Nat) : Int) := by
  rw [Nat.gcd_comm]
  exact Ev.congr (fun k => divisor_same k _ _) (common_ev b a)
def shareN (a b : Nat) : Int × Int := (((a / Nat.gcd a b : Nat) : Int), ((b / Nat.gcd a b : Nat) : Int))
theorem l10Share_ev (a b : Nat) (hb : 0 < b) (ha2 : a ≤ 9223372036854775807) (hb2 : b ≤ 9223372036854775807) : Ev (fun k => spec_l10Share.f k (a : Int) (b : Int)) (shareN a b) := by
  have hg : 0 < Nat.gcd a b := Nat.gcd_pos_of_pos_right a hb
  have h1 := Nat.div_le_self a (Nat.gcd a b)
  have h2 := Nat.div_le_self b (Nat.gcd a b)
  refine ev_bind (l10Common_ev a b) (ev_ifn (by omega) (ev_const ?_))
  rw [tdiv_nat, tdiv_nat, w64n (Nat.le_trans h1 ha2), w64n (Nat.le_trans h2 hb2)]
  rfl
theorem shareOf_ev (a b : Nat) (hb : 0 < b) (ha2 : a ≤ 9223372036854775807) (hb2 : b ≤ 9223372036854775807) : Ev (fun k => impl_shareOf.f k (a : Int) (b : Int)) (shareN a b) := by
  have hg : 0 < Nat.gcd a b := Nat.gcd_pos_of_pos_right a hb
  have h1 := Nat.div_le_self a (Nat.gcd a b)
  have h2 := Nat.div_le_self b (Nat.gcd a b)
  have hd := divisorOf_ev b a
  rw [Nat.gcd_comm] at hd
  refine ev_bind hd (ev_ifn (by omega) (ev_const ?_))
  rw [tdiv_nat, tdiv_nat, w64n (Nat.le_trans h1 ha2), w64n (Nat.le_trans h2 hb2)]
  rfl
end Go.Proofs.Ytjicgmcogadleaa.Pure
namespace Go.Proofs.Ytjicgmcogadleaa.Pure
set_option linter.unusedVariables false
set_option linter.unusedSimpArgs false
open Go.RowKit Go.Proofs.YtjicgmcogadleaaW.PrintWords Go.Proofs.YtjicgmcogadleaaW.PrintLast Go.Proofs.YtjicgmcogadleaaW.PrintMore
def tab {α : Type} (n : Nat) (q : Nat → α) : List α := (List.range n).map q
theorem tab_length {α : Type} (n : Nat) (q : Nat → α) : (tab n q).length = n := by simp [tab]
theorem tab_getD {α : Type} (n : Nat) (q : Nat → α) (z : α) {i : Nat} (h : i < n) : (tab n q).getD i z = q i := by simp [tab, List.getD, h]
theorem tab_mem {α : Type} {n : Nat} {q : Nat → α} {x : α} : x ∈ tab n q ↔ ∃ i, i < n ∧ q i = x := by simp [tab]
theorem iter_set_tab {α : Type} (z : α) (q : Nat → α) (n : Nat) (s : List α) (hs : s.length = n) : iter (fun i (s : List α) => s.set i (q i)) 0 n s = tab n q := by
  have hi := iter_inv (fun i (s : List α) => s.set i (q i)) (fun i s => s.length = n ∧ ∀ j, j < i → s.getD j z = q j) n
    (fun i s hI hi => ⟨by simp [hI.1], fun j hj => by
      by_cases e : j = i
      · subst e
        have := hI.1
        simp [List.getD, List.getElem?_set_self (show j < s.length by omega)]
      · rw [← hI.2 j (by omega)]
        simp [List.getD, List.getElem?_set_ne (Ne.symm e)]⟩) n 0 s (by omega) ⟨hs, fun j hj => by omega⟩
  exact eq_index z (by rw [hi.1, tab_length]) (fun j hj => by rw [hi.2 j (by have := hi.1; omega), tab_getD _ _ z (by have := hi.1; omega)])
theorem iter_app_tab {α : Type} (q : Nat → α) : ∀ d i (s : List α), iter (fun i (s : List α) => s ++ [q i]) i d s = s ++ (List.range d).map (fun j => q (i + j)) := by
  intro d
  induction d with
  | zero => intro i s; simp [iter]
  | succ d ih =>
    intro i s
    show iter _ (i + 1) d (s ++ [q i]) = _
    rw [ih (i + 1) (s ++ [q i]), List.append_assoc, List.range_succ_eq_map, List.map_cons, List.map_map]
    congr 1
    show [q i] ++ _ = q (i + 0) :: _
    rw [List.singleton_append, Nat.add_zero]
    congr 1
    refine List.map_congr_left (fun j _ => ?_)
    show q (i + 1 + j) = q (i + (j + 1))
    congr 1
    omega
theorem iter_app0 {α : Type} (q : Nat → α) (n : Nat) : iter (fun i (s : List α) => s ++ [q i]) 0 n [] = tab n q := by
  rw [iter_app_tab, List.nil_append]
  unfold tab
  exact List.map_congr_left (fun j _ => by rw [Nat.zero_add])
end Go.Proofs.Ytjicgmcogadleaa.Pure
namespace Go.Proofs.Ytjicgmcogadleaa.Pure
set_option linter.unusedVariables false
set_option linter.unusedSimpArgs false
open Go.RowKit Go.Proofs.Ytjicgmcogadleaa.P Go.Proofs.YtjicgmcogadleaaW.PrintWords Go.Proofs.YtjicgmcogadleaaW.PrintLast
abbrev SG := S86
abbrev IG := S93
abbrev SHR := S33
def toI (s : SG) : IG := ⟨s.f0.getD 0 0, s.f1, s.f2⟩
theorem rdsg (xs : List SG) (i : Nat) : rd_T86 xs (i : Int) = xs.getD i z86 := by simp [rd_T86]
theorem rdig (xs : List IG) (i : Nat) : rd_T93 xs (i : Int) = xs.getD i z93 := by simp [rd_T93]
theorem map_get (xs : List SG) {i : Nat} (h : i < xs.length) : (xs.map toI).getD i z93 = toI (xs.getD i z86) := by
  rw [getD_eq_get _ (by rw [List.length_map]; exact h), getD_eq_get _ h, List.getElem_map]
def sm {α : Type} (h : α → Int) : List α → Int
  | [] => 0
  | x :: l => h x + sm h l
theorem sm_app {α : Type} (h : α → Int) : ∀ l m : List α, sm h (l ++ m) = sm h l + sm h m
  | [], m => by simp [sm]
  | x :: l, m => by simp only [List.cons_append, sm]; rw [sm_app h l m]; omega
theorem sm_one {α : Type} (h : α → Int) (x : α) : sm h [x] = h x := by simp [sm]
theorem sm_nn {α : Type} {h : α → Int} : ∀ {l : List α}, (∀ x ∈ l, 0 ≤ h x) → 0 ≤ sm h l
  | [], _ => Int.le_refl _
  | x :: l, hp => by
    have h1 := hp x (List.mem_cons_self ..)
    have h2 := sm_nn (l := l) (fun y hy => hp y (List.mem_cons_of_mem _ hy))
    simp only [sm]
    omega
theorem sm_mem {α : Type} {h : α → Int} : ∀ {l : List α} {x : α}, (∀ x ∈ l, 0 ≤ h x) → x ∈ l → h x ≤ sm h l
  | y :: l, x, hp, hx => by
    have h1 := hp y (List.mem_cons_self ..)
    have h2 := sm_nn (l := l) (fun z hz => hp z (List.mem_cons_of_mem _ hz))
    simp only [sm]
    rcases List.mem_cons.1 hx with e | e
    · subst e; omega
    · have := sm_mem (l := l) (fun z hz => hp z (List.mem_cons_of_mem _ hz)) e
      omega
theorem sm_len {α : Type} {h : α → Int} : ∀ {l : List α}, (∀ x ∈ l, 1 ≤ h x) → (l.length : Int) ≤ sm h l
  | [], _ => by simp [sm]
  | x :: l, hp => by
    have h1 := hp x (List.mem_cons_self ..)
    have h2 := sm_len (l := l) (fun y hy => hp y (List.mem_cons_of_mem _ hy))
    simp only [sm, List.length_cons]
    omega
structure GOk (s : SG) : Prop where
  ne : 1 ≤ s.f0.length
  a : 1 ≤ s.f1
  b : 0 ≤ s.f2
  c : s.f2 ≤ s.f1
def len0 (s : SG) : Int := (s.f0.length : Int)
structure GInv (m : Int) (l : List SG) : Prop where
  ok : ∀ s ∈ l, GOk s
  sum : sm (fun s : SG => s.f1) l ≤ 1000 * m
  len : sm len0 l ≤ m
theorem GInv.more {m m' : Int} {l : List SG} (h : GInv m l) (hm : m ≤ m') : GInv m' l := ⟨h.ok, by have := h.sum; omega, by have := h.len; omega⟩
theorem prod_bd {a b : Int} (a0 : 0 ≤ a) (a1 : a ≤ 11000) (b0 : 0 ≤ b) (b1 : b ≤ 11000) : 0 ≤ a * b ∧ a * b ≤ 121000000 := by
  have h1 : a * b ≤ 11000 * b := Int.mul_le_mul_of_nonneg_right a1 b0
  exact ⟨Int.mul_nonneg a0 b0, by omega⟩
theorem l1Own_is4 (l : List Int) (hl : l.length < 17592186044416) : spec_l1Own.f l = some l := by
  unfold spec_l1Own.f
  rw [Option.bind_some, if_pos (by simpa using hl)]
  rfl
theorem pop_sim (cs hs : List Int) (i : Nat) (hi : i < 11) : ∀ (n : Nat) (T : List SG) (q : SG), T.length = n → (∀ s ∈ T, GOk s) → GOk q → sm (fun s : SG => s.f1) T + q.f1 ≤ 1000 * ((i : Int) + 1) → sm len0 T + len0 q ≤ (i : Int) + 1 →
    ∃ T', GInv ((i + 1 : Nat) : Int) T' ∧ (∀ r, Ev (fun k => spec_l10Groups.l0 k T' ((i + 1 : Nat) : Int) cs hs) r → Ev (fun k => spec_l10Groups.l1 k T (i : Int) cs hs q.f0 q.f1 q.f2) r) ∧
      (∀ r, Ev (fun k => impl_calibrationOf.l0 k (T'.map toI) cs 11 ((i + 1 : Nat) : Int) cs hs) r → Ev (fun k => impl_calibrationOf.l1 k (T.map toI) ((T.map toI).length : Int) cs 11 (i : Int) cs hs (toI q).f0 (toI q).f1 (toI q).f2) r) := by
  have e1 := Aside0.mk (show wrap64 ((i : Int) + 1) = ((i + 1 : Nat) : Int) by rw [w64 (by omega) (by omega)]; rfl)
  have stop : ∀ (T : List SG) (q : SG), (∀ s ∈ T, GOk s) → GOk q → sm (fun s : SG => s.f1) T + q.f1 ≤ 1000 * ((i : Int) + 1) → sm len0 T + len0 q ≤ (i : Int) + 1 → GInv ((i + 1 : Nat) : Int) (T ++ [q]) := fun T q hT hq h1 h2 =>
    ⟨fun s hs => (List.mem_append.1 hs).elim (hT s) (fun h => by rw [List.mem_singleton.1 h]; exact hq), by rw [sm_app, sm_one]; omega, by rw [sm_app, sm_one]; omega⟩
  have short : ∀ T : List SG, (∀ s ∈ T, GOk s) → ∀ q : SG, GOk q → sm (fun s : SG => s.f1) T + q.f1 ≤ 1000 * ((i : Int) + 1) → T.length ≤ 11000 := fun T hT q hq h1 => by
    have := sm_len (h := fun s : SG => s.f1) (l := T) (fun s hs => (hT s hs).a)
    have := hq.a
    omega
  intro n
  induction n with
  | zero =>
    intro T q hn hT hq h1 h2
    obtain rfl := List.length_eq_zero_iff.1 hn
    refine ⟨[] ++ [q], stop [] q hT hq h1 h2, fun r h => ?_, fun r h => ?_⟩
    · refine ev_step (fun k => spec_l10Groups.l1.eq_2 _ _ _ _ _ _ _ k) (ev_ifn (by simp) (ev_ifp (by simp) ?_))
      rw [e1.out]
      exact h
    · refine ev_step (fun k => impl_calibrationOf.l1.eq_2 _ _ _ _ _ _ _ _ _ _ k) (ev_ifn (by simp) (ev_ifp (by simp) ?_))
      rw [e1.out]
      exact h
  | succ n ih =>
    intro T q hn hT hq h1 h2
    have hTs := short T hT q hq h1
    have hne : T ≠ [] := fun e => by rw [e] at hn; simp at hn
    obtain ⟨U, b, rfl⟩ : ∃ U b, T = U ++ [b] := ⟨T.dropLast, T.getLast hne, (List.dropLast_concat_getLast hne).symm⟩
    have hU : U.length = n := by rw [List.length_append, List.length_singleton] at hn; omega
    have hb := hT b (List.mem_append.2 (.inr (List.mem_singleton.2 rfl)))
    have hTU : ∀ s ∈ U, GOk s := fun s hs => hT s (List.mem_append.2 (.inl hs))
    rw [sm_app, sm_one] at h1 h2
    have n1 := sm_nn (h := fun s : SG => s.f1) (l := U) (fun s hs => by have := (hTU s hs).a; omega)
    have n2 := sm_nn (h := len0) (l := U) (fun s hs => by unfold len0; omega)
    have l1 : ((U ++ [b]).length : Int) = (U.length : Int) + 1 := by simp
    have l2 : (((U ++ [b]).map toI).length : Int) = (U.length : Int) + 1 := by simp
    have ei : wrap64 ((U.length : Int) + 1 - 1) = (U.length : Int) := by rw [w64 (by omega) (by omega)]; omega
    have g1 : (U ++ [b]).getD U.length z86 = b := by simp [List.getD]
    have g2 : ((U ++ [b]).map toI).getD U.length z93 = toI b := by rw [map_get _ (by simp), g1]
    have t1 : (U ++ [b]).take U.length = U := by simp
    have t2 : ((U ++ [b]).map toI).take U.length = U.map toI := by simp
    have ba := hb.a
    have bb := hb.b
    have bc := hb.c
    have qa := hq.a
    have qb := hq.b
    have qc := hq.c
    have p1 := prod_bd (a := b.f2) (b := q.f1) bb (by omega) (by omega) (by omega)
    have p2 := prod_bd (a := q.f2) (b := b.f1) qb (by omega) (by omega) (by omega)
    have w1 := Aside0.mk (show wrap64 (b.f2 * q.f1) = b.f2 * q.f1 from w64 (by omega) (by omega))
    have w2 := Aside0.mk (show wrap64 (q.f2 * b.f1) = q.f2 * b.f1 from w64 (by omega) (by omega))
    have w3 := Aside0.mk (show wrap64 (b.f1 + q.f1) = b.f1 + q.f1 from w64 (by omega) (by omega))
    have w4 := Aside0.mk (show wrap64 (b.f2 + q.f2) = b.f2 + q.f2 from w64 (by omega) (by omega))
    have v1 := Aside0.mk (show wrap64 ((toI b).f2 * (toI q).f1) = b.f2 * q.f1 from w1.out)
    have v2 := Aside0.mk (show wrap64 ((toI q).f2 * (toI b).f1) = q.f2 * b.f1 from w2.out)
    have v3 := Aside0.mk (show wrap64 ((toI b).f1 + (toI q).f1) = b.f1 + q.f1 from w3.out)
    have v4 := Aside0.mk (show wrap64 ((toI b).f2 + (toI q).f2) = b.f2 + q.f2 from w4.out)
    unfold len0 at h2 n2
    have bl : b.f0.length < 100 := by omega
    have ql : q.f0.length < 100 := by omega
    by_cases hc : b.f2 * q.f1 > q.f2 * b.f1
    · obtain ⟨T', i1, i2, i3⟩ := ih U ⟨b.f0 ++ q.f0, b.f1 + q.f1, b.f2 + q.f2⟩ hU hTU ⟨by have := hb.ne; simp; omega, by dsimp only; omega, by dsimp only; omega, by dsimp only; omega⟩ (by dsimp only; omega) (by unfold len0; simp only [List.length_append]; omega)
      have ef : (b.f0 ++ q.f0).getD 0 0 = b.f0.getD 0 0 := by
        have := hb.ne
        simp only [List.getD, List.getElem?_append_left (show 0 < b.f0.length by omega)]
      refine ⟨T', i1, fun r h => ?_, fun r h => ?_⟩
      · have h3 := i2 r h
        refine ev_step (fun k => spec_l10Groups.l1.eq_2 _ _ _ _ _ _ _ k) ?_
        rw [l1, ei, rdsg, g1, w1.out, w2.out, w3.out, w4.out, Int.toNat_natCast, t1]
        exact ev_ifp (by omega) (ev_ifp (by omega) (ev_ifp (by omega) (ev_ifp hc (ev_bind (ev_const (l1Own_is4 b.f0 (by omega))) (ev_ifp (by omega) (ev_ifp (by omega) h3))))))
      · have h3 := i3 r h
        refine ev_step (fun k => impl_calibrationOf.l1.eq_2 _ _ _ _ _ _ _ _ _ _ k) ?_
        rw [l2, ei, rdig, g2, v1.out, v2.out, v3.out, v4.out, Int.toNat_natCast, t2]
        refine ev_ifp (by omega) (ev_ifp (by omega) (ev_ifp (by omega) (ev_ifn (by omega) (ev_ifp (by omega) (ev_bind (ev_some _) ?_)))))
        show Ev (fun k => impl_calibrationOf.l1 k (U.map toI) ((U.map toI).length : Int) cs 11 (i : Int) cs hs (b.f0.getD 0 0) (b.f1 + q.f1) (b.f2 + q.f2)) r
        rw [← ef]
        exact h3
    · refine ⟨(U ++ [b]) ++ [q], stop _ q hT hq (by rw [sm_app, sm_one]; omega) (by rw [sm_app, sm_one]; unfold len0; omega), fun r h => ?_, fun r h => ?_⟩
      · refine ev_step (fun k => spec_l10Groups.l1.eq_2 _ _ _ _ _ _ _ k) ?_
        rw [l1, ei, rdsg, g1, w1.out, w2.out, e1.out]
        exact ev_ifp (by omega) (ev_ifp (by omega) (ev_ifp (by omega) (ev_ifn hc (ev_ifp (by omega) h))))
      · refine ev_step (fun k => impl_calibrationOf.l1.eq_2 _ _ _ _ _ _ _ _ _ _ k) ?_
        rw [l2, ei, rdig, g2, e1.out, v1.out, v2.out]
        have h' : Ev (fun k => impl_calibrationOf.l0 k ((U ++ [b]).map toI ++ [toI q]) cs 11 ((i + 1 : Nat) : Int) cs hs) r := by
          rw [List.map_append] at h
          exact h
        exact ev_ifp (by omega) (ev_ifp (by omega) (ev_ifp (by omega) (ev_ifp (by omega) (ev_ifp (by rw [List.length_map]; omega) h'))))
theorem groups_sim {cs hs : List Int} (ok : tallyOk cs hs = true) : ∀ (d i : Nat) (T : List SG), i + d = 11 → GInv (i : Int) T →
    ∃ G, GInv 11 G ∧ Ev (fun k => spec_l10Groups.l0 k T (i : Int) cs hs) G ∧ (∀ r, Ev (fun k => impl_calibrationOf.l0 k (G.map toI) cs 11 11 cs hs) r → Ev (fun k => impl_calibrationOf.l0 k (T.map toI) cs 11 (i : Int) cs hs) r) := by
  obtain ⟨hc, hh, hv⟩ := tallyOk_iff.1 ok
  intro d
  induction d with
  | zero =>
    intro i T h0 hT
    obtain rfl : i = 11 := by omega
    exact ⟨T, hT, ev_step (fun k => spec_l10Groups.l0.eq_2 _ _ _ _ k) (ev_ifn (by omega) (ev_some _)), fun r h => h⟩
  | succ d ih =>
    intro i T h0 hT
    have hi : i < 11 := by omega
    obtain ⟨v1, v2, v3, v4⟩ := hv i hi
    have e1 := Aside0.mk (show wrap64 ((i : Int) + 1) = ((i + 1 : Nat) : Int) by rw [w64 (by omega) (by omega)]; rfl)
    by_cases h1 : cs.getD i 0 = 0
    · obtain ⟨G, g1, g2, g3⟩ := ih (i + 1) T (by omega) (hT.more (by omega))
      refine ⟨G, g1, ?_, fun r h => ?_⟩
      · refine ev_step (fun k => spec_l10Groups.l0.eq_2 _ _ _ _ k) (ev_ifp (by omega) (ev_ifp (by omega) ?_))
        rw [rd_nat, e1.out]
        exact ev_ifp h1 g2
      · refine ev_step (fun k => impl_calibrationOf.l0.eq_2 _ _ _ _ _ _ k) (ev_ifp (by omega) (ev_ifp (by omega) (ev_ifp (by omega) ?_)))
        rw [rd_nat, e1.out]
        exact ev_ifp h1 (g3 r h)
    · obtain ⟨T', t1, t2, t3⟩ := pop_sim cs hs i hi T.length T ⟨[(i : Int)], cs.getD i 0, hs.getD i 0⟩ rfl hT.ok ⟨by simp, by dsimp only; omega, v3, v4⟩ (by have := hT.sum; dsimp only; omega) (by have := hT.len; unfold len0; simp only [List.length_singleton]; unfold len0 at this; omega)
      obtain ⟨G, g1, g2, g3⟩ := ih (i + 1) T' (by omega) t1
      refine ⟨G, g1, ?_, fun r h => ?_⟩
      · refine ev_step (fun k => spec_l10Groups.l0.eq_2 _ _ _ _ k) (ev_ifp (by omega) (ev_ifp (by omega) ?_))
        rw [rd_nat, rd_nat]
        exact ev_ifn h1 (ev_ifp (by omega) (t2 G g2))
      · refine ev_step (fun k => impl_calibrationOf.l0.eq_2 _ _ _ _ _ _ k) (ev_ifp (by omega) (ev_ifp (by omega) (ev_ifp (by omega) ?_)))
        rw [rd_nat, rd_nat]
        exact ev_ifn h1 (ev_ifp (by omega) (t3 r (g3 r h)))
def pkG (G : List SG) (c : Int) : Nat → Nat
  | 0 => 0
  | i + 1 => if (G.getD i z86).f0.getD 0 0 ≤ c then i else pkG G c i
theorem pkG_lt (G : List SG) (c : Int) : ∀ i, 1 ≤ G.length → i ≤ G.length → pkG G c i < G.length
  | 0, h, _ => h
  | i + 1, h, h1 => by
    unfold pkG
    split
    · omega
    · exact pkG_lt G c i h (by omega)
def grp (G : List SG) (c : Int) : SG := G.getD (pkG G c G.length) z86
def shG (G : List SG) (c : Int) : SHR := ⟨(shareN (grp G c).f2.toNat (grp G c).f1.toNat).1, (shareN (grp G c).f2.toNat (grp G c).f1.toNat).2⟩
section
variable {G : List SG} (hG : GInv 11 G) (h1 : 1 ≤ G.length)
include hG h1
theorem grp_ok (c : Int) : GOk (grp G c) := by
  unfold grp
  rw [getD_eq_get _ (pkG_lt G c G.length h1 (Nat.le_refl _))]
  exact hG.ok _ (List.getElem_mem _)
omit h1 in
theorem G_short : G.length ≤ 11000 := by
  have := sm_len (h := fun s : SG => s.f1) (l := G) (fun s hs => (hG.ok s hs).a)
  have := hG.sum
  omega
theorem grp_bd (c : Int) : (grp G c).f1 ≤ 11000 := by
  have hm : grp G c ∈ G := by
    unfold grp
    rw [getD_eq_get _ (pkG_lt G c G.length h1 (Nat.le_refl _))]
    exact List.getElem_mem _
  have := sm_mem (h := fun s : SG => s.f1) (l := G) (fun s hs => by have := (hG.ok s hs).a; omega) hm
  have := hG.sum
  omega
theorem share_spec (c : Int) : Ev (fun k => spec_l10Share.f k (grp G c).f2 (grp G c).f1) (shareN (grp G c).f2.toNat (grp G c).f1.toNat) := by
  have o := grp_ok hG h1 c
  have b := grp_bd hG h1 c
  have oa := o.a
  have ob := o.b
  have oc := o.c
  have h := l10Share_ev (grp G c).f2.toNat (grp G c).f1.toNat (by omega) (by omega) (by omega)
  rw [Int.toNat_of_nonneg ob, Int.toNat_of_nonneg (show 0 ≤ (grp G c).f1 by omega)] at h
  exact h
theorem share_impl (c : Int) : Ev (fun k => impl_shareOf.f k (grp G c).f2 (grp G c).f1) (shareN (grp G c).f2.toNat (grp G c).f1.toNat) := by
  have o := grp_ok hG h1 c
  have b := grp_bd hG h1 c
  have oa := o.a
  have ob := o.b
  have oc := o.c
  have h := shareOf_ev (grp G c).f2.toNat (grp G c).f1.toNat (by omega) (by omega) (by omega)
  rw [Int.toNat_of_nonneg ob, Int.toNat_of_nonneg (show 0 ≤ (grp G c).f1 by omega)] at h
  exact h
theorem pick_spec (c : Int) : Ev (fun k => spec_l10Shares.l1 k G c (G.getD 0 z86).f1 (G.getD 0 z86).f2 0) ((grp G c).f1, (grp G c).f2) := by
  have hs := G_short hG
  have h := loop_ev (fun k (a : Nat) i => spec_l10Shares.l1 k G c (G.getD a z86).f1 (G.getD a z86).f2 (i : Int)) G.length (fun i a => if (G.getD i z86).f0.getD 0 0 ≤ c then i else a) (fun _ => ((grp G c).f1, (grp G c).f2)) (fun i a => a = pkG G c i)
    (fun i a r hI hi hh => by
      have e1 := Aside0.mk (show wrap64 ((i : Int) + 1) = ((i + 1 : Nat) : Int) by rw [w64 (by omega) (by omega)]; rfl)
      have hne : 1 ≤ (G.getD i z86).f0.length := by
        rw [getD_eq_get _ hi]
        exact (hG.ok _ (List.getElem_mem hi)).ne
      refine ev_step (fun k => spec_l10Shares.l1.eq_2 _ _ _ _ _ k) (ev_ifp (by omega) (ev_ifp (by omega) ?_))
      rw [rdsg, e1.out]
      refine ev_ifp (by omega) ?_
      have r0 : rd (G.getD i z86).f0 0 = (G.getD i z86).f0.getD 0 0 := rfl
      rw [r0]
      by_cases hle : (G.getD i z86).f0.getD 0 0 ≤ c
      · simp only [if_pos hle] at hh
        exact ev_ifp hle hh
      · simp only [if_neg hle] at hh
        exact ev_ifn hle hh)
    (fun i a hI hi => by show (if (G.getD i z86).f0.getD 0 0 ≤ c then i else a) = pkG G c (i + 1); rw [hI]; rfl)
    (fun a hI => ev_step (fun k => spec_l10Shares.l1.eq_2 _ _ _ _ _ k) (ev_ifn (by omega) (ev_const (by rw [hI]; rfl)))) 0 0 (Nat.zero_le _) rfl
  exact h
theorem pick_impl (c : Nat) (hc : c < 11) (out : List SHR) (r : List SHR × Bool) (ho : out.length = 11) (h : Ev (fun k => impl_calibrationOf.l2 k (G.map toI) (out.set c (shG G (c : Int))) 11 ((c + 1 : Nat) : Int)) r) :
    Ev (fun k => impl_calibrationOf.l3 k (G.map toI) out (c : Int) 0 11 (c : Int) (G.map toI) ((G.map toI).length : Int) 0) r := by
  have hs := G_short hG
  have hl : ((G.map toI).length : Int) = (G.length : Int) := by rw [List.length_map]
  rw [hl]
  have e2 := Aside0.mk (show wrap64 ((c : Int) + 1) = ((c + 1 : Nat) : Int) by rw [w64 (by omega) (by omega)]; rfl)
  have h2 := loop_ev (fun k (a : Nat) i => impl_calibrationOf.l3 k (G.map toI) out (c : Int) (a : Int) 11 (c : Int) (G.map toI) (G.length : Int) (i : Int)) G.length (fun i a => if (G.getD i z86).f0.getD 0 0 ≤ (c : Int) then i else a) (fun _ => r) (fun i a => a = pkG G (c : Int) i)
    (fun i a r hI hi hh => by
      have e1 := Aside0.mk (show wrap64 ((i : Int) + 1) = ((i + 1 : Nat) : Int) by rw [w64 (by omega) (by omega)]; rfl)
      refine ev_step (fun k => impl_calibrationOf.l3.eq_2 _ _ _ _ _ _ _ _ _ k) (ev_ifp (by omega) (ev_ifp (by omega) (ev_ifp (by omega) ?_)))
      rw [rdig, map_get _ hi, e1.out]
      have r0 : (toI (G.getD i z86)).f0 = (G.getD i z86).f0.getD 0 0 := rfl
      rw [r0]
      by_cases hle : (G.getD i z86).f0.getD 0 0 ≤ (c : Int)
      · simp only [if_pos hle] at hh
        exact ev_ifp hle hh
      · simp only [if_neg hle] at hh
        exact ev_ifn hle hh)
    (fun i a hI hi => by show (if (G.getD i z86).f0.getD 0 0 ≤ (c : Int) then i else a) = pkG G (c : Int) (i + 1); rw [hI]; rfl)
    (fun a hI => by
      have hlt := pkG_lt G (c : Int) G.length h1 (Nat.le_refl _)
      rw [← hI] at hlt
      refine ev_step (fun k => impl_calibrationOf.l3.eq_2 _ _ _ _ _ _ _ _ _ k) (ev_ifn (by omega) (ev_ifp (by omega) (ev_ifp (by omega) ?_)))
      rw [rdig, map_get _ hlt, e2.out]
      have eg : G.getD a z86 = grp G (c : Int) := by rw [hI]; rfl
      rw [eg]
      refine ev_bind (share_impl hG h1 (c : Int)) (ev_ifp (by omega) (ev_ifp (by omega) ?_))
      rw [Int.toNat_natCast]
      exact h) 0 0 (Nat.zero_le _) rfl
  exact h2
theorem shares_spec : Ev (fun k => spec_l10Shares.l0 k G 0 []) (tab 11 (fun c => shG G (c : Int))) := by
  have h := loop_ev (fun k (out : List SHR) i => spec_l10Shares.l0 k G (i : Int) out) 11 (fun i out => out ++ [shG G (i : Int)]) (fun s => s) (fun i out => out.length = i)
    (fun i out r hI hi hh => by
      have e1 := Aside0.mk (show wrap64 ((i : Int) + 1) = ((i + 1 : Nat) : Int) by rw [w64 (by omega) (by omega)]; rfl)
      refine ev_step (fun k => spec_l10Shares.l0.eq_2 _ _ _ k) (ev_ifp (by omega) (ev_ifp (by omega) ?_))
      rw [show rd_T86 G 0 = G.getD 0 z86 from rdsg G 0, e1.out]
      exact ev_bind (pick_spec hG h1 (i : Int)) (ev_bind (share_spec hG h1 (i : Int)) (ev_ifp (by omega) hh)))
    (fun i out hI hi => by rw [List.length_append, hI]; rfl)
    (fun s hI => ev_step (fun k => spec_l10Shares.l0.eq_2 _ _ _ k) (ev_ifn (by omega) (ev_some _))) 0 [] (Nat.zero_le _) rfl
  rw [Nat.sub_zero, iter_app0] at h
  exact h
theorem shares_impl : Ev (fun k => impl_calibrationOf.l2 k (G.map toI) (List.replicate 11 z33) 11 0) (tab 11 (fun c => shG G (c : Int)), true) := by
  have h := loop_ev (fun k (out : List SHR) i => impl_calibrationOf.l2 k (G.map toI) out 11 (i : Int)) 11 (fun i out => out.set i (shG G (i : Int))) (fun s => (s, true)) (fun _ out => out.length = 11)
    (fun i out r hI hi hh => ev_step (fun k => impl_calibrationOf.l2.eq_2 _ _ _ _ k) (ev_ifp (by omega) (pick_impl hG h1 i hi out r hI hh)))
    (fun i out hI hi => by simpa using hI)
    (fun s hI => ev_step (fun k => impl_calibrationOf.l2.eq_2 _ _ _ _ k) (ev_ifn (by omega) (ev_some _))) 0 (List.replicate 11 z33) (Nat.zero_le _) (by simp)
  rw [Nat.sub_zero, iter_set_tab z33 (fun c : Nat => shG G (c : Int)) 11 _ (by simp)] at h
  exact h
end
theorem calib_both {cs hs : List Int} (ok : tallyOk cs hs = true) : ∃ G, GInv 11 G ∧ Ev (fun k => spec_l10Groups.f k cs hs) G ∧
    ((G = [] ∧ Ev (fun k => spec_l10Shares.f k cs hs) [] ∧ Ev (fun k => impl_calibrationOf.f k cs hs) ([], false)) ∨
     (1 ≤ G.length ∧ Ev (fun k => spec_l10Shares.f k cs hs) (tab 11 (fun c => shG G (c : Int))) ∧ Ev (fun k => impl_calibrationOf.f k cs hs) (tab 11 (fun c => shG G (c : Int)), true))) := by
  obtain ⟨hc, hh, hv⟩ := tallyOk_iff.1 ok
  obtain ⟨G, g1, g2, g3⟩ := groups_sim ok 11 0 [] rfl ⟨fun s hs => absurd hs (by simp), by simp [sm], by simp [sm]⟩
  refine ⟨G, g1, g2, ?_⟩
  have h11 : ((cs.length : Nat) : Int) = 11 := by omega
  by_cases h : G.length = 0
  · obtain rfl := List.length_eq_zero_iff.1 h
    refine .inl ⟨rfl, ?_, ?_⟩
    · unfold spec_l10Shares.f spec_l10Groups.f
      exact ev_bind g2 (ev_ifp rfl (ev_some _))
    · unfold impl_calibrationOf.f
      rw [h11]
      exact g3 _ (ev_step (fun k => impl_calibrationOf.l0.eq_2 _ _ _ _ _ _ k) (ev_ifn (by omega) (ev_ifp (by simp) (ev_some _))))
  · refine .inr ⟨by omega, ?_, ?_⟩
    · unfold spec_l10Shares.f spec_l10Groups.f
      exact ev_bind g2 (ev_ifn (by omega) (shares_spec g1 (by omega)))
    · unfold impl_calibrationOf.f
      rw [h11]
      refine g3 _ (ev_step (fun k => impl_calibrationOf.l0.eq_2 _ _ _ _ _ _ k) (ev_ifn (by omega) (ev_ifn (by rw [List.length_map]; omega) (ev_ifp (by omega) (ev_bind (ev_some _) ?_)))))
      simp only [List.length_replicate]
      exact shares_impl g1 (by omega)
theorem ev_det {α : Type} {g : Nat → Option α} {r s : α} (h : Ev g r) (k : Ev g s) : r = s := by
  obtain ⟨K, hk⟩ := ev_two h k
  have := hk K (Nat.le_refl _)
  exact Option.some.inj (this.1.symm.trans this.2)
def pre (cs : List Int) : Nat → Int
  | 0 => 0
  | i + 1 => pre cs i + cs.getD i 0
def nz (cs : List Int) (a : Nat) : Nat → List Int
  | 0 => []
  | b + 1 => if a ≤ b ∧ cs.getD b 0 ≠ 0 then nz cs a b ++ [(b : Int)] else nz cs a b
theorem nz_nil (cs : List Int) (a : Nat) : ∀ b, b ≤ a → nz cs a b = []
  | 0, _ => rfl
  | b + 1, h => by rw [nz, if_neg (by omega)]; exact nz_nil cs a b (by omega)
theorem nz_app (cs : List Int) (a m : Nat) (ham : a ≤ m) : ∀ b, m ≤ b → nz cs a m ++ nz cs m b = nz cs a b
  | 0, h => by obtain rfl : m = 0 := by omega
               simp [nz]
  | b + 1, h => by
    by_cases hm : m = b + 1
    · subst hm
      rw [nz_nil cs (b + 1) (b + 1) (Nat.le_refl _), List.append_nil]
    · have ih := nz_app cs a m ham b (by omega)
      have e1 : nz cs m (b + 1) = if m ≤ b ∧ cs.getD b 0 ≠ 0 then nz cs m b ++ [(b : Int)] else nz cs m b := rfl
      have e2 : nz cs a (b + 1) = if a ≤ b ∧ cs.getD b 0 ≠ 0 then nz cs a b ++ [(b : Int)] else nz cs a b := rfl
      rw [e1, e2]
      by_cases hc : cs.getD b 0 ≠ 0
      · rw [if_pos ⟨by omega, hc⟩, if_pos ⟨by omega, hc⟩, ← List.append_assoc, ih]
      · rw [if_neg (fun h => hc h.2), if_neg (fun h => hc h.2), ih]
theorem nz_one (cs : List Int) (c : Nat) : nz cs c (c + 1) = if cs.getD c 0 ≠ 0 then [(c : Int)] else [] := by
  rw [nz, nz_nil cs c c (Nat.le_refl _)]
  by_cases h : cs.getD c 0 ≠ 0
  · rw [if_pos ⟨Nat.le_refl _, h⟩, if_pos h]; rfl
  · rw [if_neg (fun h2 => h h2.2), if_neg h]
theorem nz_none (cs : List Int) (a : Nat) : ∀ b, nz cs a b = [] → ∀ j, a ≤ j → j < b → cs.getD j 0 = 0
  | 0, _, j, _, h => absurd h (by omega)
  | b + 1, h, j, h1, h2 => by
    rw [nz] at h
    by_cases hc : a ≤ b ∧ cs.getD b 0 ≠ 0
    · rw [if_pos hc] at h
      simp at h
    · rw [if_neg hc] at h
      by_cases e : j = b
      · subst e
        exact Decidable.byContradiction fun hn => hc ⟨h1, hn⟩
      · exact nz_none cs a b h j h1 (by omega)
def PIr (cs hs : List Int) : Nat → List SG → Prop
  | i, [] => pre cs i = 0 ∧ pre hs i = 0 ∧ nz cs 0 i = []
  | i, b :: U => ∃ F : Nat, b.f0.getD 0 0 = (F : Int) ∧ F < i ∧ b.f1 = pre cs i - pre cs F ∧ b.f2 = pre hs i - pre hs F ∧ GOk b ∧ (b.f0 = nz cs F i ∧ cs.getD F 0 ≠ 0) ∧ (∀ c, U.head? = some c → c.f2 * b.f1 ≤ b.f2 * c.f1) ∧ PIr cs hs F U
theorem pop_inv (cs hs : List Int) (i : Nat) (hi : i < 11) : ∀ (n : Nat) (T : List SG) (q : SG) (F : Nat), T.length = n → (∀ s ∈ T, GOk s) → GOk q → sm (fun s : SG => s.f1) T + q.f1 ≤ 1000 * ((i : Int) + 1) → sm len0 T + len0 q ≤ (i : Int) + 1 →
    PIr cs hs F T.reverse → q.f0.getD 0 0 = (F : Int) → F < i + 1 → q.f1 = pre cs (i + 1) - pre cs F → q.f2 = pre hs (i + 1) - pre hs F → q.f0 = nz cs F (i + 1) ∧ cs.getD F 0 ≠ 0 →
    ∃ T', GInv ((i + 1 : Nat) : Int) T' ∧ PIr cs hs (i + 1) T'.reverse ∧ (∀ r, Ev (fun k => spec_l10Groups.l0 k T' ((i + 1 : Nat) : Int) cs hs) r → Ev (fun k => spec_l10Groups.l1 k T (i : Int) cs hs q.f0 q.f1 q.f2) r) := by
  have e1 := Aside0.mk (show wrap64 ((i : Int) + 1) = ((i + 1 : Nat) : Int) by rw [w64 (by omega) (by omega)]; rfl)
  have stop : ∀ (T : List SG) (q : SG), (∀ s ∈ T, GOk s) → GOk q → sm (fun s : SG => s.f1) T + q.f1 ≤ 1000 * ((i : Int) + 1) → sm len0 T + len0 q ≤ (i : Int) + 1 → GInv ((i + 1 : Nat) : Int) (T ++ [q]) := fun T q hT hq h1 h2 =>
    ⟨fun s hs => (List.mem_append.1 hs).elim (hT s) (fun h => by rw [List.mem_singleton.1 h]; exact hq), by rw [sm_app, sm_one]; omega, by rw [sm_app, sm_one]; omega⟩
  have short : ∀ T : List SG, (∀ s ∈ T, GOk s) → ∀ q : SG, GOk q → sm (fun s : SG => s.f1) T + q.f1 ≤ 1000 * ((i : Int) + 1) → T.length ≤ 11000 := fun T hT q hq h1 => by
    have := sm_len (h := fun s : SG => s.f1) (l := T) (fun s hs => (hT s hs).a)
    have := hq.a
    omega
  intro n
  induction n with
  | zero =>
    intro T q F hn hT hq h1 h2 hP hF1 hF2 hF3 hF4 hF5
    obtain rfl := List.length_eq_zero_iff.1 hn
    refine ⟨[] ++ [q], stop [] q hT hq h1 h2, ⟨F, hF1, hF2, hF3, hF4, hq, hF5, fun c hc => absurd hc (by simp), hP⟩, fun r h => ?_⟩
    refine ev_step (fun k => spec_l10Groups.l1.eq_2 _ _ _ _ _ _ _ k) (ev_ifn (by simp) (ev_ifp (by simp) ?_))
    rw [e1.out]
    exact h
  | succ n ih =>
    intro T q F hn hT hq h1 h2 hP hF1 hF2 hF3 hF4 hF5
    have hTs := short T hT q hq h1
    have hne : T ≠ [] := fun e => by rw [e] at hn; simp at hn
    obtain ⟨U, b, rfl⟩ : ∃ U b, T = U ++ [b] := ⟨T.dropLast, T.getLast hne, (List.dropLast_concat_getLast hne).symm⟩
    have hU : U.length = n := by rw [List.length_append, List.length_singleton] at hn; omega
    have hb := hT b (List.mem_append.2 (.inr (List.mem_singleton.2 rfl)))
    have hTU : ∀ s ∈ U, GOk s := fun s hs => hT s (List.mem_append.2 (.inl hs))
    have hrev : (U ++ [b]).reverse = b :: U.reverse := by simp
    have hP0 := hP
    rw [hrev] at hP
    obtain ⟨Fb, hb1, hb2, hb3, hb4, _, hb5, hb6, hb7⟩ := hP
    rw [sm_app, sm_one] at h1 h2
    have n1 := sm_nn (h := fun s : SG => s.f1) (l := U) (fun s hs => by have := (hTU s hs).a; omega)
    have n2 := sm_nn (h := len0) (l := U) (fun s hs => by unfold len0; omega)
    have l1 : ((U ++ [b]).length : Int) = (U.length : Int) + 1 := by simp
    have ei : wrap64 ((U.length : Int) + 1 - 1) = (U.length : Int) := by rw [w64 (by omega) (by omega)]; omega
    have g1 : (U ++ [b]).getD U.length z86 = b := by simp [List.getD]
    have t1 : (U ++ [b]).take U.length = U := by simp
    have ba := hb.a
    have bb := hb.b
    have bc := hb.c
    have qa := hq.a
    have qb := hq.b
    have qc := hq.c
    have p1 := prod_bd (a := b.f2) (b := q.f1) bb (by omega) (by omega) (by omega)
    have p2 := prod_bd (a := q.f2) (b := b.f1) qb (by omega) (by omega) (by omega)
    have w1 := Aside0.mk (show wrap64 (b.f2 * q.f1) = b.f2 * q.f1 from w64 (by omega) (by omega))
    have w2 := Aside0.mk (show wrap64 (q.f2 * b.f1) = q.f2 * b.f1 from w64 (by omega) (by omega))
    have w3 := Aside0.mk (show wrap64 (b.f1 + q.f1) = b.f1 + q.f1 from w64 (by omega) (by omega))
    have w4 := Aside0.mk (show wrap64 (b.f2 + q.f2) = b.f2 + q.f2 from w64 (by omega) (by omega))
    unfold len0 at h2 n2
    have bl : b.f0.length < 100 := by omega
    have ql : q.f0.length < 100 := by omega
    by_cases hc : b.f2 * q.f1 > q.f2 * b.f1
    · have ef : (b.f0 ++ q.f0).getD 0 0 = b.f0.getD 0 0 := by
        have := hb.ne
        simp only [List.getD, List.getElem?_append_left (show 0 < b.f0.length by omega)]
      obtain ⟨T', i1, i0, i2⟩ := ih U ⟨b.f0 ++ q.f0, b.f1 + q.f1, b.f2 + q.f2⟩ Fb hU hTU ⟨by have := hb.ne; simp; omega, by dsimp only; omega, by dsimp only; omega, by dsimp only; omega⟩ (by dsimp only; omega) (by unfold len0; simp only [List.length_append]; omega)
        hb7 (by dsimp only; rw [ef]; exact hb1) (by omega) (by dsimp only; omega) (by dsimp only; omega) ⟨by dsimp only; rw [hb5.1, hF5.1]; exact nz_app cs Fb F (by omega) (i + 1) (by omega), hb5.2⟩
      refine ⟨T', i1, i0, fun r h => ?_⟩
      have h3 := i2 r h
      refine ev_step (fun k => spec_l10Groups.l1.eq_2 _ _ _ _ _ _ _ k) ?_
      rw [l1, ei, rdsg, g1, w1.out, w2.out, w3.out, w4.out, Int.toNat_natCast, t1]
      exact ev_ifp (by omega) (ev_ifp (by omega) (ev_ifp (by omega) (ev_ifp hc (ev_bind (ev_const (l1Own_is4 b.f0 (by omega))) (ev_ifp (by omega) (ev_ifp (by omega) h3))))))
    · refine ⟨(U ++ [b]) ++ [q], stop _ q hT hq (by rw [sm_app, sm_one]; omega) (by rw [sm_app, sm_one]; unfold len0; omega), ?_, fun r h => ?_⟩
      · have er : ((U ++ [b]) ++ [q]).reverse = q :: (U ++ [b]).reverse := by simp
        rw [er]
        refine ⟨F, hF1, hF2, hF3, hF4, hq, hF5, fun c hc2 => ?_, hP0⟩
        rw [hrev] at hc2
        obtain rfl := Option.some.inj hc2
        omega
      · refine ev_step (fun k => spec_l10Groups.l1.eq_2 _ _ _ _ _ _ _ k) ?_
        rw [l1, ei, rdsg, g1, w1.out, w2.out, e1.out]
        exact ev_ifp (by omega) (ev_ifp (by omega) (ev_ifp (by omega) (ev_ifn hc (ev_ifp (by omega) h))))
theorem groups_inv {cs hs : List Int} (ok : tallyOk cs hs = true) : ∀ (d i : Nat) (T : List SG), i + d = 11 → GInv (i : Int) T → PIr cs hs i T.reverse →
    ∃ G, GInv 11 G ∧ PIr cs hs 11 G.reverse ∧ Ev (fun k => spec_l10Groups.l0 k T (i : Int) cs hs) G := by
  obtain ⟨hc, hh, hv⟩ := tallyOk_iff.1 ok
  intro d
  induction d with
  | zero =>
    intro i T h0 hT hP
    obtain rfl : i = 11 := by omega
    exact ⟨T, hT, hP, ev_step (fun k => spec_l10Groups.l0.eq_2 _ _ _ _ k) (ev_ifn (by omega) (ev_some _))⟩
  | succ d ih =>
    intro i T h0 hT hP
    have hi : i < 11 := by omega
    obtain ⟨v1, v2, v3, v4⟩ := hv i hi
    have e1 := Aside0.mk (show wrap64 ((i : Int) + 1) = ((i + 1 : Nat) : Int) by rw [w64 (by omega) (by omega)]; rfl)
    have pc : pre cs (i + 1) = pre cs i + cs.getD i 0 := rfl
    have ph : pre hs (i + 1) = pre hs i + hs.getD i 0 := rfl
    by_cases h1 : cs.getD i 0 = 0
    · have hP' : PIr cs hs (i + 1) T.reverse := by
        cases hT2 : T.reverse with
        | nil =>
          rw [hT2] at hP
          obtain ⟨a1, a2, a3⟩ := hP
          exact ⟨by omega, by omega, by rw [nz, if_neg (fun h => h.2 h1)]; exact a3⟩
        | cons b U =>
          rw [hT2] at hP
          obtain ⟨F, f1, f2, f3, f4, f5, fz, f6, f7⟩ := hP
          exact ⟨F, f1, by omega, by omega, by omega, f5, ⟨by rw [nz, if_neg (fun h => h.2 h1)]; exact fz.1, fz.2⟩, f6, f7⟩
      obtain ⟨G, g1, g0, g2⟩ := ih (i + 1) T (by omega) (hT.more (by omega)) hP'
      refine ⟨G, g1, g0, ?_⟩
      refine ev_step (fun k => spec_l10Groups.l0.eq_2 _ _ _ _ k) (ev_ifp (by omega) (ev_ifp (by omega) ?_))
      rw [rd_nat, e1.out]
      exact ev_ifp h1 g2
    · obtain ⟨T', t1, t0, t2⟩ := pop_inv cs hs i hi T.length T ⟨[(i : Int)], cs.getD i 0, hs.getD i 0⟩ i rfl hT.ok ⟨by simp, by dsimp only; omega, v3, v4⟩ (by have := hT.sum; dsimp only; omega) (by have := hT.len; unfold len0; simp only [List.length_singleton]; unfold len0 at this; omega)
        hP (by simp) (by omega) (by dsimp only; omega) (by dsimp only; omega) ⟨by rw [nz_one, if_pos h1], h1⟩
      obtain ⟨G, g1, g0, g2⟩ := ih (i + 1) T' (by omega) t1 t0
      refine ⟨G, g1, g0, ?_⟩
      refine ev_step (fun k => spec_l10Groups.l0.eq_2 _ _ _ _ k) (ev_ifp (by omega) (ev_ifp (by omega) ?_))
      rw [rd_nat, rd_nat]
      exact ev_ifn h1 (ev_ifp (by omega) (t2 G g2))
def Fk (G : List SG) (i k : Nat) : Nat := if k < G.length then ((G.getD k z86).f0.getD 0 0).toNat else i
structure PI (cs hs : List Int) (i : Nat) (G : List SG) : Prop where
  first : ∀ k, k < G.length → (G.getD k z86).f0.getD 0 0 = (Fk G i k : Int)
  up : ∀ k, k < G.length → Fk G i k < Fk G i (k + 1)
  cases : ∀ k, k < G.length → (G.getD k z86).f1 = pre cs (Fk G i (k + 1)) - pre cs (Fk G i k)
  hits : ∀ k, k < G.length → (G.getD k z86).f2 = pre hs (Fk G i (k + 1)) - pre hs (Fk G i k)
  ok : ∀ k, k < G.length → GOk (G.getD k z86)
  ord : ∀ k, k + 1 < G.length → (G.getD k z86).f2 * (G.getD (k + 1) z86).f1 ≤ (G.getD (k + 1) z86).f2 * (G.getD k z86).f1
  rows : ∀ k, k < G.length → (G.getD k z86).f0 = nz cs (Fk G i k) (Fk G i (k + 1)) ∧ cs.getD (Fk G i k) 0 ≠ 0
  c0 : pre cs (Fk G i 0) = 0
  h0 : pre hs (Fk G i 0) = 0
  n0 : nz cs 0 (Fk G i 0) = []
theorem PI_of {cs hs : List Int} : ∀ (n i : Nat) (G : List SG), G.length = n → PIr cs hs i G.reverse → PI cs hs i G := by
  intro n
  induction n with
  | zero =>
    intro i G hn hP
    obtain rfl := List.length_eq_zero_iff.1 hn
    exact ⟨fun k h => absurd h (by simp), fun k h => absurd h (by simp), fun k h => absurd h (by simp), fun k h => absurd h (by simp), fun k h => absurd h (by simp), fun k h => absurd h (by simp), fun k h => absurd h (by simp), hP.1, hP.2.1, hP.2.2⟩
  | succ n ih =>
    intro i G hn hP
    have hne : G ≠ [] := fun e => by rw [e] at hn; simp at hn
    obtain ⟨U, b, rfl⟩ : ∃ U b, G = U ++ [b] := ⟨G.dropLast, G.getLast hne, (List.dropLast_concat_getLast hne).symm⟩
    have hU : U.length = n := by rw [List.length_append, List.length_singleton] at hn; omega
    rw [show (U ++ [b]).reverse = b :: U.reverse by simp] at hP
    obtain ⟨F, f1, f2, f3, f4, f5, fz, f6, f7⟩ := hP
    have I := ih F U hU f7
    have hl : (U ++ [b]).length = U.length + 1 := by simp
    have gb : (U ++ [b]).getD U.length z86 = b := by simp [List.getD]
    have gu : ∀ k, k < U.length → (U ++ [b]).getD k z86 = U.getD k z86 := fun k hk => by simp only [List.getD, List.getElem?_append_left hk]
    have fb : Fk (U ++ [b]) i U.length = F := by unfold Fk; rw [if_pos (by omega), gb, f1]; rfl
    have fu : ∀ k, k ≤ U.length → Fk (U ++ [b]) i k = Fk U F k := fun k hk => by
      by_cases h : k < U.length
      · unfold Fk; rw [if_pos (by omega), if_pos h, gu k h]
      · obtain rfl : k = U.length := by omega
        rw [fb]; unfold Fk; rw [if_neg (by omega)]
    have fi : Fk (U ++ [b]) i (U.length + 1) = i := by unfold Fk; rw [if_neg (by omega)]
    refine ⟨fun k hk => ?_, fun k hk => ?_, fun k hk => ?_, fun k hk => ?_, fun k hk => ?_, fun k hk => ?_, fun k hk => ?_, ?_, ?_, ?_⟩
    · by_cases h : k < U.length
      · rw [gu k h, fu k (by omega)]; exact I.first k h
      · obtain rfl : k = U.length := by omega
        rw [gb, fb]; exact f1
    · by_cases h : k < U.length
      · rw [fu k (by omega), fu (k + 1) (by omega)]; exact I.up k h
      · obtain rfl : k = U.length := by omega
        rw [fb, fi]; exact f2
    · by_cases h : k < U.length
      · rw [gu k h, fu k (by omega), fu (k + 1) (by omega)]; exact I.cases k h
      · obtain rfl : k = U.length := by omega
        rw [gb, fb, fi]; exact f3
    · by_cases h : k < U.length
      · rw [gu k h, fu k (by omega), fu (k + 1) (by omega)]; exact I.hits k h
      · obtain rfl : k = U.length := by omega
        rw [gb, fb, fi]; exact f4
    · by_cases h : k < U.length
      · rw [gu k h]; exact I.ok k h
      · obtain rfl : k = U.length := by omega
        rw [gb]; exact f5
    · by_cases h : k + 1 < U.length
      · rw [gu k (by omega), gu (k + 1) h]; exact I.ord k h
      · have e : U.length = k + 1 := by omega
        rw [gu k (by omega), show k + 1 = U.length from e.symm, gb]
        refine f6 _ ?_
        rw [List.head?_reverse, List.getLast?_eq_getElem?, show U.length - 1 = k by omega, getD_eq_get _ (show k < U.length by omega), List.getElem?_eq_getElem (show k < U.length by omega)]
    · by_cases h : k < U.length
      · rw [gu k h, fu k (by omega), fu (k + 1) (by omega)]; exact I.rows k h
      · obtain rfl : k = U.length := by omega
        rw [gb, fb, fi]; exact fz
    · rw [fu 0 (Nat.zero_le _)]; exact I.c0
    · rw [fu 0 (Nat.zero_le _)]; exact I.h0
    · rw [fu 0 (Nat.zero_le _)]; exact I.n0
theorem calib_inv {cs hs : List Int} (ok : tallyOk cs hs = true) {G : List SG} (hG : Ev (fun k => spec_l10Groups.f k cs hs) G) : GInv 11 G ∧ PI cs hs 11 G := by
  obtain ⟨G', g1, g2, g3⟩ := groups_inv ok 11 0 [] rfl ⟨fun s hs => absurd hs (by simp), by simp [sm], by simp [sm]⟩ ⟨rfl, rfl, rfl⟩
  have h3 : Ev (fun k => spec_l10Groups.f k cs hs) G' := by unfold spec_l10Groups.f; exact g3
  obtain rfl := ev_det hG h3
  exact ⟨g1, PI_of _ _ _ rfl g2⟩
section
variable {cs hs : List Int} {G : List SG} (ok : tallyOk cs hs = true) (hG : GInv 11 G) (I : PI cs hs 11 G) (h1 : 1 ≤ G.length)
include I
theorem Fk_lt {j k : Nat} (hjk : j < k) (hk : k ≤ G.length) : Fk G 11 j < Fk G 11 k := by
  induction k with
  | zero => omega
  | succ k ih =>
    have := I.up k (by omega)
    by_cases h : j = k
    · subst h; exact this
    · have := ih (by omega) (by omega); omega
theorem Fk_le {j k : Nat} (hjk : j ≤ k) (hk : k ≤ G.length) : Fk G 11 j ≤ Fk G 11 k := by
  by_cases h : j = k
  · subst h; exact Nat.le_refl _
  · exact Nat.le_of_lt (Fk_lt I (by omega) hk)
omit I in
theorem Fk_end : Fk G 11 G.length = 11 := by unfold Fk; rw [if_neg (by omega)]
theorem pkG_spec (c : Nat) : ∀ i, i ≤ G.length → (pkG G (c : Int) i = 0 ∨ Fk G 11 (pkG G (c : Int) i) ≤ c) ∧ ∀ j, pkG G (c : Int) i < j → j < i → c < Fk G 11 j
  | 0, _ => ⟨.inl rfl, fun j _ h => absurd h (by omega)⟩
  | i + 1, hi => by
    have ih := pkG_spec c i (by omega)
    have hf := I.first i (by omega)
    unfold pkG
    by_cases h : (G.getD i z86).f0.getD 0 0 ≤ (c : Int)
    · rw [if_pos h]
      exact ⟨.inr (by omega), fun j h1 h2 => absurd h1 (by omega)⟩
    · rw [if_neg h]
      refine ⟨ih.1, fun j h1 h2 => ?_⟩
      by_cases e : j = i
      · subst e; omega
      · exact ih.2 j h1 (by omega)
omit I in
def pk (G : List SG) (c : Nat) : Nat := pkG G (c : Int) G.length
include h1
omit I in
theorem pk_lt (c : Nat) : pk G c < G.length := pkG_lt G c G.length h1 (Nat.le_refl _)
omit h1 in
theorem pk_lo (c : Nat) (h : 0 < pk G c) : Fk G 11 (pk G c) ≤ c := by
  rcases (pkG_spec I c G.length (Nat.le_refl _)).1 with h2 | h2
  · unfold pk at h; omega
  · exact h2
theorem pk_hi (c : Nat) (hc : c < 11) : c < Fk G 11 (pk G c + 1) := by
  have hp := pk_lt h1 c
  by_cases h : pk G c + 1 < G.length
  · exact (pkG_spec I c G.length (Nat.le_refl _)).2 _ (by unfold pk; omega) h
  · rw [show pk G c + 1 = G.length by omega, Fk_end]; exact hc
theorem pk_eq (c k : Nat) (hk : k < G.length) (h2 : Fk G 11 k ≤ c) (h3 : c < Fk G 11 (k + 1)) : pk G c = k := by
  have hp := pk_lt h1 c
  have h4 := (pkG_spec I c G.length (Nat.le_refl _)).2
  by_cases h : pk G c < k
  · have := h4 k (by unfold pk at h; exact h) hk
    omega
  · by_cases h5 : k < pk G c
    · have := pk_lo I c (by omega)
      have := Fk_le I (j := k + 1) (k := pk G c) (by omega) (by omega)
      omega
    · omega
theorem pk_mono {c d : Nat} (h : c ≤ d) (hd : d < 11) : pk G c ≤ pk G d := by
  have hp := pk_lt h1 c
  have hq := pk_lt h1 d
  by_cases h2 : pk G d < pk G c
  · have a1 := pk_lo I c (by omega)
    have a2 := pk_hi I h1 d hd
    have := Fk_le I (j := pk G d + 1) (k := pk G c) (by omega) (by omega)
    omega
  · omega
omit h1 in
theorem chain {j k : Nat} (hjk : j ≤ k) (hk : k < G.length) : (G.getD j z86).f2 * (G.getD k z86).f1 ≤ (G.getD k z86).f2 * (G.getD j z86).f1 := by
  induction k with
  | zero => obtain rfl : j = 0 := by omega
            exact Int.le_refl _
  | succ k ih =>
    by_cases h : j = k + 1
    · subst h; exact Int.le_refl _
    · have i1 := ih (by omega) (by omega)
      have i2 := I.ord k hk
      have oj := I.ok j (by omega)
      have ok1 := I.ok k (by omega)
      have ok2 := I.ok (k + 1) hk
      have a0 := oj.a
      have a1 := ok1.a
      have a2 := ok2.a
      generalize (G.getD j z86).f1 = u1 at *
      generalize (G.getD j z86).f2 = u2 at *
      generalize (G.getD k z86).f1 = v1 at *
      generalize (G.getD k z86).f2 = v2 at *
      generalize (G.getD (k + 1) z86).f1 = x1 at *
      generalize (G.getD (k + 1) z86).f2 = x2 at *
      have m1 : u2 * v1 * x1 ≤ v2 * u1 * x1 := Int.mul_le_mul_of_nonneg_right i1 (by omega)
      have m2 : v2 * x1 * u1 ≤ x2 * v1 * u1 := Int.mul_le_mul_of_nonneg_right i2 (by omega)
      have e1 : v2 * u1 * x1 = v2 * x1 * u1 := by rw [Int.mul_assoc, Int.mul_assoc, Int.mul_comm u1]
      have e2 : u2 * v1 * x1 = (u2 * x1) * v1 := by rw [Int.mul_assoc, Int.mul_assoc, Int.mul_comm v1]
      have e3 : x2 * v1 * u1 = (x2 * u1) * v1 := by rw [Int.mul_assoc, Int.mul_assoc, Int.mul_comm v1]
      exact Int.le_of_mul_le_mul_right (a := v1) (by omega) (by omega)
end
theorem shareN_mul (a b : Nat) : (shareN a b).1 * (b : Int) = (a : Int) * (shareN a b).2 := by
  have h1 : a / Nat.gcd a b * Nat.gcd a b = a := Nat.div_mul_cancel (Nat.gcd_dvd_left a b)
  have h2 : b / Nat.gcd a b * Nat.gcd a b = b := Nat.div_mul_cancel (Nat.gcd_dvd_right a b)
  have h3 : a / Nat.gcd a b * b = a * (b / Nat.gcd a b) := by
    generalize a / Nat.gcd a b = x at *
    generalize b / Nat.gcd a b = y at *
    generalize Nat.gcd a b = g at *
    subst h1 h2
    rw [Nat.mul_comm y g, Nat.mul_assoc]
  show ((a / Nat.gcd a b : Nat) : Int) * (b : Int) = (a : Int) * ((b / Nat.gcd a b : Nat) : Int)
  rw [← Int.natCast_mul, ← Int.natCast_mul, h3]
theorem shareN_bd (a b : Nat) (hb : 0 < b) : 0 ≤ (shareN a b).1 ∧ (shareN a b).1 ≤ (a : Int) ∧ 1 ≤ (shareN a b).2 ∧ (shareN a b).2 ≤ (b : Int) := by
  have h1 := Nat.div_le_self a (Nat.gcd a b)
  have h2 := Nat.div_le_self b (Nat.gcd a b)
  have h3 : 0 < b / Nat.gcd a b := Nat.div_pos (Nat.le_of_dvd hb (Nat.gcd_dvd_right a b)) (Nat.gcd_pos_of_pos_right a hb)
  unfold shareN
  dsimp only
  generalize a / Nat.gcd a b = x at *
  generalize b / Nat.gcd a b = y at *
  omega
section
variable {cs hs : List Int} {G : List SG} (hG : GInv 11 G) (I : PI cs hs 11 G) (h1 : 1 ≤ G.length)
include hG h1
theorem shG_mul (c : Int) : (shG G c).f0 * (grp G c).f1 = (grp G c).f2 * (shG G c).f1 := by
  have o := grp_ok hG h1 c
  have oa := o.a
  have ob := o.b
  have h := shareN_mul (grp G c).f2.toNat (grp G c).f1.toNat
  rw [Int.toNat_of_nonneg ob, Int.toNat_of_nonneg (show 0 ≤ (grp G c).f1 by omega)] at h
  exact h
theorem shG_bd (c : Int) : 0 ≤ (shG G c).f0 ∧ (shG G c).f0 ≤ 11000 ∧ 1 ≤ (shG G c).f1 ∧ (shG G c).f1 ≤ 11000 := by
  have o := grp_ok hG h1 c
  have oa := o.a
  have ob := o.b
  have oc := o.c
  have b := grp_bd hG h1 c
  have h := shareN_bd (grp G c).f2.toNat (grp G c).f1.toNat (by omega)
  unfold shG
  dsimp only
  omega
include I
theorem shG_le {c d : Nat} (h : c ≤ d) (hd : d < 11) : (shG G c).f0 * (shG G d).f1 ≤ (shG G d).f0 * (shG G c).f1 := by
  have hc := chain I (pk_mono I h1 h hd) (pk_lt h1 d)
  have ec : G.getD (pk G c) z86 = grp G c := rfl
  have ed : G.getD (pk G d) z86 = grp G d := rfl
  rw [ec, ed] at hc
  have mc := shG_mul hG h1 (c : Int)
  have md := shG_mul hG h1 (d : Int)
  have bc := shG_bd hG h1 (c : Int)
  have bd := shG_bd hG h1 (d : Int)
  have oc := (grp_ok hG h1 (c : Int)).a
  have od := (grp_ok hG h1 (d : Int)).a
  generalize (grp G c).f1 = c1 at *
  generalize (grp G c).f2 = c2 at *
  generalize (grp G d).f1 = d1 at *
  generalize (grp G d).f2 = d2 at *
  generalize (shG G c).f0 = x at *
  generalize (shG G c).f1 = y at *
  generalize (shG G d).f0 = u at *
  generalize (shG G d).f1 = v at *
  have m1 : c2 * d1 * (y * v) ≤ d2 * c1 * (y * v) := Int.mul_le_mul_of_nonneg_right hc (Int.mul_nonneg (by omega) (by omega))
  have e1 : c2 * d1 * (y * v) = (x * v) * (c1 * d1) := by
    calc c2 * d1 * (y * v) = (c2 * y) * (d1 * v) := by ac_rfl
      _ = (x * c1) * (d1 * v) := by rw [mc]
      _ = (x * v) * (c1 * d1) := by ac_rfl
  have e2 : d2 * c1 * (y * v) = (u * y) * (c1 * d1) := by
    calc d2 * c1 * (y * v) = (d2 * v) * (c1 * y) := by ac_rfl
      _ = (u * d1) * (c1 * y) := by rw [md]
      _ = (u * y) * (c1 * d1) := by ac_rfl
  rw [e1, e2] at m1
  exact Int.le_of_mul_le_mul_right m1 (Int.mul_pos (by omega) (by omega))
omit hG in
end
abbrev SH := S33
theorem rdsh (xs : List SH) (i : Nat) : rd_T33 xs (i : Int) = xs.getD i z33 := by simp [rd_T33]
theorem shareN_eq {a b c d : Nat} (hb : 0 < b) (hd : 0 < d) : shareN a b = shareN c d ↔ (a : Int) * (d : Int) = (c : Int) * (b : Int) := by
  constructor
  · intro h
    have m1 := shareN_mul a b
    have m2 := shareN_mul c d
    have bd := shareN_bd a b hb
    rw [← h] at m2
    generalize (shareN a b).1 = x at *
    generalize (shareN a b).2 = y at *
    have hy : 0 < y := by omega
    refine Int.eq_of_mul_eq_mul_right (show y ≠ 0 by omega) ?_
    calc (a : Int) * d * y = (a * y) * d := by ac_rfl
      _ = (x * b) * d := by rw [m1]
      _ = (x * d) * b := by ac_rfl
      _ = (c * y) * b := by rw [m2]
      _ = (c : Int) * b * y := by ac_rfl
  · intro h
    have h : a * d = c * b := by exact_mod_cast h
    have g : Nat.gcd a b * d = Nat.gcd c d * b := by
      rw [← Nat.gcd_mul_right, ← Nat.gcd_mul_right, h, Nat.mul_comm b d]
    have h1 : a / Nat.gcd a b * Nat.gcd a b = a := Nat.div_mul_cancel (Nat.gcd_dvd_left a b)
    have h2 : b / Nat.gcd a b * Nat.gcd a b = b := Nat.div_mul_cancel (Nat.gcd_dvd_right a b)
    have h3 : c / Nat.gcd c d * Nat.gcd c d = c := Nat.div_mul_cancel (Nat.gcd_dvd_left c d)
    have h4 : d / Nat.gcd c d * Nat.gcd c d = d := Nat.div_mul_cancel (Nat.gcd_dvd_right c d)
    have p1 : 0 < Nat.gcd a b := Nat.gcd_pos_of_pos_right a hb
    have p2 : 0 < Nat.gcd c d := Nat.gcd_pos_of_pos_right c hd
    unfold shareN
    generalize a / Nat.gcd a b = x at *
    generalize b / Nat.gcd a b = y at *
    generalize c / Nat.gcd c d = u at *
    generalize d / Nat.gcd c d = v at *
    generalize Nat.gcd a b = p at *
    generalize Nat.gcd c d = q at *
    have e1 : v = y := by
      refine Nat.eq_of_mul_eq_mul_right (Nat.mul_pos p1 p2) ?_
      calc v * (p * q) = p * (v * q) := by ac_rfl
        _ = p * d := by rw [h4]
        _ = q * b := g
        _ = q * (y * p) := by rw [h2]
        _ = y * (p * q) := by ac_rfl
    have hv : 0 < v := Nat.pos_of_ne_zero fun e => by rw [e, Nat.zero_mul] at h4; omega
    have e2 : x = u := by
      refine Nat.eq_of_mul_eq_mul_right (Nat.mul_pos (Nat.mul_pos p1 p2) hv) ?_
      calc x * (p * q * v) = (x * p) * (v * q) := by ac_rfl
        _ = a * d := by rw [h1, h4]
        _ = c * b := h
        _ = (u * q) * (y * p) := by rw [h3, h2]
        _ = u * (p * q * v) := by rw [e1]; ac_rfl
    rw [e1, e2]
instance shrDec (a b : SHR) : Decidable (a = b) := decidable_of_iff (a.f0 = b.f0 ∧ a.f1 = b.f1) ⟨fun h => by
  cases a
  cases b
  simp only at h
  rw [h.1, h.2], fun h => by rw [h]; exact ⟨rfl, rfl⟩⟩
def app1 (O : List (List Int)) (r : List Int) : List (List Int) := O.set (O.length - 1) (O.getD (O.length - 1) [] ++ r)
theorem app1_len (O : List (List Int)) (r : List Int) : (app1 O r).length = O.length := by simp [app1]
theorem app1_two (O : List (List Int)) (hO : 1 ≤ O.length) (r s : List Int) : app1 (app1 O r) s = app1 O (r ++ s) := by
  unfold app1
  have h : (O.set (O.length - 1) (O.getD (O.length - 1) [] ++ r)).getD (O.length - 1) [] = O.getD (O.length - 1) [] ++ r := by
    simp [List.getD, List.getElem?_set_self (show O.length - 1 < O.length by omega)]
  rw [List.length_set, h, List.set_set, List.append_assoc]
theorem app1_new (O : List (List Int)) (r s : List Int) : app1 (O ++ [r]) s = O ++ [r ++ s] := by
  unfold app1
  have e : (O ++ [r]).length - 1 = O.length := by simp
  rw [e]
  have h : (O ++ [r]).getD O.length [] = r := by simp [List.getD]
  rw [h]
  simp
theorem app1_big {O : List (List Int)} {m n : Nat} (h : ∀ s ∈ O, s.length ≤ m) {r : List Int} (hr : r.length ≤ n) : ∀ s ∈ app1 O r, s.length ≤ m + n := fun s hs => by
  rcases List.mem_or_eq_of_mem_set hs with h1 | h1
  · have := h s h1; omega
  · rw [h1, List.length_append]
    by_cases hO : O.length - 1 < O.length
    · have := h _ (List.getElem_mem hO)
      rw [getD_eq_get _ hO]
      omega
    · rw [show O.getD (O.length - 1) [] = [] by simp [List.getD, List.getElem?_eq_none (show O.length ≤ O.length - 1 by omega)]]
      simp
      omega
def stick (p : Bool) (O : List (List Int)) (r : List Int) : List (List Int) := if p then app1 O r else O ++ [r]
theorem stick_len (p : Bool) (O : List (List Int)) (r : List Int) (h : p = true → 1 ≤ O.length) : 1 ≤ (stick p O r).length ∧ (stick p O r).length ≤ O.length + 1 := by
  unfold stick
  cases p
  · simp
  · have := h rfl
    simp only [if_pos, app1_len]
    omega
theorem stick_app (p : Bool) (O : List (List Int)) (h : p = true → 1 ≤ O.length) (r s : List Int) : app1 (stick p O r) s = stick p O (r ++ s) := by
  unfold stick
  cases p
  · exact app1_new O r s
  · exact app1_two O (h rfl) r s
theorem stick_big {O : List (List Int)} {m n : Nat} (p : Bool) (h : ∀ s ∈ O, s.length ≤ m) {r : List Int} (hr : r.length ≤ n) : ∀ s ∈ stick p O r, s.length ≤ m + n := fun s hs => by
  unfold stick at hs
  cases p
  · rcases List.mem_append.1 hs with h1 | h1
    · have := h s h1; omega
    · rw [List.mem_singleton.1 h1]; omega
  · exact app1_big h hr s hs
abbrev gk (G : List SG) (k : Nat) : SG := G.getD k z86
def sameK (G : List SG) (k : Nat) : Bool := decide (0 < k) && decide ((gk G (k - 1)).f2 * (gk G k).f1 = (gk G k).f2 * (gk G (k - 1)).f1)
def joinG (G : List SG) : Nat → List (List Int)
  | 0 => []
  | k + 1 => stick (sameK G k) (joinG G k) (gk G k).f0
theorem joinG_len (G : List SG) : ∀ k, (joinG G k).length ≤ k ∧ (0 < k → 1 ≤ (joinG G k).length)
  | 0 => by simp [joinG]
  | k + 1 => by
    have h := joinG_len G k
    have := stick_len (sameK G k) (joinG G k) (gk G k).f0 (fun e => h.2 (by unfold sameK at e; simp at e; omega))
    unfold joinG
    omega
def stI (cs : List Int) (q : Nat → SHR) : Nat → List (List Int) × SHR
  | 0 => ([], z33)
  | c + 1 => if cs.getD c 0 = 0 then stI cs q c else (stick (decide (0 < (stI cs q c).1.length) && decide (q c = (stI cs q c).2)) (stI cs q c).1 [(c : Int)], q c)
theorem stI_len (cs : List Int) (q : Nat → SHR) : ∀ c, (stI cs q c).1.length ≤ c ∧ ∀ s ∈ (stI cs q c).1, s.length ≤ c
  | 0 => by simp [stI]
  | c + 1 => by
    have h := stI_len cs q c
    unfold stI
    by_cases hc : cs.getD c 0 = 0
    · rw [if_pos hc]
      exact ⟨by omega, fun s hs => by have := h.2 s hs; omega⟩
    · rw [if_neg hc]
      have l := stick_len (decide (0 < (stI cs q c).1.length) && decide (q c = (stI cs q c).2)) (stI cs q c).1 [(c : Int)] (fun e => by simp at e; omega)
      exact ⟨by dsimp only; omega, fun s hs => stick_big _ h.2 (show ([(c : Int)] : List Int).length ≤ 1 by simp) s hs⟩
section
variable {cs hs : List Int} {G : List SG} (hG : GInv 11 G) (I : PI cs hs 11 G)
include I
theorem shg_at {k : Nat} (hk : k < G.length) (c : Nat) (h2 : Fk G 11 k ≤ c) (h3 : c < Fk G 11 (k + 1)) : shG G (c : Int) = ⟨(shareN (gk G k).f2.toNat (gk G k).f1.toNat).1, (shareN (gk G k).f2.toNat (gk G k).f1.toNat).2⟩ := by
  have h := pk_eq I (by omega) c k hk h2 h3
  unfold shG grp
  unfold pk at h
  rw [h]
theorem share_turn {j k : Nat} (hj : j < G.length) (hk : k < G.length) : shG G (Fk G 11 j : Int) = shG G (Fk G 11 k : Int) ↔ (gk G j).f2 * (gk G k).f1 = (gk G k).f2 * (gk G j).f1 := by
  have oj := I.ok j hj
  have ok := I.ok k hk
  have a1 := oj.a
  have b1 := oj.b
  have a2 := ok.a
  have b2 := ok.b
  rw [shg_at I hj _ (Nat.le_refl _) (I.up j hj), shg_at I hk _ (Nat.le_refl _) (I.up k hk)]
  have h := shareN_eq (a := (gk G j).f2.toNat) (b := (gk G j).f1.toNat) (c := (gk G k).f2.toNat) (d := (gk G k).f1.toNat) (by unfold gk; omega) (by unfold gk; omega)
  rw [Int.toNat_of_nonneg (show 0 ≤ (gk G j).f2 from b1), Int.toNat_of_nonneg (show 0 ≤ (gk G k).f2 from b2), Int.toNat_of_nonneg (show 0 ≤ (gk G j).f1 by unfold gk; omega), Int.toNat_of_nonneg (show 0 ≤ (gk G k).f1 by unfold gk; omega)] at h
  rw [← h]
  constructor
  · intro e
    injection e with e1 e2
    exact Prod.ext e1 e2
  · intro e
    rw [e]
def lastK (G : List SG) (k : Nat) : SHR := if k = 0 then z33 else shG G (Fk G 11 (k - 1) : Int)
theorem stI_low : ∀ c, c ≤ Fk G 11 0 → stI cs (fun c => shG G (c : Int)) c = ([], z33)
  | 0, _ => rfl
  | c + 1, h => by
    unfold stI
    rw [if_pos (nz_none cs 0 _ I.n0 c (Nat.zero_le _) (by omega))]
    exact stI_low c (by omega)
theorem stI_in {k : Nat} (hk : k < G.length) (h0 : stI cs (fun c => shG G (c : Int)) (Fk G 11 k) = (joinG G k, lastK G k)) :
    ∀ d, Fk G 11 k + 1 + d ≤ Fk G 11 (k + 1) → stI cs (fun c => shG G (c : Int)) (Fk G 11 k + 1 + d) = (stick (sameK G k) (joinG G k) (nz cs (Fk G 11 k) (Fk G 11 k + 1 + d)), shG G (Fk G 11 k : Int))
  | 0, h => by
    have hr := (I.rows k hk).2
    have hl := joinG_len G k
    have e : stI cs (fun c => shG G (c : Int)) (Fk G 11 k + 1 + 0) = if cs.getD (Fk G 11 k) 0 = 0 then stI cs (fun c => shG G (c : Int)) (Fk G 11 k) else (stick (decide (0 < (stI cs (fun c => shG G (c : Int)) (Fk G 11 k)).1.length) && decide (shG G (Fk G 11 k : Int) = (stI cs (fun c => shG G (c : Int)) (Fk G 11 k)).2)) (stI cs (fun c => shG G (c : Int)) (Fk G 11 k)).1 [(Fk G 11 k : Int)], shG G (Fk G 11 k : Int)) := rfl
    rw [e, if_neg hr, h0, Nat.add_zero, nz_one, if_pos hr]
    have ec : (decide (0 < (joinG G k).length) && decide (shG G (Fk G 11 k : Int) = lastK G k)) = sameK G k := by
      by_cases hk0 : k = 0
      · subst hk0
        simp [joinG, sameK]
      · have h1 := hl.2 (by omega)
        unfold sameK lastK
        rw [if_neg hk0, decide_eq_true (show 0 < (joinG G k).length by omega), decide_eq_true (show 0 < k by omega), Bool.true_and, Bool.true_and]
        have ht := share_turn I (j := k - 1) (k := k) (by omega) hk
        by_cases hs : shG G (Fk G 11 (k - 1) : Int) = shG G (Fk G 11 k : Int)
        · rw [decide_eq_true hs.symm, decide_eq_true (ht.1 hs)]
        · rw [decide_eq_false (fun e => hs e.symm), decide_eq_false (fun e => hs (ht.2 e))]
    dsimp only
    rw [ec]
  | d + 1, h => by
    have ih := stI_in hk h0 d (by omega)
    have hj := joinG_len G k
    have hp : sameK G k = true → 1 ≤ (joinG G k).length := fun e => hj.2 (by unfold sameK at e; simp at e; omega)
    generalize hb : Fk G 11 k + 1 + d = b at *
    have e : stI cs (fun c => shG G (c : Int)) (Fk G 11 k + 1 + (d + 1)) = if cs.getD b 0 = 0 then stI cs (fun c => shG G (c : Int)) b else (stick (decide (0 < (stI cs (fun c => shG G (c : Int)) b).1.length) && decide (shG G (b : Int) = (stI cs (fun c => shG G (c : Int)) b).2)) (stI cs (fun c => shG G (c : Int)) b).1 [(b : Int)], shG G (b : Int)) := by
      rw [show Fk G 11 k + 1 + (d + 1) = b + 1 by omega]; rfl
    have en : nz cs (Fk G 11 k) (Fk G 11 k + 1 + (d + 1)) = if Fk G 11 k ≤ b ∧ cs.getD b 0 ≠ 0 then nz cs (Fk G 11 k) b ++ [(b : Int)] else nz cs (Fk G 11 k) b := by
      rw [show Fk G 11 k + 1 + (d + 1) = b + 1 by omega]; rfl
    have es : shG G (b : Int) = shG G (Fk G 11 k : Int) := by
      rw [shg_at I hk _ (by omega) (by omega), shg_at I hk _ (Nat.le_refl _) (I.up k hk)]
    rw [e, en, ih]
    by_cases hc : cs.getD b 0 = 0
    · rw [if_pos hc, if_neg (fun h => h.2 hc)]
    · rw [if_neg hc, if_pos ⟨by omega, hc⟩, es]
      have l := stick_len (sameK G k) (joinG G k) (nz cs (Fk G 11 k) b) hp
      dsimp only
      rw [decide_eq_true (show 0 < (stick (sameK G k) (joinG G k) (nz cs (Fk G 11 k) b)).length by omega), decide_eq_true rfl, ← stick_app _ _ hp]
      rfl
theorem stI_join : ∀ k, k ≤ G.length → stI cs (fun c => shG G (c : Int)) (Fk G 11 k) = (joinG G k, lastK G k)
  | 0, _ => stI_low I _ (Nat.le_refl _)
  | k + 1, h => by
    have hu := I.up k (by omega)
    have h2 := stI_in I (by omega) (stI_join k (by omega)) (Fk G 11 (k + 1) - (Fk G 11 k + 1)) (by omega)
    rw [show Fk G 11 k + 1 + (Fk G 11 (k + 1) - (Fk G 11 k + 1)) = Fk G 11 (k + 1) by omega] at h2
    rw [h2]
    have ej : joinG G (k + 1) = stick (sameK G k) (joinG G k) (gk G k).f0 := rfl
    rw [ej]
    unfold lastK
    rw [if_neg (by omega), Nat.add_sub_cancel, show (gk G k).f0 = _ from (I.rows k (by omega)).1]
include hG
theorem one_bd {k : Nat} (hk : k < G.length) : 1 ≤ (gk G k).f1 ∧ (gk G k).f1 ≤ 11000 ∧ 0 ≤ (gk G k).f2 ∧ (gk G k).f2 ≤ 11000 ∧ (gk G k).f0.length ≤ 11 := by
  have o := I.ok k hk
  have hm : gk G k ∈ G := by unfold gk; rw [getD_eq_get _ hk]; exact List.getElem_mem hk
  have s1 := sm_mem (h := fun s : SG => s.f1) (fun s hs => by have := (hG.ok s hs).a; omega) hm
  have s2 := sm_mem (h := len0) (fun s hs => by unfold len0; omega) hm
  have a := hG.sum
  have b := hG.len
  have oa := o.a
  have ob := o.b
  have oc := o.c
  unfold len0 at s2 b
  unfold gk at *
  omega
theorem joinG_big : ∀ k, k ≤ G.length → ∀ s ∈ joinG G k, s.length ≤ 11 * k
  | 0, _, s, h => absurd h (by simp [joinG])
  | k + 1, hk, s, h => by
    have := stick_big (sameK G k) (joinG_big k (by omega)) (one_bd hG I (show k < G.length by omega)).2.2.2.2 s h
    omega
theorem groups_spec : Ev (fun k => spec_GroupsOf.l0 k [] G 0) (joinG G G.length, true) := by
  have hs := G_short hG
  have h := loop_ev (σ := Unit) (fun k _ i => spec_GroupsOf.l0 k (joinG G i) G (i : Int)) G.length (fun _ _ => ()) (fun _ => (joinG G G.length, true)) (fun _ _ => True)
    (fun i s r _ hi hr => by
      have hj := joinG_len G i
      have bi := one_bd hG I hi
      have e3 := Aside0.mk (show wrap64 ((i : Int) + 1) = ((i + 1 : Nat) : Int) by rw [w64 (by omega) (by omega)]; rfl)
      have ej : joinG G (i + 1) = stick (sameK G i) (joinG G i) (gk G i).f0 := rfl
      refine ev_step (fun k => spec_GroupsOf.l0.eq_2 _ _ _ k) (ev_ifp (by omega) ?_)
      rw [ej] at hr
      by_cases h0 : 0 < i
      · have bp := one_bd hG I (show i - 1 < G.length by omega)
        have e1 := Aside0.mk (show wrap64 ((i : Int) - 1) = ((i - 1 : Nat) : Int) by rw [w64 (by omega) (by omega)]; omega)
        have e2 := Aside0.mk (show wrap64 (((joinG G i).length : Int) - 1) = (((joinG G i).length - 1 : Nat) : Int) by rw [w64 (by omega) (by omega)]; omega)
        have p1 := prod_bd (a := (gk G (i - 1)).f2) (b := (gk G i).f1) (by omega) (by omega) (by omega) (by omega)
        have p2 := prod_bd (a := (gk G i).f2) (b := (gk G (i - 1)).f1) (by omega) (by omega) (by omega) (by omega)
        refine ev_ifp (by omega) ?_
        rw [e1.out, e2.out, e3.out, rdsg, rdsg]
        rw [show wrap64 ((G.getD (i - 1) z86).f2 * (G.getD i z86).f1) = (gk G (i - 1)).f2 * (gk G i).f1 from w64 (by unfold gk at p1; omega) (by unfold gk at p1; omega)]
        rw [show wrap64 ((G.getD i z86).f2 * (G.getD (i - 1) z86).f1) = (gk G i).f2 * (gk G (i - 1)).f1 from w64 (by unfold gk at p2; omega) (by unfold gk at p2; omega)]
        refine ev_ifp (by omega) (ev_ifp (by omega) (ev_ifp (by omega) ?_))
        by_cases hc : (gk G (i - 1)).f2 * (gk G i).f1 = (gk G i).f2 * (gk G (i - 1)).f1
        · have hl := hj.2 h0
          have hb : ((joinG G i).getD ((joinG G i).length - 1) []).length ≤ 11 * i := by
            rw [getD_eq_get _ (show (joinG G i).length - 1 < (joinG G i).length by omega)]
            exact joinG_big hG I i (by omega) _ (List.getElem_mem _)
          have er : rd_L3 (joinG G i) (((joinG G i).length - 1 : Nat) : Int) = (joinG G i).getD ((joinG G i).length - 1) [] := by simp [rd_L3]
          rw [er]
          refine ev_ifp hc (ev_ifp (by omega) (ev_ifp (by omega) (ev_ifp (by have := bi.2.2.2.2; unfold gk at this; omega) ?_)))
          rw [Int.toNat_natCast]
          have es : sameK G i = true := by unfold sameK; rw [decide_eq_true h0, decide_eq_true hc]; rfl
          rw [es] at hr
          exact hr
        · have es : sameK G i = false := by unfold sameK; rw [decide_eq_false hc, Bool.and_false]
          rw [es] at hr
          exact ev_ifn hc (ev_bind (ev_const (l1Own_is4 _ (by have := bi.2.2.2.2; unfold gk at this; omega))) (ev_ifp (by omega) hr))
      · have es : sameK G i = false := by unfold sameK; rw [decide_eq_false h0, Bool.false_and]
        rw [es] at hr
        refine ev_ifn (by omega) (ev_ifp (by omega) ?_)
        rw [rdsg, e3.out]
        exact ev_bind (ev_const (l1Own_is4 _ (by have := bi.2.2.2.2; unfold gk at this; omega))) (ev_ifp (by omega) hr))
    (fun _ _ _ _ => trivial)
    (fun s _ => ev_step (fun k => spec_GroupsOf.l0.eq_2 _ _ _ k) (ev_ifn (by omega) (ev_some _))) 0 () (Nat.zero_le _) trivial
  exact h
end
theorem groups_impl (cs hs : List Int) (q : Nat → SHR) (hc : cs.length = 11) : Ev (fun k => impl_GroupsOf.l0 k [] (tab 11 q) 11 0 cs hs 0 0) ((stI cs q 11).1, true) := by
  have h := loop_ev (σ := Unit) (fun k _ i => impl_GroupsOf.l0 k (stI cs q i).1 (tab 11 q) 11 (i : Int) cs hs (stI cs q i).2.f0 (stI cs q i).2.f1) 11 (fun _ _ => ()) (fun _ => ((stI cs q 11).1, true)) (fun _ _ => True)
    (fun i s r _ hi hr => by
      have hl := stI_len cs q i
      have e3 := Aside0.mk (show wrap64 ((i : Int) + 1) = ((i + 1 : Nat) : Int) by rw [w64 (by omega) (by omega)]; rfl)
      have ej : stI cs q (i + 1) = if cs.getD i 0 = 0 then stI cs q i else (stick (decide (0 < (stI cs q i).1.length) && decide (q i = (stI cs q i).2)) (stI cs q i).1 [(i : Int)], q i) := rfl
      rw [ej] at hr
      refine ev_step (fun k => impl_GroupsOf.l0.eq_2 _ _ _ _ _ _ _ _ k) (ev_ifp (by omega) (ev_ifp (by omega) (ev_ifp (by rw [tab_length]; omega) (ev_ifp (by omega) ?_))))
      rw [rd_nat, e3.out, rdsh, tab_getD _ _ _ hi]
      by_cases h0 : cs.getD i 0 = 0
      · rw [if_pos h0] at hr
        exact ev_ifp h0 hr
      · rw [if_neg h0] at hr
        refine ev_ifn h0 ?_
        by_cases hn : 0 < (stI cs q i).1.length
        · refine ev_ifp (by omega) ?_
          by_cases hq : q i = (stI cs q i).2
          · have e2 := Aside0.mk (show wrap64 (((stI cs q i).1.length : Int) - 1) = (((stI cs q i).1.length - 1 : Nat) : Int) by rw [w64 (by omega) (by omega)]; omega)
            have hb : ((stI cs q i).1.getD ((stI cs q i).1.length - 1) []).length ≤ i := by
              rw [getD_eq_get _ (show (stI cs q i).1.length - 1 < (stI cs q i).1.length by omega)]
              exact hl.2 _ (List.getElem_mem _)
            have er : rd_L3 (stI cs q i).1 (((stI cs q i).1.length - 1 : Nat) : Int) = (stI cs q i).1.getD ((stI cs q i).1.length - 1) [] := by simp [rd_L3]
            rw [decide_eq_true hn, decide_eq_true hq] at hr
            rw [e2.out, er, Int.toNat_natCast]
            refine ev_ifp (by rw [hq]; simp) (ev_ifp (by omega) (ev_ifp (by omega) (ev_ifp (by omega) ?_)))
            exact hr
          · have hq2 : ¬ ((q i).f0 == (stI cs q i).2.f0 && ((q i).f1 == (stI cs q i).2.f1)) = true := fun e => hq (by
              simp only [Bool.and_eq_true, beq_iff_eq] at e
              cases hx : q i
              cases hy : (stI cs q i).2
              rw [hx, hy] at e
              simp only at e
              rw [e.1, e.2])
            rw [decide_eq_false hq, Bool.and_false] at hr
            exact ev_ifn hq2 (ev_ifp (by omega) hr)
        · rw [decide_eq_false hn, Bool.false_and] at hr
          exact ev_ifn (by omega) (ev_ifp (by omega) hr))
    (fun _ _ _ _ => trivial)
    (fun s _ => ev_step (fun k => impl_GroupsOf.l0.eq_2 _ _ _ _ _ _ _ _ k) (ev_ifn (by omega) (ev_some _))) 0 () (Nat.zero_le _) trivial
  exact h
theorem groupsOf_both (c h : List Int) : ∃ r : List (List Int) × Bool, Ev (fun k => spec_GroupsOf.f k c h) r ∧ Ev (fun k => impl_GroupsOf.f k c h) r ∧ r.1.length ≤ 11 ∧ ∀ s ∈ r.1, s.length ≤ 11 := by
  have g1 := l10Good_ev c h
  have g2 := isValidTally_ev c h
  unfold spec_GroupsOf.f impl_GroupsOf.f
  cases ok : tallyOk c h with
  | false =>
    rw [ok] at g1 g2
    exact ⟨([], false), ev_bind (ev_some _) (ev_bind g1 (ev_ifn (by simp) (ev_some _))), ev_bind g2 (ev_ifn (by simp) (ev_some _)), by simp, by simp⟩
  | true =>
    rw [ok] at g1 g2
    obtain ⟨G, hG, hs, hcal⟩ := calib_both ok
    obtain ⟨hG2, I⟩ := calib_inv ok hs
    have hsp := groups_spec hG I
    rcases hcal with ⟨rfl, h1, h2⟩ | ⟨hl, h1, h2⟩
    · exact ⟨([], true), ev_bind (ev_some _) (ev_bind g1 (ev_ifp rfl (ev_bind hs hsp))), ev_bind g2 (ev_ifp rfl (ev_bind h2 (ev_ifn (by simp) (ev_some _)))), by simp, by simp⟩
    · have hj := stI_join I G.length (Nat.le_refl _)
      rw [Fk_end] at hj
      have hi := groups_impl c h (fun c => shG G (c : Int)) (tallyOk_iff.1 ok).1
      have hb := stI_len c (fun c => shG G (c : Int)) 11
      rw [hj] at hi hb
      refine ⟨(joinG G G.length, true), ev_bind (ev_some _) (ev_bind g1 (ev_ifp rfl (ev_bind hs hsp))), ev_bind g2 (ev_ifp rfl (ev_bind h2 (ev_ifp rfl ?_))), hb.1, hb.2⟩
      dsimp only
      rw [tab_length]
      exact hi
end Go.Proofs.Ytjicgmcogadleaa.Pure
namespace Go.Proofs.Ytjicgmcogadleaa.P
open Go.RowKit Go.Proofs.YtjicgmcogadleaaW.PrintWords Go.Proofs.YtjicgmcogadleaaW.PrintLast Go.Proofs.YtjicgmcogadleaaW.PrintMore
attribute [local go_sem] max2_int min2_int max_two min_two max_three min_three max_four min_four
set_option linter.unusedVariables false
set_option linter.unusedSimpArgs false
set_option maxHeartbeats 8000000
set_option maxRecDepth 100000
set_option maxRecDepth 100000
end Go.Proofs.Ytjicgmcogadleaa.P
namespace Go.Proofs.Ytjicgmcogadleaa.Pure
set_option linter.unusedVariables false
set_option linter.unusedSimpArgs false
open Go.RowKit Go.Proofs.Ytjicgmcogadleaa.P Go.Proofs.YtjicgmcogadleaaW.PrintWords Go.Proofs.YtjicgmcogadleaaW.PrintLast
end Go.Proofs.Ytjicgmcogadleaa.Pure
namespace Go.Proofs.Ytjicgmcogadleaa.P
open Go.RowKit Go.Proofs.YtjicgmcogadleaaW.PrintWords Go.Proofs.YtjicgmcogadleaaW.PrintLast Go.Proofs.YtjicgmcogadleaaW.PrintMore
attribute [local go_sem] max2_int min2_int max_two min_two max_three min_three max_four min_four
set_option linter.unusedVariables false
set_option linter.unusedSimpArgs false
set_option maxHeartbeats 8000000
set_option maxRecDepth 100000
set_option maxRecDepth 100000
end Go.Proofs.Ytjicgmcogadleaa.P
namespace Go.Proofs.Ytjicgmcogadleaa.Pure
set_option linter.unusedVariables false
set_option linter.unusedSimpArgs false
open Go.RowKit Go.Proofs.Ytjicgmcogadleaa.P Go.Proofs.YtjicgmcogadleaaW.PrintWords Go.Proofs.YtjicgmcogadleaaW.PrintLast
end Go.Proofs.Ytjicgmcogadleaa.Pure
namespace Go.Proofs.Ytjicgmcogadleaa.P
open Go.RowKit Go.Proofs.YtjicgmcogadleaaW.PrintWords Go.Proofs.YtjicgmcogadleaaW.PrintLast Go.Proofs.YtjicgmcogadleaaW.PrintMore
attribute [local go_sem] max2_int min2_int max_two min_two max_three min_three max_four min_four
set_option linter.unusedVariables false
set_option linter.unusedSimpArgs false
set_option maxHeartbeats 8000000
set_option maxRecDepth 100000
set_option maxRecDepth 100000
set_option maxRecDepth 100000
end Go.Proofs.Ytjicgmcogadleaa.P
namespace Go.Proofs.Ytjicgmcogadleaa.Pure
set_option linter.unusedVariables false
set_option linter.unusedSimpArgs false
open Go.RowKit Go.Proofs.Ytjicgmcogadleaa.P Go.Proofs.YtjicgmcogadleaaW.PrintWords Go.Proofs.YtjicgmcogadleaaW.PrintLast
theorem rdl3 (xs : List (List Int)) (i : Nat) : rd_L3 xs (i : Int) = xs.getD i [] := by simp [rd_L3]
end Go.Proofs.Ytjicgmcogadleaa.Pure
namespace Go.Proofs.Ytjicgmcogadleaa.Pure
set_option linter.unusedVariables false
set_option linter.unusedSimpArgs false
open Go.RowKit Go.Proofs.Ytjicgmcogadleaa.P Go.Proofs.YtjicgmcogadleaaW.PrintWords Go.Proofs.YtjicgmcogadleaaW.PrintLast
end Go.Proofs.Ytjicgmcogadleaa.Pure
namespace Go.Proofs.Ytjicgmcogadleaa.P
open Go.RowKit Go.Proofs.YtjicgmcogadleaaW.PrintWords Go.Proofs.YtjicgmcogadleaaW.PrintLast Go.Proofs.YtjicgmcogadleaaW.PrintMore
attribute [local go_sem] max2_int min2_int max_two min_two max_three min_three max_four min_four
set_option linter.unusedVariables false
set_option linter.unusedSimpArgs false
set_option maxHeartbeats 8000000
set_option maxRecDepth 100000
end Go.Proofs.Ytjicgmcogadleaa.P
namespace Go.Proofs.Ytjicgmcogadleaa.Pure
set_option linter.unusedVariables false
set_option linter.unusedSimpArgs false
open Go.RowKit Go.Proofs.Ytjicgmcogadleaa.P Go.Proofs.YtjicgmcogadleaaW.PrintWords Go.Proofs.YtjicgmcogadleaaW.PrintLast
def shareOk (x y : Int) : Bool := inb y 1 1000000 && (inb x 0 y && ((Nat.gcd x.toNat y.toNat : Nat) : Int) == 1)
theorem isShare_ev (x y : Int) : Ev (fun k => impl_isShare.f k x y) (shareOk x y) := by
  unfold impl_isShare.f shareOk
  simp only [within_is, Option.bind_some]
  cases h1 : inb y 1 1000000 with
  | false => exact ev_ifn (by simp) (ev_some _)
  | true =>
    cases h2 : inb x 0 y with
    | false => exact ev_ifp rfl (ev_ifn (by simp) (ev_some _))
    | true =>
      obtain ⟨p, rfl⟩ := Int.eq_ofNat_of_zero_le (inb_iff.1 h2).1
      obtain ⟨q, rfl⟩ := Int.eq_ofNat_of_zero_le (show 0 ≤ y by have := (inb_iff.1 h1).1; omega)
      have h := divisorOf_ev q p
      rw [Nat.gcd_comm] at h
      exact ev_ifp rfl (ev_ifp rfl (ev_bind h (ev_some _)))
def lessSh (a b : SH) : Bool := decide (wrap64 (a.f0 * b.f1) < wrap64 (b.f0 * a.f1))
theorem compare_is (a b : SH) : impl_compareShares.f a.f0 a.f1 b.f0 b.f1 = some (if lessSh a b = true then -1 else if wrap64 (a.f0 * b.f1) > wrap64 (b.f0 * a.f1) then 1 else 0) := by
  unfold impl_compareShares.f cmp_Compare_int.f cmp_isNaN_int.f lessSh
  generalize wrap64 (a.f0 * b.f1) = x
  generalize wrap64 (b.f0 * a.f1) = y
  simp
  by_cases h : x < y
  · simp [h]
  · by_cases h2 : y < x
    · simp [h, h2]
    · simp [h, h2]
end Go.Proofs.Ytjicgmcogadleaa.Pure
namespace Go.Proofs.Ytjicgmcogadleaa.P
open Go.RowKit Go.Proofs.YtjicgmcogadleaaW.PrintWords Go.Proofs.YtjicgmcogadleaaW.PrintLast Go.Proofs.YtjicgmcogadleaaW.PrintMore
attribute [local go_sem] max2_int min2_int max_two min_two max_three min_three max_four min_four
set_option linter.unusedVariables false
set_option linter.unusedSimpArgs false
set_option maxHeartbeats 8000000
set_option maxRecDepth 100000
set_option maxRecDepth 100000
end Go.Proofs.Ytjicgmcogadleaa.P
namespace Go.Proofs.Ytjicgmcogadleaa.Pure
set_option linter.unusedVariables false
set_option linter.unusedSimpArgs false
open Go.RowKit Go.Proofs.Ytjicgmcogadleaa.P Go.Proofs.YtjicgmcogadleaaW.PrintWords Go.Proofs.YtjicgmcogadleaaW.PrintLast
def sharesOk (l : List SH) : Bool := l.all (fun s => shareOk s.f0 s.f1)
def rising (l : List SH) : Bool := rall (fun i => !lessSh (l.getD (i + 1) z33) (l.getD i z33)) 0 (l.length - 1)
def monoR (l : List SH) : Bool × Bool := if decide (l.length ≤ 20) && sharesOk l then (rising l, true) else (false, false)
theorem contains_ev (l : List SH) (hl : l.length ≤ 20) : Ev (fun k => slices_ContainsFunc_Share_at_impl_IsMonotone_1.f k l) (!sharesOk l) := by
  have h := find_ev (fun k i => slices_IndexFunc_Share_at_impl_IsMonotone_1.l0 k l (l.length : Int) (i : Int)) l.length (fun i => !shareOk (l.getD i z33).f0 (l.getD i z33).f1)
    (fun i r hi hp h => ev_step (f := fun k => (impl_IsMonotone_1.f k (l.getD i z33).f0 (l.getD i z33).f1).bind fun t => if t = true then some (i : Int) else slices_IndexFunc_Share_at_impl_IsMonotone_1.l0 k l (l.length : Int) ((i + 1 : Nat) : Int)) (fun k => by
      simp only [slices_IndexFunc_Share_at_impl_IsMonotone_1.l0, rdsh]
      rw [if_pos (by omega), if_pos (by omega), if_pos (by omega), w64 (by omega) (by omega)]
      rfl) (ev_bind (r := false) (ev_bind (isShare_ev _ _) (by rw [hp]; exact ev_some _)) (ev_ifn (by simp) h)))
    (fun i hi hp => ev_step (f := fun k => (impl_IsMonotone_1.f k (l.getD i z33).f0 (l.getD i z33).f1).bind fun t => if t = true then some (i : Int) else slices_IndexFunc_Share_at_impl_IsMonotone_1.l0 k l (l.length : Int) ((i + 1 : Nat) : Int)) (fun k => by
      simp only [slices_IndexFunc_Share_at_impl_IsMonotone_1.l0, rdsh]
      rw [if_pos (by omega), if_pos (by omega), if_pos (by omega), w64 (by omega) (by omega)]
      rfl) (ev_bind (r := true) (ev_bind (isShare_ev _ _) (by rw [hp]; exact ev_some _)) (ev_ifp rfl (ev_some _))))
    (ev_step (f := fun _ => some (-1)) (fun k => by
      simp only [slices_IndexFunc_Share_at_impl_IsMonotone_1.l0]
      rw [if_neg (by omega)]) (ev_some _))
  have e : (!sharesOk l) = decide (fidx (fun i => !shareOk (l.getD i z33).f0 (l.getD i z33).f1) 0 l.length ≥ 0) := by
    rw [fidx_nonneg]
    unfold sharesOk
    rw [← rall_list l z33 (fun s => shareOk s.f0 s.f1)]
    simp only [Bool.not_not]
  rw [e]
  exact ev_bind h (ev_some _)
theorem sorted_ev (l : List SH) (hl : l.length ≤ 20) : Ev (fun k => slices_IsSortedFunc_Share_at_impl_compareShares.f k l) (rising l) := by
  have key : ∀ d, d ≤ l.length - 1 → Ev (fun k => slices_IsSortedFunc_Share_at_impl_compareShares.l0 k l (d : Int)) (rall (fun i => !lessSh (l.getD (i + 1) z33) (l.getD i z33)) 0 d) := by
    intro d
    induction d with
    | zero =>
      intro _
      exact ev_step (f := fun _ => some true) (fun k => by
        simp only [slices_IsSortedFunc_Share_at_impl_compareShares.l0]
        rw [if_neg (by omega)]) (ev_some _)
    | succ d ih =>
      intro hd
      have e : wrap64 (((d + 1 : Nat) : Int) - 1) = (d : Int) := by rw [w64 (by omega) (by omega)]; omega
      have e2 : rall (fun i => !lessSh (l.getD (i + 1) z33) (l.getD i z33)) 0 (d + 1) = (rall (fun i => !lessSh (l.getD (i + 1) z33) (l.getD i z33)) 0 d && !lessSh (l.getD (d + 1) z33) (l.getD d z33)) := by
        rw [Bool.eq_iff_iff, Bool.and_eq_true, rall_iff, rall_iff]
        constructor
        · intro h
          exact ⟨fun j h1 h2 => h j h1 (by omega), h d (Nat.zero_le _) (by omega)⟩
        · rintro ⟨h, h'⟩ j h1 h2
          by_cases ej : j = d
          · rw [ej]; exact h'
          · exact h j h1 (by omega)
      rw [e2]
      cases hp : lessSh (l.getD (d + 1) z33) (l.getD d z33) with
      | true =>
        rw [Bool.not_true, Bool.and_false]
        exact ev_step (f := fun _ => some false) (fun k => by
          simp only [slices_IsSortedFunc_Share_at_impl_compareShares.l0, e, rdsh, compare_is, Option.bind_some]
          rw [if_pos (by omega), if_pos (by omega), if_pos (by omega), if_pos (by omega), if_pos (by omega), hp, if_pos rfl, if_pos (by omega)]) (ev_some _)
      | false =>
        rw [Bool.not_false, Bool.and_true]
        refine ev_step (fun k => ?_) (ih (by omega))
        simp only [slices_IsSortedFunc_Share_at_impl_compareShares.l0, e, rdsh, compare_is, Option.bind_some]
        rw [if_pos (by omega), if_pos (by omega), if_pos (by omega), if_pos (by omega), if_pos (by omega), hp, if_neg (by rw [if_neg (by decide)]; split <;> omega)]
  unfold slices_IsSortedFunc_Share_at_impl_compareShares.f rising
  by_cases h0 : l.length = 0
  · rw [h0]
    refine ev_step (f := fun _ => some true) (fun k => ?_) (ev_some _)
    rw [w64 (by omega) (by omega)]
    simp only [slices_IsSortedFunc_Share_at_impl_compareShares.l0]
    rw [if_neg (by omega)]
  · rw [show wrap64 ((l.length : Int) - 1) = ((l.length - 1 : Nat) : Int) by rw [w64 (by omega) (by omega)]; omega]
    exact key (l.length - 1) (Nat.le_refl _)
theorem isMonotoneI_ev (l : List SH) : Ev (fun k => impl_IsMonotone.f k l) (monoR l) := by
  unfold impl_IsMonotone.f monoR
  by_cases hl : l.length ≤ 20
  · rw [decide_eq_true hl, Bool.true_and]
    refine ev_ifn (by omega) (ev_bind (contains_ev l hl) ?_)
    cases sharesOk l with
    | false => exact ev_ifp rfl (ev_some _)
    | true => exact ev_ifn (by simp) (ev_bind (sorted_ev l hl) (ev_some _))
  · rw [decide_eq_false hl, Bool.false_and]
    exact ev_ifp (by omega) (ev_some _)
end Go.Proofs.Ytjicgmcogadleaa.Pure
namespace Go.Proofs.Ytjicgmcogadleaa.Pure
set_option linter.unusedVariables false
open Go.RowKit Go.Proofs.YtjicgmcogadleaaW.PrintWords Go.Proofs.YtjicgmcogadleaaW.PrintLast
theorem ends_inv {σ ρ : Type} (F : Nat → σ → Nat → Option ρ) (n : Nat) (I : Nat → σ → Prop) (P : ρ → Prop)
    (hs : ∀ i s, I i s → i < n → ∃ s', I (i + 1) s' ∧ ∀ r, Ev (fun k => F k s' (i + 1)) r → Ev (fun k => F k s i) r)
    (he : ∀ s, I n s → ∃ r, Ev (fun k => F k s n) r ∧ P r) : ∀ i s, i ≤ n → I i s → ∃ r, Ev (fun k => F k s i) r ∧ P r := by
  have key : ∀ d i s, n - i = d → i ≤ n → I i s → ∃ r, Ev (fun k => F k s i) r ∧ P r := by
    intro d
    induction d with
    | zero =>
      intro i s h0 h1 h2
      obtain rfl : i = n := by omega
      exact he s h2
    | succ d ih =>
      intro i s h0 h1 h2
      obtain ⟨s', h3, h4⟩ := hs i s h2 (by omega)
      obtain ⟨r, h5, h6⟩ := ih (i + 1) s' (by omega) (by omega) h3
      exact ⟨r, h4 r h5, h6⟩
  exact fun i s h1 h2 => key (n - i) i s rfl h1 h2
end Go.Proofs.Ytjicgmcogadleaa.Pure
namespace Go.Proofs.Ytjicgmcogadleaa.P
open Go.RowKit Go.Proofs.YtjicgmcogadleaaW.PrintWords Go.Proofs.YtjicgmcogadleaaW.PrintLast Go.Proofs.YtjicgmcogadleaaW.PrintMore
attribute [local go_sem] max2_int min2_int max_two min_two max_three min_three max_four min_four
set_option linter.unusedVariables false
set_option linter.unusedSimpArgs false
set_option maxHeartbeats 8000000
set_option maxRecDepth 100000
end Go.Proofs.Ytjicgmcogadleaa.P
namespace Go.Proofs.Ytjicgmcogadleaa.Pure
set_option linter.unusedVariables false
set_option linter.unusedSimpArgs false
open Go Go.RowKit Go.Proofs.Ytjicgmcogadleaa.P Go.Proofs.YtjicgmcogadleaaW.PrintWords Go.Proofs.YtjicgmcogadleaaW.PrintLast
theorem u64_bd (x : Int) : 0 ≤ IntKind.u64.wrap x ∧ IntKind.u64.wrap x < 18446744073709551616 := by
  rw [IntKind.wrap_u64]
  omega
theorem wraps63 (n : Int) (h0 : 0 ≤ n) (h1 : n < 2 ^ 63) : IntKind.u64.wrap n = n := by
  rw [IntKind.wrap_u64]
  omega
theorem and255 (v : Int) (h0 : 0 ≤ v) (h1 : v < 18446744073709551616) : 0 ≤ Go.bits .and .u64 (v / 1099511627776) 255 ∧ Go.bits .and .u64 (v / 1099511627776) 255 ≤ 255 := by
  have h := bits_mask .u64 63 (by decide) wraps63 8 (by decide) (v / 1099511627776) (by omega) (by omega)
  have e : ((2 : Int) ^ 8 - 1) = 255 := by decide
  have e2 : ((2 : Int) ^ 8) = 256 := by decide
  rw [e, e2] at h
  rw [h]
  omega
structure Code (l : List Int) : Prop where
  len : l.length ≤ 65536
  byte : ∀ x ∈ l, 0 ≤ x ∧ x ≤ 255
theorem Code.bd {l : List Int} (h : Code l) (i : Int) : 0 ≤ rd l i ∧ rd l i ≤ 255 := by
  unfold rd
  by_cases hi : i.toNat < l.length
  · rw [getD_eq_get 0 hi]
    exact h.byte _ (List.getElem_mem hi)
  · simp [List.getD, List.getElem?_eq_none (show l.length ≤ i.toNat by omega)]
theorem next_at {l : List Int} (hl : Code l) (i s : Int) (h0 : 0 ≤ i) (h1 : i ≤ 1000000000) : ∃ x s', spec_l1Cur_next.f l i s = some (x, i + 1, s') ∧ 0 ≤ x ∧ x ≤ 255 := by
  unfold spec_l1Cur_next.f
  have hr := hl.bd i
  have w1 : wrap64 (i + 1) = i + 1 := w64 (by omega) (by omega)
  rw [w1]
  by_cases c1 : i < (l.length : Int)
  · rw [if_pos c1, if_pos h0, if_pos (by omega)]
    exact ⟨_, _, rfl, by rw [w64 (by omega) (by omega)]; exact hr.1, by rw [w64 (by omega) (by omega)]; exact hr.2⟩
  · rw [if_neg c1, if_neg (by omega)]
    have hb := u64_bd (IntKind.u64.wrap (IntKind.u64.wrap (s * 6364136223846793005)) + 889889)
    have ha := and255 _ hb.1 hb.2
    exact ⟨_, _, rfl, by rw [w64 (by omega) (by omega)]; exact ha.1, by rw [w64 (by omega) (by omega)]; exact ha.2⟩
theorem pick_at {l : List Int} (hl : Code l) (i s n : Int) (h0 : 0 ≤ i) (h1 : i ≤ 100000000) :
    ∃ x i' s', spec_l1Cur_pick.f l i s n = some (x, i', s') ∧ 0 ≤ x ∧ (1 ≤ n → x < n) ∧ i ≤ i' ∧ i' ≤ i + 2 := by
  unfold spec_l1Cur_pick.f
  by_cases c1 : n ≤ 1
  · rw [if_pos c1]
    exact ⟨_, _, _, rfl, by omega, fun h => by omega, by omega, by omega⟩
  · rw [if_neg c1]
    obtain ⟨x, s1, e1, b1, b2⟩ := next_at hl i s h0 (by omega)
    rw [e1, Option.bind_some]
    have cn : ¬ n = 0 := by omega
    by_cases c2 : n > 200
    · rw [if_pos c2]
      obtain ⟨y, s2, e2, b3, b4⟩ := next_at hl (i + 1) s1 (by omega) (by omega)
      simp only
      rw [e2, Option.bind_some, if_neg cn]
      simp only
      rw [w64 (x := x * 256) (by omega) (by omega), w64 (by omega) (by omega), Int.tmod_eq_emod_of_nonneg (by omega)]
      exact ⟨_, _, _, rfl, Int.emod_nonneg _ cn, fun _ => Int.emod_lt_of_pos _ (by omega), by omega, by omega⟩
    · rw [if_neg c2, if_neg cn]
      simp only
      rw [Int.tmod_eq_emod_of_nonneg (by omega)]
      exact ⟨_, _, _, rfl, Int.emod_nonneg _ cn, fun _ => Int.emod_lt_of_pos _ (by omega), by omega, by omega⟩
theorem among_at {l : List Int} (hl : Code l) (i s : Int) (xs : List Int) (hx : 1 ≤ xs.length) (h0 : 0 ≤ i) (h1 : i ≤ 100000000) :
    ∃ x i' s', spec_l1Cur_among.f l i s xs = some (x, i', s') ∧ x ∈ xs ∧ i ≤ i' ∧ i' ≤ i + 2 := by
  unfold spec_l1Cur_among.f
  obtain ⟨x, i', s', e, b1, b2, b3, b4⟩ := pick_at hl i s (xs.length : Int) h0 h1
  have b5 := b2 (by omega)
  rw [e, Option.bind_some, if_pos b1, if_pos b5]
  refine ⟨_, _, _, rfl, ?_, b3, b4⟩
  unfold rd
  simp only
  have hlt : x.toNat < xs.length := by omega
  rw [getD_eq_get 0 hlt]
  exact List.getElem_mem hlt
end Go.Proofs.Ytjicgmcogadleaa.Pure
namespace Go.Proofs.Ytjicgmcogadleaa.P
open Go.RowKit Go.Proofs.YtjicgmcogadleaaW.PrintWords Go.Proofs.YtjicgmcogadleaaW.PrintLast Go.Proofs.YtjicgmcogadleaaW.PrintMore
attribute [local go_sem] max2_int min2_int max_two min_two max_three min_three max_four min_four
set_option linter.unusedVariables false
set_option linter.unusedSimpArgs false
set_option maxHeartbeats 8000000
set_option maxRecDepth 100000
end Go.Proofs.Ytjicgmcogadleaa.P
namespace Go.Proofs.Ytjicgmcogadleaa.Pure
set_option linter.unusedVariables false
set_option linter.unusedSimpArgs false
open Go.RowKit Go.Proofs.Ytjicgmcogadleaa.P Go.Proofs.YtjicgmcogadleaaW.PrintWords Go.Proofs.YtjicgmcogadleaaW.PrintLast
theorem tally_at {l : List Int} (hl : Code l) (i s : Int) (h0 : 0 ≤ i) (h1 : i ≤ 60000000) :
    ∃ r : List Int × List Int × Int × Int, Ev (fun k => spec_l1Cur_tally.f k l i s) r ∧ (r.1.length ≤ 64 ∧ r.2.1.length ≤ 64 ∧ i ≤ r.2.2.1 ∧ r.2.2.1 ≤ i + 100) := by
  have h := ends_inv (fun k (st : Int × Int × List Int × List Int) n => spec_l1Cur_tally.l0 k (n : Int) l st.1 st.2.1 st.2.2.1 st.2.2.2) 11
    (fun n st => st.2.2.1.length = n ∧ st.2.2.2.length = n ∧ i ≤ st.1 ∧ st.1 ≤ i + 4 * (n : Int))
    (fun r : List Int × List Int × Int × Int => r.1.length ≤ 64 ∧ r.2.1.length ≤ 64 ∧ i ≤ r.2.2.1 ∧ r.2.2.1 ≤ i + 100)
    (fun n st hI hn => by
      obtain ⟨i1, s1, cs, hs⟩ := st
      obtain ⟨a1, a2, a3, a4⟩ := hI
      dsimp only at a1 a2 a3 a4
      obtain ⟨x, i2, s2, e1, m1, b1, b2⟩ := among_at hl i1 s1 [0, 0, 1, 2, 5, 10, 40] (by simp) (by omega) (by omega)
      obtain ⟨y, i3, s3, e2, p1, p2, b3, b4⟩ := pick_at hl i2 s2 (wrap64 (x + 1)) (by omega) (by omega)
      have ew := Aside0.mk (show wrap64 ((n : Int) + 1) = ((n + 1 : Nat) : Int) by rw [w64 (by omega) (by omega)]; rfl)
      refine ⟨(i3, s3, cs ++ [x], hs ++ [y]), ⟨by simp only [List.length_append, List.length_singleton]; omega, by simp only [List.length_append, List.length_singleton]; omega, by dsimp only; omega, by dsimp only; omega⟩, fun r hr => ?_⟩
      refine ev_step (fun k => spec_l1Cur_tally.l0.eq_2 _ _ _ _ _ _ k) (ev_ifp (by first | omega | (dsimp only; omega)) (ev_bind (ev_const e1) (ev_ifp (by first | omega | (dsimp only; omega)) (ev_bind (ev_const e2) (ev_ifp (by first | omega | (dsimp only; omega)) ?_)))))
      rw [ew.out]
      exact hr)
    (fun st hI => by
      obtain ⟨i1, s1, cs, hs⟩ := st
      obtain ⟨a1, a2, a3, a4⟩ := hI
      dsimp only at a1 a2 a3 a4
      obtain ⟨x, i2, s2, e1, p1, p2, b1, b2⟩ := pick_at hl i1 s1 11 (by omega) (by omega)
      obtain ⟨y, i3, s3, e2, p3, p4, b3, b4⟩ := pick_at hl i2 s2 24 (by omega) (by omega)
      have p2' := p2 (by omega)
      by_cases y0 : y = 0
      · obtain ⟨z, i4, s4, e3, _, b5, b6⟩ := among_at hl i3 s3 [1000, 1001, (-1)] (by simp) (by omega) (by omega)
        exact ⟨(cs.set x.toNat z, hs, i4, s4), ev_step (fun k => spec_l1Cur_tally.l0.eq_2 _ _ _ _ _ _ k) (ev_ifn (by first | omega | (dsimp only; omega)) (ev_bind (ev_const e1) (ev_bind (ev_const e2) (ev_ifp y0 (ev_bind (ev_const e3) (ev_ifp p1 (ev_ifp (by first | omega | (dsimp only; omega)) (ev_some _)))))))), by dsimp only; rw [List.length_set]; omega, by dsimp only; omega, by dsimp only; omega, by dsimp only; omega⟩
      · by_cases y1 : y = 1
        · obtain ⟨z, i4, s4, e3, _, _, b5, b6⟩ := pick_at hl i3 s3 2 (by omega) (by omega)
          exact ⟨(cs, hs.set x.toNat (wrap64 (rd cs x + z)), i4, s4), ev_step (fun k => spec_l1Cur_tally.l0.eq_2 _ _ _ _ _ _ k) (ev_ifn (by first | omega | (dsimp only; omega)) (ev_bind (ev_const e1) (ev_bind (ev_const e2) (ev_ifn y0 (ev_ifp y1 (ev_ifp p1 (ev_ifp (by first | omega | (dsimp only; omega)) (ev_bind (ev_const e3) (ev_ifp (by first | omega | (dsimp only; omega)) (ev_some _)))))))))), by dsimp only; omega, by dsimp only; rw [List.length_set]; omega, by dsimp only; omega, by dsimp only; omega⟩
        · by_cases y2 : y = 2
          · exact ⟨(cs, hs.drop (1 : Int).toNat, i3, s3), ev_step (fun k => spec_l1Cur_tally.l0.eq_2 _ _ _ _ _ _ k) (ev_ifn (by first | omega | (dsimp only; omega)) (ev_bind (ev_const e1) (ev_bind (ev_const e2) (ev_ifn y0 (ev_ifn y1 (ev_ifp y2 (ev_ifp (by first | omega | (dsimp only; omega)) (ev_some _)))))))), by dsimp only; omega, by dsimp only; rw [List.length_drop]; omega, by dsimp only; omega, by dsimp only; omega⟩
          · by_cases y3 : y = 3
            · exact ⟨(List.replicate 11 0, List.replicate 11 0, i3, s3), ev_step (fun k => spec_l1Cur_tally.l0.eq_2 _ _ _ _ _ _ k) (ev_ifn (by first | omega | (dsimp only; omega)) (ev_bind (ev_const e1) (ev_bind (ev_const e2) (ev_ifn y0 (ev_ifn y1 (ev_ifn y2 (ev_ifp y3 (ev_ifp (by first | omega | (dsimp only; omega)) (ev_some _))))))))), by dsimp only; simp, by dsimp only; simp, by dsimp only; omega, by dsimp only; omega⟩
            · exact ⟨(cs, hs, i3, s3), ev_step (fun k => spec_l1Cur_tally.l0.eq_2 _ _ _ _ _ _ k) (ev_ifn (by first | omega | (dsimp only; omega)) (ev_bind (ev_const e1) (ev_bind (ev_const e2) (ev_ifn y0 (ev_ifn y1 (ev_ifn y2 (ev_ifn y3 (ev_some _)))))))), by dsimp only; omega, by dsimp only; omega, by dsimp only; omega, by dsimp only; omega⟩)
    0 (i, s, [], []) (Nat.zero_le _) ⟨rfl, rfl, by dsimp only; omega, by dsimp only; omega⟩
  exact h
end Go.Proofs.Ytjicgmcogadleaa.Pure
namespace Go.Proofs.Ytjicgmcogadleaa.P
open Go.RowKit Go.Proofs.YtjicgmcogadleaaW.PrintWords Go.Proofs.YtjicgmcogadleaaW.PrintLast Go.Proofs.YtjicgmcogadleaaW.PrintMore
attribute [local go_sem] max2_int min2_int max_two min_two max_three min_three max_four min_four
set_option linter.unusedVariables false
set_option linter.unusedSimpArgs false
set_option maxHeartbeats 8000000
set_option maxRecDepth 100000
end Go.Proofs.Ytjicgmcogadleaa.P
namespace Go.Proofs.Ytjicgmcogadleaa.Pure
set_option linter.unusedVariables false
set_option linter.unusedSimpArgs false
open Go.RowKit Go.Proofs.Ytjicgmcogadleaa.P Go.Proofs.YtjicgmcogadleaaW.PrintWords Go.Proofs.YtjicgmcogadleaaW.PrintLast
theorem vIntsT_self (l : List Int) (hl : l.length ≤ 9223372036854775806) : Ev (fun k => laws_vInts.f k l l) true := by
  have h := loop_ev (σ := Unit) (fun k _ i => laws_vInts.l0 k l l (i : Int)) l.length (fun _ _ => ()) (fun _ => true) (fun _ _ => True)
    (fun i s r _ hi h => ev_step (fun k => by
      simp only [laws_vInts.l0]
      rw [if_pos (by omega), if_pos (by omega), if_pos (by omega), if_pos trivial, w64 (by omega) (by omega)]
      rfl) h)
    (fun _ _ _ _ => trivial)
    (fun _ _ => ev_step (f := fun _ => some true) (fun k => by
      simp only [laws_vInts.l0]
      rw [if_neg (by omega)]) (ev_some _)) 0 () (Nat.zero_le _) trivial
  unfold laws_vInts.f
  exact ev_ifp rfl h
end Go.Proofs.Ytjicgmcogadleaa.Pure
namespace Go.Proofs.Ytjicgmcogadleaa.Pure
set_option linter.unusedVariables false
set_option linter.unusedSimpArgs false
open Go Go.RowKit Go.Proofs.Ytjicgmcogadleaa.P Go.Proofs.YtjicgmcogadleaaW.PrintWords Go.Proofs.YtjicgmcogadleaaW.PrintLast Go.Proofs.YtjicgmcogadleaaW.PrintMore
theorem vSharesC_self (l : List SHR) (hl : l.length ≤ 1048576) : Ev (fun k => laws_vShares.f k l l) true := by
  have h := loop_ev (σ := Unit) (fun k _ i => laws_vShares.l0 k l l (i : Int)) l.length (fun _ _ => ()) (fun _ => true) (fun _ _ => True)
    (fun i s r _ hi hr => by
      have e3 := Aside0.mk (show wrap64 ((i : Int) + 1) = ((i + 1 : Nat) : Int) by rw [w64 (by omega) (by omega)]; rfl)
      refine ev_step (fun k => laws_vShares.l0.eq_2 _ _ _ k) (ev_ifp (by omega) (ev_ifp (by omega) (ev_ifp (by omega) (ev_ifn (by simp) ?_))))
      rw [e3.out]
      exact hr)
    (fun _ _ _ _ => trivial)
    (fun s _ => ev_step (fun k => laws_vShares.l0.eq_2 _ _ _ k) (ev_ifn (by omega) (ev_some _))) 0 () (Nat.zero_le _) trivial
  unfold laws_vShares.f
  exact ev_ifp rfl h
theorem vTable_self (l : List (List Int)) (hl : l.length ≤ 1048576) (hs : ∀ s ∈ l, s.length ≤ 1048576) : Ev (fun k => laws_vTable.f k l l) true := by
  have h := loop_ev (σ := Unit) (fun k _ i => laws_vTable.l0 k l l (i : Int)) l.length (fun _ _ => ()) (fun _ => true) (fun _ _ => True)
    (fun i s r _ hi hr => by
      have e3 := Aside0.mk (show wrap64 ((i : Int) + 1) = ((i + 1 : Nat) : Int) by rw [w64 (by omega) (by omega)]; rfl)
      have hb : (l.getD i []).length ≤ 1048576 := by rw [getD_eq_get _ hi]; exact hs _ (List.getElem_mem hi)
      refine ev_step (fun k => laws_vTable.l0.eq_2 _ _ _ k) (ev_ifp (by omega) (ev_ifp (by omega) (ev_ifp (by omega) ?_)))
      rw [rdl3, e3.out]
      exact ev_bind (vIntsT_self _ (by omega)) (ev_ifp rfl hr))
    (fun _ _ _ _ => trivial)
    (fun s _ => ev_step (fun k => laws_vTable.l0.eq_2 _ _ _ k) (ev_ifn (by omega) (ev_some _))) 0 () (Nat.zero_le _) trivial
  unfold laws_vTable.f
  exact ev_ifp rfl h
theorem nz_mem {cs : List Int} {a : Nat} {x : Int} : ∀ e, x ∈ nz cs a e → ∃ c : Nat, x = (c : Int) ∧ a ≤ c ∧ c < e
  | 0, h => absurd h (by simp [nz])
  | e + 1, h => by
    rw [nz] at h
    by_cases hc : a ≤ e ∧ cs.getD e 0 ≠ 0
    · rw [if_pos hc] at h
      rcases List.mem_append.1 h with h1 | h1
      · obtain ⟨c, h2, h3, h4⟩ := nz_mem e h1
        exact ⟨c, h2, h3, by omega⟩
      · exact ⟨e, List.mem_singleton.1 h1, hc.1, by omega⟩
    · rw [if_neg hc] at h
      obtain ⟨c, h2, h3, h4⟩ := nz_mem e h
      exact ⟨c, h2, h3, by omega⟩
theorem nz_len (cs : List Int) (a : Nat) : ∀ e, (nz cs a e).length ≤ e
  | 0 => by simp [nz]
  | e + 1 => by
    have := nz_len cs a e
    rw [nz]
    by_cases hc : a ≤ e ∧ cs.getD e 0 ≠ 0
    · rw [if_pos hc, List.length_append, List.length_singleton]; omega
    · rw [if_neg hc]; omega
theorem nz_head {cs : List Int} {a e : Nat} (h : a < e) (h0 : cs.getD a 0 ≠ 0) : nz cs a e = (a : Int) :: nz cs (a + 1) e := by
  rw [← nz_app cs a (a + 1) (by omega) e (by omega), nz_one, if_pos h0]
  rfl
abbrev at0 (f : List Int) (x : Int) : Int := f.getD x.toNat 0
theorem nz_sum {cs f : List Int} (h0 : ∀ j, j < 11 → cs.getD j 0 = 0 → f.getD j 0 = 0) (a : Nat) : ∀ e, a ≤ e → e ≤ 11 → sm (at0 f) (nz cs a e) = pre f e - pre f a
  | 0, h, _ => by
    obtain rfl : a = 0 := by omega
    simp [nz, sm]
  | e + 1, h, h2 => by
    by_cases ha : a = e + 1
    · subst ha
      rw [nz_nil cs _ _ (Nat.le_refl _)]
      simp [sm]
    · have ih := nz_sum h0 a e (by omega) (by omega)
      have e2 : pre f (e + 1) = pre f e + f.getD e 0 := rfl
      rw [nz]
      by_cases hc : cs.getD e 0 ≠ 0
      · rw [if_pos ⟨by omega, hc⟩, sm_app, sm_one, ih, e2]
        unfold at0
        rw [Int.toNat_natCast]
        omega
      · rw [if_neg (fun h => hc h.2), ih, e2, h0 e (by omega) (Decidable.byContradiction hc)]
        omega
theorem sm_bd {h : Int → Int} : ∀ {l : List Int}, (∀ x ∈ l, 0 ≤ h x ∧ h x ≤ 1000) → 0 ≤ sm h l ∧ sm h l ≤ 1000 * (l.length : Int)
  | [], _ => by simp [sm]
  | x :: l, hx => by
    have h1 := hx x (List.mem_cons_self ..)
    have h2 := sm_bd (l := l) (fun y hy => hx y (List.mem_cons_of_mem _ hy))
    have e : sm h (x :: l) = h x + sm h l := rfl
    rw [e, List.length_cons]
    omega
theorem shareN_ok (a b : Nat) (hb : 0 < b) (hab : a ≤ b) (hb2 : b ≤ 1000000) : shareOk (shareN a b).1 (shareN a b).2 = true := by
  have h1 := shareN_bd a b hb
  have h2 : a / Nat.gcd a b ≤ b / Nat.gcd a b := Nat.div_le_div_right hab
  have h3 := Nat.gcd_div_gcd_div_gcd_of_pos_right (n := a) hb
  unfold shareOk
  unfold shareN at h1 ⊢
  dsimp only at h1 ⊢
  rw [Int.toNat_natCast, Int.toNat_natCast, h3, inb_iff.2 (by omega), inb_iff.2 (by omega)]
  rfl
def RowOk (cs hs : List Int) (G : List SG) (e : Nat) (s : List Int) : Prop :=
  ∃ a : Nat, a < e ∧ e ≤ 11 ∧ s = nz cs a e ∧ cs.getD a 0 ≠ 0 ∧ (∀ c : Nat, a ≤ c → c < e → shG G (c : Int) = shG G (a : Int)) ∧ (pre hs e - pre hs a) * (shG G (a : Int)).f1 = (shG G (a : Int)).f0 * (pre cs e - pre cs a)
section
variable {cs hs : List Int} {G : List SG} (hG : GInv 11 G) (I : PI cs hs 11 G)
include hG I
theorem seg_ok {k : Nat} (hk : k < G.length) : RowOk cs hs G (Fk G 11 (k + 1)) (gk G k).f0 := by
  have u := I.up k hk
  have t := Fk_le I (j := k + 1) (k := G.length) hk (Nat.le_refl _)
  rw [Fk_end] at t
  refine ⟨Fk G 11 k, u, t, (I.rows k hk).1, (I.rows k hk).2, fun c h1 h2 => ?_, ?_⟩
  · rw [shg_at I hk c h1 h2, shg_at I hk _ (Nat.le_refl _) u]
  · have m := shG_mul hG (by omega) (Fk G 11 k : Int)
    have eg : grp G (Fk G 11 k : Int) = gk G k := by
      have h := pk_eq I (by omega) (Fk G 11 k) k hk (Nat.le_refl _) u
      unfold pk at h
      unfold grp
      rw [h]
    rw [eg, I.cases k hk, I.hits k hk] at m
    exact m.symm
theorem joinG_ok : ∀ k, k < G.length → ∃ U r, joinG G (k + 1) = U ++ [r] ∧ (∀ s ∈ U, ∃ e, RowOk cs hs G e s) ∧ RowOk cs hs G (Fk G 11 (k + 1)) r
  | 0, h => ⟨[], (gk G 0).f0, by
      have e : joinG G 1 = stick (sameK G 0) [] (gk G 0).f0 := rfl
      have e2 : sameK G 0 = false := by unfold sameK; rfl
      rw [e, e2]; rfl, fun s hs => absurd hs (by simp), seg_ok hG I h⟩
  | k + 1, h => by
    obtain ⟨U, r, e, hU, hr⟩ := joinG_ok k (by omega)
    have ej : joinG G (k + 1 + 1) = stick (sameK G (k + 1)) (joinG G (k + 1)) (gk G (k + 1)).f0 := rfl
    have so := seg_ok hG I h
    rw [ej, e]
    cases hsame : sameK G (k + 1) with
    | false =>
      refine ⟨U ++ [r], (gk G (k + 1)).f0, rfl, fun s hs => ?_, so⟩
      rcases List.mem_append.1 hs with h1 | h1
      · exact hU s h1
      · rw [List.mem_singleton.1 h1]
        exact ⟨_, hr⟩
    | true =>
      have u0 := I.up k (by omega)
      have u := I.up (k + 1) h
      have hc : (gk G k).f2 * (gk G (k + 1)).f1 = (gk G (k + 1)).f2 * (gk G k).f1 := by
        unfold sameK at hsame
        simp only [Bool.and_eq_true, decide_eq_true_eq, Nat.add_sub_cancel] at hsame
        exact hsame.2
      have ht := (share_turn I (show k < G.length by omega) h).2 hc
      refine ⟨U, r ++ (gk G (k + 1)).f0, app1_new U r _, hU, ?_⟩
      obtain ⟨a, a1, a2, a3, a4, a5, a6⟩ := hr
      have t := Fk_le I (j := k + 1 + 1) (k := G.length) h (Nat.le_refl _)
      rw [Fk_end] at t
      have hb : shG G (Fk G 11 (k + 1) : Int) = shG G (a : Int) := by
        rw [← ht, ← a5 (Fk G 11 (k + 1) - 1) (by omega) (by omega), shg_at I (show k < G.length by omega) (Fk G 11 k) (Nat.le_refl _) u0, shg_at I (show k < G.length by omega) _ (by omega) (by omega)]
      refine ⟨a, by omega, t, ?_, a4, fun c h1 h2 => ?_, ?_⟩
      · rw [a3, (I.rows (k + 1) h).1]
        exact nz_app cs a _ (by omega) _ (by omega)
      · by_cases hce : c < Fk G 11 (k + 1)
        · exact a5 c h1 hce
        · rw [← hb, shg_at I h c (by omega) h2, shg_at I h _ (Nat.le_refl _) u]
      · obtain ⟨b, b1, b2, b3, b4, b5, b6⟩ := so
        have m := shG_mul hG (by omega) (Fk G 11 (k + 1) : Int)
        have eg : grp G (Fk G 11 (k + 1) : Int) = gk G (k + 1) := by
          have h := pk_eq I (by omega) (Fk G 11 (k + 1)) (k + 1) h (Nat.le_refl _) u
          unfold pk at h
          unfold grp
          rw [h]
        rw [eg, I.cases (k + 1) h, I.hits (k + 1) h, hb] at m
        rw [Int.sub_mul, Int.mul_sub] at a6 m ⊢
        omega
theorem rows_ok (hl : 1 ≤ G.length) : ∀ s ∈ joinG G G.length, ∃ e, RowOk cs hs G e s := by
  obtain ⟨U, r, e, hU, hr⟩ := joinG_ok hG I (G.length - 1) (by omega)
  rw [show G.length - 1 + 1 = G.length by omega] at e
  rw [e]
  intro s hs
  rcases List.mem_append.1 hs with h1 | h1
  · exact hU s h1
  · rw [List.mem_singleton.1 h1]
    exact ⟨_, hr⟩
theorem mono_tab (hl : 1 ≤ G.length) : monoR (tab 11 (fun c : Nat => shG G (c : Int))) = (true, true) := by
  have h1 : sharesOk (tab 11 (fun c : Nat => shG G (c : Int))) = true := by
    unfold sharesOk
    refine List.all_eq_true.2 fun s hs => ?_
    obtain ⟨c, _, rfl⟩ := tab_mem.1 hs
    have o := grp_ok hG hl (c : Int)
    have oa := o.a
    have ob := o.b
    have oc := o.c
    have b := grp_bd hG hl (c : Int)
    exact shareN_ok (grp G (c : Int)).f2.toNat (grp G (c : Int)).f1.toNat (by omega) (by omega) (by omega)
  have h2 : rising (tab 11 (fun c : Nat => shG G (c : Int))) = true := by
    unfold rising
    rw [tab_length]
    refine (rall_iff _ _ _).2 fun j _ hj => ?_
    rw [tab_getD _ _ _ (show j < 11 by omega), tab_getD _ _ _ (show j + 1 < 11 by omega)]
    have hle := shG_le hG I hl (show j ≤ j + 1 by omega) (show j + 1 < 11 by omega)
    have b1 := shG_bd hG hl (j : Int)
    have b2 := shG_bd hG hl ((j + 1 : Nat) : Int)
    have p1 := prod_bd (a := (shG G (j : Int)).f0) (b := (shG G ((j + 1 : Nat) : Int)).f1) (by omega) (by omega) (by omega) (by omega)
    have p2 := prod_bd (a := (shG G ((j + 1 : Nat) : Int)).f0) (b := (shG G (j : Int)).f1) (by omega) (by omega) (by omega) (by omega)
    unfold lessSh
    rw [w64 (x := (shG G ((j + 1 : Nat) : Int)).f0 * (shG G (j : Int)).f1) (by omega) (by omega), w64 (x := (shG G (j : Int)).f0 * (shG G ((j + 1 : Nat) : Int)).f1) (by omega) (by omega), decide_eq_false (by omega)]
    rfl
  unfold monoR
  rw [h1, h2, tab_length]
  rfl
omit I in
theorem row_ev (ok : tallyOk cs hs = true) (hl : 1 ≤ G.length) (R : List (List Int)) (i e : Nat) (hi : i < R.length) (hR : R.length ≤ 11) (hr : RowOk cs hs G e (R.getD i [])) (res : Bool)
    (hn : Ev (fun k => laws_FnCalibration.l0 k (tab 11 (fun c : Nat => shG G (c : Int))) R ((i + 1 : Nat) : Int) cs hs) res) :
    Ev (fun k => laws_FnCalibration.l1 k (tab 11 (fun c : Nat => shG G (c : Int))) R (i : Int) 0 0 0 cs hs) res := by
  obtain ⟨t1, t2, t3⟩ := tallyOk_iff.1 ok
  obtain ⟨a, a1, a2, a3, a4, a5, a6⟩ := hr
  have hz : ∀ j, j < 11 → cs.getD j 0 = 0 → hs.getD j 0 = 0 := fun j hj h0 => by have := t3 j hj; omega
  have s1 := nz_sum (cs := cs) (f := cs) (fun j _ h => h) a e (by omega) a2
  have s2 := nz_sum (cs := cs) (f := hs) hz a e (by omega) a2
  have hm : ∀ x ∈ nz cs a e, ∃ c : Nat, x = (c : Int) ∧ a ≤ c ∧ c < e := fun x hx => nz_mem e hx
  have hln := nz_len cs a e
  have hhd := nz_head a1 a4
  rw [← s1, ← s2] at a6
  have hc1 : 1 ≤ sm (at0 cs) (nz cs a e) := by
    have h1 := sm_mem (h := at0 cs) (l := nz cs a e) (x := (a : Int)) (fun x hx => by
      obtain ⟨c, rfl, _, h3⟩ := hm x hx
      have := t3 c (by omega)
      unfold at0
      rw [Int.toNat_natCast]
      omega) (by rw [hhd]; exact List.mem_cons_self ..)
    have := t3 a (by omega)
    have h2 : at0 cs (a : Int) = cs.getD a 0 := by unfold at0; rw [Int.toNat_natCast]
    rw [h2] at h1
    omega
  generalize hs0 : nz cs a e = s at *
  have n0 : 0 < s.length := by rw [hhd]; simp
  have f0 : rd s 0 = (a : Int) := by rw [hhd]; rfl
  have eR : rd_L3 R (i : Int) = s := by rw [rdl3]; exact a3
  have eS : ∀ c : Nat, c < 11 → rd_T33 (tab 11 (fun c : Nat => shG G (c : Int))) (c : Int) = shG G (c : Int) := fun c hc => by rw [rdsh, tab_getD _ _ _ hc]
  have bd : ∀ f : List Int, (∀ j, j < 11 → 0 ≤ f.getD j 0 ∧ f.getD j 0 ≤ 1000) → ∀ j, 0 ≤ sm (at0 f) (s.take j) ∧ sm (at0 f) (s.take j) ≤ 11000 := fun f hf j => by
    have h1 := sm_bd (h := at0 f) (l := s.take j) (fun x hx => by
      obtain ⟨c, rfl, _, h3⟩ := hm x (List.mem_of_mem_take hx)
      unfold at0
      rw [Int.toNat_natCast]
      exact hf c (by omega))
    have h2 : (s.take j).length ≤ s.length := List.length_take_le' j s
    omega
  have bc := bd cs (fun j hj => by have := t3 j hj; omega)
  have bh := bd hs (fun j hj => by have := t3 j hj; omega)
  have tl : ((tab 11 (fun c : Nat => shG G (c : Int))).length : Int) = 11 := by rw [tab_length]; rfl
  have h := loop_ev (σ := Unit) (fun k _ j => laws_FnCalibration.l1 k (tab 11 (fun c : Nat => shG G (c : Int))) R (i : Int) (sm (at0 cs) (s.take j)) (sm (at0 hs) (s.take j)) (j : Int) cs hs) s.length (fun _ _ => ()) (fun _ => res) (fun _ _ => True)
    (fun j _ r _ hj hr => by
      obtain ⟨c, e1, e2, e3⟩ := hm s[j] (List.getElem_mem hj)
      have ec : rd s (j : Int) = (c : Int) := by rw [rd_nat, getD_eq_get _ hj, e1]
      have et : s.take (j + 1) = s.take j ++ [(c : Int)] := by rw [List.take_succ_eq_append_getElem hj, e1]
      have en := Aside0.mk (show wrap64 ((j : Int) + 1) = ((j + 1 : Nat) : Int) by rw [w64 (by omega) (by omega)]; rfl)
      have q1 := bc j
      have q2 := bh j
      have q3 := t3 c (by omega)
      have w1 := Aside0.mk (show wrap64 (sm (at0 cs) (s.take j) + rd cs (c : Int)) = sm (at0 cs) (s.take (j + 1)) by
        rw [et, sm_app, sm_one, rd_nat, w64 (by omega) (by omega)]
        rfl)
      have w2 := Aside0.mk (show wrap64 (sm (at0 hs) (s.take j) + rd hs (c : Int)) = sm (at0 hs) (s.take (j + 1)) by
        rw [et, sm_app, sm_one, rd_nat, w64 (by omega) (by omega)]
        rfl)
      refine ev_step (fun k => laws_FnCalibration.l1.eq_2 _ _ _ _ _ _ _ _ k) ?_
      rw [eR, ec, f0, w1.out, w2.out, en.out, tl, eS c (by omega), eS a (by omega), a5 c e2 e3]
      exact ev_ifp (by omega) (ev_ifp (by omega) (ev_ifp (by omega) (ev_ifp (by omega) (ev_ifp (by omega) (ev_ifp (by omega) (ev_ifp (by omega) (ev_ifp (by omega) (ev_ifp (by omega) (ev_ifp (by omega) (ev_ifp (by omega) (ev_ifn (by simp) hr))))))))))))
    (fun _ _ _ _ => trivial)
    (fun _ _ => by
      have en := Aside0.mk (show wrap64 ((i : Int) + 1) = ((i + 1 : Nat) : Int) by rw [w64 (by omega) (by omega)]; rfl)
      have q1 := bc s.length
      have q2 := bh s.length
      rw [List.take_length] at q1 q2
      have b1 := shG_bd hG hl (a : Int)
      have p1 := prod_bd (a := sm (at0 hs) s) (b := (shG G (a : Int)).f1) (by omega) (by omega) (by omega) (by omega)
      have p2 := prod_bd (a := sm (at0 cs) s) (b := (shG G (a : Int)).f0) (by omega) (by omega) (by omega) (by omega)
      refine ev_step (fun k => laws_FnCalibration.l1.eq_2 _ _ _ _ _ _ _ _ k) ?_
      rw [eR, f0, en.out, tl, eS a (by omega), List.take_length, w64 (x := sm (at0 hs) s * (shG G (a : Int)).f1) (by omega) (by omega), w64 (x := sm (at0 cs) s * (shG G (a : Int)).f0) (by omega) (by omega)]
      exact ev_ifp (by omega) (ev_ifp (by omega) (ev_ifn (by omega) (ev_ifp (by omega) (ev_ifp (by omega) (ev_ifp (by omega) (ev_ifn (by omega) (ev_ifp (by rw [a6, Int.mul_comm]) hn)))))))) 0 () (Nat.zero_le _) trivial
  exact h
end
theorem table_ev {cs hs : List Int} {G : List SG} (hG : GInv 11 G) (I : PI cs hs 11 G) (ok : tallyOk cs hs = true) (hl : 1 ≤ G.length) (R : List (List Int)) (hR : R.length ≤ 11) (hr : ∀ s ∈ R, ∃ e, RowOk cs hs G e s) :
    Ev (fun k => laws_FnCalibration.l0 k (tab 11 (fun c : Nat => shG G (c : Int))) R 0 cs hs) true := by
  have h := loop_ev (σ := Unit) (fun k _ i => laws_FnCalibration.l0 k (tab 11 (fun c : Nat => shG G (c : Int))) R (i : Int) cs hs) R.length (fun _ _ => ()) (fun _ => true) (fun _ _ => True)
    (fun i _ r _ hi hn => by
      obtain ⟨e, he⟩ := hr (R.getD i []) (by rw [getD_eq_get _ hi]; exact List.getElem_mem hi)
      exact ev_step (fun k => laws_FnCalibration.l0.eq_2 _ _ _ _ _ k) (ev_ifp (by omega) (row_ev hG ok hl R i e hi hR he r hn)))
    (fun _ _ _ _ => trivial)
    (fun _ _ => ev_step (fun k => laws_FnCalibration.l0.eq_2 _ _ _ _ _ k) (ev_ifn (by omega) (ev_some _))) 0 () (Nat.zero_le _) trivial
  exact h
theorem FnCalibration : laws_FnCalibration.Pure := by
  intro l hl _
  refine Ev.rounds ?_
  unfold laws_FnCalibration.f laws_vBig.f
  refine ev_bind (ev_some _) ?_
  by_cases hb : (l.length : Int) > 65536
  · exact ev_ifp (decide_eq_true hb) (ev_some _)
  refine ev_ifn (by simp only [decide_eq_true_eq]; exact hb) ?_
  have hc : Code l := ⟨by omega, fun x hx => by
    have := hl.2 x hx
    simp [Lit.wf, IntKind.min, IntKind.max, IntKind.signed, IntKind.bits] at this
    omega⟩
  obtain ⟨⟨c, h, i1, s1⟩, e1, l1, l2, b1, b2⟩ := tally_at hc 0 0 (by omega) (by omega)
  dsimp only at b1 b2 l1 l2
  have ed : Ev (fun k => spec_DrawCalibrationOf.f k l) (c, h) := by
    unfold spec_DrawCalibrationOf.f spec_DrawIsValidTally.f
    exact ev_bind (ev_bind e1 (ev_some _)) (ev_some _)
  have g1 := l10Good_ev c h
  have g2 := isValidTally_ev c h
  have g3 : Ev (fun k => spec_IsValidTally.f k c h) (tallyOk c h) := by
    unfold spec_IsValidTally.f
    exact ev_bind g1 (ev_some _)
  obtain ⟨⟨R, b⟩, hs, hi, hr1, hr2⟩ := groupsOf_both c h
  dsimp only at hr1 hr2
  have fin : ∀ (L : List SHR) (o : Bool), L.length ≤ 64 → Ev (fun k => impl_CalibrationOf.f k c h) (L, o) → Ev (fun k => spec_CalibrationOf.f k c h) (L, o) → Ev (fun k => laws_FnCalibration.j1 k L o R false c h) true →
      Ev (fun k => (impl_CalibrationOf.f k c h).bind fun bt109 => (spec_CalibrationOf.f k c h).bind fun bt113 => if (bt109.2 != bt113.2) = true then laws_FnCalibration.j0 k bt109.1 bt109.2 true c h else (laws_vShares.f k bt109.1 bt113.1).bind fun t117 => if t117 = true then (impl_IsValidTally.f k c h).bind fun t118 => (spec_IsValidTally.f k c h).bind fun t119 => laws_FnCalibration.j0 k bt109.1 bt109.2 (t118 != t119) c h else laws_FnCalibration.j0 k bt109.1 bt109.2 true c h) true := by
    intro L o hL x1 x2 x3
    refine ev_bind x1 (ev_bind x2 (ev_ifn (by simp) (ev_bind (vSharesC_self L (by omega)) (ev_ifp rfl (ev_bind g2 (ev_bind g3 ?_))))))
    refine ev_step (fun k => laws_FnCalibration.j0.eq_2 _ _ _ _ _ k) (ev_ifn (by simp) (ev_bind hi (ev_bind hs (ev_ifn (by simp) (ev_bind (vTable_self R (by omega) (fun s hs => by have := hr2 s hs; omega)) x3)))))
  refine ev_bind ed ?_
  have none1 : ∀ L : List SHR, L = [] → R = [] → Ev (fun k => laws_FnCalibration.j1 k L false R false c h) true := by
    rintro _ rfl rfl
    exact ev_step (fun k => laws_FnCalibration.j1.eq_2 _ _ _ _ _ _ k) (ev_ifn (by simp) (ev_ifn (by simp) (ev_ifp (by simp) (ev_const (by simp)))))
  cases ok : tallyOk c h with
  | false =>
    have g1' := g1
    have g2' := g2
    rw [ok] at g1' g2'
    have eR : R = [] := by
      have : Ev (fun k => spec_GroupsOf.f k c h) ([], false) := by
        unfold spec_GroupsOf.f
        exact ev_bind (ev_some _) (ev_bind g1' (ev_ifn (by simp) (ev_some _)))
      exact congrArg Prod.fst (ev_det hs this)
    refine fin [] false (by simp) ?_ ?_ (none1 _ rfl eR)
    · unfold impl_CalibrationOf.f
      exact ev_bind g2' (ev_ifn (by simp) (ev_some _))
    · unfold spec_CalibrationOf.f
      exact ev_bind g1' (ev_ifn (by simp) (ev_some _))
  | true =>
    have g1' := g1
    have g2' := g2
    rw [ok] at g1' g2'
    obtain ⟨G, hG, gg, hcal⟩ := calib_both ok
    obtain ⟨hG2, I⟩ := calib_inv ok gg
    have eR : R = joinG G G.length := by
      have : Ev (fun k => spec_GroupsOf.f k c h) (joinG G G.length, true) := by
        unfold spec_GroupsOf.f
        exact ev_bind (ev_some _) (ev_bind g1' (ev_ifp rfl (ev_bind gg (groups_spec hG I))))
      exact congrArg Prod.fst (ev_det hs this)
    rcases hcal with ⟨rfl, h1, h2⟩ | ⟨hln, h1, h2⟩
    · refine fin [] false (by simp) ?_ ?_ (none1 _ rfl eR)
      · unfold impl_CalibrationOf.f
        exact ev_bind g2' (ev_ifp rfl (ev_bind h2 (ev_some _)))
      · unfold spec_CalibrationOf.f
        exact ev_bind g1' (ev_ifp rfl (ev_bind h1 (ev_ifp rfl (ev_some _))))
    · refine fin (tab 11 (fun c => shG G (c : Int))) true (by rw [tab_length]; omega) ?_ ?_ ?_
      · unfold impl_CalibrationOf.f
        exact ev_bind g2' (ev_ifp rfl (ev_bind h2 (ev_some _)))
      · unfold spec_CalibrationOf.f
        exact ev_bind g1' (ev_ifp rfl (ev_bind h1 (ev_ifn (by rw [tab_length]; decide) (ev_bind h1 (ev_some _)))))
      · have hm := isMonotoneI_ev (tab 11 (fun c : Nat => shG G (c : Int)))
        rw [mono_tab hG I hln] at hm
        refine ev_step (fun k => laws_FnCalibration.j1.eq_2 _ _ _ _ _ _ k) (ev_ifn (by simp) (ev_ifp rfl (ev_bind hm (ev_ifp rfl (ev_ifp rfl ?_)))))
        refine ev_step (fun k => laws_FnCalibration.j2.eq_2 _ _ _ _ _ k) (ev_ifn (by rw [tab_length]; simp) ?_)
        exact table_ev hG I ok hln R hr1 (by rw [eR]; exact rows_ok hG I hln)
end Go.Proofs.Ytjicgmcogadleaa.Pure
namespace Go.Proofs.Ytjicgmcogadleaa.fnCalibration
open Go.ChangeShapes Go.WideShapes Go.ChangeAt Go.RowKit Go.Proofs.Ytjicgmcogadleaa.Open Go.Proofs.Ytjicgmcogadleaa.P Go.Proofs.YtjicgmcogadleaaW.PrintWords
open Go.ChangeMaps (open_string shut_string)
set_option linter.unusedVariables false
theorem own : ownKnob Try.prog.godebug = none := by kernel_rfl
theorem laidOut : laidOutB Try.prog = true := by kernel_rfl
set_option maxRecDepth 100000 in
theorem lifted (os : Os) (started : os.Started) (H : Type) (enc : TypeId × Value → H) :
    ReturnsInHanded {} Try.checked os 5 .any (Rows.fnCalibrationSpec.pre6 enc Try.prog Try.f5 Rows.fnCalibrationRow.domain false) (Rows.fnCalibrationSpec.post enc Try.prog Try.f5 false true false false) := by
  refine returnsInHanded_of_change_sized (C := Try.checked) own started (by kernel_rfl) Try.func5
    (ChangeSpec.witness6 (enc := enc) (C := Try.checked) false ⟨#[], #[.slice none 0 0], []⟩ 8 (by kernel_rfl) (by kernel_rfl) (by kernel_rfl) (by kernel_rfl)) ?_
  intro W base args ds gs before hval0 hW hcnd hsz0 _
  have hsz : (DataW.weightsEach Try.prog (Try.f5.params.toList ++ Rows.fnCalibrationSpec.plain.varTypes Try.prog) (ds ++ gs)).all (· ≤ reachBytes) = true := hsz0
  have hval : ∀ (j : Nat) t v, Try.f5.params[j]? = some t → args[j]? = some v → Value.okWide Try.prog W .any base t v := hval0
  have hW' := hW
  obtain ⟨p, q, hA0, hV, rfl, hfz, hnd⟩ := hW
  have hA : DataW.TrodAll enc Try.prog W 0 (fun _ => true) true Try.f5.params.toList args.toList ds p := hA0
  rw [Try.params5] at hA hval hsz
  obtain ⟨v0, vs0, d0, ds0, p0, q0, hargs, rfl, rfl, h0, r0⟩ := trodAll_cons hA
  obtain ⟨rfl, rfl, rfl⟩ := trodAll_nil r0
  obtain rfl : args = #[v0] := by cases args; simp_all
  obtain ⟨rfl, rfl⟩ := trodVars_none hV
  obtain ⟨A0, len0, c0, rfl⟩ := okWide_slice Try.underlying22 (hval 0 22 v0 rfl rfl)
  have k0 := h0
  have lt0 : ∀ x ∈ p0, x.block < W.heap.size := by obtain ⟨m, hm⟩ := k0; exact DataW.trod_lt m _ _ _ hm
  have y0 : len0 * 1 ≤ 140737488351232 := sized_any hsz (j := 0) (t := 22) rfl rfl Try.underlying22 (by kernel_rfl) h0
  obtain ⟨l0, rfl, hc0, hr0, w0⟩ := slice_at (opens_slice Try.underlying22 (by kernel_rfl) (opens_int Try.underlying5)) h0
  clear hA0 hval0 hsz0 hsz
  obtain ⟨k, hp⟩ := Pure.FnCalibration l0 w0 y0
  refine (laws_FnCalibration.calls k A0 c0 l0 true W hr0 hc0 hp).mono fun e W' ⟨he, bel0⟩ => ?_
  have bel : Below W.heap.size W W' := bel0
  subst he
  exact ⟨_, rfl, _, _, _, [], _, [], hW', trodAll_mk1 (shut_bool Try.underlying4 _), (trodAll_cons_mk (Below.trod laidOut (by kernel_rfl) (of_decide_eq_true (by kernel_rfl)) k0 bel lt0) trodAll_mk0), rfl, bel.frame _, fun h => by cases h⟩
theorem over : Rows.fnCalibrationRow.holds Try.pinned (OpenSpec.ofChange Rows.fnCalibrationSpec) :=
  OpenClaim.holds_of_wide 5 Try.f5 rfl rfl rfl rfl rfl rfl rfl ⟨rfl, rfl, rfl, rfl, rfl⟩ rfl rfl rfl rfl rfl (by kernel_rfl) Try.func5 (by kernel_rfl)
    (of_decide_eq_true (by kernel_rfl)) (by unfold Func.isWrapper; first | (rw [if_pos (by decide +kernel)]; kernel_rfl) | (rw [if_neg (by decide +kernel)]; exact ⟨rfl, rfl⟩))
    (fun os started H enc _ => lifted os started H enc)
theorem proved : Rows.FnCalibrationSaid := over
#print axioms proved
end Go.Proofs.Ytjicgmcogadleaa.fnCalibration
namespace Go.Proofs.Ytjicgmcogadleaa
theorem fnCalibration_holds : Rows.FnCalibrationSaid := fnCalibration.proved
end Go.Proofs.Ytjicgmcogadleaa
