/- Texts of the claim FnExactAddTallies, merged: part 5 of 5: the program's and the reference's functions as Lean functions, the walks that show it, and plain lemmas; no conditions. -/
import Derived.Test.YthekngnkajjhnaaKFnExactAddTallies1
import Derived.ProofKit
import Derived.OpenShut
import Derived.Deep.Slices
import Derived.Deep.Strs
import Derived.Deep.Fields
import Derived.Lib.SmallJoins
import Derived.Test.YthekngnkajjhnaaKFnExactAddTallies2
import Derived.Test.YthekngnkajjhnaaKFnExactAddTallies3
import Derived.Test.YthekngnkajjhnaaKFnExactAddTallies4
import Derived.Test.YthekngnkajjhnaaRows
import Derived.WalkKit
import Derived.ShutString
import Derived.ChangeOld
import Derived.Below
import Derived.SizedLaws
namespace Go.Proofs.Ythekngnkajjhnaa.Open
open Go.ChangeShapes Go.WideShapes Go.RowKit Go.Deep Go.Joins Go.Proofs.YthekngnkajjhnaaW.PrintWords
def Opens {α : Type} (P : Program) (t : TypeId) (d : Kd α) (wf : α → Prop) : Prop :=
  ∀ {H : Type} {enc : TypeId × Value → H} {W : World} {fuel : Nat} {cs : List Value} {x : DataW H × List MemPlace},
    DataW.trod enc P W 0 (fun _ => true) true fuel t cs = some x → ∃ y, d.K W y cs ∧ wf y
theorem opens_int {P : Program} {t : TypeId} {k : IntKind} (h : P.underlying t = some (.int k)) : Opens P t (Kd.int k) (fun n => (Lit.int k n).wf = true) := by
  intro H enc W fuel cs x hx
  obtain ⟨n, rfl, _, hw⟩ := DataW.trod_int h hx
  exact ⟨n, rfl, hw⟩
theorem list_of {α : Type} {p : Nat → α → Prop} : ∀ (n : Nat), (∀ i, i < n → ∃ y, p i y) → ∃ ys : List α, ys.length = n ∧ ∀ (i : Nat) (y : α), ys[i]? = some y → p i y
  | 0, _ => ⟨[], rfl, fun i y h => by simp at h⟩
  | n + 1, h => by
    obtain ⟨ys, hl, hy⟩ := list_of n (fun i hi => h i (by omega))
    obtain ⟨y, hp⟩ := h n (by omega)
    refine ⟨ys ++ [y], by simp [hl], fun i z hz => ?_⟩
    by_cases hi : i < n
    · rw [List.getElem?_append_left (by omega)] at hz
      exact hy i z hz
    · have hi2 : i = n := by
        have := (List.getElem?_eq_some_iff.1 hz).1
        simp [hl] at this
        omega
      subst hi2
      rw [List.getElem?_append_right (by omega), hl] at hz
      simp at hz
      subst hz
      exact hp
theorem opens_slice {α : Type} {P : Program} {t e : TypeId} {d : Kd α} {wf : α → Prop} (h : P.underlying t = some (.slice e)) (hc : P.cellsOf e = d.sz) (he : Opens P e d wf) :
    Opens P t (Kd.slice e d) (fun l => l.length ≤ 9223372036854775807 ∧ ∀ x ∈ l, wf x) := by
  intro H enc W fuel cs x hx
  rcases open_slice h hx with ⟨rfl, _⟩ | ⟨a, len, cap, m, n, D, Pl, rfl, _, hl, hm, hmm, _, hx⟩
  · exact ⟨[], ⟨none, 0, rfl, by simp, Kd.C_nil d W⟩, by simp, by simp⟩
  · obtain ⟨ys, hlen, hy⟩ := list_of (p := fun i y => ∃ cs', W.cells? 0 (a.add (i * P.cellsOf e)) (P.cellsOf e) = some cs' ∧ d.K W y cs' ∧ wf y) len (fun i hi => by
      obtain ⟨cs', h1, h2⟩ := hx i (by rw [hmm]; split <;> omega)
      obtain ⟨y, hK, hw⟩ := he h2
      exact ⟨y, cs', h1, hK, hw⟩)
    have hm' : cap ≤ 9223372036854775807 := by simpa [maxLen] using hm
    refine ⟨ys, ⟨some a, cap, by rw [hlen], by omega, ⟨rfl, by omega, fun _ => ⟨a, rfl, fun j y hj => ?_⟩⟩⟩, by omega, fun y hmem => ?_⟩
    · obtain ⟨cs', h1, hK, _⟩ := hy j y hj
      obtain ⟨_, hl2, hcell⟩ := World.cells?_some h1
      refine ⟨cs', d.K_len hK, hK, fun i u hu => ?_⟩
      have hi : i < P.cellsOf e := by
        have := (List.getElem?_eq_some_iff.1 hu).1
        omega
      rw [← hc, ← Go.Deep.add_add, hcell i hi]
      exact hu
    · obtain ⟨j, hj⟩ := List.getElem?_of_mem hmem
      obtain ⟨_, _, _, hw⟩ := hy j y hj
      exact hw
theorem slice_cell {α : Type} {d : Kd α} {e : Nat} {W : World} {l : List α} {v : Value} (h : (Kd.slice e d).K W l [v]) : ∃ A c, v = .slice A l.length c ∧ l.length ≤ c ∧ d.C W A l.length l := by
  obtain ⟨A, c, hc, hl, hC⟩ := h
  exact ⟨A, c, by simpa using hc, hl, hC⟩
section
variable {P : Program} {t : TypeId} {W : World} {H : Type} {enc : TypeId × Value → H} {r : Reach} {b0 : Nat} {v : Value} {d : DataW H} {p : List MemPlace}
theorem agg2_at {α0 α1 : Type} {f0 f1 : Field} {d0 : Kd α0} {d1 : Kd α1} {w0 : α0 → Prop} {w1 : α1 → Prop} (hs : P.underlying t = some (.struct #[f0, f1])) (hone : oneCellFields P #[f0, f1] = true) (hC : P.cellsOf t = 2)
    (h0 : Opens P f0.type d0 w0) (h1 : Opens P f1.type d1 w1) (hv : Value.okWide P W r b0 t v) (h : DataW.Trod enc P W 0 (fun _ => true) true t v d p) :
    ∃ (v0 v1 : Value) (y0 : α0) (y1 : α1), v = .agg #[v0, v1] ∧ d0.K W y0 [v0] ∧ w0 y0 ∧ d1.K W y1 [v1] ∧ w1 y1 := by
  obtain ⟨v0, v1, _, _, _, rfl, _, _, e0, e1⟩ := open_agg2 hs hone hC hv h
  obtain ⟨y0, K0, W0⟩ := h0 e0
  obtain ⟨y1, K1, W1⟩ := h1 e1
  exact ⟨v0, v1, y0, y1, rfl, K0, W0, K1, W1⟩
end
end Go.Proofs.Ythekngnkajjhnaa.Open
namespace Go.Proofs.Ythekngnkajjhnaa.P
open Go.RowKit Go.Proofs.YthekngnkajjhnaaW.PrintWords Go.Proofs.YthekngnkajjhnaaW.PrintLast Go.Proofs.YthekngnkajjhnaaW.PrintMore
attribute [local go_sem] max2_int min2_int max_two min_two max_three min_three max_four min_four
set_option linter.unusedVariables false
set_option linter.unusedSimpArgs false
open Go.Proofs.Ythekngnkajjhnaa.Open
end Go.Proofs.Ythekngnkajjhnaa.P
namespace Go.Proofs.Ythekngnkajjhnaa.Pure
set_option linter.unusedVariables false
set_option linter.unusedSimpArgs false
open Go.RowKit Go.Proofs.YthekngnkajjhnaaW.PrintWords Go.Proofs.YthekngnkajjhnaaW.PrintLast Go.Proofs.YthekngnkajjhnaaW.PrintMore
theorem w64 {x : Int} (h0 : -9223372036854775808 ≤ x) (h1 : x ≤ 9223372036854775807) : wrap64 x = x := by
  unfold wrap64
  omega
theorem rd_nat (xs : List Int) (i : Nat) : rd xs (i : Int) = xs.getD i 0 := by simp [rd]
section
variable {α β : Type} {f g : Nat → Option α} {r : α}
theorem ev_some (r : α) : Ev (fun _ => some r) r := ⟨0, fun _ _ => rfl⟩
theorem ev_ifp {c : Prop} [Decidable c] (h : c) (k : Ev f r) : Ev (fun n => if c then f n else g n) r := Ev.congr (fun _ => if_pos h) k
theorem ev_ifn {c : Prop} [Decidable c] (h : ¬ c) (k : Ev g r) : Ev (fun n => if c then f n else g n) r := Ev.congr (fun _ => if_neg h) k
theorem ev_bind {F : Nat → α → Option β} {q : β} (h : Ev g r) (k : Ev (fun n => F n r) q) : Ev (fun n => (g n).bind (fun x => F n x)) q := by
  obtain ⟨K1, h1⟩ := h
  obtain ⟨K2, h2⟩ := k
  exact ⟨K1 + K2, fun n hn => by show (g n).bind (fun x => F n x) = some q; rw [h1 n (by omega)]; exact h2 n (by omega)⟩
theorem ev_const {a : Option α} (h : a = some r) : Ev (fun _ => a) r := ⟨0, fun _ _ => h⟩
theorem ev_step (h : ∀ k, g (k + 1) = f k) (k : Ev f r) : Ev g r := by
  obtain ⟨K, h1⟩ := k
  refine ⟨K + 1, fun n hn => ?_⟩
  obtain ⟨m, rfl⟩ : ∃ m, n = m + 1 := ⟨n - 1, by omega⟩
  rw [h m]
  exact h1 m (by omega)
end
def iter {σ : Type} (g : Nat → σ → σ) : Nat → Nat → σ → σ
  | _, 0, s => s
  | i, d + 1, s => iter g (i + 1) d (g i s)
theorem loop_ev {σ ρ : Type} (F : Nat → σ → Nat → Option ρ) (n : Nat) (g : Nat → σ → σ) (fin : σ → ρ) (I : Nat → σ → Prop)
    (hs : ∀ i s r, I i s → i < n → Ev (fun k => F k (g i s) (i + 1)) r → Ev (fun k => F k s i) r) (hI : ∀ i s, I i s → i < n → I (i + 1) (g i s))
    (he : ∀ s, I n s → Ev (fun k => F k s n) (fin s)) : ∀ i s, i ≤ n → I i s → Ev (fun k => F k s i) (fin (iter g i (n - i) s)) := by
  have key : ∀ d i s, n - i = d → i ≤ n → I i s → Ev (fun k => F k s i) (fin (iter g i d s)) := by
    intro d
    induction d with
    | zero =>
      intro i s h0 h1 h2
      obtain rfl : i = n := by omega
      exact he s h2
    | succ d ih =>
      intro i s h0 h1 h2
      exact hs i s _ h2 (by omega) (ih (i + 1) (g i s) (by omega) (by omega) (hI i s h2 (by omega)))
  exact fun i s h1 h2 => key (n - i) i s rfl h1 h2
theorem iter_inv {σ : Type} (g : Nat → σ → σ) (I : Nat → σ → Prop) (n : Nat) (hI : ∀ i s, I i s → i < n → I (i + 1) (g i s)) : ∀ d i s, i + d = n → I i s → I n (iter g i d s) := by
  intro d
  induction d with
  | zero => intro i s h0 h1; obtain rfl : i = n := by omega
            exact h1
  | succ d ih => intro i s h0 h1; exact ih (i + 1) _ (by omega) (hI i s h1 (by omega))
def rall (p : Nat → Bool) : Nat → Nat → Bool
  | _, 0 => true
  | i, d + 1 => p i && rall p (i + 1) d
theorem rall_iff (p : Nat → Bool) : ∀ d i, rall p i d = true ↔ ∀ j, i ≤ j → j < i + d → p j = true
  | 0, i => ⟨fun _ j h1 h2 => by omega, fun _ => rfl⟩
  | d + 1, i => by
    show (p i && rall p (i + 1) d) = true ↔ _
    rw [Bool.and_eq_true, rall_iff p d (i + 1)]
    constructor
    · rintro ⟨h0, h1⟩ j h2 h3
      by_cases e : j = i
      · rw [e]; exact h0
      · exact h1 j (by omega) (by omega)
    · intro h
      exact ⟨h i (Nat.le_refl _) (by omega), fun j h2 h3 => h j (by omega) (by omega)⟩
theorem all_ev {ρ : Type} (F : Nat → Nat → Option ρ) (n : Nat) (p : Nat → Bool) (no yes : ρ) (hs : ∀ i r, i < n → p i = true → Ev (fun k => F k (i + 1)) r → Ev (fun k => F k i) r)
    (hn : ∀ i, i < n → p i = false → Ev (fun k => F k i) no) (he : Ev (fun k => F k n) yes) :
    ∀ i, i ≤ n → Ev (fun k => F k i) (if rall p i (n - i) = true then yes else no) := by
  have key : ∀ d i, n - i = d → i ≤ n → Ev (fun k => F k i) (if rall p i d = true then yes else no) := by
    intro d
    induction d with
    | zero =>
      intro i h0 h1
      obtain rfl : i = n := by omega
      rw [show rall p i 0 = true from rfl, if_pos rfl]
      exact he
    | succ d ih =>
      intro i h0 h1
      have h := ih (i + 1) (by omega) (by omega)
      have e : rall p i (d + 1) = (p i && rall p (i + 1) d) := rfl
      cases hp : p i with
      | true =>
        rw [e, hp, Bool.true_and]
        exact hs i _ (by omega) hp h
      | false =>
        rw [e, hp, Bool.false_and, if_neg (by simp)]
        exact hn i (by omega) hp
  exact fun i h1 => key (n - i) i rfl h1
theorem allb_ev (F : Nat → Nat → Option Bool) (n : Nat) (p : Nat → Bool) (hs : ∀ i r, i < n → p i = true → Ev (fun k => F k (i + 1)) r → Ev (fun k => F k i) r)
    (hn : ∀ i, i < n → p i = false → Ev (fun k => F k i) false) (he : Ev (fun k => F k n) true) : Ev (fun k => F k 0) (rall p 0 n) := by
  have h := all_ev F n p false true hs hn he 0 (Nat.zero_le _)
  rw [Nat.sub_zero] at h
  cases e : rall p 0 n <;> simpa [e] using h
theorem getD_eq_get {α : Type} {xs : List α} {i : Nat} (z : α) (h : i < xs.length) : xs.getD i z = xs[i] := by simp [List.getD, List.getElem?_eq_getElem h]
theorem eq_index {α : Type} {xs ys : List α} (z : α) (h : xs.length = ys.length) (hh : ∀ j, j < xs.length → xs.getD j z = ys.getD j z) : xs = ys := by
  refine List.ext_getElem h (fun i h1 h2 => ?_)
  rw [← getD_eq_get z h1, ← getD_eq_get z h2]
  exact hh i h1
theorem rall_eq {α : Type} [DecidableEq α] {xs ys : List α} (z : α) (h : xs.length = ys.length) : rall (fun j => decide (xs.getD j z = ys.getD j z)) 0 xs.length = decide (xs = ys) := by
  rw [Bool.eq_iff_iff, rall_iff, decide_eq_true_eq]
  constructor
  · exact fun hh => eq_index z h (fun j hj => by simpa using hh j (Nat.zero_le _) (by omega))
  · rintro rfl j _ _
    simp
theorem ev_ite {α : Type} {f g : Nat → Option α} {a b : α} {c : Bool} (h : c = true → Ev f a) (k : c = false → Ev g b) : Ev (fun n => if c = true then f n else g n) (if c = true then a else b) := by
  cases c with
  | true => exact h rfl
  | false => exact k rfl
end Go.Proofs.Ythekngnkajjhnaa.Pure
namespace Go.Proofs.Ythekngnkajjhnaa.Pure
set_option linter.unusedVariables false
set_option linter.unusedSimpArgs false
open Go.RowKit Go.Proofs.Ythekngnkajjhnaa.P Go.Proofs.YthekngnkajjhnaaW.PrintWords Go.Proofs.YthekngnkajjhnaaW.PrintLast
def inb (x a b : Int) : Bool := decide (a ≤ x) && decide (x ≤ b)
theorem inb_iff {x a b : Int} : inb x a b = true ↔ a ≤ x ∧ x ≤ b := by simp [inb]
theorem l1In_is (x a b : Int) : spec_l1In.f x a b = some (inb x a b) := by
  unfold spec_l1In.f inb
  split
  · rename_i h; simp [show a ≤ x from h]
  · rename_i h; simp [show ¬ a ≤ x from h]
theorem within_is (x a b : Int) : impl_within.f x a b = some (inb x a b) := l1In_is x a b
def tallyOk (c h : List Int) : Bool := decide (c.length = 11) && (decide (h.length = 11) && rall (fun i => inb (c.getD i 0) 0 1000 && inb (h.getD i 0) 0 (c.getD i 0)) 0 11)
theorem tallyOk_iff {c h : List Int} : tallyOk c h = true ↔ c.length = 11 ∧ h.length = 11 ∧ ∀ i, i < 11 → 0 ≤ c.getD i 0 ∧ c.getD i 0 ≤ 1000 ∧ 0 ≤ h.getD i 0 ∧ h.getD i 0 ≤ c.getD i 0 := by
  unfold tallyOk
  rw [Bool.and_eq_true, Bool.and_eq_true, rall_iff, decide_eq_true_eq, decide_eq_true_eq]
  constructor
  · rintro ⟨h1, h2, h3⟩
    refine ⟨h1, h2, fun i hi => ?_⟩
    have := h3 i (Nat.zero_le _) (by omega)
    rw [Bool.and_eq_true, inb_iff, inb_iff] at this
    omega
  · rintro ⟨h1, h2, h3⟩
    refine ⟨h1, h2, fun i _ hi => ?_⟩
    rw [Bool.and_eq_true, inb_iff, inb_iff]
    have := h3 i (by omega)
    omega
theorem l10Good_ev (c h : List Int) : Ev (fun k => spec_l10Good.f k c h) (tallyOk c h) := by
  by_cases h1 : c.length = 11
  · by_cases h2 : h.length = 11
    · have := allb_ev (fun k i => spec_l10Good.l0 k (i : Int) c h) 11 (fun i => inb (c.getD i 0) 0 1000 && inb (h.getD i 0) 0 (c.getD i 0))
        (fun i r hi hp hh => ev_step (fun k => by
          rw [Bool.and_eq_true] at hp
          simp only [spec_l10Good.l0, l1In_is, Option.bind_some, rd_nat]
          rw [if_pos (by omega), if_pos (by omega), if_pos hp.1, if_pos (by omega), if_pos hp.2, w64 (by omega) (by omega)]
          rfl) hh)
        (fun i hi hp => ev_step (f := fun _ => some false) (fun k => by
          simp only [spec_l10Good.l0, l1In_is, Option.bind_some, rd_nat]
          rw [if_pos (by omega), if_pos (by omega)]
          cases e : inb (c.getD i 0) 0 1000 with
          | false => simp
          | true =>
            rw [e, Bool.true_and] at hp
            simp only [hp, if_true]
            rw [if_pos (by omega)]
            simp) (ev_some _))
        (ev_step (f := fun _ => some true) (fun k => by
          simp only [spec_l10Good.l0]
          rw [if_neg (by omega)]) (ev_some _))
      have e : tallyOk c h = rall (fun i => inb (c.getD i 0) 0 1000 && inb (h.getD i 0) 0 (c.getD i 0)) 0 11 := by simp [tallyOk, h1, h2]
      rw [e]
      refine Ev.congr (f := fun k => spec_l10Good.j0 k false c h) (fun k => ?_) (ev_step (f := fun k => spec_l10Good.l0 k 0 c h) (fun k => by simp [spec_l10Good.j0]) this)
      unfold spec_l10Good.f
      rw [if_pos (by omega)]
      simp [h2]
    · have e : tallyOk c h = false := by simp [tallyOk, h2]
      rw [e]
      refine Ev.congr (f := fun k => spec_l10Good.j0 k true c h) (fun k => ?_) (ev_step (f := fun k => some false) (fun k => by simp [spec_l10Good.j0]) (ev_some _))
      unfold spec_l10Good.f
      rw [if_pos (by omega), show ((h.length : Int) != 11) = true by rw [bne_iff_ne]; omega]
  · have e : tallyOk c h = false := by simp [tallyOk, h1]
    rw [e]
    refine Ev.congr (f := fun k => spec_l10Good.j0 k true c h) (fun k => ?_) (ev_step (f := fun k => some false) (fun k => by simp [spec_l10Good.j0]) (ev_some _))
    unfold spec_l10Good.f
    rw [if_neg (by omega)]
theorem isValidTally_ev (c h : List Int) : Ev (fun k => impl_IsValidTally.f k c h) (tallyOk c h) := by
  by_cases h1 : c.length = 11
  · by_cases h2 : h.length = 11
    · have := allb_ev (fun k i => impl_IsValidTally.l0 k c (c.length : Int) (i : Int) c h) 11 (fun i => inb (c.getD i 0) 0 1000 && inb (h.getD i 0) 0 (c.getD i 0))
        (fun i r hi hp hh => ev_step (fun k => by
          rw [Bool.and_eq_true] at hp
          simp only [impl_IsValidTally.l0, within_is, Option.bind_some, rd_nat]
          rw [if_pos (by omega), if_pos (by omega), if_pos (by omega), if_pos hp.1, if_pos (by omega), if_pos hp.2, w64 (by omega) (by omega)]
          rfl) hh)
        (fun i hi hp => ev_step (f := fun _ => some false) (fun k => by
          simp only [impl_IsValidTally.l0, within_is, Option.bind_some, rd_nat]
          rw [if_pos (by omega), if_pos (by omega), if_pos (by omega)]
          cases e : inb (c.getD i 0) 0 1000 with
          | false => simp
          | true =>
            rw [e, Bool.true_and] at hp
            simp only [hp, if_true]
            rw [if_pos (by omega)]
            simp) (ev_some _))
        (ev_step (f := fun _ => some true) (fun k => by
          simp only [impl_IsValidTally.l0]
          rw [if_neg (by omega)]) (ev_some _))
      have e : tallyOk c h = rall (fun i => inb (c.getD i 0) 0 1000 && inb (h.getD i 0) 0 (c.getD i 0)) 0 11 := by simp [tallyOk, h1, h2]
      rw [e]
      refine Ev.congr (f := fun k => impl_IsValidTally.j0 k false c h) (fun k => ?_) (ev_step (f := fun k => impl_IsValidTally.l0 k c (c.length : Int) 0 c h) (fun k => by simp [impl_IsValidTally.j0]) this)
      unfold impl_IsValidTally.f
      rw [if_pos (by omega)]
      simp [h2]
    · have e : tallyOk c h = false := by simp [tallyOk, h2]
      rw [e]
      refine Ev.congr (f := fun k => impl_IsValidTally.j0 k true c h) (fun k => ?_) (ev_step (f := fun k => some false) (fun k => by simp [impl_IsValidTally.j0]) (ev_some _))
      unfold impl_IsValidTally.f
      rw [if_pos (by omega), show ((h.length : Int) != 11) = true by rw [bne_iff_ne]; omega]
  · have e : tallyOk c h = false := by simp [tallyOk, h1]
    rw [e]
    refine Ev.congr (f := fun k => impl_IsValidTally.j0 k true c h) (fun k => ?_) (ev_step (f := fun k => some false) (fun k => by simp [impl_IsValidTally.j0]) (ev_some _))
    unfold impl_IsValidTally.f
    rw [if_neg (by omega)]
theorem toIntS_ev (xs : List Int) (hm : xs.length ≤ 35184372088832) : Ev (fun k => laws_toIntS.f k xs) xs := by
  have h := loop_ev (fun k ys i => laws_toIntS.l0 k xs ys (i : Int)) xs.length (fun i ys => ys.set i (xs.getD i 0)) (fun ys => ys)
    (fun i ys => ys.length = xs.length ∧ ∀ j, j < i → ys.getD j 0 = xs.getD j 0)
    (fun i ys r hI hi h => ev_step (fun k => by
      show laws_toIntS.l0 (k + 1) xs ys (i : Int) = laws_toIntS.l0 k xs (ys.set i (xs.getD i 0)) ((i + 1 : Nat) : Int)
      have hl := hI.1
      simp only [laws_toIntS.l0]
      rw [if_pos (by omega), if_pos (by omega), if_pos (by omega), w64 (by omega) (by omega), rd_nat]
      simp) h)
    (fun i ys hI hi => ⟨by simp [hI.1], fun j hj => by
      by_cases e : j = i
      · subst e
        have := hI.1
        simp [List.getD, List.getElem?_set_self (show j < ys.length by omega)]
      · have := hI.2 j (by omega)
        rw [← this]
        simp [List.getD, List.getElem?_set_ne (Ne.symm e)]⟩)
    (fun ys hI => ev_step (f := fun _ => some ys) (fun k => by
      simp only [laws_toIntS.l0]
      rw [if_neg (by omega)]) (ev_some _)) 0 (List.replicate xs.length 0) (Nat.zero_le _) ⟨by simp, fun j hj => by omega⟩
  have e : iter (fun i (ys : List Int) => ys.set i (xs.getD i 0)) 0 (xs.length - 0) (List.replicate xs.length 0) = xs := by
    have hi := iter_inv (fun i (ys : List Int) => ys.set i (xs.getD i 0)) (fun i ys => ys.length = xs.length ∧ ∀ j, j < i → ys.getD j 0 = xs.getD j 0) xs.length
      (fun i ys hI hi => ⟨by simp [hI.1], fun j hj => by
        by_cases e : j = i
        · subst e
          have := hI.1
          simp [List.getD, List.getElem?_set_self (show j < ys.length by omega)]
        · have := hI.2 j (by omega)
          rw [← this]
          simp [List.getD, List.getElem?_set_ne (Ne.symm e)]⟩) (xs.length - 0) 0 (List.replicate xs.length 0) (by omega) ⟨by simp, fun j hj => by omega⟩
    exact eq_index 0 hi.1 (fun j hj => hi.2 j (by have := hi.1; omega))
  rw [e] at h
  refine Ev.congr (fun k => ?_) h
  unfold laws_toIntS.f
  rw [if_pos (by omega), if_pos (by omega)]
  simp
theorem eqIntS_ev (xs ys : List Int) (hm : xs.length ≤ 9223372036854775806) : Ev (fun k => laws_eqIntS.f k xs ys) (decide (xs = ys)) := by
  by_cases hl : xs.length = ys.length
  · have h := allb_ev (fun k i => laws_eqIntS.l0 k xs ys (i : Int)) xs.length (fun i => decide (xs.getD i 0 = ys.getD i 0))
      (fun i r hi hp h => ev_step (fun k => by
        simp only [laws_eqIntS.l0]
        rw [if_pos (by omega), if_pos (by omega), if_pos (by omega), rd_nat, rd_nat, if_pos (by simpa using hp), w64 (by omega) (by omega)]
        rfl) h)
      (fun i hi hp => ev_step (f := fun _ => some false) (fun k => by
        simp only [laws_eqIntS.l0]
        rw [if_pos (by omega), if_pos (by omega), if_pos (by omega), rd_nat, rd_nat, if_neg (by simpa using hp)]) (ev_some _))
      (ev_step (f := fun _ => some true) (fun k => by
        simp only [laws_eqIntS.l0]
        rw [if_neg (by omega)]) (ev_some _))
    rw [rall_eq 0 hl] at h
    refine Ev.congr (fun k => ?_) h
    unfold laws_eqIntS.f
    rw [if_pos (by omega)]
    rfl
  · refine Ev.congr (f := fun _ => some false) (fun k => ?_) (by rw [decide_eq_false (fun e => hl (by rw [e]))]; exact ev_some _)
    unfold laws_eqIntS.f
    rw [if_neg (by omega)]
theorem toTally_ev (c h : List Int) (hc : c.length ≤ 35184372088832) (hh : h.length ≤ 35184372088832) : Ev (fun k => laws_toTally.f k c h) (c, h) :=
  ev_bind (toIntS_ev c hc) (ev_bind (toIntS_ev h hh) (ev_some _))
theorem eqTally_ev (c h c' h' : List Int) (hc : c.length ≤ 9223372036854775806) (hh : h.length ≤ 9223372036854775806) : Ev (fun k => laws_eqTally.f k c h c' h') (decide (c = c') && decide (h = h')) := by
  unfold laws_eqTally.f
  refine ev_bind (eqIntS_ev c c' hc) ?_
  by_cases e : c = c'
  · rw [decide_eq_true e, Bool.true_and]
    refine ev_ifp rfl (ev_bind (eqIntS_ev h h' hh) ?_)
    by_cases e' : h = h'
    · rw [decide_eq_true e']; exact ev_ifp rfl (ev_some _)
    · rw [decide_eq_false e']; exact ev_ifn (by simp) (ev_some _)
  · rw [decide_eq_false e, Bool.false_and]
    exact ev_ifn (by simp) (ev_some _)
theorem eqTally_self (c h : List Int) (hc : c.length ≤ 9223372036854775806) (hh : h.length ≤ 9223372036854775806) : Ev (fun k => laws_eqTally.f k c h c h) true := by
  have := eqTally_ev c h c h hc hh
  simpa using this
theorem szIntS_is (l : List Int) (a : Int) (ha : 0 ≤ a) (ha2 : a ≤ 1048576) (hl : l.length ≤ 9223372036854775807) : laws_szIntS.f l a = some (if a < l.length then -1 else a - l.length) := by
  unfold laws_szIntS.f
  rw [w64 (by omega) (by omega)]
  split
  · rw [if_pos (by omega)]
  · rw [if_neg (by omega)]
end Go.Proofs.Ythekngnkajjhnaa.Pure
namespace Go.Proofs.Ythekngnkajjhnaa.P
open Go.RowKit Go.Proofs.YthekngnkajjhnaaW.PrintWords Go.Proofs.YthekngnkajjhnaaW.PrintLast Go.Proofs.YthekngnkajjhnaaW.PrintMore
attribute [local go_sem] max2_int min2_int max_two min_two max_three min_three max_four min_four
set_option linter.unusedVariables false
set_option linter.unusedSimpArgs false
set_option linter.unusedSimpArgs false
set_option linter.unusedSimpArgs false
end Go.Proofs.Ythekngnkajjhnaa.P
namespace Go.Proofs.Ythekngnkajjhnaa.Pure
set_option linter.unusedVariables false
set_option linter.unusedSimpArgs false
open Go.RowKit Go.Proofs.Ythekngnkajjhnaa.P Go.Proofs.YthekngnkajjhnaaW.PrintWords Go.Proofs.YthekngnkajjhnaaW.PrintLast
theorem l1Own_is (l : List Int) (h : l.length < 17592186044416) : spec_l1Own.f l = some l := by
  unfold spec_l1Own.f
  simp [h]
theorem clone_is (l : List Int) (h : l.length < 17592186044416) : slices_Clone_int_int.f l = some l := by
  unfold slices_Clone_int_int.f
  rw [if_pos h]
theorem l10Own_is (c h : List Int) (hc : c.length < 17592186044416) (hh : h.length < 17592186044416) : spec_l10Own.f c h = some (c, h) := by
  unfold spec_l10Own.f
  rw [l1Own_is c hc, Option.bind_some, l1Own_is h hh, Option.bind_some]
theorem cloneTally_is (c h : List Int) (hc : c.length < 17592186044416) (hh : h.length < 17592186044416) : impl_cloneTally.f c h = some (c, h) := by
  unfold impl_cloneTally.f
  rw [clone_is c hc, Option.bind_some, clone_is h hh, Option.bind_some]
def checked (c h : List Int) : List Int × List Int × Bool := if tallyOk c h = true then (c, h, true) else ([], [], false)
theorem checkedTally_ev (c h : List Int) : Ev (fun k => impl_checkedTally.f k c h) (checked c h) :=
  ev_bind (isValidTally_ev c h) (ev_ite (fun _ => ev_some _) (fun _ => ev_some _))
theorem checked_len (c h : List Int) (n : Nat) (hc : c.length ≤ n) (hh : h.length ≤ n) : (checked c h).1.length ≤ n ∧ (checked c h).2.1.length ≤ n := by
  unfold checked
  split <;> simp [hc, hh]
def addStep (d g : List Int) (i : Nat) (s : List Int × List Int) : List Int × List Int :=
  (s.1.set i (wrap64 (rd s.1 (i : Int) + rd d (i : Int))), s.2.set i (wrap64 (rd s.2 (i : Int) + rd g (i : Int))))
def addTallies (c h d g : List Int) : List Int × List Int × Bool :=
  if tallyOk c h = true then (if tallyOk d g = true then checked (iter (addStep d g) 0 11 (c, h)).1 (iter (addStep d g) 0 11 (c, h)).2 else ([], [], false)) else ([], [], false)
theorem addTallies_len (c h d g : List Int) (n : Nat) (hc : c.length ≤ n) (hh : h.length ≤ n) : (addTallies c h d g).1.length ≤ n ∧ (addTallies c h d g).2.1.length ≤ n := by
  unfold addTallies
  have key : (iter (addStep d g) 0 11 (c, h)).1.length = c.length ∧ (iter (addStep d g) 0 11 (c, h)).2.length = h.length :=
    iter_inv (addStep d g) (fun _ s => s.1.length = c.length ∧ s.2.length = h.length) 11 (fun i s hI _ => by simp [addStep, hI.1, hI.2]) 11 0 (c, h) rfl ⟨rfl, rfl⟩
  split
  · split
    · exact checked_len _ _ n (by omega) (by omega)
    · simp
  · simp
theorem addTallies_impl (c h d g : List Int) : Ev (fun k => impl_AddTallies.f k c h d g) (addTallies c h d g) := by
  have no : Ev (fun k => impl_AddTallies.j0 k true c h d g) ([], [], false) := ev_step (fun k => impl_AddTallies.j0.eq_2 _ _ _ _ _ k) (ev_ifp rfl (ev_some _))
  unfold impl_AddTallies.f addTallies
  refine ev_bind (isValidTally_ev c h) (ev_ite (fun ok => ?_) (fun _ => no))
  refine ev_bind (isValidTally_ev d g) ?_
  cases e : tallyOk d g with
  | false => exact no
  | true =>
    rw [if_pos rfl]
    obtain ⟨hc, hh, _⟩ := tallyOk_iff.1 ok
    obtain ⟨hd, hg, _⟩ := tallyOk_iff.1 e
    refine ev_step (fun k => impl_AddTallies.j0.eq_2 _ _ _ _ _ k) (ev_ifn (by simp) ?_)
    refine ev_bind (ev_const (cloneTally_is c h (by omega) (by omega))) ?_
    exact loop_ev (fun k s i => impl_AddTallies.l0 k (c.length : Int) (i : Int) d g s.1 s.2) 11 (addStep d g) (fun s => checked s.1 s.2) (fun _ s => s.1.length = 11 ∧ s.2.length = 11)
      (fun i s r hI hi hh => ev_step (fun k => by
        have h1 := hI.1; have h2 := hI.2
        simp only [impl_AddTallies.l0]
        rw [if_pos (by omega), if_pos (by omega), if_pos (by omega), if_pos (by omega), if_pos (by omega), if_pos (by omega), w64 (by omega) (by omega)]
        rfl) hh)
      (fun i s hI hi => by simp [addStep, hI.1, hI.2])
      (fun s hI => ev_step (f := fun k => (impl_checkedTally.f k s.1 s.2).bind fun bt119 => (some (bt119.1, bt119.2.1, bt119.2.2))) (fun k => by
        simp only [impl_AddTallies.l0]
        rw [if_neg (by omega)]) (ev_bind (checkedTally_ev _ _) (ev_some _))) 0 (c, h) (by omega) ⟨hc, hh⟩
theorem addTallies_spec (c h d g : List Int) : Ev (fun k => spec_AddTallies.f k c h d g) (addTallies c h d g) := by
  have no : Ev (fun k => spec_AddTallies.j0 k true c h d g) ([], [], false) := ev_step (fun k => spec_AddTallies.j0.eq_2 _ _ _ _ _ k) (ev_ifp rfl (ev_some _))
  unfold spec_AddTallies.f addTallies
  refine ev_bind (l10Good_ev c h) (ev_ite (fun ok => ?_) (fun _ => no))
  refine ev_bind (l10Good_ev d g) ?_
  cases e : tallyOk d g with
  | false => exact no
  | true =>
    rw [if_pos rfl]
    obtain ⟨hc, hh, _⟩ := tallyOk_iff.1 ok
    obtain ⟨hd, hg, _⟩ := tallyOk_iff.1 e
    refine ev_step (fun k => spec_AddTallies.j0.eq_2 _ _ _ _ _ k) (ev_ifn (by simp) ?_)
    refine ev_bind (ev_const (l10Own_is c h (by omega) (by omega))) ?_
    exact loop_ev (fun k s i => spec_AddTallies.l0 k (i : Int) d g s.1 s.2) 11 (addStep d g) (fun s => checked s.1 s.2) (fun _ s => s.1.length = 11 ∧ s.2.length = 11)
      (fun i s r hI hi hh => ev_step (fun k => by
        have h1 := hI.1; have h2 := hI.2
        simp only [spec_AddTallies.l0]
        rw [if_pos (by omega), if_pos (by omega), if_pos (by omega), if_pos (by omega), if_pos (by omega), w64 (by omega) (by omega)]
        rfl) hh)
      (fun i s hI hi => by simp [addStep, hI.1, hI.2])
      (fun s hI => ev_step (f := fun k => (spec_l10Good.f k s.1 s.2).bind fun t119 => (if t119 = true then (some (s.1, s.2, true)) else (some ([], [], false)))) (fun k => by
        have h1 := hI.1; have h2 := hI.2
        simp only [spec_AddTallies.l0]
        rw [if_neg (by omega)]) (ev_bind (l10Good_ev _ _) (ev_ite (fun _ => ev_some _) (fun _ => ev_some _)))) 0 (c, h) (by omega) ⟨hc, hh⟩
theorem addTallies_both (c h d g : List Int) (n : Nat) (hc : c.length ≤ n) (hh : h.length ≤ n) :
    ∃ r, Ev (fun k => spec_AddTallies.f k c h d g) r ∧ Ev (fun k => impl_AddTallies.f k c h d g) r ∧ r.1.length ≤ n ∧ r.2.1.length ≤ n :=
  ⟨_, addTallies_spec c h d g, addTallies_impl c h d g, addTallies_len c h d g n hc hh⟩
def cnt (a : Int) (n : Nat) : List Int := (List.range n).map (fun i : Nat => a + (i : Int))
theorem cnt_length (a : Int) (n : Nat) : (cnt a n).length = n := by simp [cnt]
theorem cnt_getD (a : Int) (n i : Nat) (h : i < n) : (cnt a n).getD i 0 = a + i := by simp [cnt, List.getD, h]
theorem markIntS_ev (l : List Int) (a : Int) (h0 : 0 ≤ a) (h1 : a + l.length ≤ 9223372036854775806) : Ev (fun k => laws_markIntS.f k l a) (a + l.length, cnt a l.length) := by
  have h := loop_ev (fun k s i => laws_markIntS.l0 k s (a + (i : Int)) (i : Int)) l.length (fun i s => s.set i (a + i)) (fun s => (a + (l.length : Int), s))
    (fun i s => s.length = l.length ∧ ∀ j, j < i → s.getD j 0 = a + j)
    (fun i s r hI hi h => ev_step (fun k => by
      show laws_markIntS.l0 (k + 1) s (a + (i : Int)) (i : Int) = laws_markIntS.l0 k (s.set i (a + i)) (a + ((i + 1 : Nat) : Int)) ((i + 1 : Nat) : Int)
      have := hI.1
      simp only [laws_markIntS.l0]
      rw [if_pos (by omega), if_pos (by omega), w64 (by omega) (by omega), w64 (by omega) (by omega)]
      simp [Int.add_assoc]) h)
    (fun i s hI hi => ⟨by simp [hI.1], fun j hj => by
      by_cases e : j = i
      · subst e
        have := hI.1
        simp [List.getD, List.getElem?_set_self (show j < s.length by omega)]
      · have := hI.2 j (by omega)
        rw [← this]
        simp [List.getD, List.getElem?_set_ne (Ne.symm e)]⟩)
    (fun s hI => ev_step (f := fun _ => some (a + (l.length : Int), s)) (fun k => by
      have := hI.1
      simp only [laws_markIntS.l0]
      rw [if_neg (by omega)]) (ev_some _)) 0 l (Nat.zero_le _) ⟨rfl, fun j hj => by omega⟩
  have e : iter (fun i (s : List Int) => s.set i (a + i)) 0 (l.length - 0) l = cnt a l.length := by
    have hi := iter_inv (fun i (s : List Int) => s.set i (a + i)) (fun i s => s.length = l.length ∧ ∀ j, j < i → s.getD j 0 = a + j) l.length
      (fun i s hI hi => ⟨by simp [hI.1], fun j hj => by
        by_cases e : j = i
        · subst e
          have := hI.1
          simp [List.getD, List.getElem?_set_self (show j < s.length by omega)]
        · have := hI.2 j (by omega)
          rw [← this]
          simp [List.getD, List.getElem?_set_ne (Ne.symm e)]⟩) (l.length - 0) 0 l (by omega) ⟨rfl, fun j hj => by omega⟩
    exact eq_index 0 (by rw [hi.1, cnt_length]) (fun j hj => by rw [hi.2 j (by have := hi.1; omega), cnt_getD a _ j (by have := hi.1; omega)])
  rw [e] at h
  refine Ev.congr (fun k => ?_) h
  unfold laws_markIntS.f
  simp
theorem heldIntS_ev (a : Int) (n : Nat) (h0 : 0 ≤ a) (h1 : a + n ≤ 9223372036854775806) : Ev (fun k => laws_heldIntS.f k (cnt a n) a) (a + n) := by
  have h := loop_ev (σ := Unit) (fun k _ i => laws_heldIntS.l0 k (cnt a n) (a + (i : Int)) (i : Int)) n (fun _ _ => ()) (fun _ => a + (n : Int)) (fun _ _ => True)
    (fun i s r _ hi h => ev_step (fun k => by
      show laws_heldIntS.l0 (k + 1) (cnt a n) (a + (i : Int)) (i : Int) = laws_heldIntS.l0 k (cnt a n) (a + ((i + 1 : Nat) : Int)) ((i + 1 : Nat) : Int)
      simp only [laws_heldIntS.l0, cnt_length, rd_nat, cnt_getD a n i hi]
      rw [if_pos (by omega), if_pos (by omega), if_pos trivial, w64 (by omega) (by omega), w64 (by omega) (by omega)]
      simp [Int.add_assoc]) h)
    (fun _ _ _ _ => trivial)
    (fun _ _ => ev_step (f := fun _ => some (a + (n : Int))) (fun k => by
      simp only [laws_heldIntS.l0, cnt_length]
      rw [if_neg (by omega)]) (ev_some _)) 0 () (Nat.zero_le _) trivial
  refine Ev.congr (fun k => ?_) h
  unfold laws_heldIntS.f
  simp
theorem markTally_ev (c h : List Int) (a : Int) (h0 : 0 ≤ a) (h1 : a + c.length + h.length ≤ 9223372036854775806) : Ev (fun k => laws_markTally.f k c h a) (a + c.length + h.length, cnt a c.length, cnt (a + c.length) h.length) :=
  ev_bind (markIntS_ev c a h0 (by omega)) (ev_bind (markIntS_ev h (a + c.length) (by omega) (by omega)) (ev_some _))
theorem szTally_go (c h : List Int) (s : Int) (hs : 0 ≤ s) (hs2 : s ≤ 1048576) (hl : c.length ≤ 9223372036854775807 ∧ h.length ≤ 9223372036854775807) :
    (∃ r, laws_szTally.f c h s = some r ∧ r < 0) ∨ ∃ r, laws_szTally.f c h s = some r ∧ ¬ r < 0 ∧ 0 ≤ r ∧ r ≤ s ∧ (c.length : Int) + h.length ≤ s := by
  unfold laws_szTally.f
  rw [szIntS_is c _ hs hs2 hl.1]
  by_cases h1 : s < c.length
  · rw [if_pos h1]
    exact .inl ⟨-1, by simp, by omega⟩
  · rw [if_neg h1, Option.bind_some, if_neg (by omega), szIntS_is h _ (by omega) (by omega) hl.2]
    by_cases h2 : s - c.length < h.length
    · rw [if_pos h2]
      exact .inl ⟨-1, by simp, by omega⟩
    · rw [if_neg h2, Option.bind_some, if_neg (by omega)]
      exact .inr ⟨_, rfl, by omega, by omega, by omega, by omega⟩
theorem heldTally_ev (n m : Nat) (a : Int) (h0 : 0 ≤ a) (h1 : a + n + m ≤ 9223372036854775806) : Ev (fun k => laws_heldTally.f k (cnt a n) (cnt (a + n) m) a) (a + n + m) :=
  ev_bind (heldIntS_ev a n h0 (by omega)) (ev_ifn (by omega) (ev_bind (heldIntS_ev (a + n) m (by omega) (by omega)) (ev_ifn (by omega) (ev_some _))))
theorem FnExactAddTallies : laws_FnExactAddTallies.Pure := by
  intro c h d g hl hm hl2 hm2
  refine Ev.rounds ?_
  unfold laws_FnExactAddTallies.f
  rcases szTally_go c h 1048576 (by first | omega | (dsimp only; omega) | (simp; omega)) (by first | omega | (dsimp only; omega) | (simp; omega)) (⟨hl.1, hm.1⟩) with ⟨rz1, ez1, hz1⟩ | ⟨rz1, ez1, hz1, hza1, hzb1, hlz1⟩
  · exact ev_bind (ev_const ez1) (ev_ifp hz1 (ev_some _))
  refine ev_bind (ev_const ez1) ?_
  refine ev_ifn hz1 ?_
  rcases szTally_go d g rz1 (by first | omega | (dsimp only; omega) | (simp; omega)) (by first | omega | (dsimp only; omega) | (simp; omega)) (⟨hl2.1, hm2.1⟩) with ⟨rz2, ez2, hz2⟩ | ⟨rz2, ez2, hz2, hza2, hzb2, hlz2⟩
  · exact ev_bind (ev_const ez2) (ev_ifp hz2 (ev_some _))
  refine ev_bind (ev_const ez2) ?_
  refine ev_ifn hz2 ?_
  obtain ⟨⟨rc, rh, g9⟩, hs, hi, hlen1, hlen2⟩ := addTallies_both c h d g 1048576 (by omega) (by omega); simp only at hlen1 hlen2
  refine ev_bind (toTally_ev _ _ (by first | omega | (dsimp only; omega) | (simp; omega)) (by first | omega | (dsimp only; omega) | (simp; omega))) ?_
  refine ev_bind (toTally_ev _ _ (by first | omega | (dsimp only; omega) | (simp; omega)) (by first | omega | (dsimp only; omega) | (simp; omega))) ?_
  refine ev_bind hs ?_
  refine ev_bind (toTally_ev _ _ (by first | omega | (dsimp only; omega) | (simp; omega)) (by first | omega | (dsimp only; omega) | (simp; omega))) ?_
  refine ev_bind (toTally_ev _ _ (by first | omega | (dsimp only; omega) | (simp; omega)) (by first | omega | (dsimp only; omega) | (simp; omega))) ?_
  refine ev_bind hi ?_
  refine ev_bind (eqTally_self _ _ (by first | omega | (dsimp only; omega) | (simp; omega)) (by first | omega | (dsimp only; omega) | (simp; omega))) ?_
  refine ev_ifp rfl ?_
  refine ev_step (fun k => laws_FnExactAddTallies.j0.eq_2 _ _ _ _ _ _ _ _ _ _ _ _ _ _ _ k) ?_
  refine ev_ifn (by simp) ?_
  refine ev_bind (toTally_ev _ _ (by first | omega | (dsimp only; omega) | (simp; omega)) (by first | omega | (dsimp only; omega) | (simp; omega))) ?_
  refine ev_bind (eqTally_self _ _ (by first | omega | (dsimp only; omega) | (simp; omega)) (by first | omega | (dsimp only; omega) | (simp; omega))) ?_
  refine ev_ifp rfl ?_
  refine ev_bind (toTally_ev _ _ (by first | omega | (dsimp only; omega) | (simp; omega)) (by first | omega | (dsimp only; omega) | (simp; omega))) ?_
  refine ev_bind (eqTally_self _ _ (by first | omega | (dsimp only; omega) | (simp; omega)) (by first | omega | (dsimp only; omega) | (simp; omega))) ?_
  refine ev_ifp rfl ?_
  refine ev_bind (markTally_ev _ _ _ (by first | omega | (dsimp only; omega) | (simp; omega)) (by first | omega | (dsimp only; omega) | (simp; omega))) ?_
  refine ev_bind (markTally_ev _ _ _ (by first | omega | (dsimp only; omega) | (simp; omega)) (by first | omega | (dsimp only; omega) | (simp; omega))) ?_
  refine ev_ifn (by first | (simp; done) | (simp; omega) | omega) ?_
  refine ev_bind (eqTally_self _ _ (by first | omega | (dsimp only; omega) | (simp; omega)) (by first | omega | (dsimp only; omega) | (simp; omega))) ?_
  refine ev_ifp rfl ?_
  refine ev_step (fun k => laws_FnExactAddTallies.j1.eq_2 _ _ _ _ _ _ _ _ _ _ k) ?_
  refine ev_ifn (by simp) ?_
  refine ev_bind (markTally_ev _ _ _ (by first | omega | (dsimp only; omega) | (simp; omega)) (by first | omega | (dsimp only; omega) | (simp; omega))) ?_
  refine ev_bind (heldTally_ev _ _ _ (by first | omega | (dsimp only; omega) | (simp; omega)) (by first | omega | (dsimp only; omega) | (simp; omega))) ?_
  refine ev_ifn (by first | (simp; done) | (simp; omega) | omega) ?_
  refine ev_ifp (by first | rfl | (simp; done)) ?_
  refine ev_bind (toTally_ev _ _ (by first | omega | (dsimp only; omega) | (simp; omega)) (by first | omega | (dsimp only; omega) | (simp; omega))) ?_
  refine ev_bind (toTally_ev _ _ (by first | omega | (dsimp only; omega) | (simp; omega)) (by first | omega | (dsimp only; omega) | (simp; omega))) ?_
  refine ev_bind hi ?_
  refine ev_bind (eqTally_self _ _ (by first | omega | (dsimp only; omega) | (simp; omega)) (by first | omega | (dsimp only; omega) | (simp; omega))) ?_
  refine ev_ifp rfl ?_
  refine ev_step (fun k => laws_FnExactAddTallies.j2.eq_2 _ _ _ _ k) ?_
  refine ev_ifn (by simp) ?_
  refine ev_bind (heldTally_ev _ _ _ (by first | omega | (dsimp only; omega) | (simp; omega)) (by first | omega | (dsimp only; omega) | (simp; omega))) ?_
  refine ev_ifn (by first | (simp; done) | (simp; omega) | omega) ?_
  refine ev_ifp (by first | rfl | (simp; done)) ?_
  exact ev_some _
end Go.Proofs.Ythekngnkajjhnaa.Pure
namespace Go.Proofs.Ythekngnkajjhnaa.fnExactAddTallies
open Go.ChangeShapes Go.WideShapes Go.ChangeAt Go.RowKit Go.Proofs.Ythekngnkajjhnaa.Open Go.Proofs.Ythekngnkajjhnaa.P Go.Proofs.YthekngnkajjhnaaW.PrintWords
open Go.ChangeMaps (open_string shut_string)
set_option linter.unusedVariables false
theorem own : ownKnob Try.prog.godebug = none := by kernel_rfl
theorem laidOut : laidOutB Try.prog = true := by kernel_rfl
set_option maxRecDepth 100000 in
theorem lifted (os : Os) (started : os.Started) (H : Type) (enc : TypeId × Value → H) :
    ReturnsInHanded {} Try.checked os 5 .any (Rows.fnExactAddTalliesSpec.pre6 enc Try.prog Try.f5 Rows.fnExactAddTalliesRow.domain false) (Rows.fnExactAddTalliesSpec.post enc Try.prog Try.f5 false true false false) := by
  refine returnsInHanded_of_change_sized (C := Try.checked) own started (by kernel_rfl) Try.func5
    (ChangeSpec.witness6 (enc := enc) (C := Try.checked) false ⟨#[], #[.agg #[.slice none 0 0, .slice none 0 0], .agg #[.slice none 0 0, .slice none 0 0]], []⟩ 8 (by kernel_rfl) (by kernel_rfl) (by kernel_rfl) (by kernel_rfl)) ?_
  intro W base args ds gs before hval0 hW hcnd hsz0 _
  have hsz : (DataW.weightsEach Try.prog (Try.f5.params.toList ++ Rows.fnExactAddTalliesSpec.plain.varTypes Try.prog) (ds ++ gs)).all (· ≤ reachBytes) = true := hsz0
  have hval : ∀ (j : Nat) t v, Try.f5.params[j]? = some t → args[j]? = some v → Value.okWide Try.prog W .any base t v := hval0
  have hW' := hW
  obtain ⟨p, q, hA0, hV, rfl, hfz, hnd⟩ := hW
  have hA : DataW.TrodAll enc Try.prog W 0 (fun _ => true) true Try.f5.params.toList args.toList ds p := hA0
  rw [Try.params5] at hA hval hsz
  obtain ⟨v0, vs0, d0, ds0, p0, q0, hargs, rfl, rfl, h0, r0⟩ := trodAll_cons hA
  obtain ⟨v1, vs1, d1, ds1, p1, q1, rfl, rfl, rfl, h1, r1⟩ := trodAll_cons r0
  obtain ⟨rfl, rfl, rfl⟩ := trodAll_nil r1
  obtain rfl : args = #[v0, v1] := by cases args; simp_all
  obtain ⟨rfl, rfl⟩ := trodVars_none hV
  have k0 := h0
  have lt0 : ∀ x ∈ p0, x.block < W.heap.size := by obtain ⟨m, hm⟩ := k0; exact DataW.trod_lt m _ _ _ hm
  obtain ⟨u0_0, u0_1, b0_0, b0_1, rfl, K0_0, w0_0, K0_1, w0_1⟩ := agg2_at Try.underlying42 (by kernel_rfl) (by kernel_rfl) (opens_slice Try.underlying24 (by kernel_rfl) (opens_int Try.underlying3)) (opens_slice Try.underlying24 (by kernel_rfl) (opens_int Try.underlying3)) (hval 0 42 v0 rfl rfl) h0
  obtain ⟨A0_0, c0_0, rfl, hc0_0, hr0_0⟩ := slice_cell K0_0
  obtain ⟨A0_1, c0_1, rfl, hc0_1, hr0_1⟩ := slice_cell K0_1
  have k1 := h1
  have lt1 : ∀ x ∈ p1, x.block < W.heap.size := by obtain ⟨m, hm⟩ := k1; exact DataW.trod_lt m _ _ _ hm
  obtain ⟨u1_0, u1_1, b1_0, b1_1, rfl, K1_0, w1_0, K1_1, w1_1⟩ := agg2_at Try.underlying42 (by kernel_rfl) (by kernel_rfl) (opens_slice Try.underlying24 (by kernel_rfl) (opens_int Try.underlying3)) (opens_slice Try.underlying24 (by kernel_rfl) (opens_int Try.underlying3)) (hval 1 42 v1 rfl rfl) h1
  obtain ⟨A1_0, c1_0, rfl, hc1_0, hr1_0⟩ := slice_cell K1_0
  obtain ⟨A1_1, c1_1, rfl, hc1_1, hr1_1⟩ := slice_cell K1_1
  clear hA0 hval0 hsz0 hsz
  obtain ⟨k, hp⟩ := Pure.FnExactAddTallies b0_0 b0_1 b1_0 b1_1 w0_0 w0_1 w1_0 w1_1
  refine (laws_FnExactAddTallies.calls k A0_0 c0_0 b0_0 A0_1 c0_1 b0_1 A1_0 c1_0 b1_0 A1_1 c1_1 b1_1 true W hr0_0 hc0_0 hr0_1 hc0_1 hr1_0 hc1_0 hr1_1 hc1_1 hp).mono fun e W' ⟨he, bel0⟩ => ?_
  have bel : Below W.heap.size W W' := bel0
  subst he
  exact ⟨_, rfl, _, _, _, [], _, [], hW', trodAll_mk1 (shut_bool Try.underlying4 _), (trodAll_cons_mk (Below.trod laidOut (by kernel_rfl) (of_decide_eq_true (by kernel_rfl)) k0 bel lt0) (trodAll_cons_mk (Below.trod laidOut (by kernel_rfl) (of_decide_eq_true (by kernel_rfl)) k1 bel lt1) trodAll_mk0)), rfl, bel.frame _, fun h => by cases h⟩
set_option maxHeartbeats 4000000 in
set_option maxRecDepth 100000 in
theorem closed : joinedFacts Try.prog 5 Try.f5 Rows.fnExactAddTalliesSpec Rows.fnExactAddTalliesRow = true := by
  unfold joinedFacts
  repeat' (with_reducible refine Bool.and_eq_true_iff.2 ⟨?_, ?_⟩)
  all_goals (as_aux_lemma => kernel_rfl)
theorem over : Rows.fnExactAddTalliesRow.holds Try.pinned (OpenSpec.ofChange Rows.fnExactAddTalliesSpec) :=
  OpenClaim.holds_of_wide 5 Try.f5 rfl rfl rfl rfl rfl rfl rfl ⟨rfl, rfl, rfl, rfl, rfl⟩ rfl rfl rfl rfl rfl (by kernel_rfl) Try.func5 closed
    (of_decide_eq_true (by kernel_rfl)) (by unfold Func.isWrapper; first | (rw [if_pos (by decide +kernel)]; kernel_rfl) | (rw [if_neg (by decide +kernel)]; exact ⟨rfl, rfl⟩))
    (fun os started H enc _ => lifted os started H enc)
theorem proved : Rows.FnExactAddTalliesSaid := over
#print axioms proved
end Go.Proofs.Ythekngnkajjhnaa.fnExactAddTallies
namespace Go.Proofs.Ythekngnkajjhnaa
theorem fnExactAddTallies_holds : Rows.FnExactAddTalliesSaid := fnExactAddTallies.proved
end Go.Proofs.Ythekngnkajjhnaa
